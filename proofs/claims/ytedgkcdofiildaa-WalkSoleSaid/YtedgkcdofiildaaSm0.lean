import Derived.WalkKit
import Derived.Below
import Derived.Orders
import Derived.Laws.OwnMore
import Derived.OrdersIn
import Derived.TacticsIn
import Derived.Laws.StructEq
import Derived.Maps.AppendAt
import Derived.Laws.MakeOwn
import Derived.Great.BuildSlice
/- What a frame knows of its temporaries, boxes and maps, as one list; what is pushed upon it hides what it overwrites. -/
set_option linter.unusedVariables false
set_option linter.unusedSimpArgs false
namespace Go.Proofs.Ytedgkcdofiildaa.Sl
open Go Go.RowKit
abbrev Blk := Nat → Prop
/-- the blocks of an optional one -/
abbrev bk (o : Option Nat) : Blk := fun b => o = some b
@[simp] theorem bk_none_at (b : Nat) : bk none b ↔ False := ⟨fun h => (by cases h), fun h => h.elim⟩
@[simp] theorem bk_some_at (x b : Nat) : bk (some x) b ↔ x = b := ⟨fun h => (by cases h; rfl), fun h => by rw [h]⟩
theorem bk_at {ob : Blk} {b : Nat} (h : ob = bk (some b)) : ob b := by rw [h]
def Agree (S : Blk) (w w' : World) : Prop := ∀ b, S b → w'.heap[b]? = w.heap[b]?
theorem Agree.refl (S : Blk) (w : World) : Agree S w w := fun _ _ => rfl
/-- What is known of a value; ob: the block that it alone may write. -/
structure VA where
  ids : List Nat
  sem : (Nat → Nat) → Blk → Blk → World → Value → Prop
  move : ∀ {θ θ' : Nat → Nat} {S S' : Blk} {ob : Blk} {w w' : World} {v : Value}, sem θ S ob w v → Agree S w w' → (∀ b, S b → S' b) → (∀ b, ob b → w'.heap[b]? = w.heap[b]?) → (∀ k, k ∈ ids → θ' k = θ k) → sem θ' S' ob w' v
structure Ent where
  key : Nat
  slots : List Nat
  ids : List Nat
  sem : (Nat → Nat) → Blk → Blk → Act → World → Prop
  move : ∀ {θ θ' : Nat → Nat} {S S' : Blk} {ob : Blk} {a a' : Act} {w w' : World}, sem θ S ob a w → Agree S w w' → (∀ b, S b → S' b) → (∀ b, ob b → w'.heap[b]? = w.heap[b]?) → (∀ t, t ∈ slots → a'.tmps.getD t undef = a.tmps.getD t undef) → (∀ k, k ∈ ids → θ' k = θ k) → sem θ' S' ob a' w'
def Ent.deps (e : Ent) : List Nat := e.key :: (e.slots ++ e.ids.map (1000000 + ·))
def dead (ks : List Nat) (e : Ent) : Bool := e.deps.any fun k => ks.elem k
theorem dead_mono {ks ks' : List Nat} {e : Ent} (h : ∀ k, k ∈ ks → k ∈ ks') (hd : dead ks e = true) : dead ks' e = true := by
  unfold dead at *
  obtain ⟨k, hk, hks⟩ := List.any_eq_true.1 hd
  exact List.any_eq_true.2 ⟨k, hk, by simpa using h k (by simpa using hks)⟩
theorem dead_key {ks : List Nat} {e : Ent} (h : e.key ∈ ks) : dead ks e = true := by
  unfold dead
  exact List.any_eq_true.2 ⟨e.key, by simp [Ent.deps], by simpa using h⟩
theorem live_spec {ks : List Nat} {e : Ent} (h : dead ks e = false) : (∀ t, t ∈ e.slots → t ∉ ks) ∧ (∀ k, k ∈ e.ids → 1000000 + k ∉ ks) ∧ e.key ∉ ks := by
  have h' : ∀ k, k ∈ e.deps → k ∉ ks := fun k hk hks => by
    have : dead ks e = true := by unfold dead; exact List.any_eq_true.2 ⟨k, hk, by simpa using hks⟩
    rw [h] at this; cases this
  refine ⟨fun t ht => h' t ?_, fun k hk => h' _ ?_, h' _ ?_⟩
  · simp [Ent.deps, ht]
  · simp only [Ent.deps, List.mem_cons, List.mem_append, List.mem_map]; exact .inr (.inr ⟨k, hk, rfl⟩)
  · simp [Ent.deps]
def sat (θ : Nat → Nat) (S : Blk) (a : Act) (w : World) : List Nat → List Ent → Blk → Prop
  | _, [], _ => True
  | ks, e :: Γ, av => if dead ks e = true then sat θ S a w (e.key :: ks) Γ av else ∃ ob, e.sem θ S ob a w ∧ (∀ b, ob b → av b) ∧ sat θ S a w (e.key :: ks) Γ (fun b => av b ∧ ¬ ob b)
section
variable {θ θ' : Nat → Nat} {S S' : Blk} {a a' : Act} {w w' : World}
theorem sat_mono : ∀ {Γ : List Ent} {ks ks' : List Nat} {av av' : Blk}, sat θ S a w ks Γ av → (∀ k, k ∈ ks → k ∈ ks') → (∀ b, av b → av' b) → sat θ S a w ks' Γ av'
  | [], _, _, _, _, _, _, _ => trivial
  | e :: Γ, ks, ks', av, av', h, hk, hv => by
    have hk' : ∀ k, k ∈ e.key :: ks → k ∈ e.key :: ks' := fun k hm => by
      rcases List.mem_cons.1 hm with rfl | hm
      · exact List.mem_cons_self
      · exact List.mem_cons_of_mem _ (hk k hm)
    unfold sat at h ⊢
    by_cases hd : dead ks e = true
    · rw [if_pos hd] at h
      rw [if_pos (dead_mono hk hd)]
      exact sat_mono h hk' hv
    · rw [if_neg hd] at h
      obtain ⟨ob, h1, h2, h3⟩ := h
      by_cases hd' : dead ks' e = true
      · rw [if_pos hd']
        exact sat_mono h3 hk' (fun b hb => hv b hb.1)
      · rw [if_neg hd']
        exact ⟨ob, h1, fun b hb => hv b (h2 b hb), sat_mono h3 hk' (fun b hb => ⟨hv b hb.1, hb.2⟩)⟩
theorem sat_move : ∀ {Γ : List Ent} {ks : List Nat} {av : Blk}, sat θ S a w ks Γ av → Agree S w w' → (∀ b, S b → S' b) → (∀ b, av b → w'.heap[b]? = w.heap[b]?) →
    (∀ t, t ∉ ks → a'.tmps.getD t undef = a.tmps.getD t undef) → (∀ k, 1000000 + k ∉ ks → θ' k = θ k) → sat θ' S' a' w' ks Γ av
  | [], _, _, _, _, _, _, _, _ => trivial
  | e :: Γ, ks, av, h, hA, hS, hb, ht, hi => by
    have ht' : ∀ t, t ∉ e.key :: ks → a'.tmps.getD t undef = a.tmps.getD t undef := fun t hm => ht t (fun h => hm (List.mem_cons_of_mem _ h))
    have hi' : ∀ k, 1000000 + k ∉ e.key :: ks → θ' k = θ k := fun t hm => hi t (fun h => hm (List.mem_cons_of_mem _ h))
    unfold sat at h ⊢
    by_cases hd : dead ks e = true
    · rw [if_pos hd] at h ⊢
      exact sat_move h hA hS hb ht' hi'
    · rw [if_neg hd] at h ⊢
      obtain ⟨ob, h1, h2, h3⟩ := h
      obtain ⟨l1, l2, l3⟩ := live_spec (by simpa using hd)
      exact ⟨ob, e.move h1 hA hS (fun b hob => hb b (h2 b hob)) (fun t hm => ht t (l1 t hm)) (fun k hm => hi k (l2 k hm)), h2, sat_move h3 hA hS (fun b hb' => hb b hb'.1) ht' hi'⟩
inductive Has : List Nat → List Ent → Ent → Prop
  | here {ks : List Nat} {e : Ent} {Γ : List Ent} : dead ks e = false → Has ks (e :: Γ) e
  | there {ks : List Nat} {e x : Ent} {Γ : List Ent} : Has (x.key :: ks) Γ e → Has ks (x :: Γ) e
theorem Has.live {ks : List Nat} {Γ : List Ent} {e : Ent} (h : Has ks Γ e) : dead ks e = false := by
  induction h with
  | here h => exact h
  | there _ ih =>
    rw [Bool.eq_false_iff] at ih ⊢
    exact fun h => ih (dead_mono (fun k hk => List.mem_cons_of_mem _ hk) h)
theorem Has.mono {ks ks' : List Nat} {Γ : List Ent} {e : Ent} (h : Has ks Γ e) (hk : ∀ k, k ∈ ks' → k ∈ ks) : Has ks' Γ e := by
  induction h generalizing ks' with
  | @here ks e Γ h =>
    refine .here ?_
    rw [Bool.eq_false_iff] at h ⊢
    exact fun h7 => h (dead_mono hk h7)
  | @there ks e z Γ h ih =>
    refine .there (ih (fun k hm => ?_))
    rcases List.mem_cons.1 hm with rfl | hm
    · exact List.mem_cons_self
    · exact List.mem_cons_of_mem _ (hk k hm)
theorem dead_cons {k0 : Nat} {ks : List Nat} {e : Ent} (h : dead ks e = false) (h0 : ¬ k0 ∈ e.deps) : dead (k0 :: ks) e = false := by
  rw [Bool.eq_false_iff] at h ⊢
  intro hd
  obtain ⟨k, hk1, hk2⟩ := List.any_eq_true.1 hd
  have hk2' : k ∈ k0 :: ks := by simpa using hk2
  rcases List.mem_cons.1 hk2' with rfl | h2
  · exact h0 hk1
  · exact h (List.any_eq_true.2 ⟨k, hk1, by simpa using h2⟩)
theorem not_dep {k0 : Nat} {ks : List Nat} {e : Ent} (h : dead ks e = false) (hk : k0 ∈ ks) : ¬ k0 ∈ e.deps := fun hm => by
  have : dead ks e = true := List.any_eq_true.2 ⟨k0, hm, by simpa using hk⟩
  rw [h] at this; cases this
/-- One more key hidden: what does not lean on it stays. -/
theorem Has.kill {ks : List Nat} {Γ : List Ent} {e : Ent} {k0 : Nat} (h : Has ks Γ e) (h0 : ¬ k0 ∈ e.deps) : Has (k0 :: ks) Γ e := by
  induction h with
  | here h => exact .here (dead_cons h h0)
  | @there ks e z Γ h ih =>
    refine .there ((ih h0).mono (fun k hk => ?_))
    simp only [List.mem_cons] at hk ⊢
    rcases hk with h | h | h
    · exact .inr (.inl h)
    · exact .inl h
    · exact .inr (.inr h)
theorem sat_take : ∀ {Γ : List Ent} {ks : List Nat} {av : Blk} {e : Ent}, Has ks Γ e → sat θ S a w ks Γ av →
    ∃ ob, e.sem θ S ob a w ∧ (∀ b, ob b → av b) ∧ sat θ S a w (e.key :: ks) Γ (fun b => av b ∧ ¬ ob b) := by
  intro Γ ks av e hh
  induction hh generalizing av with
  | @here ks e Γ hd =>
    intro h
    unfold sat at h
    rw [if_neg (by rw [hd]; decide)] at h
    obtain ⟨ob, h1, h2, h3⟩ := h
    refine ⟨ob, h1, h2, ?_⟩
    unfold sat
    rw [if_pos (dead_key List.mem_cons_self)]
    exact sat_mono h3 (fun k hk => List.mem_cons_of_mem _ hk) (fun b hb => hb)
  | @there ks e x Γ hh ih =>
    intro h
    unfold sat at h
    by_cases hd : dead ks x = true
    · rw [if_pos hd] at h
      obtain ⟨ob, h1, h2, h3⟩ := ih h
      refine ⟨ob, h1, h2, ?_⟩
      unfold sat
      rw [if_pos (dead_mono (fun k hk => List.mem_cons_of_mem _ hk) hd)]
      refine sat_mono h3 (fun k hk => ?_) (fun b hb => hb)
      simp only [List.mem_cons] at hk ⊢
      rcases hk with h | h | h
      · exact .inr (.inl h)
      · exact .inl h
      · exact .inr (.inr h)
    · rw [if_neg hd] at h
      obtain ⟨obx, x1, x2, x3⟩ := h
      obtain ⟨ob, h1, h2, h3⟩ := ih x3
      refine ⟨ob, h1, fun b hb => (h2 b hb).1, ?_⟩
      have hks : ∀ k, k ∈ e.key :: x.key :: ks → k ∈ x.key :: e.key :: ks := fun k hk => by
        simp only [List.mem_cons] at hk ⊢
        rcases hk with h | h | h
        · exact .inr (.inl h)
        · exact .inl h
        · exact .inr (.inr h)
      unfold sat
      by_cases hd' : dead (e.key :: ks) x = true
      · rw [if_pos hd']
        exact sat_mono h3 hks (fun b hb => ⟨hb.1.1, hb.2⟩)
      · rw [if_neg hd']
        refine ⟨obx, x1, fun b hb => ⟨x2 b hb, fun e' => ?_⟩, sat_mono h3 hks (fun b hb => ⟨⟨hb.1.1, hb.2⟩, hb.1.2⟩)⟩
        exact (h2 b e').2 hb
/-- What is known may be told anew: each part of it must stand. -/
theorem sat_sub {Γ : List Ent} : ∀ {Δ : List Ent} {ks ks0 : List Nat} {av : Blk}, sat θ S a w ks0 Γ av → (∀ k, k ∈ ks0 → k ∈ ks) → (∀ e, Has ks Δ e → Has ks0 Γ e) → sat θ S a w ks Δ av
  | [], _, _, _, _, _, _ => trivial
  | e :: Δ, ks, ks0, av, h, hsub, hH => by
    unfold sat
    by_cases hd : dead ks e = true
    · rw [if_pos hd]
      exact sat_sub h (fun k hm => List.mem_cons_of_mem _ (hsub k hm)) (fun x hx => hH x (.there hx))
    · rw [if_neg hd]
      have he := hH e (.here (by simpa using hd))
      obtain ⟨ob, h1, h2, h3⟩ := sat_take he h
      refine ⟨ob, h1, h2, sat_sub h3 (fun k hm => ?_) (fun x hx => ?_)⟩
      · rcases List.mem_cons.1 hm with rfl | hm
        · exact List.mem_cons_self
        · exact List.mem_cons_of_mem _ (hsub k hm)
      · exact (hH x (.there hx)).kill (not_dep hx.live List.mem_cons_self)
end
/-! ### a frame -/
structure Ctx where
  w0 : World
  S0 : Blk
  X : List Nat
  n : Nat
  /-- the round's loop, if the frame is one -/
  rd : Option Nat
  /-- what is put off -/
  df : List Deferred
abbrev ctx (w0 : World) (S0 : Blk) (X : List Nat) (n : Nat) : Ctx := ⟨w0, S0, X, n, none, []⟩
/-- Of what was there when the frame began only the blocks X have turned. -/
structure Fr (X : List Nat) (w w' : World) : Prop where
  os : w'.os = w.os
  tape : w'.tape = w.tape
  output : w'.output = w.output
  size : w.heap.size ≤ w'.heap.size
  block : ∀ k, k < w.heap.size → k ∉ X → w'.heap[k]? = w.heap[k]?
theorem Fr.refl (X : List Nat) (w : World) : Fr X w w := ⟨rfl, rfl, rfl, Nat.le_refl _, fun _ _ _ => rfl⟩
theorem Fr.trans {X : List Nat} {a b c : World} (h : Fr X a b) (k : Fr X b c) : Fr X a c :=
  ⟨k.os.trans h.os, k.tape.trans h.tape, k.output.trans h.output, Nat.le_trans h.size k.size, fun i hi hx => (k.block i (Nat.lt_of_lt_of_le hi h.size) hx).trans (h.block i hi hx)⟩
theorem Fr.mono {X X' : List Nat} {w w' : World} (h : Fr X w w') (hX : ∀ b, b ∈ X → b ∈ X' ∨ w.heap.size ≤ b) : Fr X' w w' :=
  ⟨h.os, h.tape, h.output, h.size, fun k hk hx => h.block k hk (fun hm => by rcases hX k hm with h | h; exact hx h; omega)⟩
theorem Fr.below {w w' : World} (h : Fr [] w w') : Below w.heap.size w w' := ⟨h.os, h.tape, h.output, h.size, fun k hk => h.block k hk (by simp)⟩
/-- The blocks that this frame may still give to its parts. -/
def free (c : Ctx) (S : Blk) (w : World) : Blk := fun b => ¬ S b ∧ b < w.heap.size ∧ (c.w0.heap.size ≤ b ∨ b ∈ c.X)
def SOk (c : Ctx) (S : Blk) (w : World) : Prop := ∀ b, S b → b < w.heap.size ∧ (c.S0 b ∨ c.w0.heap.size ≤ b ∨ b ∈ c.X)
def Inv (c : Ctx) (Γ : List Ent) (a : Act) (w : World) : Prop :=
  a.defers = c.df ∧ (a.tmps.size = c.n ∧ c.n ≤ 1000000) ∧ Fr c.X c.w0 w ∧ ∃ θ S, SOk c S w ∧ sat θ S a w [] Γ (free c S w)
theorem Inv.sub {c : Ctx} {Γ Δ : List Ent} {a : Act} {w : World} (h : Inv c Γ a w) (hH : ∀ e, Has [] Δ e → Has [] Γ e) : Inv c Δ a w := by
  obtain ⟨h1, h2, h3, θ, S, h4, h5⟩ := h
  exact ⟨h1, h2, h3, θ, S, h4, sat_sub h5 (fun k hk => hk) hH⟩
/-- Looking up by key: the part that stands first. -/
def findE : List Nat → List Ent → Nat → Option Ent
  | _, [], _ => none
  | ks, x :: Γ, k => match Nat.beq x.key k with
    | true => match dead ks x with
      | true => none
      | false => some x
    | false => findE (x.key :: ks) Γ k
theorem has_find : ∀ {Γ : List Ent} {ks : List Nat} {k : Nat} {e : Ent}, findE ks Γ k = some e → Has ks Γ e
  | [], _, _, _, h => by cases h
  | x :: Γ, ks, k, e, h => by
    unfold findE at h
    split at h
    · split at h
      · cases h
      · rename_i hd
        cases h
        exact .here hd
    · exact .there (has_find h)
theorem has {Γ : List Ent} {e : Ent} (h : findE [] Γ e.key = some e) : Has [] Γ e := has_find h
/-- Every part of Δ stands in Γ. -/
inductive Told : List Ent → List Ent → Prop
  | nil {Γ : List Ent} : Told Γ []
  | cons {Γ Δ : List Ent} {e : Ent} : findE [] Γ e.key = some e → Told Γ Δ → Told Γ (e :: Δ)
theorem Has.mem {ks : List Nat} {Γ : List Ent} {e : Ent} (h : Has ks Γ e) : e ∈ Γ := by
  induction h with
  | here _ => exact List.mem_cons_self
  | there _ ih => exact List.mem_cons_of_mem _ ih
theorem Told.sub {Γ Δ : List Ent} (h : Told Γ Δ) : ∀ e, Has [] Δ e → Has [] Γ e := by
  intro e he
  have hm := he.mem
  clear he
  induction h with
  | nil => cases hm
  | cons h1 h2 ih =>
    rcases List.mem_cons.1 hm with rfl | hm
    · exact has h1
    · exact ih hm
end Go.Proofs.Ytedgkcdofiildaa.Sl
/- The walk over a frame's text: one law for each form of code; what an operation adds to what is known. -/
set_option linter.unusedVariables false
set_option linter.unusedSimpArgs false
namespace Go.Proofs.Ytedgkcdofiildaa.Sl
open Go Go.RowKit
/-- any machine; the frame is a round of a loop, or none -/
def rf (r : Option Nat) : Fence := { Fence.wide with round := r }
theorem calls_in {P : Program} {f : FuncId} {args : Array Value} {w : World} {R : Ending → World → Prop} {r : Option Nat} {n : Nat} (h : Calls P f args w R) : CallsIn (rf r) n P f args w R := callsIn_wide.2 h
theorem calls_out {P : Program} {f : FuncId} {args : Array Value} {w : World} {R : Ending → World → Prop} {r : Option Nat} {n : Nat} (h : CallsIn (rf r) n P f args w R) : Calls P f args w R := by rw [← callsIn_wide (n := n)]; exact h
def notDefer : Op → Bool
  | .defer _ => false
  | _ => true
def slq (o : Oper) : Bool := match o.guard with | none => notDefer o.op | some _ => false
theorem notDefer_spec {o : Op} (h : notDefer o = true) : ∀ c, o ≠ .defer c := fun c e => by rw [e] at h; cases h
theorem quiet_spec {o : Oper} (h : slq o = true) : o.guard = none ∧ ∀ c, o.op ≠ .defer c := by
  unfold slq at h
  split at h
  · exact ⟨by assumption, notDefer_spec h⟩
  · cases h
def slg (o : Oper) : Option (Nat × Bool) := match notDefer o.op with | true => o.guard | false => none
theorem gd_spec {o : Oper} {p : Nat × Bool} (h : slg o = some p) : o.guard = some p ∧ ∀ c, o.op ≠ .defer c := by
  unfold slg at h
  split at h
  · exact ⟨h, notDefer_spec (by assumption)⟩
  · cases h
/-- What stands anywhere stands in a round. -/
theorem wp_in {P : Program} {o : Oper} {a : Act} {w : World} {K : Act → World → Prop} {Q : Exit → Act → World → Prop} {r : Option Nat} (hnd : ∀ c, o.op ≠ .defer c) (h : o.wp P a w K Q) : o.wpIn (rf r) 0 P a w K Q := by
  refine ⟨fun _ _ => trivial, ?_⟩
  rw [Oper.semAt_eq _ _ _ hnd]
  unfold Oper.wp at h
  generalize (execOp a.eval o).run P w = x at *
  cases x with
  | ok x w' =>
    cases x <;> simp only [Oper.upon, Oper.uponIn] at h ⊢ <;>
      first
        | exact h
        | exact ⟨fun e => (by cases e), calls_in h⟩
        | exact ⟨fun e => (by cases e), fun c cs _ => let ⟨v, w', r, s⟩ := h c cs; ⟨v, w', r, (stepsIn_wide.2 s)⟩⟩
        | skip
  | halt x w' => cases x <;> simp only [Oper.upon, Oper.uponIn] at h ⊢ <;> exact h
def Goes (P : Program) (c : Ctx) (Γ : List Ent) (k : Code) (Q : Exit → Act → World → Prop) : Prop := ∀ a w, Inv c Γ a w → k.wpIn (rf c.rd) 0 P Q a w
def GoesO (P : Program) (c : Ctx) (Γ : List Ent) (ops : Array Oper) (l : List Oper) (Q : Exit → Act → World → Prop) : Prop := ∀ a w, Inv c Γ a w → wpListIn (rf c.rd) 0 P ops Q l a w
def Ends (c : Ctx) (Γ : List Ent) (Q : Exit → Act → World → Prop) (e : Exit) : Prop := ∀ a w, Inv c Γ a w → Q e a w
section
variable {P : Program} {c : Ctx} {Γ Δ : List Ent} {Q : Exit → Act → World → Prop}
theorem ends_sub {e : Exit} (Δ : List Ent) (hs : Told Γ Δ) (h : Ends c Δ Q e) : Ends c Γ Q e := fun a w hi => h a w (hi.sub hs.sub)
theorem goes_seq {x y : Code} (h : Goes P c Γ x (Exit.then (y.wpIn (rf c.rd) 0 P Q) Q)) : Goes P c Γ (.seq x y) Q := fun a w hi => wpIn_seq (h a w hi)
theorem goes_skip (h : Ends c Γ Q .normal) : Goes P c Γ .skip Q := fun a w hi => wpIn_skip (h a w hi)
theorem goes_exit {id : Nat} (h : Ends c Γ Q (.exit id)) : Goes P c Γ (.exit id) Q := fun a w hi => wpIn_exit (h a w hi)
theorem goes_ret (h : Ends c Γ Q .ret) : Goes P c Γ .ret Q := fun a w hi => wpIn_ret (h a w hi)
theorem goes_block {id : Nat} {k : Code} (h : Goes P c Γ k (Exit.inBlock id Q)) : Goes P c Γ (.block id k) Q := fun a w hi => wpIn_block (h a w hi)
theorem goes_region {id : Nat} {l : List Oper} (h : GoesO P c Γ l.toArray l Q) : Goes P c Γ (.region id l.toArray false) Q := fun a w hi => wpIn_region_lit (h a w hi)
theorem goesO_nil {ops : Array Oper} (h : Ends c Γ Q .normal) : GoesO P c Γ ops [] Q := fun a w hi => wpListIn_nil (h a w hi)
theorem ends_then {y : Code} (h : Goes P c Γ y Q) : Ends c Γ (Exit.then (y.wpIn (rf c.rd) 0 P Q) Q) .normal := fun a w hi => h a w hi
theorem ends_then_exit {K : Act → World → Prop} {id : Nat} (h : Ends c Γ Q (.exit id)) : Ends c Γ (Exit.then K Q) (.exit id) := h
theorem ends_then_ret {K : Act → World → Prop} (h : Ends c Γ Q .ret) : Ends c Γ (Exit.then K Q) .ret := h
theorem ends_block {id : Nat} (h : Ends c Γ Q .normal) : Ends c Γ (Exit.inBlock id Q) .normal := h
theorem ends_block_exit {id : Nat} (h : Ends c Γ Q .normal) : Ends c Γ (Exit.inBlock id Q) (.exit id) := fun a w hi => by
  show (if id = id then Q .normal a w else Q (.exit id) a w)
  rw [if_pos rfl]; exact h a w hi
theorem ends_block_ne {id i : Nat} (hne : Nat.beq i id = false) (h : Ends c Γ Q (.exit i)) : Ends c Γ (Exit.inBlock id Q) (.exit i) := fun a w hi => by
  show (if i = id then Q .normal a w else Q (.exit i) a w)
  rw [if_neg (fun e => by rw [e, Nat.beq_refl] at hne; cases hne)]; exact h a w hi
theorem ends_block_ret {id : Nat} (h : Ends c Γ Q .ret) : Ends c Γ (Exit.inBlock id Q) .ret := h
end
/-! ### values -/
/-- What one value's cells say. -/
structure Kn (α : Type) where
  sz : Nat
  agg : Bool
  R : Blk → World → α → List Value → Prop
  len : ∀ {S : Blk} {w : World} {x : α} {cs : List Value}, R S w x cs → cs.length = sz
  one : ∀ {S : Blk} {w : World} {x : α} {cs : List Value}, R S w x cs → ∀ u, u ∈ cs → u.oneCell' = true
  move : ∀ {S S' : Blk} {w w' : World} {x : α} {cs : List Value}, R S w x cs → Agree S w w' → (∀ b, S b → S' b) → R S' w' x cs
def Kn.mk_ {α : Type} (K : Kn α) (cs : List Value) : Value := match K.agg with | true => .agg cs.toArray | false => cs.headD undef
def Kn.scalar {α : Type} (enc : α → Value) (h1 : ∀ x, (enc x).oneCell' = true) : Kn α where
  sz := 1
  agg := false
  R := fun _ _ x cs => cs = [enc x]
  len := fun h => by rw [h]; rfl
  one := fun h u hu => by rw [h] at hu; rw [List.mem_singleton.1 hu]; exact h1 _
  move := fun h _ _ => h
def kint (k : IntKind) : Kn Int := Kn.scalar (Value.int k) (fun _ => rfl)
def kbool : Kn Bool := Kn.scalar Value.bool (fun _ => rfl)
def kstr : Kn ByteArray := Kn.scalar Value.string (fun _ => rfl)
/-- Elements in line, from an address on. -/
def Row {α : Type} (K : Kn α) (S : Blk) (w : World) (A : Option Addr) (xs : List α) : Prop :=
  0 < xs.length → ∃ ad, A = some ad ∧ S ad.block ∧ ∀ j p, xs[j]? = some p → ∃ cs, K.R S w p cs ∧ ∀ i u, cs[i]? = some u → w.cell? (ad.add (j * K.sz + i)) = some u
theorem Row.move {α : Type} {K : Kn α} {S S' : Blk} {w w' : World} {A : Option Addr} {xs : List α} (h : Row K S w A xs) (hA : Agree S w w') (hS : ∀ b, S b → S' b) : Row K S' w' A xs := fun h0 => by
  obtain ⟨ad, e, hs, hr⟩ := h h0
  refine ⟨ad, e, hS _ hs, fun j p hj => ?_⟩
  obtain ⟨cs, h1, h2⟩ := hr j p hj
  refine ⟨cs, K.move h1 hA hS, fun i u hi => ?_⟩
  rw [World.cell?_of_block (w := w) (w' := w') (by rw [show (ad.add (j * K.sz + i)).block = ad.block by unfold Addr.add; split <;> rfl]; exact hA _ hs)]
  exact h2 i u hi
theorem Row.nil {α : Type} (K : Kn α) (S : Blk) (w : World) (A : Option Addr) : Row K S w A [] := fun h => by simp at h
def kslice {α : Type} (K : Kn α) : Kn (List α) where
  sz := 1
  agg := false
  R := fun S w xs cs => ∃ A c, cs = [.slice A xs.length c] ∧ xs.length ≤ c ∧ c ≤ maxLen ∧ Row K S w A xs
  len := by rintro S w x cs ⟨A, c, rfl, _⟩; rfl
  one := by rintro S w x cs ⟨A, c, rfl, _⟩ u hu; rw [List.mem_singleton.1 hu]; rfl
  move := by rintro S S' w w' x cs ⟨A, c, rfl, hl, hm, hr⟩ hA hS; exact ⟨A, c, rfl, hl, hm, hr.move hA hS⟩
def kpair {α β : Type} (a : Kn α) (b : Kn β) : Kn (α × β) where
  sz := a.sz + b.sz
  agg := true
  R := fun S w x cs => ∃ c0 c1, cs = c0 ++ c1 ∧ a.R S w x.1 c0 ∧ b.R S w x.2 c1
  len := by rintro S w x cs ⟨c0, c1, rfl, h0, h1⟩; rw [List.length_append, a.len h0, b.len h1]
  one := by
    rintro S w x cs ⟨c0, c1, rfl, h0, h1⟩ u hu
    rcases List.mem_append.1 hu with hu | hu
    · exact a.one h0 u hu
    · exact b.one h1 u hu
  move := by rintro S S' w w' x cs ⟨c0, c1, rfl, h0, h1⟩ hA hS; exact ⟨c0, c1, rfl, a.move h0 hA hS, b.move h1 hA hS⟩
/-- A Lean structure by its fields; alone: a struct of one field. -/
def kiso {α β : Type} (d : Kn α) (f : β → α) : Kn β where
  sz := d.sz
  agg := true
  R := fun S w x cs => d.R S w (f x) cs
  len := d.len
  one := d.one
  move := d.move
namespace VA
def k {α : Type} (K : Kn α) (x : α) : VA where
  ids := []
  sem := fun _ S ob w v => ob = bk none ∧ ∃ cs, K.R S w x cs ∧ v = K.mk_ cs
  move := by rintro θ θ' S S' ob w w' v ⟨h0, cs, h1, h2⟩ hA hS _ _; exact ⟨h0, cs, K.move h1 hA hS, h2⟩
/-- A value as it is. -/
def v (x : Value) : VA where
  ids := []
  sem := fun _ _ ob _ v => ob = bk none ∧ v = x
  move := fun h _ _ _ _ => h
/-- A pointer into a box. -/
def ptr (id off : Nat) : VA where
  ids := [id]
  sem := fun θ _ ob _ v => ob = bk none ∧ v = .pointer (some ⟨θ id, off, none⟩)
  move := by rintro θ θ' S S' ob w w' v ⟨h0, h⟩ _ _ _ hi; exact ⟨h0, by rw [hi id (by simp)]; exact h⟩
def map (id : Nat) : VA where
  ids := [id]
  sem := fun θ _ ob _ v => ob = bk none ∧ v = .map (some (θ id))
  move := by rintro θ θ' S S' ob w w' v ⟨h0, h⟩ _ _ _ hi; exact ⟨h0, by rw [hi id (by simp)]; exact h⟩
def any : VA where
  ids := []
  sem := fun _ _ ob _ _ => ob = bk none
  move := fun h _ _ _ _ => h
/-- A row of the frame's own: a block that nothing else names. -/
def own {α : Type} (e : TypeId) (K : Kn α) (xs : List α) : VA where
  ids := []
  sem := fun _ S ob w v => ob = bk v.ownBlock ∧ ∃ inner, w.ownsRow 0 e K.sz v xs.length inner ∧ ∀ j p, xs[j]? = some p → K.R S w p ((inner.drop (j * K.sz)).take K.sz)
  move := by
    rintro θ θ' S S' ob w w' v ⟨h0, inner, ho, hr⟩ hA hS hb _
    refine ⟨h0, inner, ?_, fun j p hj => K.move (hr j p hj) hA hS⟩
    obtain ⟨h1, h2⟩ := ho
    refine ⟨h1, ?_⟩
    rcases h2 with h2 | ⟨g, cap, cur, rfl, hg, hh, r⟩
    · exact .inl h2
    · exact .inr ⟨g, cap, cur, rfl, hg, (hb g (by rw [h0]; rfl)).trans hh, r⟩
end VA
/-! ### the parts -/
namespace Ent
def t (d : Nat) (A : VA) : Ent where
  key := d
  slots := [d]
  ids := A.ids
  sem := fun θ S ob a w => A.sem θ S ob w (a.tmps.getD d undef)
  move := fun h hA hS hb ht hi => by rw [ht d (by simp)]; exact A.move h hA hS hb hi
/-- Component j of the tuple in slot d. -/
def c (d j : Nat) (A : VA) : Ent where
  key := 3000000 + 1000 * d + j
  slots := [d]
  ids := A.ids
  sem := fun θ S ob a w => ∃ vs v, a.tmps.getD d undef = .tuple vs ∧ vs[j]? = some v ∧ A.sem θ S ob w v
  move := by
    rintro θ θ' S S' ob a a' w w' ⟨vs, v, h1, h2, h3⟩ hA hS hb ht hi
    exact ⟨vs, v, by rw [ht d (by simp)]; exact h1, h2, A.move h3 hA hS hb hi⟩
/-- A number's name is given to a block. -/
def bind (id : Nat) : Ent where
  key := 1000000 + id
  slots := []
  ids := []
  sem := fun _ _ ob _ _ => ob = bk none
  move := fun h _ _ _ _ _ => h
end Ent
/-- What a block holds that the frame alone may write. -/
structure HE where
  ids : List Nat
  sem : (Nat → Nat) → Nat → Blk → World → Prop
  move : ∀ {θ θ' : Nat → Nat} {b : Nat} {S S' : Blk} {w w' : World}, sem θ b S w → Agree S w w' → (∀ b, S b → S' b) → w'.heap[b]? = w.heap[b]? → (∀ k, k ∈ ids → θ' k = θ k) → sem θ' b S' w'
def HE.box {α : Type} (e : TypeId) (K : Kn α) (x : α) : HE where
  ids := []
  sem := fun _ b S w => ∃ cs, w.heap[b]? = some (.cells cs e (0, 0)) ∧ K.R S w x cs.toList
  move := by rintro θ θ' b S S' w w' ⟨cs, h1, h2⟩ hA hS hb _; exact ⟨cs, hb.trans h1, K.move h2 hA hS⟩
def Ent.h (id : Nat) (H : HE) : Ent where
  key := 2000000 + id
  slots := []
  ids := id :: H.ids
  sem := fun θ S ob _ w => ob = bk (some (θ id)) ∧ H.sem θ (θ id) S w
  move := by
    rintro θ θ' S S' ob a a' w w' ⟨h0, h⟩ hA hS hb _ hi
    have : θ' id = θ id := hi id (by simp)
    exact ⟨by rw [this]; exact h0, by rw [this]; exact H.move h hA hS (hb _ (bk_at h0)) (fun k hk => hi k (List.mem_cons_of_mem _ hk))⟩
/-! ### operations -/
/-- With what N tells, operation o adds Δ. -/
def OpSpec (P : Program) (n : Nat) (o : Oper) (N : Ent → Prop) (Δ : List Ent) : Prop :=
  ∀ (c : Ctx) (Γ : List Ent) (a : Act) (w : World) (Q : Exit → Act → World → Prop), c.n = n → (∀ e, N e → Has [] Γ e) → Inv c Γ a w → o.wp P a w (fun a' w' => Inv c (Δ ++ Γ) a' w') Q
/-- An operand of which A holds. -/
def Arg (N : Ent → Prop) (x : Operand) (A : VA) : Prop :=
  ∀ (θ : Nat → Nat) (S : Blk) (a : Act) (w : World), (∀ e, N e → ∃ ob, e.sem θ S ob a w) → ∃ ob, A.sem θ S ob w (a.eval x)
theorem Arg.t {N : Ent → Prop} {s : Nat} {A : VA} (h : N (Ent.t s A)) : Arg N (.tmp s) A := fun θ S a w hN => hN _ h
theorem Arg.int {N : Ent → Prop} (k : IntKind) (n : Int) : Arg N (.const (.int k n)) (VA.k (kint k) n) := fun θ S a w hN => ⟨bk none, rfl, _, rfl, rfl⟩
theorem Arg.bool {N : Ent → Prop} (b : Bool) : Arg N (.const (.bool b)) (VA.k kbool b) := fun θ S a w hN => ⟨bk none, rfl, _, rfl, rfl⟩
theorem Arg.str {N : Ent → Prop} (s : ByteArray) : Arg N (.const (.string s)) (VA.k kstr s) := fun θ S a w hN => ⟨bk none, rfl, _, rfl, rfl⟩
theorem Arg.nil {α : Type} {N : Ent → Prop} (K : Kn α) : Arg N (.const (.slice none 0 0)) (VA.k (kslice K) []) := fun θ S a w hN => ⟨bk none, rfl, _, ⟨none, 0, rfl, Nat.le_refl _, Nat.zero_le _, Row.nil _ _ _ _⟩, rfl⟩
theorem Arg.own {α : Type} {N : Ent → Prop} (e : TypeId) (K : Kn α) : Arg N (.const (.slice none 0 0)) (VA.own e K []) := fun θ S a w hN => ⟨bk none, rfl, [], World.ownsRow_nil _ _ _ _, fun j p h => by simp at h⟩
theorem Arg.v {N : Ent → Prop} (x : Value) : Arg N (.const x) (VA.v x) := fun θ S a w hN => ⟨bk none, rfl, rfl⟩
theorem sems {θ : Nat → Nat} {S : Blk} {a : Act} {w : World} {Γ : List Ent} {av : Blk} {N : Ent → Prop} (hN : ∀ e, N e → Has [] Γ e) (h : sat θ S a w [] Γ av) : ∀ e, N e → ∃ ob, e.sem θ S ob a w := fun e he => by
  obtain ⟨ob, h1, _, _⟩ := sat_take (hN e he) h
  exact ⟨ob, h1⟩
theorem dead_nil (e : Ent) : dead [] e = false := by
  unfold dead
  simp
/-- Something without a block of its own is put on. -/
theorem sat_cons {θ : Nat → Nat} {S : Blk} {a : Act} {w : World} {e : Ent} {Γ : List Ent} {av : Blk} (h1 : e.sem θ S (bk none) a w) (h2 : sat θ S a w [e.key] Γ av) : sat θ S a w [] (e :: Γ) av := by
  unfold sat
  rw [if_neg (by rw [dead_nil]; decide)]
  exact ⟨bk none, h1, fun b hb => (by cases hb), sat_mono h2 (fun k hk => hk) (fun b hb => ⟨hb, by simp⟩)⟩
theorem put_getD_self {a : Act} {d : Nat} {v : Value} (h : d < a.tmps.size) : (a.put (some d) v).tmps.getD d undef = v := by
  simp [Act.put, Array.getD_eq_getD_getElem?, h]
theorem put_getD_ne {a : Act} {d t : Nat} {v : Value} (h : t ≠ d) : (a.put (some d) v).tmps.getD t undef = a.tmps.getD t undef := by
  simp only [Act.put, Array.getD_eq_getD_getElem?, Array.getElem?_setIfInBounds]
  rw [if_neg (fun e => h e.symm)]
theorem put_size {a : Act} {d : Option Nat} {v : Value} : (a.put d v).tmps.size = a.tmps.size := by
  cases d <;> simp [Act.put]
theorem put_defers {a : Act} {d : Option Nat} {v : Value} : (a.put d v).defers = a.defers := by cases d <;> rfl
theorem blt_lt {d n : Nat} (h : Nat.blt d n = true) : d < n := Nat.le_of_ble_eq_true h
theorem inv_put {c : Ctx} {Γ : List Ent} {a : Act} {w w' : World} {d : Nat} {A : VA} {v : Value} {θ : Nat → Nat} {S : Blk} (hd : Nat.blt d c.n = true) (h1 : a.defers = c.df) (h2 : a.tmps.size = c.n ∧ c.n ≤ 1000000) (h3 : Fr c.X c.w0 w') (h4 : SOk c S w')
    (h5 : sat θ S a w [] Γ (free c S w)) (hw : w'.heap = w.heap) (hA : A.sem θ S (bk none) w' v) : Inv c (Ent.t d A :: Γ) (a.put (some d) v) w' := by
  refine ⟨by rw [put_defers]; exact h1, by rw [put_size]; exact h2, h3, θ, S, h4, sat_cons ?_ ?_⟩
  · show A.sem θ S (bk none) w' ((a.put (some d) v).tmps.getD d undef)
    rw [put_getD_self (by rw [h2.1]; exact blt_lt hd)]
    exact hA
  · refine sat_mono (sat_move (ks := [d]) (sat_mono h5 (fun k hk => by cases hk) (fun b hb => hb)) (fun b hb => by rw [hw]) (fun b hb => hb) (fun b hb => by rw [hw]) (fun t ht => put_getD_ne (by simpa using ht)) (fun k _ => rfl)) (fun k hk => hk) (fun b hb => ?_)
    obtain ⟨f1, f2, f3⟩ := hb
    exact ⟨f1, by rw [hw]; exact f2, f3⟩
/-- An operation that only computes. -/
theorem op_pure {P : Program} {n d : Nat} {op : Op} {ty : TypeId} {pos : String} {af : Array Edge} {g : Option (Nat × Bool)} {N : Ent → Prop} {A : VA} (hd : Nat.blt d n = true)
    (h : ∀ θ S a w, (∀ e, N e → ∃ ob, e.sem θ S ob a w) → ∃ v, (execOp a.eval ⟨some d, op, ty, pos, af, g⟩).run P w = .ok (.value v) w ∧ A.sem θ S (bk none) w v) : OpSpec P n ⟨some d, op, ty, pos, af, g⟩ N [Ent.t d A] := by
  rintro c Γ a w Q rfl hN ⟨h1, h2, h3, θ, S, h4, h5⟩
  obtain ⟨v, hr, hA⟩ := h θ S a w (sems hN h5)
  unfold Oper.wp
  rw [hr]
  exact inv_put hd h1 h2 h3 h4 h5 rfl hA
section
variable {P : Program} {c : Ctx} {Γ : List Ent} {Q : Exit → Act → World → Prop} {ops : Array Oper} {rest : List Oper} {o : Oper}
theorem go1 {e : Ent} (h : OpSpec P c.n o (Has [] Γ) [e]) (hg : slq o = true) (next : GoesO P c (e :: Γ) ops rest Q) : GoesO P c Γ ops (o :: rest) Q :=
  fun a w hi => wpListIn_plain (quiet_spec hg).1 fun K hK => wp_in (quiet_spec hg).2 (Oper.wp_mono (fun a' w' h' => hK a' w' (next a' w' h')) (h c Γ a w Q rfl (fun _ he => he) hi))
theorem goN {Δ : List Ent} (h : OpSpec P c.n o (Has [] Γ) Δ) (hg : slq o = true) (next : GoesO P c (Δ ++ Γ) ops rest Q) : GoesO P c Γ ops (o :: rest) Q :=
  fun a w hi => wpListIn_plain (quiet_spec hg).1 fun K hK => wp_in (quiet_spec hg).2 (Oper.wp_mono (fun a' w' h' => hK a' w' (next a' w' h')) (h c Γ a w Q rfl (fun _ he => he) hi))
end
section
variable {θ : Nat → Nat} {S : Blk} {a : Act} {w : World} {e : Ent} {Γ : List Ent} {av : Blk} {ks : List Nat}
theorem sat_consK (hd : dead ks e = false) (h1 : e.sem θ S (bk none) a w) (h2 : sat θ S a w (e.key :: ks) Γ av) : sat θ S a w ks (e :: Γ) av := by
  unfold sat
  rw [if_neg (by rw [hd]; decide)]
  exact ⟨bk none, h1, fun b hb => (by cases hb), sat_mono h2 (fun k hk => hk) (fun b hb => ⟨hb, by simp⟩)⟩
theorem sat_consB {b : Nat} (hd : dead ks e = false) (h1 : e.sem θ S (bk (some b)) a w) (hb : av b) (h2 : sat θ S a w (e.key :: ks) Γ (fun x => av x ∧ x ≠ b)) : sat θ S a w ks (e :: Γ) av := by
  unfold sat
  rw [if_neg (by rw [hd]; decide)]
  exact ⟨bk (some b), h1, fun x hx => by cases hx; exact hb, sat_mono h2 (fun k hk => hk) (fun x hx => ⟨hx.1, fun e => hx.2 (by cases e; rfl)⟩)⟩
theorem sat_consO {ob : Blk} (hd : dead ks e = false) (h1 : e.sem θ S ob a w) (hb : ∀ b, ob b → av b) (h2 : sat θ S a w (e.key :: ks) Γ (fun x => av x ∧ ¬ ob x)) : sat θ S a w ks (e :: Γ) av := by
  unfold sat
  rw [if_neg (by rw [hd]; decide)]
  exact ⟨ob, h1, hb, h2⟩
end
theorem dead_iff {ks : List Nat} {e : Ent} (h : ∀ k, k ∈ ks → k ∉ e.deps) : dead ks e = false := by
  rw [Bool.eq_false_iff]
  intro hd
  obtain ⟨k, h1, h2⟩ := List.any_eq_true.1 hd
  exact h k (by simpa using h2) h1
end Go.Proofs.Ytedgkcdofiildaa.Sl
/- Operations that only compute: numbers, truth values, texts. -/
set_option linter.unusedVariables false
set_option linter.unusedSimpArgs false
namespace Go.Proofs.Ytedgkcdofiildaa.Sl
open Go Go.RowKit
theorem k_int {θ : Nat → Nat} {S : Blk} {ob : Blk} {w : World} {v : Value} {k : IntKind} {x : Int} (h : (VA.k (kint k) x).sem θ S ob w v) : v = .int k x := by
  obtain ⟨_, cs, rfl, rfl⟩ := h; rfl
theorem k_bool {θ : Nat → Nat} {S : Blk} {ob : Blk} {w : World} {v : Value} {x : Bool} (h : (VA.k kbool x).sem θ S ob w v) : v = .bool x := by
  obtain ⟨_, cs, rfl, rfl⟩ := h; rfl
theorem k_str {θ : Nat → Nat} {S : Blk} {ob : Blk} {w : World} {v : Value} {x : ByteArray} (h : (VA.k kstr x).sem θ S ob w v) : v = .string x := by
  obtain ⟨_, cs, rfl, rfl⟩ := h; rfl
theorem mk_int (θ : Nat → Nat) (S : Blk) (w : World) (k : IntKind) (x : Int) : (VA.k (kint k) x).sem θ S (bk none) w (.int k x) := ⟨rfl, _, rfl, rfl⟩
theorem mk_bool (θ : Nat → Nat) (S : Blk) (w : World) (x : Bool) : (VA.k kbool x).sem θ S (bk none) w (.bool x) := ⟨rfl, _, rfl, rfl⟩
theorem bind_some {α β : Type} {o : Option α} {f : α → Option β} {r : β} (h : o.bind f = some r) : ∃ x, o = some x ∧ f x = some r := Option.bind_eq_some_iff.mp h
/-- x[i], where there is one. -/
def idx {α : Type} (l : List α) (i : Int) : Option α := if i < 0 then none else l[i.toNat]?
def bidx (s : ByteArray) (i : Int) : Option Int := if i < 0 then none else (s.data.toList[i.toNat]?).map fun b => (b.toNat : Int)
theorem binOp_bool_eq (t : TypeId) (a b : Bool) : binOp .eql t (.bool a) (.bool b) = (do pure (.bool (← Op.equal t (.bool a) (.bool b)))) := rfl
theorem binOp_bool_ne (t : TypeId) (a b : Bool) : binOp .neq t (.bool a) (.bool b) = (do pure (.bool (!(← Op.equal t (.bool a) (.bool b))))) := rfl
theorem run_eqIn_bool {P : Program} (d : Nat) {t : TypeId} (ht : P.underlying t = some .bool) (w : World) (a b : Bool) : (Op.equalIn (d + 1) t (.bool a) (.bool b)).run P w = .ok (a == b) w := by
  simp only [Op.equalIn, Sem.run_bind, run_underlying ht, Result.andThen_ok]
  rfl
theorem run_eq_bool {P : Program} {t : TypeId} (ht : P.underlying t = some .bool) (w : World) (a b : Bool) : (Op.equalIn 10000 t (.bool a) (.bool b)).run P w = .ok (a == b) w := run_eqIn_bool 9999 ht w a b
theorem guard_int (op : BinOp) (t : TypeId) (x y : Operand) (k k' : IntKind) (a b : Int) : eqGuard op t x y (.int k a) (.int k' b) = pure () := by cases op <;> rfl
theorem guard_str (op : BinOp) (t : TypeId) (x y : Operand) (a b : ByteArray) : eqGuard op t x y (.string a) (.string b) = pure () := by cases op <;> rfl
theorem guard_bool (op : BinOp) (t : TypeId) (x y : Operand) (a b : Bool) : eqGuard op t x y (.bool a) (.bool b) = pure () := by cases op <;> rfl
section
variable {P : Program} {n d : Nat} {ty t t' : TypeId} {pos : String} {af : Array Edge} {g : Option (Nat × Bool)} {N : Ent → Prop}
def icmp (op : BinOp) (x y : Int) : Bool := match op with
  | .eql => x == y | .neq => x != y | .lss => decide (x < y) | .leq => decide (x ≤ y) | .gtr => decide (x > y) | _ => decide (x ≥ y)
def isCmp (op : BinOp) : Bool := match op with | .eql | .neq | .lss | .leq | .gtr | .geq => true | _ => false
theorem op_icmp {op : BinOp} {k : IntKind} {a b : Int} {x y : Operand} (hd : Nat.blt d n = true) (hop : isCmp op = true) (hx : Arg N x (VA.k (kint k) a)) (hy : Arg N y (VA.k (kint k) b)) :
    OpSpec P n ⟨some d, .binOp op t x y t', ty, pos, af, g⟩ N [Ent.t d (VA.k kbool (icmp op a b))] := op_pure hd fun θ S act w hN => by
  obtain ⟨_, h1⟩ := hx θ S act w hN
  obtain ⟨_, h2⟩ := hy θ S act w hN
  refine ⟨_, ?_, mk_bool _ _ _ _⟩
  have e1 := k_int h1
  have e2 := k_int h2
  clear h1 h2 hx hy hN
  generalize act.eval = ρ at *
  cases op <;> simp only [isCmp, Bool.false_eq_true] at hop <;> simp [execOp, e1, e2, guard_int, binOp, Op.intCmp, icmp, go_sem]
theorem op_add {k : IntKind} {a b : Int} {x y : Operand} (hd : Nat.blt d n = true) (hx : Arg N x (VA.k (kint k) a)) (hy : Arg N y (VA.k (kint k) b)) :
    OpSpec P n ⟨some d, .binOp .add t x y t', ty, pos, af, g⟩ N [Ent.t d (VA.k (kint k) (k.wrap (a + b)))] := op_pure hd fun θ S act w hN => by
  obtain ⟨_, h1⟩ := hx θ S act w hN
  obtain ⟨_, h2⟩ := hy θ S act w hN
  refine ⟨_, ?_, mk_int _ _ _ _ _⟩
  have e1 := k_int h1
  have e2 := k_int h2
  generalize act.eval = ρ at *
  simp [execOp, e1, e2, guard_int, binOp, Op.intArith, go_sem]
theorem op_sub {k : IntKind} {a b : Int} {x y : Operand} (hd : Nat.blt d n = true) (hx : Arg N x (VA.k (kint k) a)) (hy : Arg N y (VA.k (kint k) b)) :
    OpSpec P n ⟨some d, .binOp .sub t x y t', ty, pos, af, g⟩ N [Ent.t d (VA.k (kint k) (k.wrap (a - b)))] := op_pure hd fun θ S act w hN => by
  obtain ⟨_, h1⟩ := hx θ S act w hN
  obtain ⟨_, h2⟩ := hy θ S act w hN
  refine ⟨_, ?_, mk_int _ _ _ _ _⟩
  have e1 := k_int h1
  have e2 := k_int h2
  generalize act.eval = ρ at *
  simp [execOp, e1, e2, guard_int, binOp, Op.intArith, go_sem]
theorem op_rem {k : IntKind} {a b : Int} {x y : Operand} (hd : Nat.blt d n = true) (hb : b ≠ 0) (hx : Arg N x (VA.k (kint k) a)) (hy : Arg N y (VA.k (kint k) b)) :
    OpSpec P n ⟨some d, .binOp .rem t x y t', ty, pos, af, g⟩ N [Ent.t d (VA.k (kint k) (a.tmod b))] := op_pure hd fun θ S act w hN => by
  obtain ⟨_, h1⟩ := hx θ S act w hN
  obtain ⟨_, h2⟩ := hy θ S act w hN
  refine ⟨_, ?_, mk_int _ _ _ _ _⟩
  have e1 := k_int h1
  have e2 := k_int h2
  generalize act.eval = ρ at *
  simp [execOp, e1, e2, guard_int, binOp, Op.intDiv, hb, go_sem]
/-- Texts compared. -/
def scmp (op : BinOp) (x y : ByteArray) : Bool := match op with
  | .eql => decide (x = y) | .neq => !decide (x = y) | .lss => Op.bytesLess x.toList y.toList | .leq => Op.bytesLess x.toList y.toList || decide (x = y) | .gtr => !(Op.bytesLess x.toList y.toList || decide (x = y)) | _ => !Op.bytesLess x.toList y.toList
theorem scmp_eq (x y : ByteArray) : (x.toList == y.toList) = decide (x = y) := by
  rw [← beq_toListBytes, Bool.eq_iff_iff, decide_eq_true_iff]
  constructor
  · intro h
    rw [beq_toListBytes, beq_iff_eq, ByteArray.toList_eq, ByteArray.toList_eq] at h
    cases x; cases y
    simp only at h
    congr 1
    exact Array.toList_inj.1 h
  · rintro rfl
    rw [beq_toListBytes]; simp
theorem op_scmp {op : BinOp} {a b : ByteArray} {x y : Operand} (hd : Nat.blt d n = true) (hop : isCmp op = true) (hx : Arg N x (VA.k kstr a)) (hy : Arg N y (VA.k kstr b)) :
    OpSpec P n ⟨some d, .binOp op t x y t', ty, pos, af, g⟩ N [Ent.t d (VA.k kbool (scmp op a b))] := op_pure hd fun θ S act w hN => by
  obtain ⟨_, h1⟩ := hx θ S act w hN
  obtain ⟨_, h2⟩ := hy θ S act w hN
  refine ⟨_, ?_, mk_bool _ _ _ _⟩
  have e1 := k_str h1
  have e2 := k_str h2
  have e3 := scmp_eq a b
  clear h1 h2 hx hy hN
  generalize act.eval = ρ at *
  cases op <;> simp only [isCmp, Bool.false_eq_true] at hop <;> simp [execOp, e1, e2, guard_str, binOp, Op.stringOp, scmp, e3, go_sem, bne]
theorem op_beq {a b : Bool} {x y : Operand} (hd : Nat.blt d n = true) (ht : P.underlying t = some .bool) (hx : Arg N x (VA.k kbool a)) (hy : Arg N y (VA.k kbool b)) :
    OpSpec P n ⟨some d, .binOp .eql t x y t', ty, pos, af, g⟩ N [Ent.t d (VA.k kbool (a == b))] := op_pure hd fun θ S act w hN => by
  obtain ⟨_, h1⟩ := hx θ S act w hN
  obtain ⟨_, h2⟩ := hy θ S act w hN
  refine ⟨_, ?_, mk_bool _ _ _ _⟩
  have e1 := k_bool h1
  have e2 := k_bool h2
  clear h1 h2 hx hy hN
  generalize act.eval = ρ at *
  simp [execOp, e1, e2, guard_bool, binOp_bool_eq, binOp_bool_ne, run_eq_bool ht, Op.equal, Op.maxDepth, go_sem]
theorem op_not {a : Bool} {x : Operand} (hd : Nat.blt d n = true) (hx : Arg N x (VA.k kbool a)) :
    OpSpec P n ⟨some d, .unOp .not t x, ty, pos, af, g⟩ N [Ent.t d (VA.k kbool (!a))] := op_pure hd fun θ S act w hN => by
  obtain ⟨_, h1⟩ := hx θ S act w hN
  refine ⟨_, ?_, mk_bool _ _ _ _⟩
  have e1 := k_bool h1
  clear h1 hx hN
  generalize act.eval = ρ at *
  simp [execOp, e1, Op.unary, go_sem]
/-- A value handed on. A row of the frame's own is not handed on so. -/
theorem op_move {α : Type} {K : Kn α} {a : α} {x : Operand} (hd : Nat.blt d n = true) (hx : Arg N x (VA.k K a)) :
    OpSpec P n ⟨some d, .move x, ty, pos, af, g⟩ N [Ent.t d (VA.k K a)] := op_pure hd fun θ S act w hN => by
  obtain ⟨_, h1⟩ := hx θ S act w hN
  exact ⟨act.eval x, rfl, rfl, h1.2⟩
theorem op_assign {α : Type} {K : Kn α} {a : α} {x : Operand} (hd : Nat.blt d n = true) (hx : Arg N x (VA.k K a)) :
    OpSpec P n ⟨some d, .assign x, ty, pos, af, g⟩ N [Ent.t d (VA.k K a)] := op_pure hd fun θ S act w hN => by
  obtain ⟨_, h1⟩ := hx θ S act w hN
  exact ⟨act.eval x, rfl, rfl, h1.2⟩
/-- What holds of a value without a block of its own. -/
def Plain (A : VA) : Prop := ∀ {θ : Nat → Nat} {S : Blk} {ob : Blk} {w : World} {v : Value}, A.sem θ S ob w v → ob = bk none
theorem op_moveA {A : VA} {x : Operand} (hd : Nat.blt d n = true) (hp : Plain A) (hx : Arg N x A) :
    OpSpec P n ⟨some d, .move x, ty, pos, af, g⟩ N [Ent.t d A] := op_pure hd fun θ S act w hN => by
  obtain ⟨ob, h1⟩ := hx θ S act w hN
  obtain rfl := hp h1
  exact ⟨act.eval x, rfl, h1⟩
theorem op_assignA {A : VA} {x : Operand} (hd : Nat.blt d n = true) (hp : Plain A) (hx : Arg N x A) :
    OpSpec P n ⟨some d, .assign x, ty, pos, af, g⟩ N [Ent.t d A] := op_pure hd fun θ S act w hN => by
  obtain ⟨ob, h1⟩ := hx θ S act w hN
  obtain rfl := hp h1
  exact ⟨act.eval x, rfl, h1⟩
theorem op_len_str {a : ByteArray} {x : Operand} {at_ : Array TypeId} (hd : Nat.blt d n = true) (h0 : at_[0]? = some t) (ht : P.underlying t = some .string) (hx : Arg N x (VA.k kstr a)) :
    OpSpec P n ⟨some d, .call { callee := .builtin .len, args := #[x], argTypes := at_ }, ty, pos, af, g⟩ N [Ent.t d (VA.k (kint .i64) (a.size : Int))] := op_pure hd fun θ S act w hN => by
  obtain ⟨_, h1⟩ := hx θ S act w hN
  refine ⟨_, ?_, mk_int _ _ _ _ _⟩
  have e1 := k_str h1
  clear h1 hx hN
  generalize act.eval = ρ at *
  simp [execOp, resolve, invoke, builtin, Builtin.len_, e1, h0, run_underlying ht, go_sem, goInt]
theorem op_index_str {a : ByteArray} {i r : Int} {x y : Operand} (hd : Nat.blt d n = true) (ht : P.underlying t = some .string) (hi : bidx a i = some r) (hx : Arg N x (VA.k kstr a)) (hy : Arg N y (VA.k (kint .i64) i)) :
    OpSpec P n ⟨some d, .index t x y, ty, pos, af, g⟩ N [Ent.t d (VA.k (kint .u8) r)] := op_pure hd fun θ S act w hN => by
  obtain ⟨_, h1⟩ := hx θ S act w hN
  obtain ⟨_, h2⟩ := hy θ S act w hN
  refine ⟨_, ?_, mk_int _ _ _ _ _⟩
  unfold bidx at hi
  split at hi
  · cases hi
  · rename_i h0
    obtain ⟨b, hb, rfl⟩ := Option.map_eq_some_iff.1 hi
    have hb' : a[i.toNat]? = some b := by
      rw [← hb]
      have : a.data.toList[i.toNat]? = a.data[i.toNat]? := by simp
      rw [this]
      rfl
    have h0' : 0 ≤ i := by omega
    have e1 := k_str h1
    have e2 := k_int h2
    clear h1 h2 hx hy hN
    generalize act.eval = ρ at *
    simp [execOp, Instr.index, e1, e2, run_underlying ht, h0', hb', asIntOf, go_sem]
end
end Go.Proofs.Ytedgkcdofiildaa.Sl
/- Operations on memory: fields, boxes, elements, rows of the frame's own. -/
set_option linter.unusedVariables false
set_option linter.unusedSimpArgs false
namespace Go.Proofs.Ytedgkcdofiildaa.Sl
open Go Go.RowKit
/-- Type t's values are of kind K. -/
structure TK {α : Type} (P : Program) (t : TypeId) (K : Kn α) : Prop where
  agg : ∀ w, (isAgg t).run P w = .ok K.agg w
  size : ∀ w, (sizeOf t).run P w = .ok K.sz w
  flat : K.agg = false → K.sz = 1
  pos : 0 < K.sz
def aggD : TypeDesc → Bool | .struct _ | .array _ _ => true | _ => false
theorem tk_of {α : Type} {P : Program} {t : TypeId} {K : Kn α} {d : TypeDesc} {i : TypeInfo} (h : P.underlying t = some d) (hi : P.info? t = some i) (ha : aggD d = K.agg) (hs : i.size = K.sz) (hf : K.agg = false → K.sz = 1) (hp : 0 < K.sz) : TK P t K where
  agg := fun w => by
    unfold isAgg
    rw [Sem.run_bind, run_underlying h, Result.andThen_ok, ← ha]
    cases d <;> rfl
  size := fun w => by
    unfold sizeOf typeInfo
    simp [Sem.run_bind, hi, hs]
  flat := hf
  pos := hp
/-- A part of a value, from cell off on. -/
structure Fld {α β : Type} (K : Kn α) (off : Nat) (K' : Kn β) (get : α → β) (set : α → β → α) : Prop where
  get : ∀ {S : Blk} {w : World} {x : α} {cs : List Value}, K.R S w x cs → K'.R S w (get x) ((cs.drop off).take K'.sz)
  set : ∀ {S : Blk} {w : World} {x : α} {cs : List Value} {y : β} {c : List Value}, K.R S w x cs → K'.R S w y c → K.R S w (set x y) (cs.take off ++ c ++ cs.drop (off + K'.sz))
  le : off + K'.sz ≤ K.sz
theorem Fld.whole {α : Type} (K : Kn α) : Fld K 0 K (fun x => x) (fun _ y => y) where
  get := fun {S w x cs} h => by rw [List.drop_zero, List.take_of_length_le (by rw [K.len h]; exact Nat.le_refl _)]; exact h
  set := fun {S w x cs y c} h h' => by
    have e : cs.drop (0 + K.sz) = [] := List.drop_eq_nil_of_le (by rw [K.len h]; omega)
    rw [e, List.take_zero, List.nil_append, List.append_nil]; exact h'
  le := by omega
theorem Fld.fst {α β : Type} (a : Kn α) (b : Kn β) : Fld (kpair a b) 0 a (·.1) (fun x y => (y, x.2)) where
  get := by
    rintro S w x cs ⟨c0, c1, rfl, h0, h1⟩
    rw [List.drop_zero, List.take_append_of_le_length (by rw [a.len h0]; exact Nat.le_refl _), List.take_of_length_le (by rw [a.len h0]; exact Nat.le_refl _)]
    exact h0
  set := by
    rintro S w x cs y c ⟨c0, c1, rfl, h0, h1⟩ hy
    refine ⟨c, c1, ?_, hy, h1⟩
    rw [List.take_zero, List.nil_append, Nat.zero_add, ← a.len h0, List.drop_left]
  le := by show 0 + a.sz ≤ a.sz + b.sz; omega
theorem drop_app (a b : List Value) (k : Nat) : (a ++ b).drop (a.length + k) = b.drop k := by
  rw [List.drop_append, List.drop_eq_nil_of_le (by omega), List.nil_append]; congr 1; omega
theorem take_app (a b : List Value) (k : Nat) : (a ++ b).take (a.length + k) = a ++ b.take k := by
  rw [List.take_append, List.take_of_length_le (by omega)]; congr 2; omega
theorem Fld.snd {α β γ : Type} {a : Kn α} {b : Kn β} {off : Nat} {K' : Kn γ} {get : β → γ} {set : β → γ → β} (h : Fld b off K' get set) : Fld (kpair a b) (a.sz + off) K' (fun x => get x.2) (fun x y => (x.1, set x.2 y)) where
  get := by
    rintro S w x cs ⟨c0, c1, rfl, h0, h1⟩
    have := h.get h1
    rw [show (c0 ++ c1).drop (a.sz + off) = c1.drop off by rw [← a.len h0, drop_app]]
    exact this
  set := by
    rintro S w x cs y c ⟨c0, c1, rfl, h0, h1⟩ hy
    refine ⟨c0, _, ?_, h0, h.set h1 hy⟩
    rw [show (c0 ++ c1).take (a.sz + off) = c0 ++ c1.take off by rw [← a.len h0, take_app], show (c0 ++ c1).drop (a.sz + off + K'.sz) = c1.drop (off + K'.sz) by rw [← a.len h0, Nat.add_assoc, drop_app]]
    simp
  le := by have := h.le; show a.sz + off + K'.sz ≤ a.sz + b.sz; omega
theorem Fld.iso {α β γ : Type} {d : Kn α} {f : β → α} {off : Nat} {K' : Kn γ} {get : α → γ} {set : α → γ → α} (h : Fld d off K' get set) (get' : β → γ) (set' : β → γ → β) (hg : ∀ x, get (f x) = get' x) (hs : ∀ x y, f (set' x y) = set (f x) y) : Fld (kiso d f) off K' get' set' where
  get := fun {S w x cs} hx => by
    have h1 : d.R S w (f x) cs := hx
    have := h.get h1
    rw [hg] at this; exact this
  set := fun {S w x cs y c} hx hy => by
    have h1 : d.R S w (f x) cs := hx
    have := h.set h1 hy
    rw [← hs] at this; exact this
  le := h.le
theorem k_cells {α : Type} {K : Kn α} {θ : Nat → Nat} {S : Blk} {ob : Blk} {w : World} {x : α} {v : Value} (h : (VA.k K x).sem θ S ob w v) (hf : K.agg = false → K.sz = 1) : ∃ cs, K.R S w x cs ∧ v = K.mk_ cs ∧ v.cells.toList = cs := by
  obtain ⟨_, cs, h1, rfl⟩ := h
  refine ⟨cs, h1, rfl, ?_⟩
  have hl := K.len h1
  have ho := K.one h1
  unfold Kn.mk_
  cases hk : K.agg with
  | true => simp [Value.cells]
  | false =>
    rw [hf hk] at hl
    match cs, hl, ho with
    | [u], _, ho =>
      have h2 := ho u (by simp)
      cases u <;> simp_all [Value.cells, Value.oneCell']
end Go.Proofs.Ytedgkcdofiildaa.Sl
/- Boxes: made, read, written; elements of rows that are read. -/
set_option linter.unusedVariables false
set_option linter.unusedSimpArgs false
namespace Go.Proofs.Ytedgkcdofiildaa.Sl
open Go Go.RowKit
theorem add_add (b o k : Nat) : (⟨b, o, none⟩ : Addr).add k = ⟨b, o + k, none⟩ := by unfold Addr.add; split <;> simp_all
theorem run_loadVar_at {α : Type} {P : Program} {t : TypeId} {K : Kn α} (hk : TK P t K) {w : World} {ad : Addr} {cs : List Value} (hl : cs.length = K.sz) (hc : ∀ i u, cs[i]? = some u → w.cell? (ad.add i) = some u) : (loadVar t ad).run P w = .ok (K.mk_ cs) w := by
  unfold loadVar Kn.mk_
  cases ha : K.agg with
  | true =>
    have := run_loadCells_list (P := P) w ad cs hc
    rw [hl] at this
    simp [Sem.run_bind, hk.agg, hk.size, ha, this]
  | false =>
    have h1 := hk.flat ha
    rw [h1] at hl
    match cs, hl with
    | [u], _ =>
      have h2 := hc 0 u rfl
      rw [show ad.add 0 = ad by simp [Addr.add]] at h2
      simp [Sem.run_bind, hk.agg, ha, run_load, h2]
theorem run_storeVar_at {α : Type} {P : Program} {t e : TypeId} {K : Kn α} (hk : TK P t K) {w : World} {b off : Nat} {v : Value} {cur : Array Value} (hv : v.cells.size = K.sz) (h1 : ∀ u, u ∈ v.cells.toList → u.oneCell' = true) (hg : w.heap[b]? = some (.cells cur e (0, 0))) (hle : off + K.sz ≤ cur.size) :
    (storeVar t ⟨b, off, none⟩ v).run P w = .ok () (w.setRow b (cur.toList.take off ++ v.cells.toList ++ cur.toList.drop (off + K.sz)).toArray) := by
  have := run_storeCells_at (P := P) b off e v.cells.toList 0 cur w hg (by simp; omega) h1
  simp only [Nat.add_zero, Array.length_toList, hv] at this
  unfold storeVar
  simp [Sem.run_bind, hk.size, hv, this]
section
variable {P : Program} {n d : Nat} {ty t t' : TypeId} {pos : String} {af : Array Edge} {g : Option (Nat × Bool)} {N : Ent → Prop}
theorem op_load {α β : Type} {id off : Nat} {e : TypeId} {K : Kn α} {K' : Kn β} {x : α} {get : α → β} {set : α → β → α} {o : Operand} (hd : Nat.blt d n = true) (hF : Fld K off K' get set) (hk : TK P t K') (hp : Arg N o (VA.ptr id off)) (hb : N (Ent.h id (HE.box e K x))) :
    OpSpec P n ⟨some d, .load t o, ty, pos, af, g⟩ N [Ent.t d (VA.k K' (get x))] := op_pure hd fun θ S act w hN => by
  obtain ⟨_, _, e1⟩ := hp θ S act w hN
  obtain ⟨_, _, cs, hc, hr⟩ := hN _ hb
  have hg := hF.get hr
  have hl := run_loadVar_at (w := w) (ad := ⟨θ id, off, none⟩) hk (K'.len hg) (fun i u hu => by
    rw [add_add, cell_of_row w (θ id) (off + i) cs e (0, 0) hc]
    rw [List.getElem?_take] at hu
    split at hu
    · rw [List.getElem?_drop] at hu
      simpa using hu
    · cases hu)
  refine ⟨_, ?_, rfl, _, hg, rfl⟩
  clear hp hN
  generalize act.eval = ρ at *
  simp [execOp, Instr.loadAt, Instr.sureAddr, e1, hl, Sem.run_bind, Sem.run_pure, Result.andThen_ok]
theorem op_fieldAddr {β : Type} {id off : Nat} {K' : Kn β} {o : Operand} {fs : Array Field} {f : Field} {j : Nat} (hd : Nat.blt d n = true) (hu : P.underlying t = some (.struct fs)) (hf : fs[j]? = some f) (hk : TK P f.type K') (hp : Arg N o (VA.ptr id off)) :
    OpSpec P n ⟨some d, .fieldAddr t o j, ty, pos, af, g⟩ N [Ent.t d (VA.ptr id (off + f.offset))] := op_pure hd fun θ S act w hN => by
  obtain ⟨_, _, e1⟩ := hp θ S act w hN
  refine ⟨_, ?_, rfl, rfl⟩
  have hpos := hk.pos
  clear hp hN
  generalize act.eval = ρ at *
  simp [execOp, Instr.fieldAt, Instr.sureAddr, e1, run_underlying hu, hf, fieldPlace, hk.size, Nat.pos_iff_ne_zero.1 hpos, add_add, Sem.run_bind, Sem.run_pure, Result.andThen_ok]
theorem SOk.grow {c : Ctx} {S : Blk} {w w' : World} (h : SOk c S w) (hs : w.heap.size ≤ w'.heap.size) : SOk c S w' := fun b hb => ⟨by have := (h b hb).1; omega, (h b hb).2⟩
theorem Fr.alloc {X : List Nat} {w0 w : World} (h : Fr X w0 w) (o : Obj) : Fr X w0 (w.alloc o) :=
  h.trans ⟨rfl, rfl, rfl, by simp, fun k hk _ => Below.heap_alloc _ _ _ hk⟩
theorem agree_alloc {c : Ctx} {S : Blk} {w : World} (h : SOk c S w) (o : Obj) : Agree S w (w.alloc o) := fun b hb => Below.heap_alloc _ _ _ (h b hb).1
/-- A box is made; θ names its block. -/
theorem inv_new {c : Ctx} {Γ : List Ent} {a : Act} {w : World} {d id : Nat} {H : HE} {θ : Nat → Nat} {S : Blk} {o : Obj} {v : Value} (hd : Nat.blt d c.n = true) (h1 : a.defers = c.df) (h2 : a.tmps.size = c.n ∧ c.n ≤ 1000000) (h3 : Fr c.X c.w0 w) (h4 : SOk c S w)
    (h5 : sat θ S a w [] Γ (free c S w)) (A : VA) (hA : ∀ θ' : Nat → Nat, θ' id = w.heap.size → A.sem θ' S (bk none) (w.alloc o) v) (hH : ∀ θ' : Nat → Nat, θ' id = w.heap.size → (∀ k, k ≠ id → θ' k = θ k) → H.sem θ' w.heap.size S (w.alloc o)) :
    Inv c ([Ent.t d A, Ent.h id H, Ent.bind id] ++ Γ) (a.put (some d) v) (w.alloc o) := by
  have hdn := blt_lt hd
  obtain ⟨h2, hn⟩ := h2
  refine ⟨by rw [put_defers]; exact h1, ⟨by rw [put_size]; exact h2, hn⟩, h3.alloc o, (fun k => if k = id then w.heap.size else θ k), S, h4.grow (by simp), ?_⟩
  refine sat_consK (dead_nil _) ?_ (sat_consB (b := w.heap.size) ?_ ?_ ?_ (sat_consK ?_ rfl ?_))
  · show A.sem _ S (bk none) _ ((a.put (some d) _).tmps.getD d undef)
    rw [put_getD_self (by omega)]
    exact hA _ (by simp)
  · refine dead_iff (fun k hk => ?_)
    simp only [Ent.t, List.mem_singleton] at hk
    simp only [Ent.deps, Ent.h, List.map_cons, List.nil_append, List.mem_cons, List.mem_map]
    rintro (h | h | ⟨x, _, h⟩) <;> omega
  · refine ⟨by simp, ?_⟩
    show H.sem _ (if id = id then w.heap.size else θ id) S (w.alloc o)
    rw [if_pos rfl]
    exact hH _ (by simp) (fun k hk => by simp [hk])
  · refine ⟨fun hS => ?_, by simp, .inl h3.size⟩
    have := (h4 _ hS).1
    omega
  · refine dead_iff (fun k hk => ?_)
    simp only [Ent.t, Ent.h, List.mem_cons, List.not_mem_nil, or_false] at hk
    simp only [Ent.deps, Ent.bind, List.map_nil, List.nil_append, List.mem_cons, List.not_mem_nil, or_false]
    omega
  · refine sat_mono (sat_move (ks := [1000000 + id, 2000000 + id, d]) (sat_mono h5 (fun k hk => by cases hk) (fun b hb => hb)) (agree_alloc h4 o) (fun b hb => hb) (fun b hb => Below.heap_alloc _ _ _ hb.2.1) (fun t ht => put_getD_ne (fun e => ht (by simp [e]))) (fun k hk => ?_)) (fun k hk => hk) (fun b hb => ?_)
    · have : k ≠ id := fun e => hk (by simp [e])
      simp [this]
    · exact ⟨⟨hb.1, by have := hb.2.1; simp; omega, hb.2.2⟩, by have := hb.2.1; omega⟩
theorem inv_box {c : Ctx} {Γ : List Ent} {a : Act} {w : World} {d id : Nat} {H : HE} {θ : Nat → Nat} {S : Blk} {o : Obj} (hd : Nat.blt d c.n = true) (h1 : a.defers = c.df) (h2 : a.tmps.size = c.n ∧ c.n ≤ 1000000) (h3 : Fr c.X c.w0 w) (h4 : SOk c S w)
    (h5 : sat θ S a w [] Γ (free c S w)) (A : VA) (hA : ∀ θ' : Nat → Nat, θ' id = w.heap.size → A.sem θ' S (bk none) (w.alloc o) (.pointer (some ⟨w.heap.size, 0, none⟩))) (hH : ∀ θ' : Nat → Nat, θ' id = w.heap.size → (∀ k, k ≠ id → θ' k = θ k) → H.sem θ' w.heap.size S (w.alloc o)) :
    Inv c ([Ent.t d A, Ent.h id H, Ent.bind id] ++ Γ) (a.put (some d) (.pointer (some ⟨w.heap.size, 0, none⟩))) (w.alloc o) := inv_new hd h1 h2 h3 h4 h5 A hA hH
theorem op_box {α : Type} {e : TypeId} {K : Kn α} {x : α} {o : Operand} (id : Nat) (hd : Nat.blt d n = true) (hf : K.agg = false → K.sz = 1) (hx : Arg N o (VA.k K x)) :
    OpSpec P n ⟨some d, .box e o, ty, pos, af, g⟩ N [Ent.t d (VA.ptr id 0), Ent.h id (HE.box e K x), Ent.bind id] := by
  rintro c Γ a w Q rfl hN ⟨h1, h2, h3, θ, S, h4, h5⟩
  obtain ⟨_, hv⟩ := hx θ S a w (sems hN h5)
  obtain ⟨cs, hr, _, hc⟩ := k_cells hv hf
  have hrun : (execOp a.eval ⟨some d, .box e o, ty, pos, af, g⟩).run P w = .ok (.value (.pointer (some ⟨w.heap.size, 0, none⟩))) (w.alloc (.cells (a.eval o).cells e)) := by
    clear hv hN hx h1 h2 h5
    generalize a.eval = ρ at *
    simp [execOp, Instr.box, newVar, newRow, newObj, Sem.run_bind, Sem.run_pure, Result.andThen_ok]
    rfl
  unfold Oper.wp
  rw [hrun]
  refine inv_box hd h1 h2 h3 h4 h5 _ (fun θ' h => ⟨rfl, by rw [h]⟩) (fun θ' _ _ => ⟨_, heap_alloc_new w _, ?_⟩)
  rw [hc]
  exact K.move hr (agree_alloc h4 _) (fun b hb => hb)
end
end Go.Proofs.Ytedgkcdofiildaa.Sl
/- Boxes written; elements of rows that are read; lengths; parts of rows. -/
set_option linter.unusedVariables false
set_option linter.unusedSimpArgs false
namespace Go.Proofs.Ytedgkcdofiildaa.Sl
open Go Go.RowKit
/-- A pointer to something that is only read. -/
def VA.pt {α : Type} (K : Kn α) (y : α) : VA where
  ids := []
  sem := fun _ S ob w v => ob = bk none ∧ ∃ ad, v = .pointer (some ad) ∧ S ad.block ∧ ∃ cs, K.R S w y cs ∧ ∀ i u, cs[i]? = some u → w.cell? (ad.add i) = some u
  move := by
    rintro θ θ' S S' ob w w' v ⟨h0, ad, h1, h2, cs, h3, h4⟩ hA hS _ _
    refine ⟨h0, ad, h1, hS _ h2, cs, K.move h3 hA hS, fun i u hi => ?_⟩
    rw [World.cell?_of_block (w := w) (w' := w') (by rw [show (ad.add i).block = ad.block by unfold Addr.add; split <;> rfl]; exact hA _ h2)]
    exact h4 i u hi
section
variable {P : Program} {n d : Nat} {ty t t' : TypeId} {pos : String} {af : Array Edge} {g : Option (Nat × Bool)} {N : Ent → Prop}
theorem op_loadp {α : Type} {K : Kn α} {x : α} {o : Operand} (hd : Nat.blt d n = true) (hk : TK P t K) (hp : Arg N o (VA.pt K x)) :
    OpSpec P n ⟨some d, .load t o, ty, pos, af, g⟩ N [Ent.t d (VA.k K x)] := op_pure hd fun θ S act w hN => by
  obtain ⟨_, _, ad, e1, _, cs, hr, hc⟩ := hp θ S act w hN
  have hl := run_loadVar_at (w := w) (ad := ad) hk (K.len hr) hc
  refine ⟨_, ?_, rfl, _, hr, rfl⟩
  clear hp hN
  generalize act.eval = ρ at *
  simp [execOp, Instr.loadAt, Instr.sureAddr, e1, hl, Sem.run_bind, Sem.run_pure, Result.andThen_ok]
theorem op_fieldAddrp {α β : Type} {K : Kn α} {K' : Kn β} {x : α} {get : α → β} {set : α → β → α} {o : Operand} {fs : Array Field} {f : Field} {j : Nat} (hd : Nat.blt d n = true) (hF : Fld K f.offset K' get set) (hu : P.underlying t = some (.struct fs)) (hf : fs[j]? = some f) (hk : TK P f.type K') (hp : Arg N o (VA.pt K x)) :
    OpSpec P n ⟨some d, .fieldAddr t o j, ty, pos, af, g⟩ N [Ent.t d (VA.pt K' (get x))] := op_pure hd fun θ S act w hN => by
  obtain ⟨_, _, ad, e1, hs, cs, hr, hc⟩ := hp θ S act w hN
  have hpos := hk.pos
  have hl := K.len hr
  refine ⟨.pointer (some (ad.add f.offset)), ?_, rfl, ad.add f.offset, rfl, ?_, _, hF.get hr, fun i u hu => ?_⟩
  · clear hp hN
    generalize act.eval = ρ at *
    simp [execOp, Instr.fieldAt, Instr.sureAddr, e1, run_underlying hu, hf, fieldPlace, hk.size, Nat.pos_iff_ne_zero.1 hpos, Sem.run_bind, Sem.run_pure, Result.andThen_ok]
  · rw [show (ad.add f.offset).block = ad.block by unfold Addr.add; split <;> rfl]; exact hs
  · rw [Addr.add_add]
    refine hc _ _ ?_
    rw [List.getElem?_take] at hu
    split at hu
    · rw [List.getElem?_drop] at hu; exact hu
    · cases hu
theorem k_slice {α : Type} {K : Kn α} {θ : Nat → Nat} {S : Blk} {ob : Blk} {w : World} {xs : List α} {v : Value} (h : (VA.k (kslice K) xs).sem θ S ob w v) : ∃ A c, v = .slice A xs.length c ∧ xs.length ≤ c ∧ c ≤ maxLen ∧ Row K S w A xs := by
  obtain ⟨_, cs, ⟨A, c, rfl, h1, h2, h3⟩, rfl⟩ := h
  exact ⟨A, c, rfl, h1, h2, h3⟩
theorem mk_slice {α : Type} {K : Kn α} {θ : Nat → Nat} {S : Blk} {w : World} {xs : List α} {A : Option Addr} {m c : Nat} (hn : xs.length = m) (h1 : m ≤ c) (h2 : c ≤ maxLen) (hr : Row K S w A xs) : (VA.k (kslice K) xs).sem θ S (bk none) w (.slice A m c) :=
  ⟨rfl, [.slice A m c], ⟨A, c, by rw [hn], by omega, h2, hr⟩, rfl⟩
theorem idx_spec {α : Type} {l : List α} {i : Int} {x : α} (h : idx l i = some x) : 0 ≤ i ∧ i < l.length ∧ l[i.toNat]? = some x := by
  unfold idx at h
  split at h
  · cases h
  · have := (List.getElem?_eq_some_iff.1 h).1
    exact ⟨by omega, by omega, h⟩
theorem op_indexAddr {α : Type} {K : Kn α} {xs : List α} {x : α} {i : Int} {o y : Operand} {e : TypeId} (hd : Nat.blt d n = true) (hu : P.underlying t = some (.slice e)) (hk : TK P e K) (hi : idx xs i = some x) (ho : Arg N o (VA.k (kslice K) xs)) (hy : Arg N y (VA.k (kint .i64) i)) :
    OpSpec P n ⟨some d, .indexAddr t o y, ty, pos, af, g⟩ N [Ent.t d (VA.pt K x)] := op_pure hd fun θ S act w hN => by
  obtain ⟨_, h1⟩ := ho θ S act w hN
  obtain ⟨_, h2⟩ := hy θ S act w hN
  obtain ⟨A, c, e1, _, _, hr⟩ := k_slice h1
  have e2 := k_int h2
  obtain ⟨i0, i1, i2⟩ := idx_spec hi
  obtain ⟨ad, rfl, hs, hel⟩ := hr (by omega)
  obtain ⟨cs, hc1, hc2⟩ := hel _ _ i2
  refine ⟨.pointer (some (ad.add (i.toNat * K.sz))), ?_, rfl, _, rfl, ?_, cs, hc1, fun j u hj => ?_⟩
  · clear h1 h2 ho hy hN
    generalize act.eval = ρ at *
    simp [execOp, Instr.indexAt, e1, e2, run_underlying hu, asIntOf, i0, i1, hk.size, Sem.run_bind, Sem.run_pure, Result.andThen_ok]
  · rw [show (ad.add (i.toNat * K.sz)).block = ad.block by unfold Addr.add; split <;> rfl]; exact hs
  · rw [Addr.add_add]; exact hc2 j u hj
theorem op_len {α : Type} {K : Kn α} {xs : List α} {x : Operand} {at_ : Array TypeId} {e : TypeId} (hd : Nat.blt d n = true) (h0 : at_[0]? = some t) (ht : P.underlying t = some (.slice e)) (hx : Arg N x (VA.k (kslice K) xs)) :
    OpSpec P n ⟨some d, .call { callee := .builtin .len, args := #[x], argTypes := at_ }, ty, pos, af, g⟩ N [Ent.t d (VA.k (kint .i64) (xs.length : Int))] := op_pure hd fun θ S act w hN => by
  obtain ⟨_, h1⟩ := hx θ S act w hN
  obtain ⟨A, c, e1, _⟩ := k_slice h1
  refine ⟨_, ?_, mk_int _ _ _ _ _⟩
  clear h1 hx hN
  generalize act.eval = ρ at *
  simp [execOp, resolve, invoke, builtin, Builtin.len_, e1, h0, run_underlying ht, goInt, Sem.run_bind, Sem.run_pure, Result.andThen_ok]
theorem own_slice {α : Type} {e : TypeId} {K : Kn α} {θ : Nat → Nat} {S : Blk} {ob : Blk} {w : World} {xs : List α} {v : Value} (h : (VA.own e K xs).sem θ S ob w v) : ∃ A c, v = .slice A xs.length c := by
  obtain ⟨_, inner, ho, _⟩ := h
  rcases ho.2 with ⟨rfl, h0⟩ | ⟨g, cap, cur, rfl, _⟩
  · exact ⟨none, 0, by rw [h0]⟩
  · exact ⟨_, _, rfl⟩
theorem op_len_own {α : Type} {K : Kn α} {xs : List α} {x : Operand} {at_ : Array TypeId} {e q : TypeId} (hd : Nat.blt d n = true) (h0 : at_[0]? = some t) (ht : P.underlying t = some (.slice e)) (hx : Arg N x (VA.own q K xs)) :
    OpSpec P n ⟨some d, .call { callee := .builtin .len, args := #[x], argTypes := at_ }, ty, pos, af, g⟩ N [Ent.t d (VA.k (kint .i64) (xs.length : Int))] := op_pure hd fun θ S act w hN => by
  obtain ⟨_, h1⟩ := hx θ S act w hN
  obtain ⟨A, c, e1⟩ := own_slice h1
  refine ⟨_, ?_, mk_int _ _ _ _ _⟩
  clear h1 hx hN
  generalize act.eval = ρ at *
  simp [execOp, resolve, invoke, builtin, Builtin.len_, e1, h0, run_underlying ht, goInt, Sem.run_bind, Sem.run_pure, Result.andThen_ok]
/-- x[lo:hi] with both bounds given as the model sees them. -/
def sub {α : Type} (l : List α) (lo hi : Int) : Option (List α) := if 0 ≤ lo ∧ lo ≤ hi ∧ hi ≤ l.length then some ((l.drop lo.toNat).take (hi - lo).toNat) else none
theorem Row.sub {α : Type} {K : Kn α} {S : Blk} {w : World} {A : Option Addr} {xs : List α} (h : Row K S w A xs) (l m : Nat) (hlm : l + m ≤ xs.length) : Row K S w (A.map (·.add (l * K.sz))) ((xs.drop l).take m) := fun h0 => by
  have hlen : ((xs.drop l).take m).length = m := by simp; omega
  rw [hlen] at h0
  obtain ⟨ad, rfl, hs, hr⟩ := h (by omega)
  refine ⟨ad.add (l * K.sz), rfl, ?_, fun j p hj => ?_⟩
  · rw [show (ad.add (l * K.sz)).block = ad.block by unfold Addr.add; split <;> rfl]; exact hs
  · rw [List.getElem?_take] at hj
    split at hj
    · rw [List.getElem?_drop] at hj
      obtain ⟨cs, h1, h2⟩ := hr _ _ hj
      refine ⟨cs, h1, fun i u hi => ?_⟩
      rw [Addr.add_add, ← h2 i u hi]
      congr 2
      rw [Nat.add_mul]; omega
    · cases hj
def Bnd (N : Ent → Prop) (o : Option Operand) (x : Option Int) : Prop := match o, x with
  | none, none => True
  | some y, some i => Arg N y (VA.k (kint .i64) i)
  | _, _ => False
def SBnd (ρ : Operand → Value) (o : Option Operand) (x : Option Int) : Prop := o.map ρ = x.map fun i => .int .i64 i
theorem Bnd.run {o : Option Operand} {x : Option Int} (h : Bnd N o x) {θ : Nat → Nat} {S : Blk} {a : Act} {w : World} (hN : ∀ e, N e → ∃ ob, e.sem θ S ob a w) : SBnd a.eval o x := by
  cases o <;> cases x <;> simp only [Bnd] at h
  · rfl
  · obtain ⟨_, h1⟩ := h θ S a w hN
    simp [SBnd, k_int h1]
theorem run_sliceBounds {isS : Bool} {len cap : Nat} {lo hi : Option Int} (w : World) (h1 : 0 ≤ lo.getD 0) (h2 : lo.getD 0 ≤ hi.getD len) (h3 : hi.getD len ≤ cap) (hlen : len ≤ cap) :
    (Instr.sliceBounds isS len cap (lo.map (Value.int .i64)) (hi.map (Value.int .i64)) none).run P w = .ok ((lo.getD 0).toNat, (hi.getD len).toNat, cap) w := by
  cases lo with
  | none =>
    cases hi with
    | none => simp [Instr.sliceBounds, Sem.run_bind, Sem.run_pure, Result.andThen_ok]
    | some h =>
      simp only [Option.getD_some, Option.getD_none] at h1 h2 h3
      simp [Instr.sliceBounds, Instr.sliceBound, asIntOf, h2, h3, Sem.run_bind, Sem.run_pure, Result.andThen_ok]
  | some l =>
    cases hi with
    | none =>
      simp only [Option.getD_some, Option.getD_none] at h1 h2 h3
      simp [Instr.sliceBounds, Instr.sliceBound, asIntOf, h1, h2, h3, Sem.run_bind, Sem.run_pure, Result.andThen_ok]
    | some h =>
      simp only [Option.getD_some, Option.getD_none] at h1 h2 h3
      have h4 : 0 ≤ h := by omega
      have h5 : l ≤ (h.toNat : Int) := by omega
      simp [Instr.sliceBounds, Instr.sliceBound, asIntOf, h1, h3, h4, h5, Sem.run_bind, Sem.run_pure, Result.andThen_ok]
      intro hm
      omega
theorem sub_spec {α : Type} {l r : List α} {lo hi : Int} (h : sub l lo hi = some r) : 0 ≤ lo ∧ lo ≤ hi ∧ hi ≤ l.length ∧ r = (l.drop lo.toNat).take (hi - lo).toNat ∧ (r.length : Int) = hi - lo := by
  unfold sub at h
  split at h
  · rename_i hc
    cases h
    refine ⟨hc.1, hc.2.1, hc.2.2, rfl, ?_⟩
    simp; omega
  · cases h
theorem op_slice {α : Type} {K : Kn α} {xs r : List α} {o : Operand} {lo hi : Option Operand} {l h : Option Int} {e : TypeId} (hd : Nat.blt d n = true) (hu : P.underlying t = some (.slice e)) (hk : TK P e K) (hs : sub xs (l.getD 0) (h.getD xs.length) = some r) (ho : Arg N o (VA.k (kslice K) xs)) (hl : Bnd N lo l) (hh : Bnd N hi h) :
    OpSpec P n ⟨some d, .slice t o lo hi none, ty, pos, af, g⟩ N [Ent.t d (VA.k (kslice K) r)] := op_pure hd fun θ S act w hN => by
  obtain ⟨_, h1⟩ := ho θ S act w hN
  obtain ⟨A, c, e1, hc, hm, hr⟩ := k_slice h1
  have e2 := hl.run hN
  have e3 := hh.run hN
  obtain ⟨s1, s2, s3, rfl, s5⟩ := sub_spec hs
  have hb := run_sliceBounds (P := P) (isS := true) (len := xs.length) (cap := c) w s1 s2 (by omega) hc
  have hrow : Row K S w (if c = (l.getD 0).toNat then A else A.map (·.add ((l.getD 0).toNat * K.sz))) ((xs.drop (l.getD 0).toNat).take (h.getD xs.length - l.getD 0).toNat) := by
    split
    · intro h0
      simp at h0
      omega
    · exact hr.sub _ _ (by omega)
  refine ⟨.slice (if c = (l.getD 0).toNat then A else A.map (·.add ((l.getD 0).toNat * K.sz))) ((h.getD xs.length).toNat - (l.getD 0).toNat) (c - (l.getD 0).toNat), ?_, mk_slice ?_ ?_ ?_ hrow⟩
  · clear h1 ho hN hl hh
    generalize act.eval = ρ at *
    simp only [SBnd] at e2 e3
    simp [execOp, Instr.sliceAt, Instr.slice, e1, e2, e3, run_underlying hu, hb, hk.size, Sem.run_bind, Sem.run_pure, Result.andThen_ok]
  · simp; omega
  · omega
  · omega
end
end Go.Proofs.Ytedgkcdofiildaa.Sl
/- Stores; struct values built; rows of the frame's own: made, appended to, settled. -/
set_option linter.unusedVariables false
set_option linter.unusedSimpArgs false
namespace Go.Proofs.Ytedgkcdofiildaa.Sl
open Go Go.RowKit
theorem setRow_size (w : World) (b : Nat) (cs : Array Value) : (w.setRow b cs).heap.size = w.heap.size := by simp [World.setRow]
theorem setRow_ne (w : World) (b k : Nat) (cs : Array Value) (h : k ≠ b) : (w.setRow b cs).heap[k]? = w.heap[k]? := setRow_other w b k cs h
theorem Fr.setRow {c : Ctx} {w : World} (h : Fr c.X c.w0 w) {b : Nat} (hb : c.w0.heap.size ≤ b ∨ b ∈ c.X) (cs : Array Value) : Fr c.X c.w0 (w.setRow b cs) :=
  ⟨h.os, h.tape, h.output, by rw [setRow_size]; exact h.size, fun k hk hx => (setRow_ne w b k cs (by rintro rfl; rcases hb with hb | hb; omega; exact hx hb)).trans (h.block k hk hx)⟩
section
variable {P : Program} {n d : Nat} {ty t t' : TypeId} {pos : String} {af : Array Edge} {g : Option (Nat × Bool)} {N : Ent → Prop}
theorem op_store {α β : Type} {id off : Nat} {e : TypeId} {K : Kn α} {K' : Kn β} {x : α} {y : β} {get : α → β} {set : α → β → α} {o z : Operand} (hF : Fld K off K' get set) (hk : TK P t K') (hp : Arg N o (VA.ptr id off)) (hb : N (Ent.h id (HE.box e K x))) (hz : Arg N z (VA.k K' y)) :
    OpSpec P n ⟨none, .store t o z, ty, pos, af, g⟩ N [Ent.h id (HE.box e K (set x y))] := by
  rintro c Γ a w Q rfl hN ⟨h1, h2, h3, θ, S, h4, h5⟩
  have hN2 := sems hN h5
  obtain ⟨_, _, e1⟩ := hp θ S a w hN2
  obtain ⟨_, hv⟩ := hz θ S a w hN2
  obtain ⟨cv, hr', _, hcv⟩ := k_cells hv hk.flat
  obtain ⟨ob, ⟨rfl, cs, hc, hr⟩, hav, h6⟩ := sat_take (hN _ hb) h5
  have hfree := hav _ rfl
  have hlen := K.len hr
  have hle := hF.le
  have hvs : (a.eval z).cells.size = K'.sz := by rw [← Array.length_toList, hcv]; exact K'.len hr'
  have hst := run_storeVar_at (P := P) (b := θ id) (off := off) (v := a.eval z) hk hvs (by rw [hcv]; exact K'.one hr') hc (by rw [← Array.length_toList, hlen]; exact hle)
  rw [hcv] at hst
  have hrun : (execOp a.eval ⟨none, .store t o z, ty, pos, af, g⟩).run P w = .ok .skip (w.setRow (θ id) (cs.toList.take off ++ cv ++ cs.toList.drop (off + K'.sz)).toArray) := by
    clear hv hN hN2 hp hz h1 h2 h5 h6 hcv hvs
    generalize a.eval = ρ at *
    simp [execOp, Instr.storeAt, Instr.sureAddr, e1, hst, Sem.run_bind, Sem.run_pure, Result.andThen_ok]
  unfold Oper.wp
  rw [hrun]
  have hne : ∀ b, S b → b ≠ θ id := fun b hs e => hfree.1 (e ▸ hs)
  have hag : Agree S w (w.setRow (θ id) (cs.toList.take off ++ cv ++ cs.toList.drop (off + K'.sz)).toArray) := fun b hs => setRow_ne _ _ _ _ (hne b hs)
  show Inv c _ (a.put none undef) _
  refine ⟨h1, h2, h3.setRow hfree.2.2 _, θ, S, h4.grow (by rw [setRow_size]; exact Nat.le_refl _), ?_⟩
  refine sat_consB (b := θ id) (dead_nil _) ?_ ⟨hfree.1, by rw [setRow_size]; exact hfree.2.1, hfree.2.2⟩ ?_
  · exact ⟨rfl, _, setRow_heap w _ _ _ e (0, 0) hc, by simpa using K.move (hF.set hr hr') hag (fun b hb => hb)⟩
  · refine sat_mono (sat_move h6 hag (fun b hb => hb) (fun b hb => setRow_ne _ _ _ _ (fun e => hb.2 (by rw [e]))) (fun t _ => rfl) (fun k _ => rfl)) (fun k hk => hk) (fun b hb => ⟨⟨hb.1.1, by rw [setRow_size]; exact hb.1.2.1, hb.1.2.2⟩, fun e => hb.2 (by rw [e])⟩)
end
/-! ### the frame's own rows -/
theorem own_block {α : Type} {e : TypeId} {K : Kn α} {θ : Nat → Nat} {S : Blk} {ob : Blk} {w : World} {xs : List α} {v : Value} (h : (VA.own e K xs).sem θ S ob w v) : ob = bk v.ownBlock := h.1
/-- What is the frame's own reads as a row, once its block is settled. -/
theorem own_reads {α : Type} {e : TypeId} {K : Kn α} {θ : Nat → Nat} {S S' : Blk} {ob : Blk} {w : World} {xs : List α} {v : Value} (h : (VA.own e K xs).sem θ S ob w v) (hS : ∀ b, S b → S' b) (hob : ∀ b, ob b → S' b) (hp : 0 < K.sz) : (VA.k (kslice K) xs).sem θ S' (bk none) w v := by
  obtain ⟨h0, inner, ho, hr⟩ := h
  have hl := ho.1
  rcases ho.2 with ⟨rfl, h1⟩ | ⟨g, cap, cur, rfl, hg, hh, h2, h3, h4, h5⟩
  · refine mk_slice h1 (Nat.le_refl _) (Nat.zero_le _) ?_
    rw [List.eq_nil_of_length_eq_zero h1]; exact Row.nil _ _ _ _
  · refine mk_slice rfl h2 h3 (fun hx => ⟨⟨g, 0, none⟩, rfl, hob g (by rw [h0]; rfl), fun j p hj => ?_⟩)
    refine ⟨_, K.move (hr j p hj) (Agree.refl _ _) hS, fun i u hi => ?_⟩
    rw [add_add, Nat.zero_add, cell_of_row w g _ cur e (0, 0) hh]
    rw [List.getElem?_take] at hi
    split at hi
    · rw [List.getElem?_drop, ← h5, List.getElem?_take] at hi
      split at hi
      · simpa using hi
      · cases hi
    · cases hi
theorem Fr.grown {c : Ctx} {w w' : World} (h : Fr c.X c.w0 w) {row : Option Nat} (hg : w.grownBy w' row) (hb : ∀ b, row = some b → c.w0.heap.size ≤ b ∨ b ∈ c.X) : Fr c.X c.w0 w' :=
  ⟨hg.os.trans h.os, hg.tape.trans h.tape, hg.output.trans h.output, Nat.le_trans h.size hg.size, fun k hk hx => (hg.block k (Nat.lt_of_lt_of_le hk h.size) (fun e => by rcases hb k e.symm with hb | hb; omega; exact hx hb)).trans (h.block k hk hx)⟩
section
variable {P : Program} {c : Ctx} {Γ : List Ent} {Q : Exit → Act → World → Prop} {ops : Array Oper} {l : List Oper}
theorem inv_settle {α : Type} {a : Act} {w : World} {s : Nat} {e : TypeId} {K : Kn α} {xs : List α} (hp : 0 < K.sz) (h : Has [] Γ (Ent.t s (VA.own e K xs))) (hi : Inv c Γ a w) : Inv c (Ent.t s (VA.k (kslice K) xs) :: Γ) a w := by
  obtain ⟨h1, h2, h3, θ, S, h4, h5⟩ := hi
  obtain ⟨ob, hs, hav, h6⟩ := sat_take h h5
  refine ⟨h1, h2, h3, θ, (fun b => S b ∨ ob b), fun b hb => ?_, sat_cons (own_reads (θ := θ) hs (fun b hb => .inl hb) (fun b hb => .inr hb) hp) ?_⟩
  · rcases hb with hb | hb
    · exact h4 b hb
    · have := hav b hb
      exact ⟨this.2.1, .inr this.2.2⟩
  · refine sat_mono (sat_move h6 (Agree.refl _ _) (fun b hb => .inl hb) (fun b _ => rfl) (fun t _ => rfl) (fun k _ => rfl)) (fun k hk => hk) (fun b hb => ⟨fun hS => ?_, hb.1.2⟩)
    rcases hS with hS | hS
    · exact hb.1.1 hS
    · exact hb.2 hS
theorem goesO_settle {α : Type} {e : TypeId} {K : Kn α} {xs : List α} (s : Nat) (hp : Nat.blt 0 K.sz = true) (h : findE [] Γ s = some (Ent.t s (VA.own e K xs))) (next : GoesO P c (Ent.t s (VA.k (kslice K) xs) :: Γ) ops l Q) : GoesO P c Γ ops l Q := fun a w hi => next a w (inv_settle (blt_lt hp) (has_find h) hi)
theorem goes_settle {α : Type} {e : TypeId} {K : Kn α} {xs : List α} {k : Code} (s : Nat) (hp : Nat.blt 0 K.sz = true) (h : findE [] Γ s = some (Ent.t s (VA.own e K xs))) (next : Goes P c (Ent.t s (VA.k (kslice K) xs) :: Γ) k Q) : Goes P c Γ k Q := fun a w hi => next a w (inv_settle (blt_lt hp) (has_find h) hi)
end
/-! ### append -/
/-- What an append finds of its second operand. -/
def Reads {α : Type} (K : Kn α) (S : Blk) (w : World) (v : Value) (ys : List α) : Prop :=
  ∃ A c, v = .slice A ys.length c ∧ (0 < ys.length → ∃ ad, A = some ad ∧ ∀ j p, ys[j]? = some p → ∃ cs, K.R S w p cs ∧ ∀ i u, cs[i]? = some u → w.cell? (ad.add (j * K.sz + i)) = some u)
theorem reads_k {α : Type} {K : Kn α} {θ : Nat → Nat} {S : Blk} {ob : Blk} {w : World} {xs : List α} {v : Value} (h : (VA.k (kslice K) xs).sem θ S ob w v) : Reads K S w v xs := by
  obtain ⟨A, c, rfl, h1, h2, h3⟩ := k_slice h
  refine ⟨A, c, rfl, fun hx => ?_⟩
  obtain ⟨ad, e, _, hr⟩ := h3 hx
  exact ⟨ad, e, hr⟩
theorem reads_own {α : Type} {e : TypeId} {K : Kn α} {θ : Nat → Nat} {S : Blk} {ob : Blk} {w : World} {xs : List α} {v : Value} (h : (VA.own e K xs).sem θ S ob w v) : Reads K S w v xs := by
  obtain ⟨h0, inner, ho, hr⟩ := h
  have hl := ho.1
  rcases ho.2 with ⟨rfl, h1⟩ | ⟨g, cap, cur, rfl, hg, hh, h2, h3, h4, h5⟩
  · exact ⟨none, 0, by rw [h1], fun hx => by omega⟩
  · refine ⟨_, _, rfl, fun hx => ⟨_, rfl, fun j p hj => ⟨_, hr j p hj, fun i u hi => ?_⟩⟩⟩
    rw [add_add, Nat.zero_add, cell_of_row w g _ cur e (0, 0) hh]
    rw [List.getElem?_take] at hi
    split at hi
    · rw [List.getElem?_drop, ← h5, List.getElem?_take] at hi
      split at hi
      · simpa using hi
      · cases hi
    · cases hi
/-- The cells of several elements, in line. -/
theorem cells_line {α : Type} {K : Kn α} {S : Blk} {w : World} {ad : Addr} : ∀ (ys : List α) (o : Nat), (∀ j p, ys[j]? = some p → ∃ cs, K.R S w p cs ∧ ∀ i u, cs[i]? = some u → w.cell? (ad.add (o + j * K.sz + i)) = some u) →
    ∃ news : List Value, news.length = ys.length * K.sz ∧ (∀ j u, news[j]? = some u → w.cell? (ad.add (o + j)) = some u) ∧ (∀ u ∈ news, u.oneCell' = true) ∧ ∀ j p, ys[j]? = some p → K.R S w p ((news.drop (j * K.sz)).take K.sz)
  | [], o, _ => ⟨[], by simp, fun j u h => by simp at h, fun u h => by simp at h, fun j p h => by simp at h⟩
  | y :: ys, o, h => by
    obtain ⟨cs, h1, h2⟩ := h 0 y rfl
    have hl := K.len h1
    obtain ⟨news, n1, n2, n3, n4⟩ := cells_line ys (o + K.sz) (fun j p hj => by
      obtain ⟨cs, g1, g2⟩ := h (j + 1) p hj
      refine ⟨cs, g1, fun i u hi => ?_⟩
      rw [← g2 i u hi]; congr 2; rw [Nat.add_mul, Nat.one_mul]; omega)
    refine ⟨cs ++ news, by rw [List.length_append, n1, hl, List.length_cons, Nat.add_mul, Nat.one_mul]; omega, fun j u hj => ?_, fun u hu => ?_, fun j p hj => ?_⟩
    · rcases Nat.lt_or_ge j cs.length with hlt | hge
      · rw [List.getElem?_append_left hlt] at hj
        rw [← h2 j u hj]; congr 2; omega
      · rw [List.getElem?_append_right hge] at hj
        rw [← n2 _ u hj]; congr 2; omega
    · rcases List.mem_append.1 hu with hu | hu
      · exact K.one h1 u hu
      · exact n3 u hu
    · cases j with
      | zero =>
        cases hj
        rw [Nat.zero_mul, List.drop_zero, ← hl, List.take_left]
        exact h1
      | succ j =>
        have := n4 j p hj
        rw [Nat.add_mul, Nat.one_mul, show j * K.sz + K.sz = cs.length + j * K.sz by omega, drop_app]
        exact this
/-- What a call of append needs to know of the element's type. -/
structure AT {α : Type} (P : Program) (t e : TypeId) (K : Kn α) (bytes : Nat) : Prop where
  u : P.underlying t = some (.slice e)
  i : ∃ i z, P.info? e = some i ∧ i.zero = some z ∧ i.size = K.sz ∧ i.bytes = bytes ∧ z.cells.size = K.sz
  pos : 0 < K.sz
  pb : 0 < bytes
/-- The bound up to which a row may grow here. -/
def room (bytes n : Nat) : Bool := Nat.ble (n * bytes) 140737488355328
def app {α : Type} (bytes : Nat) (xs ys : List α) : Option (List α) := if room bytes (xs.length + ys.length) = true then some (xs ++ ys) else none
theorem run_append_none {P : Program} {t ty e : TypeId} {i : TypeInfo} (ht : P.underlying t = some (.slice e)) (hi : P.info? e = some i) {base size : Nat} {w : World} {v : Value} {n : Nat} {xs : List Value} (hown : w.ownsRow base e size v n xs) (c : Nat) :
    (Builtin.append_ #[t, t] ty #[v, .slice none 0 c]).run P w = .ok v w := by
  rcases hown.2 with ⟨rfl, rfl⟩ | ⟨g, cap, cur, rfl, _, _, hnc, _⟩
  · simp [Builtin.append_, run_underlying ht, sizeOf, typeInfo, hi, Builtin.lenOf, Builtin.firstCells]
  · simp [Builtin.append_, run_underlying ht, sizeOf, typeInfo, hi, Builtin.lenOf, Builtin.firstCells, hnc, storeCells]
theorem run_append_own_k {α : Type} {P : Program} {t ty e : TypeId} {K : Kn α} {bytes : Nat} (hT : AT P t e K bytes) {θ : Nat → Nat} {S : Blk} {ob : Blk} {w : World} {xs ys : List α} {v x : Value} (h : (VA.own e K xs).sem θ S ob w v) (hx : Reads K S w x ys) (hroom : room bytes (xs.length + ys.length) = true)
    (hob : ∀ b, ob b → ¬ S b) (hSb : ∀ b, S b → b < w.heap.size) :
    ∃ v' w', (Builtin.append_ #[t, t] ty #[v, x]).run P w = .ok v' w' ∧ (VA.own e K (xs ++ ys)).sem θ S (bk v'.ownBlock) w' v' ∧ w.grownBy w' v.ownBlock ∧ (v'.ownBlock = v.ownBlock ∨ v'.ownBlock = some w.heap.size) := by
  obtain ⟨rfl, inner, ho, hr⟩ := h
  obtain ⟨i, z, hi, hz, hs, hby, hzs⟩ := hT.i
  have hby' : (xs.length + ys.length) * bytes ≤ 140737488355328 := Nat.le_of_ble_eq_true hroom
  have h63 : xs.length + ys.length ≤ maxLen := by
    have := Nat.le_mul_of_pos_right (xs.length + ys.length) hT.pb
    unfold maxLen; omega
  obtain ⟨A, c, rfl, hread⟩ := hx
  have hil := ho.1
  by_cases h0 : 0 < ys.length
  · obtain ⟨ad, rfl, hel⟩ := hread h0
    obtain ⟨news, n1, n2, n3, n4⟩ := cells_line ys 0 (fun j p hj => by
      obtain ⟨cs, g1, g2⟩ := hel j p hj
      exact ⟨cs, g1, fun i u hi => by rw [Nat.zero_add]; exact g2 i u hi⟩)
    obtain ⟨v', w', hrun, hown, hg, _, hat⟩ := run_append_own_at (P := P) w 0 t ty e i z K.sz bytes hT.u hi hz hs hby hzs hT.pos v xs.length inner ho ad ys.length c news n1 (fun j u hj => by have := n2 j u hj; rw [Nat.zero_add] at this; exact this) n3 h63 hby' (Nat.zero_le _)
    refine ⟨v', w', hrun, ⟨rfl, inner ++ news, by rw [List.length_append]; exact hown, fun j p hj => ?_⟩, hg, hat⟩
    have hag : Agree S w w' := fun b hb => hg.block b (hSb b hb) (fun e => hob b e.symm hb)
    rcases Nat.lt_or_ge j xs.length with hlt | hge
    · rw [List.getElem?_append_left hlt] at hj
      have hle : j * K.sz + K.sz ≤ inner.length := by rw [hil, ← Nat.succ_mul]; exact Nat.mul_le_mul_right _ hlt
      rw [List.drop_append_of_le_length (by omega), List.take_append_of_le_length (by rw [List.length_drop]; omega)]
      exact K.move (hr j p hj) hag (fun b hb => hb)
    · rw [List.getElem?_append_right hge] at hj
      rw [show j * K.sz = inner.length + (j - xs.length) * K.sz by rw [hil, ← Nat.add_mul]; congr 1; omega, drop_app]
      exact K.move (n4 _ p hj) hag (fun b hb => hb)
  · have hy : ys = [] := List.eq_nil_of_length_eq_zero (by omega)
    subst hy
    have hrun : (Builtin.append_ #[t, t] ty #[v, .slice A 0 c]).run P w = .ok v w := by
      cases A with
      | none => exact run_append_none hT.u hi ho c
      | some ad =>
        rcases ho.2 with ⟨rfl, hn⟩ | ⟨g, cap, cur, rfl, _, hh, hnc, hcm, hcs, _⟩
        · simp [Builtin.append_, run_underlying hT.u, sizeOf, typeInfo, hi, Builtin.lenOf, Builtin.firstCells, loadCells, loadCellsFrom]
        · simp [Builtin.append_, run_underlying hT.u, sizeOf, typeInfo, hi, Builtin.lenOf, Builtin.firstCells, hnc, storeCells, loadCells, loadCellsFrom]
    refine ⟨v, w, hrun, ⟨rfl, inner, by rw [List.append_nil]; exact ho, fun j p hj => by rw [List.append_nil] at hj; exact hr j p hj⟩, ⟨rfl, rfl, rfl, Nat.le_refl _, fun k _ _ => rfl⟩, .inl rfl⟩
end Go.Proofs.Ytedgkcdofiildaa.Sl
/- Appends; rows and struct values from their parts; own rows handed on. -/
set_option linter.unusedVariables false
set_option linter.unusedSimpArgs false
namespace Go.Proofs.Ytedgkcdofiildaa.Sl
open Go Go.RowKit
section
variable {P : Program} {n d : Nat} {ty t t' : TypeId} {pos : String} {af : Array Edge} {g : Option (Nat × Bool)} {N : Ent → Prop}
def ReadsArg {α : Type} (N : Ent → Prop) (K : Kn α) (x : Operand) (ys : List α) : Prop := ∀ (θ : Nat → Nat) (S : Blk) (a : Act) (w : World), (∀ e, N e → ∃ ob, e.sem θ S ob a w) → Reads K S w (a.eval x) ys
theorem ReadsArg.k {α : Type} {K : Kn α} {x : Operand} {ys : List α} (h : Arg N x (VA.k (kslice K) ys)) : ReadsArg N K x ys := fun θ S a w hN => by
  obtain ⟨_, h1⟩ := h θ S a w hN
  exact reads_k h1
theorem ReadsArg.own {α : Type} {e : TypeId} {K : Kn α} {x : Operand} {ys : List α} (h : Arg N x (VA.own e K ys)) : ReadsArg N K x ys := fun θ S a w hN => by
  obtain ⟨_, h1⟩ := h θ S a w hN
  exact reads_own h1
theorem own_lt_size {α : Type} {e : TypeId} {K : Kn α} {θ : Nat → Nat} {S : Blk} {ob : Blk} {w : World} {xs : List α} {v : Value} (h : (VA.own e K xs).sem θ S ob w v) : ∀ b, ob b → b < w.heap.size := fun b hb => by
  obtain ⟨rfl, inner, ho, _⟩ := h
  exact (ho.lt b hb).2
theorem run_app_op {ρ : Operand → Value} {x y : Operand} {w w' : World} {v : Value} (h : (Builtin.append_ #[t, t] ty #[ρ x, ρ y]).run P w = .ok v w') :
    (execOp ρ ⟨some d, .call { callee := .builtin .append, args := #[x, y], argTypes := #[t, t] }, ty, pos, af, g⟩).run P w = .ok (.value v) w' := by
  simp [execOp, resolve, invoke, builtin, h, Sem.run_bind, Sem.run_pure, Result.andThen_ok]
/-- append onto a row of the frame's own; the old slot is struck. -/
theorem op_append {α : Type} {e : TypeId} {K : Kn α} {bytes : Nat} {xs ys r : List α} {s : Nat} {x : Operand} (hd : Nat.blt d n = true) (hds : Nat.beq s d = false) (hT : AT P t e K bytes) (hr : app bytes xs ys = some r) (hs : N (Ent.t s (VA.own e K xs))) (hx : ReadsArg N K x ys) :
    OpSpec P n ⟨some d, .call { callee := .builtin .append, args := #[.tmp s, x], argTypes := #[t, t] }, ty, pos, af, g⟩ N [Ent.t d (VA.own e K r), Ent.t s VA.any] := by
  rintro c Γ a w Q rfl hN ⟨h1, h2, h3, θ, S, h4, h5⟩
  unfold app at hr
  split at hr
  · rename_i hroom
    cases hr
    have hread := hx θ S a w (sems hN h5)
    obtain ⟨ob, ho, hav, h6⟩ := sat_take (hN _ hs) h5
    obtain rfl := own_block (θ := θ) ho
    obtain ⟨v', w', hrun, hown, hg, hat⟩ := run_append_own_k (ty := ty) (θ := θ) hT ho hread hroom (fun b hb => (hav b hb).1) (fun b hb => (h4 b hb).1)
    have hrun' := run_app_op (ρ := a.eval) (x := .tmp s) (y := x) (d := d) (pos := pos) (af := af) (g := g) hrun
    have hdn := blt_lt hd
    have hne : s ≠ d := fun e => by rw [e, Nat.beq_refl] at hds; cases hds
    have hlt := own_lt_size hown
    have hag : Agree S w w' := fun b hb => hg.block b (h4 b hb).1 (fun e => (hav b e.symm).1 hb)
    unfold Oper.wp
    rw [hrun']
    show Inv c _ (a.put (some d) v') w'
    refine ⟨by rw [put_defers]; exact h1, by rw [put_size]; exact h2, h3.grown hg (fun b hb => (hav b hb).2.2), θ, S, h4.grow hg.size, ?_⟩
    refine sat_consO (ob := bk v'.ownBlock) (dead_nil _) ?_ (fun b hb => ?_) (sat_consK ?_ rfl ?_)
    · show (VA.own e K (xs ++ ys)).sem θ S _ w' ((a.put (some d) v').tmps.getD d undef)
      rw [put_getD_self (by omega)]
      exact hown
    · refine ⟨fun hS => ?_, hlt b hb, ?_⟩
      · rcases hat with hat | hat
        · exact (hav b (hat ▸ hb)).1 hS
        · rw [hat] at hb; cases hb
          have := (h4 _ hS).1; omega
      · rcases hat with hat | hat
        · exact (hav b (hat ▸ hb)).2.2
        · rw [hat] at hb; cases hb
          exact .inl h3.size
    · refine dead_iff (fun k hk => ?_)
      simp only [Ent.t, List.mem_singleton] at hk
      simp only [Ent.deps, Ent.t, VA.any, List.map_nil, List.append_nil, List.mem_cons, List.not_mem_nil, or_false]
      omega
    · have h7 := sat_mono h6 (ks' := [s, d]) (fun k hk => by simp [Ent.t] at hk; simp [hk]) (fun b hb => hb)
      refine sat_mono (sat_move h7 hag (fun b hb => hb) (fun b hb => hg.block b hb.1.2.1 (fun e => hb.2 e.symm)) (fun t ht => put_getD_ne (fun e => ht (by simp [e]))) (fun k hk => rfl)) (fun k hk => hk) (fun b hb => ⟨⟨hb.1.1, by have := hg.size; have := hb.1.2.1; omega, hb.1.2.2⟩, fun e => ?_⟩)
      rcases hat with hat | hat
      · exact hb.2 (hat ▸ e)
      · rw [hat] at e; cases e
        have := hb.1.2.1; omega
  · cases hr
theorem op_mv {A : VA} {s : Nat} {op : Op} (hop : op = .move (.tmp s) ∨ op = .assign (.tmp s)) (hd : Nat.blt d n = true) (hds : Nat.beq s d = false) (hs : N (Ent.t s A)) :
    OpSpec P n ⟨some d, op, ty, pos, af, g⟩ N [Ent.t d A, Ent.t s VA.any] := by
  rintro c Γ a w Q rfl hN ⟨h1, h2, h3, θ, S, h4, h5⟩
  obtain ⟨ob, ho, hav, h6⟩ := sat_take (hN _ hs) h5
  have hdn := blt_lt hd
  have hne : s ≠ d := fun e => by rw [e, Nat.beq_refl] at hds; cases hds
  have hrun : (execOp a.eval ⟨some d, op, ty, pos, af, g⟩).run P w = .ok (.value (a.eval (.tmp s))) w := by rcases hop with rfl | rfl <;> rfl
  unfold Oper.wp
  rw [hrun]
  show Inv c _ (a.put (some d) _) w
  refine ⟨by rw [put_defers]; exact h1, by rw [put_size]; exact h2, h3, θ, S, h4, ?_⟩
  refine sat_consO (ob := ob) (dead_nil _) ?_ hav (sat_consK ?_ rfl ?_)
  · show A.sem θ S ob w ((a.put (some d) _).tmps.getD d undef)
    rw [put_getD_self (by omega)]
    exact ho
  · refine dead_iff (fun k hk => ?_)
    simp only [Ent.t, List.mem_singleton] at hk
    simp only [Ent.deps, Ent.t, VA.any, List.map_nil, List.append_nil, List.mem_cons, List.not_mem_nil, or_false]
    omega
  · have h7 := sat_mono h6 (ks' := [s, d]) (fun k hk => by simp [Ent.t] at hk; simp [hk]) (fun b hb => hb)
    exact sat_mono (sat_move h7 (Agree.refl _ _) (fun b hb => hb) (fun b hb => rfl) (fun t ht => put_getD_ne (fun e => ht (by simp [e]))) (fun k hk => rfl)) (fun k hk => hk) (fun b hb => hb)
/-- A nil row is the frame's own. -/
theorem op_assign_nil {α : Type} {op : Op} (e : TypeId) (K : Kn α) (hop : op = .move (.const (.slice none 0 0)) ∨ op = .assign (.const (.slice none 0 0))) (hd : Nat.blt d n = true) :
    OpSpec P n ⟨some d, op, ty, pos, af, g⟩ N [Ent.t d (VA.own e K [])] := op_pure hd fun θ S act w hN =>
  ⟨.slice none 0 0, by rcases hop with rfl | rfl <;> rfl, rfl, [], World.ownsRow_nil _ _ _ _, fun j p h => by simp at h⟩
/-! ### rows from their parts -/
inductive Parts {α : Type} (N : Ent → Prop) (K : Kn α) : Nat → List (Nat × Operand) → List α → Prop
  | nil (k : Nat) : Parts N K k [] []
  | cons {k : Nat} {x : Operand} {y : α} {ps : List (Nat × Operand)} {ys : List α} : Arg N x (VA.k K y) → Parts N K (k + 1) ps ys → Parts N K k ((k, x) :: ps) (y :: ys)
theorem fold_splice : ∀ (vs : List Value) (o k : Nat) (cur : Array Value), o + k + vs.length ≤ cur.size →
    (vs.zipIdx k).foldl (fun cs (c, j) => cs.setIfInBounds (o + j) c) cur = (cur.toList.take (o + k) ++ vs ++ cur.toList.drop (o + k + vs.length)).toArray
  | [], o, k, cur, h => by simp
  | v :: vs, o, k, cur, h => by
    simp only [List.length_cons] at h
    rw [List.zipIdx_cons, List.foldl_cons, fold_splice vs o (k + 1) _ (by simp; omega)]
    apply Array.toList_inj.1
    simp only [Array.toList_setIfInBounds, List.length_cons]
    have e1 : (cur.toList.set (o + k) v).take (o + (k + 1)) = cur.toList.take (o + k) ++ [v] := by
      rw [show o + (k + 1) = (o + k) + 1 by omega, List.take_succ_eq_append_getElem (by simp; omega), List.take_set_of_le (by omega)]
      simp
    have e2 : (cur.toList.set (o + k) v).drop (o + (k + 1) + vs.length) = cur.toList.drop (o + k + (vs.length + 1)) := by
      rw [List.drop_set_of_lt (by omega)]; congr 1; omega
    rw [e1, e2]
    simp
theorem fold_splice_arr (v : Value) (o : Nat) (cur : Array Value) (h : o + v.cells.size ≤ cur.size) :
    v.cells.zipIdx.foldl (fun cs (c, j) => cs.setIfInBounds (o + j) c) cur = (cur.toList.take o ++ v.cells.toList ++ cur.toList.drop (o + v.cells.size)).toArray := by
  have := fold_splice v.cells.toList o 0 cur (by simpa using h)
  simp only [Nat.add_zero, Array.length_toList] at this
  rw [← this, ← Array.foldl_toList]
  simp
theorem fill_parts {α : Type} {K : Kn α} (hf : K.agg = false → K.sz = 1) {θ : Nat → Nat} {S : Blk} {a : Act} {w : World} (hN : ∀ e, N e → ∃ ob, e.sem θ S ob a w) :
    ∀ {k : Nat} {ps : List (Nat × Operand)} {ys : List α}, Parts N K k ps ys → ∀ (cur : Array Value), (k + ps.length) * K.sz ≤ cur.size →
    ∃ news : List Value, ys.length = ps.length ∧ news.length = ys.length * K.sz ∧ (∀ j p, ys[j]? = some p → K.R S w p ((news.drop (j * K.sz)).take K.sz)) ∧
      Instr.fill (fun i => some (i * K.sz, K.sz)) cur (ps.map fun (i, x) => (i, a.eval x)) = some (cur.toList.take (k * K.sz) ++ news ++ cur.toList.drop ((k + ps.length) * K.sz)).toArray := by
  intro k ps ys h
  induction h with
  | nil k => exact fun cur hc => ⟨[], rfl, by simp, fun j p h => by simp at h, by simp [Instr.fill]⟩
  | @cons k x y ps ys hx _ ih =>
    intro cur hc
    obtain ⟨_, hv⟩ := hx θ S a w hN
    obtain ⟨cs, hr, _, hcs⟩ := k_cells hv hf
    have hl := K.len hr
    have hsz : (a.eval x).cells.size = K.sz := by rw [← Array.length_toList, hcs, hl]
    simp only [List.length_cons] at hc
    have e1 : (k + (ps.length + 1)) * K.sz = k * K.sz + K.sz + ps.length * K.sz := by rw [Nat.add_mul, Nat.add_mul, Nat.one_mul]; omega
    have e2 : (k + 1 + ps.length) * K.sz = k * K.sz + K.sz + ps.length * K.sz := by rw [Nat.add_mul, Nat.add_mul, Nat.one_mul]
    have e3 : (k + 1) * K.sz = k * K.sz + K.sz := by rw [Nat.add_mul, Nat.one_mul]
    rw [e1] at hc
    obtain ⟨news, n0, n1, n2, n3⟩ := ih (cur.toList.take (k * K.sz) ++ cs ++ cur.toList.drop (k * K.sz + K.sz)).toArray (by rw [e2]; simp [hl]; omega)
    refine ⟨cs ++ news, by rw [List.length_cons, List.length_cons, n0], by rw [List.length_append, n1, hl, List.length_cons, Nat.add_mul, Nat.one_mul]; omega, fun j p hj => ?_, ?_⟩
    · cases j with
      | zero => cases hj; rw [Nat.zero_mul, List.drop_zero, ← hl, List.take_left]; exact hr
      | succ j => rw [Nat.add_mul, Nat.one_mul, show j * K.sz + K.sz = cs.length + j * K.sz by omega, drop_app]; exact n2 j p hj
    · have hstep := fold_splice_arr (a.eval x) (k * K.sz) cur (by rw [hsz]; omega)
      rw [hcs, hsz] at hstep
      rw [List.map_cons]
      simp only [Instr.fill]
      rw [if_neg (by simp [hsz]; omega), hstep, n3]
      congr 2
      rw [e3, e2, List.length_cons, e1]
      have hA : (cur.toList.take (k * K.sz)).length = k * K.sz := by simp; omega
      have g1 : (cur.toList.take (k * K.sz) ++ cs ++ cur.toList.drop (k * K.sz + K.sz)).take (k * K.sz + K.sz) = cur.toList.take (k * K.sz) ++ cs := by
        rw [List.take_append_of_le_length (by simp [hl]; omega), List.take_of_length_le (by simp [hl]; omega)]
      have g2 : (cur.toList.take (k * K.sz) ++ cs ++ cur.toList.drop (k * K.sz + K.sz)).drop (k * K.sz + K.sz + ps.length * K.sz) = cur.toList.drop (k * K.sz + K.sz + ps.length * K.sz) := by
        rw [show k * K.sz + K.sz + ps.length * K.sz = (cur.toList.take (k * K.sz) ++ cs).length + ps.length * K.sz by rw [List.length_append, hA, hl], drop_app, List.drop_drop]
        congr 1
        rw [List.length_append, hA, hl]
      simp only [List.toList_toArray]
      rw [g1, g2]
      simp
theorem op_buildSlice {α : Type} {e : TypeId} {K : Kn α} {bytes : Nat} {len : Nat} {ps : List (Nat × Operand)} {ys : List α} (hd : Nat.blt d n = true) (hT : AT P t e K bytes) (hf : K.agg = false → K.sz = 1) (hlen : Nat.beq ps.length len = true) (hpos : Nat.blt 0 len = true) (hsm : Nat.ble (len * K.sz) 16777216 = true) (hp : Parts N K 0 ps ys) :
    OpSpec P n ⟨some d, .buildSlice t len ps.toArray, ty, pos, af, g⟩ N [Ent.t d (VA.own e K ys)] := by
  rintro c Γ a w Q rfl hN ⟨h1, h2, h3, θ, S, h4, h5⟩
  obtain ⟨i, z, hi, hz, hs, hby, hzs⟩ := hT.i
  have hlen' : ps.length = len := Nat.eq_of_beq_eq_true hlen
  have hpos' := blt_lt hpos
  have hsm' : len * K.sz ≤ 16777216 := Nat.le_of_ble_eq_true hsm
  have hK := hT.pos
  obtain ⟨news, n0, n1, n2, n3⟩ := fill_parts hf (sems hN h5) hp ((Array.range (len * i.size)).map (z.cells[· % z.cells.size]!)) (by rw [hs]; simp [hlen'])
  have hcells : (Array.map (fun x => z.cells[x % z.cells.size]!) (Array.range (len * i.size))).size = len * K.sz := by simp [hs]
  rw [List.drop_of_length_le (by rw [Array.length_toList, hcells, Nat.zero_add, hlen']; exact Nat.le_refl _), Nat.zero_mul, List.take_zero, List.nil_append, List.append_nil] at n3
  have hrun : (execOp a.eval ⟨some d, .buildSlice t len ps.toArray, ty, pos, af, g⟩).run P w = .ok (.value (.slice (some ⟨w.heap.size, 0, none⟩) len len)) (w.alloc (.cells news.toArray e)) := by
    have := run_buildSlice (P := P) w t e len (ps.map fun (i, x) => (i, a.eval x)).toArray news.toArray i z hT.u hi hz (by rw [hs]; omega) (by
      rw [hs]; exact Nat.pos_iff_ne_zero.1 (Nat.mul_pos hpos' hK)) (by rw [hs] at n3 ⊢; simpa using n3)
    clear hN h1 h2 h5 n3
    generalize a.eval = ρ at *
    simp only [execOp, List.map_toArray, Sem.run_bind, Sem.run_pure, this, Result.andThen_ok]
  have hlm : len ≤ maxLen := by have := Nat.le_mul_of_pos_right len hK; unfold maxLen; omega
  have hrow := World.ownsRow_lit (base := 0) (e := e) (size := K.sz) w news.toArray len (Nat.zero_le _) hlm (by simp [n1, n0, hlen'])
  have hdn := blt_lt hd
  unfold Oper.wp
  rw [hrun]
  show Inv c _ (a.put (some d) _) _
  refine ⟨by rw [put_defers]; exact h1, by rw [put_size]; exact h2, h3.alloc _, θ, S, h4.grow (by simp), ?_⟩
  refine sat_consB (b := w.heap.size) (dead_nil _) ?_ ⟨fun hS => (by have := (h4 _ hS).1; omega), by simp, .inl h3.size⟩ ?_
  · show (VA.own e K ys).sem θ S _ _ ((a.put (some d) _).tmps.getD d undef)
    rw [put_getD_self (by omega)]
    refine ⟨rfl, news, by rw [n0, hlen']; simpa using hrow, fun j p hj => K.move (n2 j p hj) (agree_alloc h4 _) (fun b hb => hb)⟩
  · refine sat_mono (sat_move (ks := [d]) (sat_mono h5 (fun k hk => by cases hk) (fun b hb => hb)) (agree_alloc h4 _) (fun b hb => hb) (fun b hb => Below.heap_alloc _ _ _ hb.2.1) (fun t ht => put_getD_ne (fun e => ht (by simp [e]))) (fun k hk => rfl)) (fun k hk => hk) (fun b hb => ⟨⟨hb.1, by have := hb.2.1; simp; omega, hb.2.2⟩, by have := hb.2.1; omega⟩)
/-! ### struct values from their parts -/
/-- Type t's zero value is x. -/
def ZK {α : Type} (P : Program) (t : TypeId) (K : Kn α) (x : α) : Prop := ∃ i v, P.info? t = some i ∧ i.zero = some v ∧ ∀ S w, K.R S w x v.cells.toList
inductive FParts {α : Type} (N : Ent → Prop) (P : Program) (K : Kn α) (fs : Array Field) : List (Nat × Operand) → α → α → Prop
  | nil (x : α) : FParts N P K fs [] x x
  | cons {β : Type} {j : Nat} {f : Field} {o : Operand} {K' : Kn β} {get : α → β} {set : α → β → α} {x z : α} {y : β} {ps : List (Nat × Operand)} : fs[j]? = some f → TK P f.type K' → Fld K f.offset K' get set → Arg N o (VA.k K' y) → FParts N P K fs ps (set x y) z → FParts N P K fs ((j, o) :: ps) x z
theorem tk_info {α : Type} {P : Program} {t : TypeId} {K : Kn α} (h : TK P t K) : ∃ i, P.info? t = some i ∧ i.size = K.sz := by
  have := h.size default
  unfold sizeOf typeInfo at this
  cases hi : P.info? t with
  | none => simp [Sem.run_bind, hi, stuck] at this
  | some i => exact ⟨i, rfl, by simpa [Sem.run_bind, hi] using this⟩
end
end Go.Proofs.Ytedgkcdofiildaa.Sl
/- Struct values built; slots that hold the same; zero boxes; contracts and calls. -/
set_option linter.unusedVariables false
set_option linter.unusedSimpArgs false
namespace Go.Proofs.Ytedgkcdofiildaa.Sl
open Go Go.RowKit
/-- Slot d holds what slot s holds. -/
def Ent.same (d s : Nat) : Ent where
  key := d
  slots := [d, s]
  ids := []
  sem := fun _ _ ob a _ => ob = bk none ∧ a.tmps.getD d undef = a.tmps.getD s undef
  move := by
    rintro θ θ' S S' ob a a' w w' ⟨h0, h⟩ _ _ _ ht _
    exact ⟨h0, by rw [ht d (by simp), ht s (by simp)]; exact h⟩
theorem Arg.same {N : Ent → Prop} {d s : Nat} {A : VA} (h1 : N (Ent.same d s)) (h2 : N (Ent.t s A)) : Arg N (.tmp d) A := fun θ S a w hN => by
  obtain ⟨_, _, e⟩ := hN _ h1
  obtain ⟨ob, h⟩ := hN _ h2
  exact ⟨ob, by show A.sem θ S ob w (a.tmps.getD d undef); rw [e]; exact h⟩
section
variable {P : Program} {n d : Nat} {ty t t' : TypeId} {pos : String} {af : Array Edge} {g : Option (Nat × Bool)} {N : Ent → Prop}
theorem op_same {s : Nat} {op : Op} (hop : op = .move (.tmp s) ∨ op = .assign (.tmp s)) (hd : Nat.blt d n = true) (hds : Nat.beq s d = false) :
    OpSpec P n ⟨some d, op, ty, pos, af, g⟩ N [Ent.same d s] := by
  rintro c Γ a w Q rfl hN ⟨h1, h2, h3, θ, S, h4, h5⟩
  have hdn := blt_lt hd
  have hne : s ≠ d := fun e => by rw [e, Nat.beq_refl] at hds; cases hds
  have hrun : (execOp a.eval ⟨some d, op, ty, pos, af, g⟩).run P w = .ok (.value (a.eval (.tmp s))) w := by rcases hop with rfl | rfl <;> rfl
  unfold Oper.wp
  rw [hrun]
  show Inv c _ (a.put (some d) _) w
  refine ⟨by rw [put_defers]; exact h1, by rw [put_size]; exact h2, h3, θ, S, h4, sat_cons ⟨rfl, ?_⟩ ?_⟩
  · rw [put_getD_self (by omega), put_getD_ne hne]; rfl
  · exact sat_mono (sat_move (ks := [d]) (sat_mono h5 (fun k hk => by cases hk) (fun b hb => hb)) (Agree.refl _ _) (fun b hb => hb) (fun b hb => rfl) (fun t ht => put_getD_ne (fun e => ht (by simp [e]))) (fun k hk => rfl)) (fun k hk => hk) (fun b hb => hb)
theorem run_zero {α : Type} {K : Kn α} {x : α} (h : ZK P t K x) (w : World) : ∃ v, (zeroValue t).run P w = .ok v w ∧ ∀ S w, K.R S w x v.cells.toList := by
  obtain ⟨i, v, hi, hz, hr⟩ := h
  exact ⟨v, by simp [zeroValue, typeInfo, hi, hz, Sem.run_bind], hr⟩
theorem op_alloc {α : Type} {K : Kn α} {x : α} (id : Nat) (hd : Nat.blt d n = true) (hz : ZK P t K x) :
    OpSpec P n ⟨some d, .alloc t, ty, pos, af, g⟩ N [Ent.t d (VA.ptr id 0), Ent.h id (HE.box t K x), Ent.bind id] := by
  rintro c Γ a w Q rfl hN ⟨h1, h2, h3, θ, S, h4, h5⟩
  obtain ⟨v, hv, hr⟩ := run_zero hz w
  have hrun : (execOp a.eval ⟨some d, .alloc t, ty, pos, af, g⟩).run P w = .ok (.value (.pointer (some ⟨w.heap.size, 0, none⟩))) (w.alloc (.cells v.cells t)) := by
    simp [execOp, Instr.alloc, newVar, newRow, newObj, hv, Sem.run_bind, Sem.run_pure, Result.andThen_ok]
    rfl
  unfold Oper.wp
  rw [hrun]
  exact inv_box hd h1 h2 h3 h4 h5 _ (fun θ' h => ⟨rfl, by rw [h]⟩) (fun θ' _ _ => ⟨_, heap_alloc_new w _, hr _ _⟩)
theorem fill_fparts {α : Type} {K : Kn α} {fs : Array Field} {θ : Nat → Nat} {S : Blk} {a : Act} {w : World} (hN : ∀ e, N e → ∃ ob, e.sem θ S ob a w) (places : Array (Nat × Nat)) (hpl : ∀ (j : Nat) (f : Field), fs[j]? = some f → places[j]? = some (f.offset, P.cellsOf f.type)) :
    ∀ {ps : List (Nat × Operand)} {x z : α}, FParts N P K fs ps x z → ∀ (cur : Array Value), K.R S w x cur.toList →
    ∃ cells : Array Value, Instr.fill (places[·]?) cur (ps.map fun (i, x) => (i, a.eval x)) = some cells ∧ K.R S w z cells.toList := by
  intro ps x z h
  induction h with
  | nil x => exact fun cur hc => ⟨cur, by simp [Instr.fill], hc⟩
  | @cons β j f o K' get set x z y ps hf hk hF hx _ ih =>
    intro cur hc
    obtain ⟨_, hv⟩ := hx θ S a w hN
    obtain ⟨cs, hr, _, hcs⟩ := k_cells hv hk.flat
    have hl := K'.len hr
    have hsz : (a.eval o).cells.size = K'.sz := by rw [← Array.length_toList, hcs, hl]
    obtain ⟨i, hi, his⟩ := tk_info hk
    have hco : P.cellsOf f.type = K'.sz := by simp [Program.cellsOf, hi, his]
    have hle := hF.le
    have hcl := K.len hc
    have hcs2 : cur.size = K.sz := by rw [← Array.length_toList, hcl]
    have hstep := fold_splice_arr (a.eval o) f.offset cur (by rw [hsz]; omega)
    rw [hcs, hsz] at hstep
    obtain ⟨cells, e, hz⟩ := ih (cur.toList.take f.offset ++ cs ++ cur.toList.drop (f.offset + K'.sz)).toArray (by simpa using hF.set hc hr)
    refine ⟨cells, ?_, hz⟩
    rw [List.map_cons]
    simp only [Instr.fill, hpl j f hf, hco]
    rw [if_neg (by simp [hsz]; omega), hstep, e]
/-- A struct's value from its parts. -/
theorem op_build {α : Type} {K : Kn α} {x z : α} {fs : Array Field} {ps : List (Nat × Operand)} {pl : List (Nat × Nat)} (hd : Nat.blt d n = true) (ha : K.agg = true) (hu : P.underlying t = some (.struct fs)) (hpl : fs.toList.mapM (fun f => (P.info? f.type).map fun i => (f.offset, i.size)) = some pl) (hz : ZK P t K x) (hp : FParts N P K fs ps x z) :
    OpSpec P n ⟨some d, .build t ps.toArray, ty, pos, af, g⟩ N [Ent.t d (VA.k K z)] := op_pure hd fun θ S act w hN => by
  obtain ⟨i, v, hi, hz, hr⟩ := hz
  have hplaces : ∀ (j : Nat) (f : Field), fs[j]? = some f → pl.toArray[j]? = some (f.offset, P.cellsOf f.type) := by
    have key : ∀ (l : List Field) (pl : List (Nat × Nat)), l.mapM (fun f => (P.info? f.type).map fun i => (f.offset, i.size)) = some pl → ∀ (j : Nat) (f : Field), l[j]? = some f → pl[j]? = some (f.offset, P.cellsOf f.type) := by
      intro l
      induction l with
      | nil => intro pl _ j f hf; simp at hf
      | cons y l ih =>
        intro pl h j f hf
        simp only [List.mapM_cons, Option.bind_eq_bind, Option.pure_def, Option.bind_eq_some_iff] at h
        obtain ⟨p, hp, ps, hps, h⟩ := h
        cases h
        cases j with
        | zero =>
          cases hf
          obtain ⟨i, hi, rfl⟩ := Option.map_eq_some_iff.1 hp
          simp [Program.cellsOf, hi]
        | succ j => simpa using ih ps hps j f (by simpa using hf)
    intro j f hf
    simpa using key fs.toList pl hpl j f (by simpa using hf)
  obtain ⟨cells, e, hc⟩ := fill_fparts hN pl.toArray hplaces hp v.cells (hr S w)
  have hb : P.built t (ps.map fun (i, x) => (i, act.eval x)) = some cells := by
    unfold Program.built
    simp only [hi, hu, hz, hpl, e]
  have hrun := run_build (P := P) w t (ps.map fun (i, x) => (i, act.eval x)).toArray cells (by simpa using hb)
  refine ⟨.agg cells, ?_, rfl, cells.toList, hc, by unfold Kn.mk_; rw [ha]⟩
  simp only [execOp, List.map_toArray, Sem.run_bind, hrun, Result.andThen_ok, Sem.run_pure]
end
/-! ### contracts -/
def argSat (θ : Nat → Nat) (S : Blk) (w : World) : List VA → List Value → Prop
  | [], [] => True
  | A :: As, v :: vs => A.sem θ S (bk none) w v ∧ argSat θ S w As vs
  | _, _ => False
def resSat (θ : Nat → Nat) (S : Blk) (w : World) : List VA → List Value → Blk → Prop
  | [], [], _ => True
  | A :: As, v :: vs, av => ∃ ob, A.sem θ S ob w v ∧ (∀ b, ob b → av b) ∧ resSat θ S w As vs (fun b => av b ∧ ¬ ob b)
  | _, _, _ => False
def tup (vs : List Value) : Value := match vs with | [v] => v | vs => .tuple vs.toArray
/-- The blocks of a world since an elder one. -/
def since (w w' : World) : Blk := fun b => w.heap.size ≤ b ∧ b < w'.heap.size
/-- Function f of such arguments comes back with such results; it turns nothing that was there. In S' all stands that its results share. -/
def Con (P : Program) (f : FuncId) (args res : List VA) : Prop :=
  ∀ (θ : Nat → Nat) (S : Blk) (w : World) (vs : List Value), (∀ b, S b → b < w.heap.size) → argSat θ S w args vs →
    Calls P f vs.toArray w fun e w' => ∃ (rs : List Value) (S' : Blk), e = .returned (tup rs) ∧ Fr [] w w' ∧ (∀ b, S' b → since w w' b) ∧ resSat θ (fun b => S b ∨ S' b) w' res rs (fun b => since w w' b ∧ ¬ S' b)
/-- The same, where the results share nothing with the arguments. -/
def ConF (P : Program) (f : FuncId) (args res : List VA) : Prop :=
  ∀ (θ : Nat → Nat) (S : Blk) (w : World) (vs : List Value), (∀ b, S b → b < w.heap.size) → argSat θ S w args vs →
    Calls P f vs.toArray w fun e w' => ∃ (rs : List Value) (S' : Blk), e = .returned (tup rs) ∧ Fr [] w w' ∧ (∀ b, S' b → since w w' b) ∧ resSat θ S' w' res rs (fun b => since w w' b ∧ ¬ S' b)
/-- Results that do not lean on S. -/
def Free (A : VA) : Prop := ∀ {θ : Nat → Nat} {S S' : Blk} {ob : Blk} {w : World} {v : Value}, A.sem θ S ob w v → A.sem θ S' ob w v
end Go.Proofs.Ytedgkcdofiildaa.Sl
/- Calls by contract; entering a function, leaving it; loops. -/
set_option linter.unusedVariables false
set_option linter.unusedSimpArgs false
namespace Go.Proofs.Ytedgkcdofiildaa.Sl
open Go Go.RowKit
def ArgP (N : Ent → Prop) (x : Operand) (A : VA) : Prop := ∀ (θ : Nat → Nat) (S : Blk) (a : Act) (w : World), (∀ e, N e → ∃ ob, e.sem θ S ob a w) → (∀ b, S b → b < w.heap.size) → A.sem θ S (bk none) w (a.eval x)
def ArgB (N : Ent → Prop) (x : Operand) (A : VA) : Prop := ∀ (θ : Nat → Nat) (S : Blk) (a : Act) (w : World), (∀ e, N e → ∃ ob, e.sem θ S ob a w ∧ ∀ b, ob b → b < w.heap.size) → (∀ b, S b → b < w.heap.size) → A.sem θ (fun b => b < w.heap.size) (bk none) w (a.eval x)
theorem ArgP.k {α : Type} {N : Ent → Prop} {x : Operand} {K : Kn α} {y : α} (h : Arg N x (VA.k K y)) : ArgP N x (VA.k K y) := fun θ S a w hN _ => by
  obtain ⟨ob, h1⟩ := h θ S a w hN
  exact ⟨rfl, h1.2⟩
theorem ArgP.a {N : Ent → Prop} {x : Operand} {A : VA} (hp : Plain A) (h : Arg N x A) : ArgP N x A := fun θ S a w hN _ => by
  obtain ⟨ob, h1⟩ := h θ S a w hN
  obtain rfl := hp h1
  exact h1
theorem ArgB.k {α : Type} {N : Ent → Prop} {x : Operand} {K : Kn α} {y : α} (h : Arg N x (VA.k K y)) : ArgB N x (VA.k K y) := fun θ S a w hN hS => by
  obtain ⟨ob, h1⟩ := h θ S a w (fun e he => by obtain ⟨ob, h, _⟩ := hN e he; exact ⟨ob, h⟩)
  exact (VA.k K y).move ⟨rfl, h1.2⟩ (Agree.refl _ _) hS (fun b _ => rfl) (fun k _ => rfl)
theorem ArgB.own {α : Type} {N : Ent → Prop} {s : Nat} {e : TypeId} {K : Kn α} {y : List α} (hp : Nat.blt 0 K.sz = true) (h : N (Ent.t s (VA.own e K y))) : ArgB N (.tmp s) (VA.k (kslice K) y) := fun θ S a w hN hS => by
  obtain ⟨ob, h1, hb⟩ := hN _ h
  exact own_reads (θ := θ) h1 hS hb (blt_lt hp)
theorem ArgB.owns {α : Type} {N : Ent → Prop} {d s : Nat} {e : TypeId} {K : Kn α} {y : List α} (hp : Nat.blt 0 K.sz = true) (h0 : N (Ent.same d s)) (h : N (Ent.t s (VA.own e K y))) : ArgB N (.tmp d) (VA.k (kslice K) y) := fun θ S a w hN hS => by
  have := ArgB.own hp h θ S a w hN hS
  obtain ⟨_, ⟨_, e0⟩, _⟩ := hN _ h0
  show (VA.k (kslice K) y).sem θ _ (bk none) w (a.tmps.getD d undef)
  rw [e0]; exact this
inductive Args (T : Operand → VA → Prop) : List Operand → List VA → Prop
  | nil : Args T [] []
  | cons {x : Operand} {A : VA} {xs : List Operand} {As : List VA} : T x A → Args T xs As → Args T (x :: xs) (A :: As)
theorem Args.sat {N : Ent → Prop} {xs : List Operand} {As : List VA} (h : Args (ArgP N) xs As) {θ : Nat → Nat} {S : Blk} {a : Act} {w : World} (hN : ∀ e, N e → ∃ ob, e.sem θ S ob a w) (hS : ∀ b, S b → b < w.heap.size) : argSat θ S w As (xs.map a.eval) := by
  induction h with
  | nil => trivial
  | cons h _ ih => exact ⟨h θ S a w hN hS, ih⟩
theorem Args.satB {N : Ent → Prop} {xs : List Operand} {As : List VA} (h : Args (ArgB N) xs As) {θ : Nat → Nat} {S : Blk} {a : Act} {w : World} (hN : ∀ e, N e → ∃ ob, e.sem θ S ob a w ∧ ∀ b, ob b → b < w.heap.size) (hS : ∀ b, S b → b < w.heap.size) : argSat θ (fun b => b < w.heap.size) w As (xs.map a.eval) := by
  induction h with
  | nil => trivial
  | cons h _ ih => exact ⟨h θ S a w hN hS, ih⟩
def resEnts (d : Nat) : List VA → Nat → List Ent
  | [], _ => [Ent.t d VA.any]
  | A :: As, j => Ent.c d j A :: resEnts d As (j + 1)
theorem res_sat {θ : Nat → Nat} {S : Blk} {a : Act} {w : World} {d : Nat} {all : Array Value} {Γ : List Ent} {ksΓ : List Nat} (hd : d < 1000000) (hall : a.tmps.getD d undef = .tuple all) :
    ∀ {As : List VA} {vs : List Value} {j : Nat} {ks : List Nat} {av avn avo : Blk}, resSat θ S w As vs avn → (∀ A, A ∈ As → A.ids = []) → (∀ i v, vs[i]? = some v → all[j + i]? = some v) →
      (∀ k, k ∈ ks → 3000000 + 1000 * d ≤ k ∧ k < 3000000 + 1000 * d + j) → (∀ b, avn b → av b) → (∀ b, avo b → av b) → (∀ b, avo b → ¬ avn b) → sat θ S a w ksΓ Γ avo → (∀ k, k ∈ ksΓ → k = d) → sat θ S a w ks (resEnts d As j ++ Γ) av
  | [], [], j, ks, av, avn, avo, _, _, _, hks, _, ho, _, hs, hk => by
    refine sat_consK (dead_iff (fun k hk' => ?_)) rfl (sat_mono hs (fun k h => by rw [hk k h]; exact List.mem_cons_self) ho)
    simp only [Ent.deps, Ent.t, VA.any, List.map_nil, List.append_nil, List.mem_cons, List.not_mem_nil, or_false]
    have := hks k hk'
    omega
  | A :: As, v :: vs, j, ks, av, avn, avo, hr, hids, hv, hks, hn, ho, hno, hs, hk => by
    obtain ⟨ob, h1, h2, h3⟩ := hr
    refine sat_consO (ob := ob) (dead_iff (fun k hk' => ?_)) ⟨all, v, hall, hv 0 v rfl, h1⟩ (fun b hb => hn b (h2 b hb)) ?_
    · simp only [Ent.deps, Ent.c, hids A (by simp), List.map_nil, List.append_nil, List.mem_cons, List.not_mem_nil, or_false]
      have := hks k hk'
      omega
    · refine res_sat hd hall h3 (fun A hA => hids A (List.mem_cons_of_mem _ hA)) (fun i v hi => by have := hv (i + 1) v hi; rw [← this]; congr 1; omega) (fun k hk' => ?_) (fun b hb => ⟨hn b hb.1, hb.2⟩) (fun b hb => ⟨ho b hb, fun e => hno b hb (h2 b e)⟩) (fun b hb h => hno b hb h.1) hs hk
      rcases List.mem_cons.1 hk' with rfl | hk'
      · simp only [Ent.c]; omega
      · have := hks k hk'; omega
theorem resSat_move {θ : Nat → Nat} {S S' : Blk} {w : World} (hS : ∀ b, S b → S' b) : ∀ {As : List VA} {vs : List Value} {av av' : Blk}, (∀ b, av b → av' b) → resSat θ S w As vs av → resSat θ S' w As vs av'
  | [], [], _, _, _, _ => trivial
  | A :: As, v :: vs, av, av', hav, h => by
    obtain ⟨ob, h1, h2, h3⟩ := h
    exact ⟨ob, A.move h1 (Agree.refl _ _) hS (fun b _ => rfl) (fun k _ => rfl), fun b hb => hav b (h2 b hb), resSat_move hS (fun b hb => ⟨hav b hb.1, hb.2⟩) h3⟩
section
variable {P : Program} {n d : Nat} {ty t t' : TypeId} {pos : String} {af : Array Edge} {g : Option (Nat × Bool)} {N : Ent → Prop}
/-- A function's number enters its text. -/
def Enters (P : Program) (f : FuncId) : Prop := ∀ args w, Sem.run P (callFunc f args) w = .ok (.enter f args) w
theorem run_call_op {dst : Option Tmp} {ρ : Operand → Value} {f : FuncId} {xs : List Operand} {at_ : Array TypeId} {w : World} (hf : Enters P f) (hρ : ρ (.func f) = .func (.func f) #[] #[]) :
    (execOp ρ ⟨dst, .call { callee := .value (.func f), args := xs.toArray, argTypes := at_ }, ty, pos, af, g⟩).run P w = .ok (.enter f (xs.map ρ).toArray) w := by
  have := hf (xs.map ρ).toArray w
  simp [execOp, resolve, invoke, Deferred.ofValue, hρ, Sem.run_bind, Sem.run_pure, Result.andThen_ok, this]
theorem inv_call {c : Ctx} {Γ : List Ent} {a : Act} {w w' : World} {θ : Nat → Nat} {S S' : Blk} {d : Nat} {res : List VA} {rs : List Value} (hd : Nat.blt d c.n = true) (hids : ∀ A, A ∈ res → A.ids = []) (h1 : a.defers = c.df) (h2 : a.tmps.size = c.n ∧ c.n ≤ 1000000) (h3 : Fr c.X c.w0 w) (h4 : SOk c S w)
    (h5 : sat θ S a w [] Γ (free c S w)) (hfr : Fr [] w w') (hS' : ∀ b, S' b → since w w' b) (hr : resSat θ (fun b => S b ∨ S' b) w' res rs (fun b => since w w' b ∧ ¬ S' b)) :
    (∀ A, res = [A] → Inv c ([Ent.t d A] ++ Γ) (a.put (some d) (tup rs)) w') ∧ (res.length ≠ 1 → Inv c (resEnts d res 0 ++ Γ) (a.put (some d) (tup rs)) w') := by
  have hdn := blt_lt hd
  have hag : Agree S w w' := fun b hb => hfr.block b (h4 b hb).1 (by simp)
  have hfr' : Fr c.X c.w0 w' := h3.trans ⟨hfr.os, hfr.tape, hfr.output, hfr.size, fun k hk _ => hfr.block k hk (by simp)⟩
  have hsz := hfr.size
  have h3s := h3.size
  have hok : SOk c (fun b => S b ∨ S' b) w' := fun b hb => by
    rcases hb with hb | hb
    · have := h4 b hb; exact ⟨by omega, this.2⟩
    · have := hS' b hb; exact ⟨this.2, .inr (.inl (by have := this.1; omega))⟩
  have htail : sat θ (fun b => S b ∨ S' b) (a.put (some d) (tup rs)) w' [d] Γ (free c S w) :=
    sat_move (ks := [d]) (sat_mono h5 (fun k hk => by cases hk) (fun b hb => hb)) hag (fun b hb => .inl hb) (fun b hb => hfr.block b hb.2.1 (by simp)) (fun t ht => put_getD_ne (fun e => ht (by simp [e]))) (fun k _ => rfl)
  have hnew : ∀ b, (since w w' b ∧ ¬ S' b) → free c (fun b => S b ∨ S' b) w' b := fun b hb => ⟨fun h => by
    rcases h with h | h
    · have := (h4 b h).1; have := hb.1.1; omega
    · exact hb.2 h, hb.1.2, .inl (by have := hb.1.1; omega)⟩
  have hold : ∀ b, free c S w b → free c (fun b => S b ∨ S' b) w' b := fun b hb => ⟨fun h => by
    rcases h with h | h
    · exact hb.1 h
    · have := (hS' b h).1; have := hb.2.1; omega, by have := hb.2.1; omega, hb.2.2⟩
  have hdis : ∀ b, free c S w b → ¬ (since w w' b ∧ ¬ S' b) := fun b hb h => by have := hb.2.1; have := h.1.1; omega
  constructor
  · rintro A rfl
    match rs, hr with
    | [v], hr =>
      obtain ⟨ob, r1, r2, _⟩ := hr
      refine ⟨by rw [put_defers]; exact h1, by rw [put_size]; exact h2, hfr', θ, _, hok, sat_consO (ob := ob) (dead_nil _) ?_ (fun b hb => hnew b (r2 b hb)) ?_⟩
      · show A.sem θ _ ob w' ((a.put (some d) v).tmps.getD d undef)
        rw [put_getD_self (by omega)]
        exact r1
      · exact sat_mono htail (fun k hk => hk) (fun b hb => ⟨hold b hb, fun e => hdis b hb (r2 b e)⟩)
  · intro hlen
    have hlr : ∀ {As : List VA} {vs : List Value} {av : Blk}, resSat θ (fun b => S b ∨ S' b) w' As vs av → vs.length = As.length := by
      intro As
      induction As with
      | nil => intro vs av h; cases vs with
        | nil => rfl
        | cons _ _ => exact h.elim
      | cons A As ih => intro vs av h; cases vs with
        | nil => exact h.elim
        | cons v vs => obtain ⟨_, _, _, h⟩ := h; simp [ih h]
    have hl := hlr hr
    have ht : tup rs = .tuple rs.toArray := by
      unfold tup
      split
      · rename_i v; simp at hl; omega
      · rfl
    refine ⟨by rw [put_defers]; exact h1, by rw [put_size]; exact h2, hfr', θ, _, hok, ?_⟩
    refine res_sat (by omega) (by rw [put_getD_self (by omega), ht]) hr hids (fun i v hi => by rw [Nat.zero_add]; simpa using hi) (fun k hk => by cases hk) hnew hold hdis htail (fun k hk => by simpa using hk)
theorem op_call {f : FuncId} {xs : List Operand} {at_ : Array TypeId} {As : List VA} {A : VA} (hd : Nat.blt d n = true) (hf : Enters P f) (hC : Con P f As [A]) (hids : A.ids = []) (hx : Args (ArgP N) xs As) :
    OpSpec P n ⟨some d, .call { callee := .value (.func f), args := xs.toArray, argTypes := at_ }, ty, pos, af, g⟩ N [Ent.t d A] := by
  rintro c Γ a w Q rfl hN ⟨h1, h2, h3, θ, S, h4, h5⟩
  unfold Oper.wp
  rw [run_call_op hf rfl]
  refine (hC θ S w _ (fun b hb => (h4 b hb).1) (hx.sat (sems hN h5) (fun b hb => (h4 b hb).1))).mono ?_
  rintro e w' ⟨rs, S', rfl, hfr, hS', hr⟩
  exact (inv_call hd (fun B hB => by rw [List.mem_singleton.1 hB]; exact hids) h1 h2 h3 h4 h5 hfr hS' hr).1 A rfl
theorem op_calls {f : FuncId} {xs : List Operand} {at_ : Array TypeId} {As res : List VA} (hd : Nat.blt d n = true) (hf : Enters P f) (hC : Con P f As res) (hl : Nat.beq res.length 1 = false) (hids : ∀ A, A ∈ res → A.ids = []) (hx : Args (ArgP N) xs As) :
    OpSpec P n ⟨some d, .call { callee := .value (.func f), args := xs.toArray, argTypes := at_ }, ty, pos, af, g⟩ N (resEnts d res 0) := by
  rintro c Γ a w Q rfl hN ⟨h1, h2, h3, θ, S, h4, h5⟩
  unfold Oper.wp
  rw [run_call_op hf rfl]
  refine (hC θ S w _ (fun b hb => (h4 b hb).1) (hx.sat (sems hN h5) (fun b hb => (h4 b hb).1))).mono ?_
  rintro e w' ⟨rs, S', rfl, hfr, hS', hr⟩
  exact (inv_call hd hids h1 h2 h3 h4 h5 hfr hS' hr).2 (fun e => by rw [e] at hl; cases hl)
theorem semsB {θ : Nat → Nat} {c : Ctx} {S : Blk} {a : Act} {w : World} {Γ : List Ent} {N : Ent → Prop} (hN : ∀ e, N e → Has [] Γ e) (h : sat θ S a w [] Γ (free c S w)) : ∀ e, N e → ∃ ob, e.sem θ S ob a w ∧ ∀ b, ob b → b < w.heap.size := fun e he => by
  obtain ⟨ob, h1, h2, _⟩ := sat_take (hN e he) h
  exact ⟨ob, h1, fun b hb => (h2 b hb).2.1⟩
theorem op_callF {f : FuncId} {xs : List Operand} {at_ : Array TypeId} {As : List VA} {A : VA} (hd : Nat.blt d n = true) (hf : Enters P f) (hC : ConF P f As [A]) (hids : A.ids = []) (hx : Args (ArgB N) xs As) :
    OpSpec P n ⟨some d, .call { callee := .value (.func f), args := xs.toArray, argTypes := at_ }, ty, pos, af, g⟩ N [Ent.t d A] := by
  rintro c Γ a w Q rfl hN ⟨h1, h2, h3, θ, S, h4, h5⟩
  unfold Oper.wp
  rw [run_call_op hf rfl]
  refine (hC θ (fun b => b < w.heap.size) w _ (fun b hb => hb) (hx.satB (semsB hN h5) (fun b hb => (h4 b hb).1))).mono ?_
  rintro e w' ⟨rs, S', rfl, hfr, hS', hr⟩
  exact (inv_call hd (fun B hB => by rw [List.mem_singleton.1 hB]; exact hids) h1 h2 h3 h4 h5 hfr hS' (resSat_move (fun b hb => .inr hb) (fun b hb => hb) hr)).1 A rfl
theorem op_callsF {f : FuncId} {xs : List Operand} {at_ : Array TypeId} {As res : List VA} (hd : Nat.blt d n = true) (hf : Enters P f) (hC : ConF P f As res) (hl : Nat.beq res.length 1 = false) (hids : ∀ A, A ∈ res → A.ids = []) (hx : Args (ArgB N) xs As) :
    OpSpec P n ⟨some d, .call { callee := .value (.func f), args := xs.toArray, argTypes := at_ }, ty, pos, af, g⟩ N (resEnts d res 0) := by
  rintro c Γ a w Q rfl hN ⟨h1, h2, h3, θ, S, h4, h5⟩
  unfold Oper.wp
  rw [run_call_op hf rfl]
  refine (hC θ (fun b => b < w.heap.size) w _ (fun b hb => hb) (hx.satB (semsB hN h5) (fun b hb => (h4 b hb).1))).mono ?_
  rintro e w' ⟨rs, S', rfl, hfr, hS', hr⟩
  exact (inv_call hd hids h1 h2 h3 h4 h5 hfr hS' (resSat_move (fun b hb => .inr hb) (fun b hb => hb) hr)).2 (fun e => by rw [e] at hl; cases hl)
/-- Results that lean on no memory share none. -/
theorem Con.free {f : FuncId} {args res : List VA} (h : Con P f args res) (hf : ∀ A, A ∈ res → Free A) : ConF P f args res := fun θ S w vs hS ha => by
  refine (h θ S w vs hS ha).mono ?_
  rintro e w' ⟨rs, S', rfl, hfr, hS', hr⟩
  refine ⟨rs, S', rfl, hfr, hS', ?_⟩
  have key : ∀ {As : List VA} {vs : List Value} {av : Blk}, (∀ A, A ∈ As → Free A) → resSat θ (fun b => S b ∨ S' b) w' As vs av → resSat θ S' w' As vs av := by
    intro As
    induction As with
    | nil => intro vs av _ h; cases vs with
      | nil => trivial
      | cons _ _ => exact h.elim
    | cons A As ih => intro vs av hF h; cases vs with
      | nil => exact h.elim
      | cons v vs => obtain ⟨ob, h1, h2, h3⟩ := h; exact ⟨ob, hF A (by simp) h1, h2, ih (fun A hA => hF A (List.mem_cons_of_mem _ hA)) h3⟩
  exact key hf hr
end
end Go.Proofs.Ytedgkcdofiildaa.Sl
