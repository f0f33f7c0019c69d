/- What a frame knows of its temporaries, boxes and maps, as one list; what is pushed upon it hides what it overwrites. -/
import Derived.WalkKit
import Derived.Below
import Derived.Orders
import Derived.Laws.OwnMore
set_option linter.unusedVariables false
set_option linter.unusedSimpArgs false
namespace Go.Proofs.Ytedgkcdofiildaa.Sl
open Go Go.RowKit
abbrev Blk := Nat → Prop
def Agree (S : Blk) (w w' : World) : Prop := ∀ b, S b → w'.heap[b]? = w.heap[b]?
theorem Agree.refl (S : Blk) (w : World) : Agree S w w := fun _ _ => rfl
/-- What is known of a value; ob: the block that it alone may write. -/
structure VA where
  ids : List Nat
  sem : (Nat → Nat) → Blk → Option Nat → World → Value → Prop
  move : ∀ {θ θ' : Nat → Nat} {S S' : Blk} {ob : Option Nat} {w w' : World} {v : Value}, sem θ S ob w v → Agree S w w' → (∀ b, S b → S' b) → (∀ b, ob = some b → w'.heap[b]? = w.heap[b]?) → (∀ k, k ∈ ids → θ' k = θ k) → sem θ' S' ob w' v
structure Ent where
  key : Nat
  slots : List Nat
  ids : List Nat
  sem : (Nat → Nat) → Blk → Option Nat → Act → World → Prop
  move : ∀ {θ θ' : Nat → Nat} {S S' : Blk} {ob : Option Nat} {a a' : Act} {w w' : World}, sem θ S ob a w → Agree S w w' → (∀ b, S b → S' b) → (∀ b, ob = some b → w'.heap[b]? = w.heap[b]?) → (∀ t, t ∈ slots → a'.tmps.getD t undef = a.tmps.getD t undef) → (∀ k, k ∈ ids → θ' k = θ k) → sem θ' S' ob a' w'
def Ent.deps (e : Ent) : List Nat := e.key :: (e.slots ++ e.ids.map (1000000 + ·))
def dead (ks : List Nat) (e : Ent) : Bool := e.deps.any fun k => ks.elem k
theorem dead_mono {ks ks' : List Nat} {e : Ent} (h : ∀ k, k ∈ ks → k ∈ ks') (hd : dead ks e = true) : dead ks' e = true := by
  unfold dead at *
  obtain ⟨k, hk, hks⟩ := List.any_eq_true.1 hd
  exact List.any_eq_true.2 ⟨k, hk, by simpa using h k (by simpa using hks)⟩
theorem dead_key {ks : List Nat} {e : Ent} (h : e.key ∈ ks) : dead ks e = true := by
  unfold dead
  exact List.any_eq_true.2 ⟨e.key, by simp [Ent.deps], by simpa using h⟩
theorem live_spec {ks : List Nat} {e : Ent} (h : dead ks e = false) : (∀ t, t ∈ e.slots → t ∉ ks) ∧ (∀ k, k ∈ e.ids → 1000000 + k ∉ ks) ∧ e.key ∉ ks := by
  have h' : ∀ k, k ∈ e.deps → k ∉ ks := fun k hk hks => by
    have : dead ks e = true := by unfold dead; exact List.any_eq_true.2 ⟨k, hk, by simpa using hks⟩
    rw [h] at this; cases this
  refine ⟨fun t ht => h' t ?_, fun k hk => h' _ ?_, h' _ ?_⟩
  · simp [Ent.deps, ht]
  · simp only [Ent.deps, List.mem_cons, List.mem_append, List.mem_map]; exact .inr (.inr ⟨k, hk, rfl⟩)
  · simp [Ent.deps]
def sat (θ : Nat → Nat) (S : Blk) (a : Act) (w : World) : List Nat → List Ent → Blk → Prop
  | _, [], _ => True
  | ks, e :: Γ, av => if dead ks e = true then sat θ S a w (e.key :: ks) Γ av else ∃ ob, e.sem θ S ob a w ∧ (∀ b, ob = some b → av b) ∧ sat θ S a w (e.key :: ks) Γ (fun b => av b ∧ ob ≠ some b)
section
variable {θ θ' : Nat → Nat} {S S' : Blk} {a a' : Act} {w w' : World}
theorem sat_mono : ∀ {Γ : List Ent} {ks ks' : List Nat} {av av' : Blk}, sat θ S a w ks Γ av → (∀ k, k ∈ ks → k ∈ ks') → (∀ b, av b → av' b) → sat θ S a w ks' Γ av'
  | [], _, _, _, _, _, _, _ => trivial
  | e :: Γ, ks, ks', av, av', h, hk, hv => by
    have hk' : ∀ k, k ∈ e.key :: ks → k ∈ e.key :: ks' := fun k hm => by
      rcases List.mem_cons.1 hm with rfl | hm
      · exact List.mem_cons_self
      · exact List.mem_cons_of_mem _ (hk k hm)
    unfold sat at h ⊢
    by_cases hd : dead ks e = true
    · rw [if_pos hd] at h
      rw [if_pos (dead_mono hk hd)]
      exact sat_mono h hk' hv
    · rw [if_neg hd] at h
      obtain ⟨ob, h1, h2, h3⟩ := h
      by_cases hd' : dead ks' e = true
      · rw [if_pos hd']
        exact sat_mono h3 hk' (fun b hb => hv b hb.1)
      · rw [if_neg hd']
        exact ⟨ob, h1, fun b hb => hv b (h2 b hb), sat_mono h3 hk' (fun b hb => ⟨hv b hb.1, hb.2⟩)⟩
theorem sat_move : ∀ {Γ : List Ent} {ks : List Nat} {av : Blk}, sat θ S a w ks Γ av → Agree S w w' → (∀ b, S b → S' b) → (∀ b, av b → w'.heap[b]? = w.heap[b]?) →
    (∀ t, t ∉ ks → a'.tmps.getD t undef = a.tmps.getD t undef) → (∀ k, 1000000 + k ∉ ks → θ' k = θ k) → sat θ' S' a' w' ks Γ av
  | [], _, _, _, _, _, _, _, _ => trivial
  | e :: Γ, ks, av, h, hA, hS, hb, ht, hi => by
    have ht' : ∀ t, t ∉ e.key :: ks → a'.tmps.getD t undef = a.tmps.getD t undef := fun t hm => ht t (fun h => hm (List.mem_cons_of_mem _ h))
    have hi' : ∀ k, 1000000 + k ∉ e.key :: ks → θ' k = θ k := fun t hm => hi t (fun h => hm (List.mem_cons_of_mem _ h))
    unfold sat at h ⊢
    by_cases hd : dead ks e = true
    · rw [if_pos hd] at h ⊢
      exact sat_move h hA hS hb ht' hi'
    · rw [if_neg hd] at h ⊢
      obtain ⟨ob, h1, h2, h3⟩ := h
      obtain ⟨l1, l2, l3⟩ := live_spec (by simpa using hd)
      exact ⟨ob, e.move h1 hA hS (fun b hob => hb b (h2 b hob)) (fun t hm => ht t (l1 t hm)) (fun k hm => hi k (l2 k hm)), h2, sat_move h3 hA hS (fun b hb' => hb b hb'.1) ht' hi'⟩
inductive Has : List Nat → List Ent → Ent → Prop
  | here {ks : List Nat} {e : Ent} {Γ : List Ent} : dead ks e = false → Has ks (e :: Γ) e
  | there {ks : List Nat} {e x : Ent} {Γ : List Ent} : Has (x.key :: ks) Γ e → Has ks (x :: Γ) e
theorem Has.live {ks : List Nat} {Γ : List Ent} {e : Ent} (h : Has ks Γ e) : dead ks e = false := by
  induction h with
  | here h => exact h
  | there _ ih =>
    rw [Bool.eq_false_iff] at ih ⊢
    exact fun h => ih (dead_mono (fun k hk => List.mem_cons_of_mem _ hk) h)
theorem Has.mono {ks ks' : List Nat} {Γ : List Ent} {e : Ent} (h : Has ks Γ e) (hk : ∀ k, k ∈ ks' → k ∈ ks) : Has ks' Γ e := by
  induction h generalizing ks' with
  | @here ks e Γ h =>
    refine .here ?_
    rw [Bool.eq_false_iff] at h ⊢
    exact fun h7 => h (dead_mono hk h7)
  | @there ks e z Γ h ih =>
    refine .there (ih (fun k hm => ?_))
    rcases List.mem_cons.1 hm with rfl | hm
    · exact List.mem_cons_self
    · exact List.mem_cons_of_mem _ (hk k hm)
theorem dead_cons {k0 : Nat} {ks : List Nat} {e : Ent} (h : dead ks e = false) (h0 : ¬ k0 ∈ e.deps) : dead (k0 :: ks) e = false := by
  rw [Bool.eq_false_iff] at h ⊢
  intro hd
  obtain ⟨k, hk1, hk2⟩ := List.any_eq_true.1 hd
  have hk2' : k ∈ k0 :: ks := by simpa using hk2
  rcases List.mem_cons.1 hk2' with rfl | h2
  · exact h0 hk1
  · exact h (List.any_eq_true.2 ⟨k, hk1, by simpa using h2⟩)
theorem not_dep {k0 : Nat} {ks : List Nat} {e : Ent} (h : dead ks e = false) (hk : k0 ∈ ks) : ¬ k0 ∈ e.deps := fun hm => by
  have : dead ks e = true := List.any_eq_true.2 ⟨k0, hm, by simpa using hk⟩
  rw [h] at this; cases this
/-- One more key hidden: what does not lean on it stays. -/
theorem Has.kill {ks : List Nat} {Γ : List Ent} {e : Ent} {k0 : Nat} (h : Has ks Γ e) (h0 : ¬ k0 ∈ e.deps) : Has (k0 :: ks) Γ e := by
  induction h with
  | here h => exact .here (dead_cons h h0)
  | @there ks e z Γ h ih =>
    refine .there ((ih h0).mono (fun k hk => ?_))
    simp only [List.mem_cons] at hk ⊢
    rcases hk with h | h | h
    · exact .inr (.inl h)
    · exact .inl h
    · exact .inr (.inr h)
theorem sat_take : ∀ {Γ : List Ent} {ks : List Nat} {av : Blk} {e : Ent}, Has ks Γ e → sat θ S a w ks Γ av →
    ∃ ob, e.sem θ S ob a w ∧ (∀ b, ob = some b → av b) ∧ sat θ S a w (e.key :: ks) Γ (fun b => av b ∧ ob ≠ some b) := by
  intro Γ ks av e hh
  induction hh generalizing av with
  | @here ks e Γ hd =>
    intro h
    unfold sat at h
    rw [if_neg (by rw [hd]; decide)] at h
    obtain ⟨ob, h1, h2, h3⟩ := h
    refine ⟨ob, h1, h2, ?_⟩
    unfold sat
    rw [if_pos (dead_key List.mem_cons_self)]
    exact sat_mono h3 (fun k hk => List.mem_cons_of_mem _ hk) (fun b hb => hb)
  | @there ks e x Γ hh ih =>
    intro h
    unfold sat at h
    by_cases hd : dead ks x = true
    · rw [if_pos hd] at h
      obtain ⟨ob, h1, h2, h3⟩ := ih h
      refine ⟨ob, h1, h2, ?_⟩
      unfold sat
      rw [if_pos (dead_mono (fun k hk => List.mem_cons_of_mem _ hk) hd)]
      refine sat_mono h3 (fun k hk => ?_) (fun b hb => hb)
      simp only [List.mem_cons] at hk ⊢
      rcases hk with h | h | h
      · exact .inr (.inl h)
      · exact .inl h
      · exact .inr (.inr h)
    · rw [if_neg hd] at h
      obtain ⟨obx, x1, x2, x3⟩ := h
      obtain ⟨ob, h1, h2, h3⟩ := ih x3
      refine ⟨ob, h1, fun b hb => (h2 b hb).1, ?_⟩
      have hks : ∀ k, k ∈ e.key :: x.key :: ks → k ∈ x.key :: e.key :: ks := fun k hk => by
        simp only [List.mem_cons] at hk ⊢
        rcases hk with h | h | h
        · exact .inr (.inl h)
        · exact .inl h
        · exact .inr (.inr h)
      unfold sat
      by_cases hd' : dead (e.key :: ks) x = true
      · rw [if_pos hd']
        exact sat_mono h3 hks (fun b hb => ⟨hb.1.1, hb.2⟩)
      · rw [if_neg hd']
        refine ⟨obx, x1, fun b hb => ⟨x2 b hb, fun e' => ?_⟩, sat_mono h3 hks (fun b hb => ⟨⟨hb.1.1, hb.2⟩, hb.1.2⟩)⟩
        exact (h2 b e').2 hb
/-- What is known may be told anew: each part of it must stand. -/
theorem sat_sub {Γ : List Ent} : ∀ {Δ : List Ent} {ks ks0 : List Nat} {av : Blk}, sat θ S a w ks0 Γ av → (∀ k, k ∈ ks0 → k ∈ ks) → (∀ e, Has ks Δ e → Has ks0 Γ e) → sat θ S a w ks Δ av
  | [], _, _, _, _, _, _ => trivial
  | e :: Δ, ks, ks0, av, h, hsub, hH => by
    unfold sat
    by_cases hd : dead ks e = true
    · rw [if_pos hd]
      exact sat_sub h (fun k hm => List.mem_cons_of_mem _ (hsub k hm)) (fun x hx => hH x (.there hx))
    · rw [if_neg hd]
      have he := hH e (.here (by simpa using hd))
      obtain ⟨ob, h1, h2, h3⟩ := sat_take he h
      refine ⟨ob, h1, h2, sat_sub h3 (fun k hm => ?_) (fun x hx => ?_)⟩
      · rcases List.mem_cons.1 hm with rfl | hm
        · exact List.mem_cons_self
        · exact List.mem_cons_of_mem _ (hsub k hm)
      · exact (hH x (.there hx)).kill (not_dep hx.live List.mem_cons_self)
end
/-! ### a frame -/
structure Ctx where
  w0 : World
  S0 : Blk
  X : List Nat
  n : Nat
/-- Of what was there when the frame began only the blocks X have turned. -/
structure Fr (X : List Nat) (w w' : World) : Prop where
  os : w'.os = w.os
  tape : w'.tape = w.tape
  output : w'.output = w.output
  size : w.heap.size ≤ w'.heap.size
  block : ∀ k, k < w.heap.size → k ∉ X → w'.heap[k]? = w.heap[k]?
theorem Fr.refl (X : List Nat) (w : World) : Fr X w w := ⟨rfl, rfl, rfl, Nat.le_refl _, fun _ _ _ => rfl⟩
theorem Fr.trans {X : List Nat} {a b c : World} (h : Fr X a b) (k : Fr X b c) : Fr X a c :=
  ⟨k.os.trans h.os, k.tape.trans h.tape, k.output.trans h.output, Nat.le_trans h.size k.size, fun i hi hx => (k.block i (Nat.lt_of_lt_of_le hi h.size) hx).trans (h.block i hi hx)⟩
theorem Fr.mono {X X' : List Nat} {w w' : World} (h : Fr X w w') (hX : ∀ b, b ∈ X → b ∈ X' ∨ w.heap.size ≤ b) : Fr X' w w' :=
  ⟨h.os, h.tape, h.output, h.size, fun k hk hx => h.block k hk (fun hm => by rcases hX k hm with h | h; exact hx h; omega)⟩
theorem Fr.of_below {X : List Nat} {w w' : World} (h : Below w.heap.size w w') : Fr X w w' := ⟨h.os, h.tape, h.output, h.size, fun k hk _ => h.block k hk⟩
theorem Fr.below {w w' : World} (h : Fr [] w w') : Below w.heap.size w w' := ⟨h.os, h.tape, h.output, h.size, fun k hk => h.block k hk (by simp)⟩
/-- The blocks that this frame may still give to its parts. -/
def free (c : Ctx) (S : Blk) (w : World) : Blk := fun b => ¬ S b ∧ b < w.heap.size ∧ (c.w0.heap.size ≤ b ∨ b ∈ c.X)
def SOk (c : Ctx) (S : Blk) (w : World) : Prop := ∀ b, S b → b < w.heap.size ∧ (c.S0 b ∨ c.w0.heap.size ≤ b ∨ b ∈ c.X)
def Inv (c : Ctx) (Γ : List Ent) (a : Act) (w : World) : Prop :=
  a.defers = [] ∧ (a.tmps.size = c.n ∧ c.n ≤ 1000000) ∧ Fr c.X c.w0 w ∧ ∃ θ S, SOk c S w ∧ sat θ S a w [] Γ (free c S w)
theorem Inv.sub {c : Ctx} {Γ Δ : List Ent} {a : Act} {w : World} (h : Inv c Γ a w) (hH : ∀ e, Has [] Δ e → Has [] Γ e) : Inv c Δ a w := by
  obtain ⟨h1, h2, h3, θ, S, h4, h5⟩ := h
  exact ⟨h1, h2, h3, θ, S, h4, sat_sub h5 (fun k hk => hk) hH⟩
/-- Looking up by key: the part that stands first. -/
def findE : List Nat → List Ent → Nat → Option Ent
  | _, [], _ => none
  | ks, x :: Γ, k => match Nat.beq x.key k with
    | true => match dead ks x with
      | true => none
      | false => some x
    | false => findE (x.key :: ks) Γ k
theorem has_find : ∀ {Γ : List Ent} {ks : List Nat} {k : Nat} {e : Ent}, findE ks Γ k = some e → Has ks Γ e
  | [], _, _, _, h => by cases h
  | x :: Γ, ks, k, e, h => by
    unfold findE at h
    split at h
    · split at h
      · cases h
      · rename_i hd
        cases h
        exact .here hd
    · exact .there (has_find h)
theorem has {Γ : List Ent} {e : Ent} (h : findE [] Γ e.key = some e) : Has [] Γ e := has_find h
/-- Every part of Δ stands in Γ. -/
inductive Told : List Ent → List Ent → Prop
  | nil {Γ : List Ent} : Told Γ []
  | cons {Γ Δ : List Ent} {e : Ent} : findE [] Γ e.key = some e → Told Γ Δ → Told Γ (e :: Δ)
theorem Has.mem {ks : List Nat} {Γ : List Ent} {e : Ent} (h : Has ks Γ e) : e ∈ Γ := by
  induction h with
  | here _ => exact List.mem_cons_self
  | there _ ih => exact List.mem_cons_of_mem _ ih
theorem Told.sub {Γ Δ : List Ent} (h : Told Γ Δ) : ∀ e, Has [] Δ e → Has [] Γ e := by
  intro e he
  have hm := he.mem
  clear he
  induction h with
  | nil => cases hm
  | cons h1 h2 ih =>
    rcases List.mem_cons.1 hm with rfl | hm
    · exact has h1
    · exact ih hm
end Go.Proofs.Ytedgkcdofiildaa.Sl
