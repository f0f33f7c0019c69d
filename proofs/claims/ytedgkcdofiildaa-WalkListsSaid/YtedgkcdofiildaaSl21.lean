/- Fuel taken away: what a function with fuel comes to. -/
import Derived.Test.YtedgkcdofiildaaSl20
set_option linter.unusedVariables false
set_option linter.unusedSimpArgs false
set_option linter.unnecessarySimpa false
set_option linter.deprecated false
namespace Go.Proofs.Ytedgkcdofiildaa.Sl
open Go
def Le {α : Type} (a b : Option α) : Prop := ∀ r, a = some r → b = some r
theorem Le.refl {α : Type} (a : Option α) : Le a a := fun _ h => h
theorem Le.none {α : Type} (a : Option α) : Le Option.none a := fun _ h => by cases h
theorem Le.bind {α β : Type} {a b : Option α} {f g : α → Option β} (h : Le a b) (hf : ∀ x, Le (f x) (g x)) : Le (a.bind f) (b.bind g) := fun r h1 => by
  obtain ⟨x, h2, h3⟩ := Option.bind_eq_some_iff.1 h1
  rw [h x h2]
  exact hf x r h3
theorem Le.cond {α : Type} {c : Bool} {a b a' b' : Option α} (h1 : Le a a') (h2 : Le b b') : Le (bif c then a else b) (bif c then a' else b') := by
  cases c <;> assumption
/-- From some fuel on f is b; and no fuel makes it anything else. -/
def Tends {α : Type} (f : Nat → Option α) (b : Option α) : Prop := (∀ k, Le (f k) b) ∧ ∀ r, b = some r → ∃ K, ∀ k, K ≤ k → f k = some r
theorem Tends.const {α : Type} (a : Option α) : Tends (fun _ => a) a := ⟨fun _ => Le.refl _, fun r h => ⟨0, fun _ _ => h⟩⟩
theorem Tends.bind {α β : Type} {f : Nat → Option α} {b : Option α} {g : Nat → α → Option β} {h : α → Option β} (h1 : Tends f b) (h2 : ∀ x, Tends (fun k => g k x) (h x)) : Tends (fun k => (f k).bind (g k)) (b.bind h) :=
  ⟨fun k => Le.bind (h1.1 k) (fun x => (h2 x).1 k), fun r hr => by
    obtain ⟨x, e1, e2⟩ := Option.bind_eq_some_iff.1 hr
    obtain ⟨K1, k1⟩ := h1.2 x e1
    obtain ⟨K2, k2⟩ := (h2 x).2 r e2
    exact ⟨max K1 K2, fun k hk => by show (f k).bind (g k) = some r; rw [k1 k (by omega)]; exact k2 k (by omega)⟩⟩
theorem Tends.cond {α : Type} {c : Bool} {f g : Nat → Option α} {a b : Option α} (h1 : Tends f a) (h2 : Tends g b) : Tends (fun k => bif c then f k else g k) (bif c then a else b) := by
  cases c <;> assumption
theorem Tends.uniq {α : Type} {f : Nat → Option α} {a b : Option α} (h1 : Tends f a) (h2 : Tends f b) : a = b := by
  have key : ∀ {a b : Option α}, Tends f a → Tends f b → Le a b := fun h1 h2 r hr => by
    obtain ⟨K, hK⟩ := h1.2 r hr
    exact h2.1 K r (hK K (Nat.le_refl _))
  have h3 := key h1 h2
  have h4 := key h2 h1
  cases a with
  | some r => exact (h3 r rfl).symm
  | none => cases b with
    | none => rfl
    | some r => exact h4 r rfl
theorem Tends.shift {α : Type} {f : Nat → Option α} {a : Option α} (h : Tends f a) : Tends (fun k => f (k + 1)) a :=
  ⟨fun k => h.1 (k + 1), fun r hr => by obtain ⟨K, hK⟩ := h.2 r hr; exact ⟨K, fun k hk => hK (k + 1) (by omega)⟩⟩
open Classical in
noncomputable def lim {α : Type} (f : Nat → Option α) : Option α := if h : ∃ r k, f k = some r then some (Classical.choose h) else none
theorem tends_lim {α : Type} {f : Nat → Option α} (h : ∀ {k k' : Nat}, k ≤ k' → Le (f k) (f k')) : Tends f (lim f) := by
  have hu : ∀ {k k' r r'}, f k = some r → f k' = some r' → r = r' := fun {k k' r r'} e1 e2 => by
    have a1 := h (Nat.le_max_left k k') r e1
    have a2 := h (Nat.le_max_right k k') r' e2
    rw [a1] at a2
    exact Option.some.inj a2
  refine ⟨fun k r hr => ?_, fun r hr => ?_⟩
  · have hx : ∃ r k, f k = some r := ⟨r, k, hr⟩
    unfold lim
    rw [dif_pos hx]
    obtain ⟨k2, h2⟩ := Classical.choose_spec hx
    exact congrArg some (hu h2 hr)
  · unfold lim at hr
    by_cases hx : ∃ r k, f k = some r
    · rw [dif_pos hx] at hr
      have e := Option.some.inj hr
      obtain ⟨k2, h2⟩ := Classical.choose_spec hx
      refine ⟨k2, fun k hk => ?_⟩
      rw [← e]
      exact h hk _ h2
    · rw [dif_neg hx] at hr; cases hr
/-- What comes to a value has fuel enough. -/
theorem Tends.ex {α : Type} {f : Nat → Option α} {b : Option α} {r : α} (h : Tends f b) (hb : b = some r) : ∃ k, f k = some r := by
  obtain ⟨K, hK⟩ := h.2 r hb
  exact ⟨K, hK K (Nat.le_refl _)⟩
theorem Tends.at {α : Type} {f : Nat → Option α} {b : Option α} {r : α} (h : Tends f b) (k : Nat) (hb : f k = some r) : b = some r := h.1 k r hb
end Go.Proofs.Ytedgkcdofiildaa.Sl
