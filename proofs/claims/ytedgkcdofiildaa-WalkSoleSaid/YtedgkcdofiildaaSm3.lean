import Derived.Test.YtedgkcdofiildaaSm2
import Derived.Laws.Entries
/- Rows by number: a slice value that several places name; taken to be appended to, and numbered anew. -/
set_option linter.unusedVariables false
set_option linter.unusedSimpArgs false
set_option linter.unnecessarySimpa false
namespace Go.Proofs.Ytedgkcdofiildaa.Sl
open Go Go.RowKit
/-- The slice value of a numbered row: t is 0 for nil, else its capacity and one. -/
def rowVal (b t n : Nat) : Value := match t with
  | 0 => .slice none 0 0
  | c + 1 => .slice (some ⟨b, 0, none⟩) n c
def VA.rw (id n : Nat) : VA where
  ids := [id, 500000 + id]
  sem := fun θ _ ob _ v => ob = bk none ∧ v = rowVal (θ id) (θ (500000 + id)) n
  move := by rintro θ θ' S S' ob w w' v ⟨h0, h⟩ _ _ _ hi; exact ⟨h0, by rw [hi id (by simp), hi (500000 + id) (by simp)]; exact h⟩
def Ent.r {α : Type} (id : Nat) (e : TypeId) (K : Kn α) (xs : List α) : Ent where
  key := 5000000 + id
  slots := []
  ids := [id, 500000 + id]
  sem := fun θ S ob _ w => (VA.own e K xs).sem θ S ob w (rowVal (θ id) (θ (500000 + id)) xs.length)
  move := fun {θ θ' S S' ob a a' w w'} h hA hS hb _ hi => by
    show (VA.own e K xs).sem θ' S' ob w' _
    rw [hi id (by simp), hi (500000 + id) (by simp)]
    exact (VA.own e K xs).move h hA hS hb (fun k hk => by cases hk)
/-- What was known under this key is gone. -/
def Ent.gone (k : Nat) : Ent where
  key := k
  slots := []
  ids := []
  sem := fun _ _ ob _ _ => ob = bk none
  move := fun h _ _ _ _ _ => h
section
variable {P : Program} {c : Ctx} {Γ : List Ent} {Q : Exit → Act → World → Prop} {ops : Array Oper} {l : List Oper}
theorem own_rowVal {α : Type} {e : TypeId} {K : Kn α} {xs : List α} {θ : Nat → Nat} {S : Blk} {ob : Blk} {w : World} {v : Value} (h : (VA.own e K xs).sem θ S ob w v) : ∃ b t, v = rowVal b t xs.length := by
  obtain ⟨_, inner, ⟨_, ho⟩, _⟩ := h
  rcases ho with ⟨rfl, hn⟩ | ⟨g, cap, cur, rfl, _⟩
  · exact ⟨0, 0, rfl⟩
  · exact ⟨g, cap + 1, rfl⟩
/-- A row of the frame's own gets a number. -/
theorem inv_number {α : Type} {a : Act} {w : World} {d : Nat} (id : Nat) {e : TypeId} {K : Kn α} {xs : List α} (hd : Nat.blt d 500000 = true) (hid : Nat.blt id 500000 = true) (h : Has [] Γ (Ent.t d (VA.own e K xs))) (hi : Inv c Γ a w) : Inv c (Ent.t d (VA.rw id xs.length) :: Ent.r id e K xs :: Ent.bind id :: Ent.bind (500000 + id) :: Γ) a w := by
  obtain ⟨k1, k2, k3, θ, S, k4, k5⟩ := hi
  obtain ⟨ob, hown, hav, h6⟩ := sat_take h k5
  have hdn := blt_lt hd
  have hidn := blt_lt hid
  have hown' : (VA.own e K xs).sem θ S ob w (a.tmps.getD d undef) := hown
  obtain ⟨b, t, hv⟩ := own_rowVal hown'
  let θ' : Nat → Nat := fun k => if k = id then b else if k = 500000 + id then t else θ k
  have e1 : θ' id = b := by simp [θ']
  have e2 : θ' (500000 + id) = t := by simp [θ']
  refine ⟨k1, k2, k3, θ', S, k4, ?_⟩
  refine sat_consK (dead_nil _) ⟨rfl, ?_⟩ (sat_consO (ob := ob) (dead_iff (fun k hk => ?_)) ?_ hav (sat_consK (dead_iff (fun k hk => ?_)) rfl (sat_consK (dead_iff (fun k hk => ?_)) rfl ?_)))
  · show a.tmps.getD d undef = rowVal (θ' id) (θ' (500000 + id)) xs.length
    rw [e1, e2]; exact hv
  · simp only [Ent.t, List.mem_singleton] at hk
    simp only [Ent.deps, Ent.r, List.map_cons, List.map_nil, List.nil_append, List.mem_cons, List.not_mem_nil, or_false]
    omega
  · show (VA.own e K xs).sem θ' S ob w (rowVal (θ' id) (θ' (500000 + id)) xs.length)
    rw [e1, e2, ← hv]
    exact (VA.own e K xs).move hown' (Agree.refl _ _) (fun b hb => hb) (fun b hb => rfl) (fun k hk => by cases hk)
  · simp only [Ent.t, Ent.r, List.mem_cons, List.not_mem_nil, or_false] at hk
    simp only [Ent.deps, Ent.bind, List.map_nil, List.nil_append, List.mem_cons, List.not_mem_nil, or_false]
    omega
  · simp only [Ent.t, Ent.r, Ent.bind, List.mem_cons, List.not_mem_nil, or_false] at hk
    simp only [Ent.deps, Ent.bind, List.map_nil, List.nil_append, List.mem_cons, List.not_mem_nil, or_false]
    omega
  · have h7 := sat_mono h6 (ks' := [1000000 + (500000 + id), 1000000 + id, 5000000 + id, d]) (fun k hk => by simp [Ent.t] at hk; simp [hk]) (fun b hb => hb)
    refine sat_move (θ' := θ') h7 (Agree.refl _ _) (fun b hb => hb) (fun b hb => rfl) (fun t _ => rfl) (fun k hk => ?_)
    have n1 : k ≠ id := fun e => hk (by simp [e, Ent.bind])
    have n2 : k ≠ 500000 + id := fun e => hk (by simp [e, Ent.bind])
    simp [θ', n1, n2]
end
end Go.Proofs.Ytedgkcdofiildaa.Sl
/- Boxes told field by field: a field may hold a row or a map by number. -/
set_option linter.unusedVariables false
set_option linter.unusedSimpArgs false
set_option linter.unnecessarySimpa false
namespace Go.Proofs.Ytedgkcdofiildaa.Sl
open Go Go.RowKit
/-- What some cells of a box hold. -/
structure FA where
  off : Nat
  sz : Nat
  ids : List Nat
  sem : (Nat → Nat) → Blk → World → List Value → Prop
  move : ∀ {θ θ' : Nat → Nat} {S S' : Blk} {w w' : World} {cs : List Value}, sem θ S w cs → Agree S w w' → (∀ b, S b → S' b) → (∀ k, k ∈ ids → θ' k = θ k) → sem θ' S' w' cs
namespace FA
def k {α : Type} (off : Nat) (K : Kn α) (x : α) : FA where
  off := off
  sz := K.sz
  ids := []
  sem := fun _ S w cs => K.R S w x cs
  move := fun h hA hS _ => K.move h hA hS
def rw (off id n : Nat) : FA where
  off := off
  sz := 1
  ids := [id, 500000 + id]
  sem := fun θ _ _ cs => cs = [rowVal (θ id) (θ (500000 + id)) n]
  move := fun h _ _ hi => by rw [hi id (by simp), hi (500000 + id) (by simp)]; exact h
def mp (off id : Nat) : FA where
  off := off
  sz := 1
  ids := [id]
  sem := fun θ _ _ cs => cs = [.map (some (θ id))]
  move := fun h _ _ hi => by rw [hi id (by simp)]; exact h
def any (off sz : Nat) : FA where
  off := off
  sz := sz
  ids := []
  sem := fun _ _ _ _ => True
  move := fun h _ _ _ => h
end FA
end Go.Proofs.Ytedgkcdofiildaa.Sl
/- Boxes told field by field: stores. -/
set_option linter.unusedVariables false
set_option linter.unusedSimpArgs false
set_option linter.unnecessarySimpa false
namespace Go.Proofs.Ytedgkcdofiildaa.Sl
open Go Go.RowKit
end Go.Proofs.Ytedgkcdofiildaa.Sl
/- Boxes told field by field: made, and read again as one value. -/
set_option linter.unusedVariables false
set_option linter.unusedSimpArgs false
set_option linter.unnecessarySimpa false
namespace Go.Proofs.Ytedgkcdofiildaa.Sl
open Go Go.RowKit
end Go.Proofs.Ytedgkcdofiildaa.Sl
/- Boxes told field by field: made; a nil field gets a row's number. -/
set_option linter.unusedVariables false
set_option linter.unusedSimpArgs false
set_option linter.unnecessarySimpa false
namespace Go.Proofs.Ytedgkcdofiildaa.Sl
open Go Go.RowKit
/-- A cell as it is. -/
def FA.v (off : Nat) (z : Value) : FA where
  off := off
  sz := 1
  ids := []
  sem := fun _ _ _ cs => cs = [z]
  move := fun h _ _ _ => h
section
variable {P : Program} {c : Ctx} {Γ : List Ent} {Q : Exit → Act → World → Prop} {ops : Array Oper} {l : List Oper}
/-- What is known is told in other words. -/
theorem goesO_by {Δ : List Ent} (h : ∀ a w, Inv c Γ a w → Inv c Δ a w) (next : GoesO P c Δ ops l Q) : GoesO P c Γ ops l Q := fun a w hi => next a w (h a w hi)
end
end Go.Proofs.Ytedgkcdofiildaa.Sl
/- Shifts. -/
set_option linter.unusedVariables false
set_option linter.unusedSimpArgs false
namespace Go.Proofs.Ytedgkcdofiildaa.Sl
open Go Go.RowKit
end Go.Proofs.Ytedgkcdofiildaa.Sl
