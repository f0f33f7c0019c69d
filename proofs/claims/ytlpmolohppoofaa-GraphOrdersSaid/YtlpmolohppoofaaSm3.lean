import Derived.Test.YtlpmolohppoofaaSm2
import Derived.Laws.Entries
/- Rows by number: a slice value that several places name; taken to be appended to, and numbered anew. -/
set_option linter.unusedVariables false
set_option linter.unusedSimpArgs false
set_option linter.unnecessarySimpa false
namespace Go.Proofs.Ytlpmolohppoofaa.Sl
open Go Go.RowKit
/-- The slice value of a numbered row: t is 0 for nil, else its capacity and one. -/
def rowVal (b t n : Nat) : Value := match t with
  | 0 => .slice none 0 0
  | c + 1 => .slice (some ⟨b, 0, none⟩) n c
def VA.rw (id n : Nat) : VA where
  ids := [id, 500000 + id]
  sem := fun θ _ ob _ v => ob = bk none ∧ v = rowVal (θ id) (θ (500000 + id)) n
  move := by rintro θ θ' S S' ob w w' v ⟨h0, h⟩ _ _ _ hi; exact ⟨h0, by rw [hi id (by simp), hi (500000 + id) (by simp)]; exact h⟩
theorem plain_rw {id n : Nat} : Plain (VA.rw id n) := fun {θ S ob w v} h => h.1
def Ent.r {α : Type} (id : Nat) (e : TypeId) (K : Kn α) (xs : List α) : Ent where
  key := 5000000 + id
  slots := []
  ids := [id, 500000 + id]
  sem := fun θ S ob _ w => (VA.own e K xs).sem θ S ob w (rowVal (θ id) (θ (500000 + id)) xs.length)
  move := fun {θ θ' S S' ob a a' w w'} h hA hS hb _ hi => by
    show (VA.own e K xs).sem θ' S' ob w' _
    rw [hi id (by simp), hi (500000 + id) (by simp)]
    exact (VA.own e K xs).move h hA hS hb (fun k hk => by cases hk)
/-- What was known under this key is gone. -/
def Ent.gone (k : Nat) : Ent where
  key := k
  slots := []
  ids := []
  sem := fun _ _ ob _ _ => ob = bk none
  move := fun h _ _ _ _ _ => h
section
variable {P : Program} {c : Ctx} {Γ : List Ent} {Q : Exit → Act → World → Prop} {ops : Array Oper} {l : List Oper}
/-- A numbered row is taken into a slot. -/
theorem inv_release {α : Type} {a : Act} {w : World} {d id : Nat} {e : TypeId} {K : Kn α} {xs : List α} (hd : Nat.blt d 1000000 = true) (h1 : Has [] Γ (Ent.t d (VA.rw id xs.length))) (h2 : Has [] Γ (Ent.r id e K xs)) (hi : Inv c Γ a w) : Inv c (Ent.t d (VA.own e K xs) :: Ent.gone (5000000 + id) :: Γ) a w := by
  obtain ⟨k1, k2, k3, θ, S, k4, k5⟩ := hi
  obtain ⟨_, ⟨_, ev⟩, _⟩ := sat_take h1 k5
  obtain ⟨ob, hown, hav, h6⟩ := sat_take h2 k5
  have hdn := blt_lt hd
  refine ⟨k1, k2, k3, θ, S, k4, sat_consO (ob := ob) (dead_nil _) ?_ hav (sat_consK ?_ rfl ?_)⟩
  · show (VA.own e K xs).sem θ S ob w (a.tmps.getD d undef)
    rw [ev]; exact hown
  · refine dead_iff (fun k hk => ?_)
    simp only [Ent.t, List.mem_singleton] at hk
    simp only [Ent.deps, Ent.gone, List.map_nil, List.nil_append, List.append_nil, List.mem_cons, List.not_mem_nil, or_false]
    omega
  · exact sat_mono h6 (fun k hk => by simp [Ent.r] at hk; simp [Ent.gone, hk]) (fun b hb => hb)
theorem goes_release {α : Type} {k : Code} (d id : Nat) {e : TypeId} {K : Kn α} {xs : List α} (hd : Nat.blt d 1000000 = true) (h1 : findE [] Γ d = some (Ent.t d (VA.rw id xs.length))) (h2 : findE [] Γ (5000000 + id) = some (Ent.r id e K xs)) (next : Goes P c (Ent.t d (VA.own e K xs) :: Ent.gone (5000000 + id) :: Γ) k Q) : Goes P c Γ k Q := fun a w hi => next a w (inv_release hd (has_find h1) (has_find h2) hi)
theorem own_rowVal {α : Type} {e : TypeId} {K : Kn α} {xs : List α} {θ : Nat → Nat} {S : Blk} {ob : Blk} {w : World} {v : Value} (h : (VA.own e K xs).sem θ S ob w v) : ∃ b t, v = rowVal b t xs.length := by
  obtain ⟨_, inner, ⟨_, ho⟩, _⟩ := h
  rcases ho with ⟨rfl, hn⟩ | ⟨g, cap, cur, rfl, _⟩
  · exact ⟨0, 0, rfl⟩
  · exact ⟨g, cap + 1, rfl⟩
/-- A row of the frame's own gets a number. -/
theorem inv_number {α : Type} {a : Act} {w : World} {d : Nat} (id : Nat) {e : TypeId} {K : Kn α} {xs : List α} (hd : Nat.blt d 500000 = true) (hid : Nat.blt id 500000 = true) (h : Has [] Γ (Ent.t d (VA.own e K xs))) (hi : Inv c Γ a w) : Inv c (Ent.t d (VA.rw id xs.length) :: Ent.r id e K xs :: Ent.bind id :: Ent.bind (500000 + id) :: Γ) a w := by
  obtain ⟨k1, k2, k3, θ, S, k4, k5⟩ := hi
  obtain ⟨ob, hown, hav, h6⟩ := sat_take h k5
  have hdn := blt_lt hd
  have hidn := blt_lt hid
  have hown' : (VA.own e K xs).sem θ S ob w (a.tmps.getD d undef) := hown
  obtain ⟨b, t, hv⟩ := own_rowVal hown'
  let θ' : Nat → Nat := fun k => if k = id then b else if k = 500000 + id then t else θ k
  have e1 : θ' id = b := by simp [θ']
  have e2 : θ' (500000 + id) = t := by simp [θ']
  refine ⟨k1, k2, k3, θ', S, k4, ?_⟩
  refine sat_consK (dead_nil _) ⟨rfl, ?_⟩ (sat_consO (ob := ob) (dead_iff (fun k hk => ?_)) ?_ hav (sat_consK (dead_iff (fun k hk => ?_)) rfl (sat_consK (dead_iff (fun k hk => ?_)) rfl ?_)))
  · show a.tmps.getD d undef = rowVal (θ' id) (θ' (500000 + id)) xs.length
    rw [e1, e2]; exact hv
  · simp only [Ent.t, List.mem_singleton] at hk
    simp only [Ent.deps, Ent.r, List.map_cons, List.map_nil, List.nil_append, List.mem_cons, List.not_mem_nil, or_false]
    omega
  · show (VA.own e K xs).sem θ' S ob w (rowVal (θ' id) (θ' (500000 + id)) xs.length)
    rw [e1, e2, ← hv]
    exact (VA.own e K xs).move hown' (Agree.refl _ _) (fun b hb => hb) (fun b hb => rfl) (fun k hk => by cases hk)
  · simp only [Ent.t, Ent.r, List.mem_cons, List.not_mem_nil, or_false] at hk
    simp only [Ent.deps, Ent.bind, List.map_nil, List.nil_append, List.mem_cons, List.not_mem_nil, or_false]
    omega
  · simp only [Ent.t, Ent.r, Ent.bind, List.mem_cons, List.not_mem_nil, or_false] at hk
    simp only [Ent.deps, Ent.bind, List.map_nil, List.nil_append, List.mem_cons, List.not_mem_nil, or_false]
    omega
  · have h7 := sat_mono h6 (ks' := [1000000 + (500000 + id), 1000000 + id, 5000000 + id, d]) (fun k hk => by simp [Ent.t] at hk; simp [hk]) (fun b hb => hb)
    refine sat_move (θ' := θ') h7 (Agree.refl _ _) (fun b hb => hb) (fun b hb => rfl) (fun t _ => rfl) (fun k hk => ?_)
    have n1 : k ≠ id := fun e => hk (by simp [e, Ent.bind])
    have n2 : k ≠ 500000 + id := fun e => hk (by simp [e, Ent.bind])
    simp [θ', n1, n2]
theorem goesO_number {α : Type} (d id : Nat) {e : TypeId} {K : Kn α} {xs : List α} (hd : Nat.blt d 500000 = true) (hid : Nat.blt id 500000 = true) (h : findE [] Γ d = some (Ent.t d (VA.own e K xs))) (next : GoesO P c (Ent.t d (VA.rw id xs.length) :: Ent.r id e K xs :: Ent.bind id :: Ent.bind (500000 + id) :: Γ) ops l Q) : GoesO P c Γ ops l Q := fun a w hi => next a w (inv_number id hd hid (has_find h) hi)
end
end Go.Proofs.Ytlpmolohppoofaa.Sl
/- Boxes told field by field: a field may hold a row or a map by number. -/
set_option linter.unusedVariables false
set_option linter.unusedSimpArgs false
set_option linter.unnecessarySimpa false
namespace Go.Proofs.Ytlpmolohppoofaa.Sl
open Go Go.RowKit
/-- What some cells of a box hold. -/
structure FA where
  off : Nat
  sz : Nat
  ids : List Nat
  sem : (Nat → Nat) → Blk → World → List Value → Prop
  move : ∀ {θ θ' : Nat → Nat} {S S' : Blk} {w w' : World} {cs : List Value}, sem θ S w cs → Agree S w w' → (∀ b, S b → S' b) → (∀ k, k ∈ ids → θ' k = θ k) → sem θ' S' w' cs
namespace FA
def k {α : Type} (off : Nat) (K : Kn α) (x : α) : FA where
  off := off
  sz := K.sz
  ids := []
  sem := fun _ S w cs => K.R S w x cs
  move := fun h hA hS _ => K.move h hA hS
def rw (off id n : Nat) : FA where
  off := off
  sz := 1
  ids := [id, 500000 + id]
  sem := fun θ _ _ cs => cs = [rowVal (θ id) (θ (500000 + id)) n]
  move := fun h _ _ hi => by rw [hi id (by simp), hi (500000 + id) (by simp)]; exact h
def mp (off id : Nat) : FA where
  off := off
  sz := 1
  ids := [id]
  sem := fun θ _ _ cs => cs = [.map (some (θ id))]
  move := fun h _ _ hi => by rw [hi id (by simp)]; exact h
def any (off sz : Nat) : FA where
  off := off
  sz := sz
  ids := []
  sem := fun _ _ _ _ => True
  move := fun h _ _ _ => h
end FA
end Go.Proofs.Ytlpmolohppoofaa.Sl
/- Boxes told field by field: stores. -/
set_option linter.unusedVariables false
set_option linter.unusedSimpArgs false
set_option linter.unnecessarySimpa false
namespace Go.Proofs.Ytlpmolohppoofaa.Sl
open Go Go.RowKit
end Go.Proofs.Ytlpmolohppoofaa.Sl
/- Boxes told field by field: made, and read again as one value. -/
set_option linter.unusedVariables false
set_option linter.unusedSimpArgs false
set_option linter.unnecessarySimpa false
namespace Go.Proofs.Ytlpmolohppoofaa.Sl
open Go Go.RowKit
end Go.Proofs.Ytlpmolohppoofaa.Sl
/- Boxes told field by field: made; a nil field gets a row's number. -/
set_option linter.unusedVariables false
set_option linter.unusedSimpArgs false
set_option linter.unnecessarySimpa false
namespace Go.Proofs.Ytlpmolohppoofaa.Sl
open Go Go.RowKit
/-- A cell as it is. -/
def FA.v (off : Nat) (z : Value) : FA where
  off := off
  sz := 1
  ids := []
  sem := fun _ _ _ cs => cs = [z]
  move := fun h _ _ _ => h
section
variable {P : Program} {c : Ctx} {Γ : List Ent} {Q : Exit → Act → World → Prop} {ops : Array Oper} {l : List Oper}
/-- What is known is told in other words. -/
theorem goesO_by {Δ : List Ent} (h : ∀ a w, Inv c Γ a w → Inv c Δ a w) (next : GoesO P c Δ ops l Q) : GoesO P c Γ ops l Q := fun a w hi => next a w (h a w hi)
end
end Go.Proofs.Ytlpmolohppoofaa.Sl
/- Shifts. -/
set_option linter.unusedVariables false
set_option linter.unusedSimpArgs false
namespace Go.Proofs.Ytlpmolohppoofaa.Sl
open Go Go.RowKit
section
variable {P : Program} {n d : Nat} {ty t t' : TypeId} {pos : String} {af : Array Edge} {g : Option (Nat × Bool)} {N : Ent → Prop}
theorem op_shr {k k' : IntKind} {a b : Int} {x y : Operand} (hd : Nat.blt d n = true) (h0 : 0 ≤ b) (hb : b < k.bits) (hx : Arg N x (VA.k (kint k) a)) (hy : Arg N y (VA.k (kint k') b)) :
    OpSpec P n ⟨some d, .binOp .shr t x y t', ty, pos, af, g⟩ N [Ent.t d (VA.k (kint k) (a / 2 ^ b.toNat))] := op_pure hd fun θ S act w hN => by
  obtain ⟨_, h1⟩ := hx θ S act w hN
  obtain ⟨_, h2⟩ := hy θ S act w hN
  refine ⟨_, ?_, mk_int _ _ _ _ _⟩
  have e1 := k_int h1
  have e2 := k_int h2
  clear h1 h2 hx hy hN
  generalize act.eval = ρ at *
  have hs := shift_shr k k' a b h0 (by omega)
  have hb2 : binOp .shr t (.int k a) (.int k' b) = Op.shift .shr k a k' b := rfl
  simp [execOp, eqGuard, e1, e2, hb2, hs, Sem.run_bind, Sem.run_pure, Result.andThen_ok]
end
end Go.Proofs.Ytlpmolohppoofaa.Sl
