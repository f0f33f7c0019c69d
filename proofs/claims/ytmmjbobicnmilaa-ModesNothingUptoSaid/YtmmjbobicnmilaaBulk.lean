import Derived.Test.YtmmjbobicnmilaaRows
import Derived.Test.YtmmjbobicnmilaaSm4
import Derived.Deep.Slices
set_option linter.unusedVariables false
namespace Go.Proofs.Ytmmjbobicnmilaa.Bulk
open Go Go.Proofs.Ytmmjbobicnmilaa Go.Proofs.Ytmmjbobicnmilaa.Sl
theorem one_le {H : Type} (d : DataW H) : 1 ≤ Rows.uptoBulk d := by
  cases d with
  | lit l => cases l <;> simp [Rows.uptoBulk]
  | _ => simp [Rows.uptoBulk]
theorem part_le {H : Type} {l : List (DataW H)} {d : DataW H} (h : d ∈ l) : Rows.uptoBulk d ≤ Rows.uptoBulkAll l := by
  induction l with
  | nil => cases h
  | cons x r ih =>
    simp only [Rows.uptoBulkAll]
    cases List.mem_cons.1 h with
    | inl e => subst e; omega
    | inr e => have := ih e; omega
theorem length_le {H : Type} (l : List (DataW H)) : l.length ≤ Rows.uptoBulkAll l := by
  induction l with
  | nil => simp [Rows.uptoBulkAll]
  | cons x r ih => have := one_le x; simp only [Rows.uptoBulkAll, List.length_cons]; omega
theorem part {H : Type} {l : List (DataW H)} (hk : Rows.uptoSmall H l = true) (d : DataW H) (h : d ∈ l) : Rows.uptoBulk d ≤ 1048576 :=
  Nat.le_trans (part_le h) (of_decide_eq_true hk)
variable {P : Program}
theorem slice_len {H : Type} {enc : TypeId × Value → H} {W : World} {spare : Nat → Bool} {held : Bool} {fuel : Nat} {t e : TypeId} {a : Option Addr} {len cap : Nat} {dat : DataW H} {ps : List MemPlace}
    (ht : P.underlying t = some (.slice e)) (h : DataW.trod enc P W 0 spare held fuel t [.slice a len cap] = some (dat, ps)) : len ≤ Rows.uptoBulk dat := by
  rcases Deep.open_slice ht h with ⟨he, _⟩ | ⟨a, len', cap', m, n, D, Pl, he, _, hl, hm, hmm, hx, hel⟩
  · obtain ⟨_, rfl, _⟩ : a = none ∧ len = 0 ∧ cap = 0 := by simpa using he
    exact Nat.zero_le _
  · obtain ⟨_, rfl, _⟩ : _ ∧ len = len' ∧ cap = cap' := by simpa using he
    obtain ⟨rfl, _⟩ := Prod.mk.inj hx
    have h1 := length_le ((List.range len).map D)
    simp only [List.length_map, List.length_range] at h1
    simp only [Rows.uptoBulk]
    omega
/-- A slice that is a field of a struct is no longer than the struct's bulk. -/
theorem slice_field (H : Type) (enc : TypeId × Value → H) (W : World) (spare : Nat → Bool) (held : Bool) (fuel : Nat) (cs : List Value) (dat : DataW H) (ps : List MemPlace) {t e : TypeId} {fs : Array Field} {a : Option Addr} {len cap : Nat}
    (ht : P.underlying t = some (.struct fs)) (h : DataW.trod enc P W 0 spare held fuel t cs = some (dat, ps)) (i : Nat) (f : Field) (hf : fs[i]? = some f) (hu : P.underlying f.type = some (.slice e)) (hc : P.cellsOf f.type = 1)
    (hcs : (cs.drop f.offset).take 1 = [.slice a len cap]) : len ≤ Rows.uptoBulk dat := by
  obtain ⟨xs, n, _, he, hl, hlen, hel⟩ := DataW.trod_struct ht h
  obtain ⟨rfl, _⟩ := Prod.mk.inj he
  have h1 := hel i f hf
  rw [hc, hcs] at h1
  cases hx : xs[i]? with
  | none =>
    have h2 : i < fs.size := (Array.getElem?_eq_some_iff.1 hf).1
    rw [List.getElem?_eq_none_iff] at hx
    omega
  | some y =>
    rw [hx] at h1
    have h2 := slice_len (dat := y.1) (ps := y.2) hu h1
    have h3 : y.1 ∈ xs.map (·.1) := List.mem_map.2 ⟨y, List.mem_of_getElem? hx, rfl⟩
    have h4 := part_le h3
    simp only [Rows.uptoBulk]
    omega
theorem slice_row {H : Type} {enc : TypeId × Value → H} {W : World} {spare : Nat → Bool} {held : Bool} {fuel : Nat} {t e : TypeId} {cs : List Value} {dat : DataW H} {ps : List MemPlace} {α : Type} {K : Kn α} {S : Blk} {x : List α}
    (ht : P.underlying t = some (.slice e)) (hr : (kslice K).R S W x cs) (h : DataW.trod enc P W 0 spare held fuel t cs = some (dat, ps)) : x.length ≤ Rows.uptoBulk dat := by
  obtain ⟨A, c, rfl, _⟩ := hr
  exact slice_len ht h
theorem slice_fld {H : Type} {enc : TypeId × Value → H} {W : World} {spare : Nat → Bool} {held : Bool} {fuel : Nat} {t e : TypeId} {cs : List Value} {dat : DataW H} {ps : List MemPlace} {fs : Array Field} {α β : Type} {K : Kn α} {Ke : Kn β} {off : Nat} {get : α → List β} {set : α → List β → α} {S : Blk} {x : α}
    (hF : Fld K off (kslice Ke) get set) (ht : P.underlying t = some (.struct fs)) (h : DataW.trod enc P W 0 spare held fuel t cs = some (dat, ps)) (hr : K.R S W x cs) (i : Nat) (f : Field) (hf : fs[i]? = some f) (hu : P.underlying f.type = some (.slice e)) (hc : P.cellsOf f.type = 1) (ho : f.offset = off) : (get x).length ≤ Rows.uptoBulk dat := by
  obtain ⟨A, c, e1, _⟩ := hF.get hr
  exact slice_field H enc W spare held fuel cs dat ps ht h i f hf hu hc (by rw [ho]; exact e1)
theorem struct_fld {H : Type} {enc : TypeId × Value → H} {W : World} {spare : Nat → Bool} {held : Bool} {fuel : Nat} {t : TypeId} {cs : List Value} {dat : DataW H} {ps : List MemPlace} {fs : Array Field} {α β : Type} {K : Kn α} {K' : Kn β} {off : Nat} {get : α → β} {set : α → β → α} {S : Blk} {x : α}
    (hF : Fld K off K' get set) (ht : P.underlying t = some (.struct fs)) (h : DataW.trod enc P W 0 spare held fuel t cs = some (dat, ps)) (hr : K.R S W x cs) (i : Nat) (f : Field) (hf : fs[i]? = some f) (hc : P.cellsOf f.type = K'.sz) (ho : f.offset = off) :
    ∃ y ps', DataW.trod enc P W 0 spare held (fuel - 1) f.type ((cs.drop off).take K'.sz) = some (y, ps') ∧ Rows.uptoBulk y ≤ Rows.uptoBulk dat ∧ K'.R S W (get x) ((cs.drop off).take K'.sz) := by
  obtain ⟨xs, n, hn, he, hl, hlen, hel⟩ := DataW.trod_struct ht h
  obtain ⟨rfl, _⟩ := Prod.mk.inj he
  have h1 := hel i f hf
  cases hx : xs[i]? with
  | none =>
    have h2 : i < fs.size := (Array.getElem?_eq_some_iff.1 hf).1
    rw [List.getElem?_eq_none_iff] at hx
    omega
  | some y =>
    rw [hx] at h1
    rw [hc, ho] at h1
    refine ⟨y.1, y.2, ?_, ?_, hF.get hr⟩
    · rw [show fuel - 1 = n by omega]; exact h1
    · have h3 : y.1 ∈ xs.map (·.1) := List.mem_map.2 ⟨y, List.mem_of_getElem? hx, rfl⟩
      have h4 := part_le h3
      simp only [Rows.uptoBulk]
      omega
end Go.Proofs.Ytmmjbobicnmilaa.Bulk
