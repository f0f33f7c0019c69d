/- Lists of texts in order, each once: what Sort and Compact make, and what put makes. -/
import Derived.Test.YtlpmolohppoofaaVOx1
import Derived.Test.YtlpmolohppoofaaPord
set_option linter.unusedVariables false
set_option linter.unusedSimpArgs false
set_option linter.unnecessarySimpa false
set_option linter.deprecated false
namespace Go.Proofs.Ytlpmolohppoofaa.F
open Go Go.RowKit Go.Proofs.Ytlpmolohppoofaa.Sl
theorem bless_lt : ∀ a b : List UInt8, Op.bytesLess a b = true ↔ a < b
  | [], [] => by simp [Op.bytesLess]
  | [], _ :: _ => by simp [Op.bytesLess]
  | _ :: _, [] => by simp [Op.bytesLess]
  | a :: x, b :: y => by
    have ih := bless_lt x y
    rw [List.cons_lt_cons_iff]
    simp only [Op.bytesLess]
    by_cases h1 : a < b
    · simp [h1]
    · by_cases h2 : b < a
      · have h3 : a ≠ b := fun e => by subst e; exact absurd h2 (by simp [UInt8.lt_iff_toNat_lt])
        simp [h1, h2, h3]
      · have h4 : a = b := by
          rw [UInt8.lt_iff_toNat_lt] at h1 h2
          exact UInt8.toNat_inj.mp (by omega)
        subst h4
        simp [h1, ih]
theorem less_lt (a b : ByteArray) : Less a b ↔ toB a < toB b := by
  unfold Less
  rw [bless_lt, toList_data, toList_data]; rfl
theorem toB_inj {a b : ByteArray} (h : toB a = toB b) : a = b := by
  obtain ⟨⟨a⟩⟩ := a
  obtain ⟨⟨b⟩⟩ := b
  have : a = b := h
  rw [this]
theorem less_of (x y : List UInt8) : Less (ofB x) (ofB y) ↔ x < y := by rw [less_lt]; rfl
theorem lt_of (x y : List UInt8) (h : ¬ y < x) (hne : x ≠ y) : x < y := by
  by_cases h1 : Less (ofB x) (ofB y)
  · exact (less_of x y).1 h1
  · have h2 : ¬ Less (ofB y) (ofB x) := fun k => h ((less_of y x).1 k)
    have := Less.tri h1 h2
    exact absurd (congrArg toB this) hne
theorem lt_tr {x y z : List UInt8} (h : x < y) (k : y < z) : x < z := (less_of x z).1 (((less_of x y).2 h).trans ((less_of y z).2 k))
theorem le_nlt (x y : List UInt8) : x ≤ y ↔ ¬ y < x := by rw [List.not_lt]
theorem nlt_tr {x y z : List UInt8} (h : ¬ y < x) (k : ¬ z < y) : ¬ z < x := fun e => by
  by_cases h1 : x = y
  · exact k (h1 ▸ e)
  · by_cases h2 : y = z
    · exact h (h2 ▸ e)
    · exact h (lt_tr (lt_of _ _ k h2) e)
theorem compact_inv (d : Array (List UInt8)) (hs : ∀ i j, i ≤ j → j < d.size → ¬ d[j]! < d[i]!) : ∀ m, m ≤ d.size → (Lib.compactUpTo d m).Pairwise (· < ·) ∧ (∀ x, x ∈ Lib.compactUpTo d m ↔ ∃ j, j < m ∧ x = d[j]!)
  | 0, _ => ⟨by simp [Lib.compactUpTo], by simp [Lib.compactUpTo]⟩
  | m + 1, hm => by
    obtain ⟨h1, h2⟩ := compact_inv d hs m (by omega)
    rw [Lib.compactUpTo_succ]
    by_cases hk : Lib.keeps d m = true
    · rw [if_pos hk]
      refine ⟨List.pairwise_append.2 ⟨h1, List.pairwise_singleton _ _, fun x hx y hy => ?_⟩, fun x => ?_⟩
      · obtain ⟨j, hj, rfl⟩ := (h2 x).1 hx
        rw [List.mem_singleton.1 hy]
        refine lt_of _ _ (hs j m (by omega) (by omega)) (fun e => ?_)
        have h3 : d[m]! = d[m - 1]! := by
          by_cases h4 : d[m]! = d[m - 1]!
          · exact h4
          · have h5 : d[m - 1]! < d[m]! := lt_of _ _ (hs (m - 1) m (by omega) (by omega)) (fun e => h4 e.symm)
            rw [← e] at h5
            exact absurd h5 (hs j (m - 1) (by omega) (by omega))
        rw [Lib.keeps_neg (by omega) h3] at hk
        cases hk
      · rw [List.mem_append, h2, List.mem_singleton]
        constructor
        · rintro (⟨j, hj, rfl⟩ | rfl)
          · exact ⟨j, by omega, rfl⟩
          · exact ⟨m, by omega, rfl⟩
        · rintro ⟨j, hj, rfl⟩
          by_cases e : j = m
          · exact .inr (by rw [e])
          · exact .inl ⟨j, by omega, rfl⟩
    · rw [if_neg hk, List.append_nil]
      refine ⟨h1, fun x => ?_⟩
      rw [h2]
      have h0 : 0 < m := by
        rcases Nat.eq_zero_or_pos m with h | h
        · subst h; exact absurd (Lib.keeps_lt_one d 0 (by omega)) hk
        · exact h
      have h3 : d[m]! = d[m - 1]! := by
        by_cases h4 : d[m]! = d[m - 1]!
        · exact h4
        · exact absurd (Lib.keeps_pos h4) hk
      constructor
      · rintro ⟨j, hj, rfl⟩; exact ⟨j, by omega, rfl⟩
      · rintro ⟨j, hj, rfl⟩
        by_cases e : j = m
        · exact ⟨m - 1, by omega, by rw [e, h3]⟩
        · exact ⟨j, by omega, rfl⟩
theorem cs_sorted (xs : List ByteArray) : (compactB (sortB xs)).Pairwise Less ∧ ∀ x, x ∈ compactB (sortB xs) ↔ x ∈ xs := by
  have e : (sortB xs).map toB = (xs.map toB).mergeSort fun x y => decide (x ≤ y) := by
    unfold sortB
    rw [List.map_map]
    exact List.map_id _
  unfold compactB
  rw [e]
  have hp := List.mergeSort_perm (xs.map toB) fun x y => decide (x ≤ y)
  have hsrt : ((xs.map toB).mergeSort fun x y => decide (x ≤ y)).Pairwise fun x y => decide (x ≤ y) = true := List.pairwise_mergeSort (le := fun x y => decide (x ≤ y)) (fun a b c h k => by
    simp only [decide_eq_true_eq, le_nlt] at *
    exact nlt_tr h k) (fun a b => by
    simp only [Bool.or_eq_true, decide_eq_true_eq, le_nlt]
    by_cases h : b < a
    · exact .inr (fun k => Less.asymm ((less_of _ _).2 h) ((less_of _ _).2 k))
    · exact .inl h) _
  generalize ((xs.map toB).mergeSort fun x y => decide (x ≤ y)) = zs at *
  have hs : ∀ i j, i ≤ j → j < zs.toArray.size → ¬ zs.toArray[j]! < zs.toArray[i]! := fun i j hij hj => by
    have hj' : j < zs.length := by simpa using hj
    have hi' : i < zs.length := by omega
    have e1 : zs.toArray[j]! = zs[j] := by simp [hj']
    have e2 : zs.toArray[i]! = zs[i] := by simp [hi']
    rw [e1, e2]
    rcases Nat.lt_or_eq_of_le hij with h | h
    · have := List.pairwise_iff_getElem.1 hsrt i j hi' hj' h
      exact (le_nlt _ _).1 (of_decide_eq_true this)
    · subst h
      exact fun k => Less.irrefl (ofB zs[i]) ((less_of _ _).2 k)
  obtain ⟨h1, h2⟩ := compact_inv zs.toArray hs zs.length (by simp)
  refine ⟨?_, fun x => ?_⟩
  · unfold Lib.compact
    rw [List.pairwise_map]
    exact h1.imp fun h => (less_of _ _).2 h
  · unfold Lib.compact
    rw [List.mem_map]
    constructor
    · rintro ⟨y, hy, rfl⟩
      obtain ⟨j, hj, rfl⟩ := (h2 y).1 hy
      have hm : zs[j] ∈ xs.map toB := hp.mem_iff.1 (List.getElem_mem hj)
      obtain ⟨z, hz, ez⟩ := List.mem_map.1 hm
      have e1 : zs.toArray[j]! = zs[j] := by simp [hj]
      rw [e1, ← ez]
      exact hz
    · intro hx
      have hm : toB x ∈ zs := hp.mem_iff.2 (List.mem_map.2 ⟨x, hx, rfl⟩)
      obtain ⟨j, hj, ej⟩ := List.getElem_of_mem hm
      exact ⟨toB x, (h2 _).2 ⟨j, hj, by simp [hj, ej]⟩, rfl⟩
end Go.Proofs.Ytlpmolohppoofaa.F
