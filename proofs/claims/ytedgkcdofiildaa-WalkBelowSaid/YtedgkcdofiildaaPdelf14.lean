/- slices.Clone and slices.DeleteFunc at texts. -/
import Derived.Test.YtedgkcdofiildaaPnames
set_option linter.unusedVariables false
set_option linter.unusedSimpArgs false
set_option linter.unnecessarySimpa false
set_option linter.deprecated false
namespace Go.Proofs.Ytedgkcdofiildaa.F
open Go Go.RowKit Go.Proofs.Ytedgkcdofiildaa.Sl
theorem app_all {α : Type} {b : Nat} {l k : List α} (h : (l.length + k.length) * b ≤ 140737488355328) : app b l k = some (l ++ k) := by
  unfold app room
  rw [if_pos (Nat.ble_eq_true_of_le h)]
theorem idx_first (l : List ByteArray) (p : ByteArray → Option Bool) (q : ByteArray → Bool) (hq : ∀ z, z ∈ l → p z = some (q z)) (hl : l.length ≤ LIM) : ∀ j : Nat, j ≤ l.length → slices_IndexFunc_string_string.l0.v l p j = some (match (l.drop j).findIdx? q with | none => .ok () | some i => .error ((j + i : Nat) : Int)) := fun j hj =>
  up j hj (by rw [slices_IndexFunc_string_string.l0.v_eq, lss_nat]; simp) (fun j hj ih => by
    rw [slices_IndexFunc_string_string.l0.v_eq, lss_nat, decide_eq_true hj, cond_true, idx_nat hj, Option.bind_some, wrap_nat (by simp [LIM] at hl; omega), hq _ (List.getElem_mem hj), Option.bind_some, drop_cons hj, List.findIdx?_cons, ih]
    cases h : q l[j]
    · simp only [cond_false, Bool.false_eq_true, if_false]
      cases (l.drop (j + 1)).findIdx? q with
      | none => rfl
      | some i => simp only [Option.map_some]; congr 3; omega
    · simp)
theorem del_loop (l : List ByteArray) (p : ByteArray → Option Bool) (q : ByteArray → Bool) (hq : ∀ z, z ∈ l → p z = some (q z)) (hl : l.length ≤ LIM) : ∀ j : Nat, j ≤ l.length → ∀ (cur : List ByteArray) (i : Nat), i < j → cur.length = l.length → cur.take i = (l.take j).filter (fun z => !q z) → cur.drop j = l.drop j →
    ∃ (cur' : List ByteArray) (i' : Nat), slices_DeleteFunc_string_string.l0.v p (cur, (i : Int), (j : Int)) = some (cur', (i' : Int)) ∧ i' ≤ cur'.length ∧ cur'.take i' = l.filter (fun z => !q z) := fun j hj =>
  up j hj (fun cur i hij hc ht hd => by
    refine ⟨cur, i, ?_, by omega, by rw [ht, List.take_length]⟩
    rw [slices_DeleteFunc_string_string.l0.v_eq]
    simp only []
    rw [lss_nat, decide_eq_false (by omega)]; rfl) (fun j hj ih cur i hij hc ht hd => by
    have hcj : j < cur.length := by omega
    have hx : cur[j] = l[j] := by
      have e1 := drop_cons hcj
      have e2 := drop_cons hj
      rw [hd, e2] at e1
      exact (List.cons.inj e1).1.symm
    have hdr : cur.drop (j + 1) = l.drop (j + 1) := by
      have e1 := drop_cons hcj
      have e2 := drop_cons hj
      rw [hd, e2] at e1
      exact (List.cons.inj e1).2.symm
    have htk : l.take (j + 1) = l.take j ++ [l[j]] := by rw [List.take_add_one, List.getElem?_eq_getElem hj]; rfl
    have hw : IntKind.i64.wrap ((j : Int) + 1) = ((j + 1 : Nat) : Int) := wrap_nat (by simp [LIM] at hl; omega)
    have hci : i < cur.length := by omega
    have hwi : IntKind.i64.wrap ((i : Int) + 1) = ((i + 1 : Nat) : Int) := wrap_nat (by simp [LIM] at hl; omega)
    rw [slices_DeleteFunc_string_string.l0.v_eq]
    simp only []
    rw [lss_nat, decide_eq_true hcj, cond_true, idx_nat hcj, Option.bind_some, hx, hq _ (List.getElem_mem hj), Option.bind_some]
    cases hb : q l[j] with
    | true =>
      simp only [Bool.not_true, cond_false, Option.bind_some]
      rw [hw]
      exact ih cur i (by omega) hc (by rw [ht, htk, List.filter_append]; simp [hb]) hdr
    | false =>
      simp only [Bool.not_false, cond_true]
      rw [idx_nat hci]
      simp only [Option.bind_some]
      rw [hw, hwi, Int.toNat_natCast]
      refine ih (cur.set i l[j]) (i + 1) (by omega) (by rw [List.length_set]; exact hc) ?_ ?_
      · rw [htk, List.filter_append, ← ht]
        have : (cur.set i l[j]).take (i + 1) = cur.take i ++ [l[j]] := by
          rw [List.take_add_one, List.getElem?_set_self hci, List.take_set_of_le (Nat.le_refl _)]; rfl
        rw [this]; simp [hb]
      · rw [List.drop_set_of_lt (by omega)]; exact hdr)
theorem findIdx_none {q : ByteArray → Bool} : ∀ {l : List ByteArray}, l.findIdx? q = none → l.filter (fun z => !q z) = l
  | [], _ => rfl
  | x :: xs, h => by
    rw [List.findIdx?_cons] at h
    cases hx : q x with
    | true => rw [hx] at h; simp at h
    | false =>
      rw [hx] at h
      simp only [Bool.false_eq_true, if_false, Option.map_eq_none_iff] at h
      rw [List.filter_cons, hx]; simp [findIdx_none h]
theorem findIdx_some {q : ByteArray → Bool} : ∀ {l : List ByteArray} {i : Nat}, l.findIdx? q = some i → ∃ h : i < l.length, q l[i] = true ∧ (l.take i).filter (fun z => !q z) = l.take i
  | [], i, h => by simp at h
  | x :: xs, i, h => by
    rw [List.findIdx?_cons] at h
    cases hx : q x with
    | true => rw [hx] at h; simp at h; subst h; exact ⟨by simp, hx, by simp⟩
    | false =>
      rw [hx] at h
      simp only [Bool.false_eq_true, if_false, Option.map_eq_some_iff] at h
      obtain ⟨k, hk, rfl⟩ := h
      obtain ⟨h1, h2, h3⟩ := findIdx_some hk
      refine ⟨by simpa using h1, by simpa using h2, ?_⟩
      rw [List.take_succ_cons, List.filter_cons, hx]; simp [h3]
theorem delf_v (l : List ByteArray) (p : ByteArray → Option Bool) (q : ByteArray → Bool) (hq : ∀ z, z ∈ l → p z = some (q z)) (hl : l.length ≤ LIM) : slices_DeleteFunc_string_string.v l p = some (l.filter fun z => !q z) := by
  rw [slices_DeleteFunc_string_string.v_eq, slices_IndexFunc_string_string.v_eq, zero_nat, idx_first l p q hq hl 0 (Nat.zero_le _), List.drop_zero]
  cases h : l.findIdx? q with
  | none =>
    rw [findIdx_none h]; rfl
  | some i =>
    obtain ⟨h1, h2, h3⟩ := findIdx_some h
    have e0 : icmp .eql ((0 + i : Nat) : Int) (-1 : Int) = false := by
      unfold icmp; simp
    simp only [Option.bind_some]
    rw [e0, cond_false, Nat.zero_add, wrap_nat (by simp [LIM] at hl; omega)]
    have htk : l.take (i + 1) = l.take i ++ [l[i]] := by rw [List.take_add_one, List.getElem?_eq_getElem h1]; rfl
    obtain ⟨cur', i', e, g1, g2⟩ := del_loop l p q hq hl (i + 1) h1 l i (by omega) rfl (by rw [htk, List.filter_append, h3]; simp [h2]) rfl
    rw [e]
    simp only [Option.bind_some, Int.toNat_natCast]
    have i1 : inrow cur' (i' : Int) = some () := by unfold inrow; rw [if_pos ⟨by omega, by omega⟩]
    have i2 : inrow (cur'.take i' ++ List.replicate (cur'.length - i') ByteArray.empty) (i' : Int) = some () := by
      unfold inrow; rw [if_pos ⟨by omega, by simp; omega⟩]
    rw [i1, Option.bind_some, i2, Option.bind_some]
    congr 1
    rw [List.take_append_of_le_length (by simp; omega), List.take_take, Nat.min_self]
    exact g2
end Go.Proofs.Ytedgkcdofiildaa.F
