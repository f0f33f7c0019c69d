/- The macros that a text names: macro.Refs and the document's. -/
import Derived.Test.YtodogppelokapaaPsorts
set_option linter.unusedVariables false
set_option linter.unusedSimpArgs false
set_option linter.unnecessarySimpa false
set_option linter.deprecated false
namespace Go.Proofs.Ytodogppelokapaa.F
open Go Go.RowKit Go.Proofs.Ytodogppelokapaa.Sl
theorem app_all {α : Type} {b : Nat} {l k : List α} (h : (l.length + k.length) * b ≤ 140737488355328) : app b l k = some (l ++ k) := by
  unfold app room
  rw [if_pos (Nat.ble_eq_true_of_le h)]
theorem sub_mid {α : Type} {l : List α} {i : Nat} (h : i ≤ l.length) : sub l (i : Int) (l.length : Int) = some (l.drop i) := by
  unfold sub
  rw [if_pos ⟨by omega, by omega, by omega⟩]
  simp
  exact List.take_of_length_le (by simp)
/-! ### put -/
theorem put_loop (l : List ByteArray) (x : ByteArray) (hl : l.length ≤ 1000000) : ∀ j : Nat, j ≤ l.length → ∃ n : Nat, smithyref05_put.l0.v l x (j : Int) = some (n : Int) ∧ j ≤ n ∧ n ≤ l.length ∧ (∀ i, j ≤ i → ∀ h : i < n, ∀ h' : i < l.length, Less l[i] x) ∧ (∀ h : n < l.length, ¬ Less l[n] x) := fun j hj =>
  up j hj ⟨l.length, by rw [smithyref05_put.l0.v_eq, lss_nat, decide_eq_false (by simp)]; rfl, Nat.le_refl _, Nat.le_refl _, fun i h1 h2 => by omega, fun h => by omega⟩ (fun j hj ih => by
    rw [smithyref05_put.l0.v_eq, lss_nat, decide_eq_true hj, cond_true, idx_nat hj, Option.bind_some, Option.bind_some, scmp_lss]
    by_cases h : Less l[j] x
    · obtain ⟨n, e, h1, h2, h3, h4⟩ := ih
      refine ⟨n, ?_, by omega, h2, fun i hi1 hi2 hi3 => ?_, h4⟩
      · rw [decide_eq_true h, cond_true, wrap_nat (by omega)]; exact e
      · by_cases e : i = j
        · subst e; exact h
        · exact h3 i (by omega) hi2 hi3
    · exact ⟨j, by rw [decide_eq_false h]; rfl, Nat.le_refl _, by omega, fun i h1 h2 => by omega, fun _ => h⟩)
theorem put_v (l : List ByteArray) (x : ByteArray) (hl : l.length ≤ 1000000) (hs : l.Pairwise Less) : ∃ r, smithyref05_put.v l x = some r ∧ r.Pairwise Less ∧ (∀ y, y ∈ r ↔ y = x ∨ y ∈ l) ∧ r.length ≤ l.length + 1 := by
  obtain ⟨n, e, _, h2, h3, h4⟩ := put_loop l x hl 0 (Nat.zero_le _)
  have hlt : ∀ y, y ∈ l.take n → Less y x := fun y hy => by
    obtain ⟨i, hi, rfl⟩ := List.getElem_of_mem hy
    rw [List.length_take] at hi
    rw [List.getElem_take]
    exact h3 i (Nat.zero_le _) (by omega) (by omega)
  rw [smithyref05_put.v_eq, show smithyref05_put.l0.v l x (0 : Int) = _ from e, Option.bind_some, lss_nat]
  have hins : ∀ hne : (∀ y, y ∈ l.drop n → Less x y), ∃ r, ((sub l (0 : Int) (n : Int)).bind fun x16 => (app 16 ([] : List ByteArray) x16).bind fun x18 => (app 16 x18 ([x])).bind fun x20 => (sub l (n : Int) (l.length : Int)).bind fun x22 => (app 16 x20 x22).bind fun x24 => some x24) = some r ∧ r.Pairwise Less ∧ (∀ y, y ∈ r ↔ y = x ∨ y ∈ l) ∧ r.length ≤ l.length + 1 := fun hne => by
    refine ⟨l.take n ++ [x] ++ l.drop n, ?_, ?_, fun y => ?_, by simp; omega⟩
    · rw [sub_nat h2, Option.bind_some, app_all (by simp; omega), Option.bind_some, List.nil_append, app_all (by simp; omega), Option.bind_some, sub_mid h2, Option.bind_some, app_all (by simp; omega)]; rfl
    · have hp := hs
      rw [← List.take_append_drop n l, List.pairwise_append] at hp
      refine List.pairwise_append.2 ⟨List.pairwise_append.2 ⟨hp.1, List.pairwise_singleton _ _, fun a ha b hb => by rw [List.mem_singleton.1 hb]; exact hlt a ha⟩, hp.2.1, fun a ha b hb => ?_⟩
      rcases List.mem_append.1 ha with ha | ha
      · exact (hlt a ha).trans (hne b hb)
      · rw [List.mem_singleton.1 ha]; exact hne b hb
    · rw [List.mem_append, List.mem_append, List.mem_singleton]
      constructor
      · rintro ((h | h) | h)
        · exact .inr (List.mem_of_mem_take h)
        · exact .inl h
        · exact .inr (List.mem_of_mem_drop h)
      · rintro (h | h)
        · exact .inl (.inr h)
        · rw [← List.take_append_drop n l] at h
          rcases List.mem_append.1 h with h | h
          · exact .inl (.inl h)
          · exact .inr h
  by_cases hn : n < l.length
  · rw [decide_eq_true hn, cond_true, idx_nat hn, Option.bind_some, Option.bind_some, scmp_eql]
    by_cases hx : l[n] = x
    · rw [decide_eq_true hx, cond_true]
      exact ⟨l, rfl, hs, fun y => ⟨.inr, fun h => by rcases h with rfl | h; exact hx ▸ List.getElem_mem hn; exact h⟩, by omega⟩
    · rw [decide_eq_false hx, cond_false]
      refine hins (fun y hy => ?_)
      have hxn : Less x l[n] := by
        by_cases h : Less x l[n]
        · exact h
        · exact absurd (Less.tri h (h4 hn)).symm hx
      rw [List.drop_eq_getElem_cons hn] at hy
      rcases List.mem_cons.1 hy with rfl | hy
      · exact hxn
      · have hp := hs
        rw [← List.take_append_drop n l, List.pairwise_append, List.drop_eq_getElem_cons hn] at hp
        exact hxn.trans ((List.pairwise_cons.1 hp.2.1).1 y hy)
  · rw [decide_eq_false hn, cond_false, Option.bind_some, cond_false]
    refine hins (fun y hy => ?_)
    rw [List.drop_eq_nil_of_le (by omega)] at hy
    cases hy
/-! ### bytes in a text -/
abbrev dl (s : ByteArray) : List UInt8 := s.data.toList
theorem ext_data {s t : ByteArray} (h : dl s = dl t) : s = t := toB_inj h
theorem dl_len (s : ByteArray) : (dl s).length = s.size := Array.length_toList
theorem dl_extract (s : ByteArray) (i j : Nat) : dl (s.extract i j) = ((dl s).drop i).take (j - i) := by
  simp [dl, ByteArray.data_extract, List.drop_take]
theorem ssub_nat {s : ByteArray} {i j : Nat} (h1 : i ≤ j) (h2 : j ≤ s.size) : ssub s (i : Int) (j : Int) = some (s.extract i j) := by
  unfold ssub
  rw [if_pos ⟨by omega, by omega, by omega⟩]; rfl
theorem ib_cons (b : UInt8) (l : List UInt8) (c : UInt8) : Lib.indexByte (b :: l) c = if b = c then 0 else if Lib.indexByte l c = -1 then -1 else Lib.indexByte l c + 1 := by
  simp [Lib.indexByte]
theorem ib_range (l : List UInt8) (c : UInt8) : Lib.indexByte l c = -1 ∨ (0 ≤ Lib.indexByte l c ∧ Lib.indexByte l c < l.length) := by
  induction l with
  | nil => exact .inl rfl
  | cons b l ih =>
    rw [ib_cons]
    by_cases h : b = c
    · rw [if_pos h]; exact .inr ⟨by omega, by simp only [List.length_cons]; omega⟩
    · rw [if_neg h]
      rcases ih with ih | ih
      · rw [if_pos ih]; exact .inl rfl
      · rw [if_neg (by omega)]
        exact .inr ⟨by omega, by simp only [List.length_cons]; omega⟩
theorem ib_snoc (l : List UInt8) (b c : UInt8) : Lib.indexByte (l ++ [b]) c = if Lib.indexByte l c = -1 then (if b = c then (l.length : Int) else -1) else Lib.indexByte l c := by
  induction l with
  | nil => simp [Lib.indexByte]
  | cons a l ih =>
    rw [List.cons_append, ib_cons, ib_cons, ih]
    by_cases h : a = c
    · simp [h]
    · simp only [if_neg h]
      rcases ib_range l c with h2 | h2
      · rw [if_pos h2, if_pos h2]
        by_cases hb : b = c
        · simp only [if_pos hb, List.length_cons]; rw [if_neg (by omega)]; simp
        · simp [hb]
      · rw [if_neg (by omega), if_neg (by omega), if_neg (by omega), if_neg (by omega)]
theorem eq_byte (b c : UInt8) : icmp .eql (b.toNat : Int) (c.toNat : Int) = decide (b = c) := by
  rw [show icmp .eql (b.toNat : Int) (c.toNat : Int) = _ from eql_nat _ _, Bool.eq_iff_iff]
  simp only [decide_eq_true_eq]
  exact ⟨fun h => UInt8.toNat_inj.mp h, fun h => by rw [h]⟩
theorem neq_byte (b c : UInt8) : icmp .neq (b.toNat : Int) (c.toNat : Int) = !decide (b = c) := by
  rw [← eq_byte]; rfl
/-- Where the closing byte stands: the document's search. -/
theorem stop_loop (a : ByteArray) (c : UInt8) (hs : a.size ≤ 65536) : ∀ j : Nat, j ≤ (dl a).length → smithyref05_Refs.l1.v a (c.toNat : Int) (j : Int) = some (if Lib.indexByte ((dl a).drop j) c = -1 then (a.size : Int) else (j : Int) + Lib.indexByte ((dl a).drop j) c) := fun j hj =>
  up j hj (by
    rw [smithyref05_Refs.l1.v_eq, dl_len, lss_nat, decide_eq_false (by omega)]
    rw [List.drop_eq_nil_of_le (by rw [dl_len]; exact Nat.le_refl _)]
    rfl) (fun j hj ih => by
    have hj' : j < a.size := by rw [← dl_len]; exact hj
    rw [smithyref05_Refs.l1.v_eq, lss_nat, decide_eq_true hj', cond_true, bidx_nat hj', Option.bind_some, Option.bind_some, neq_byte, wrap_nat (by omega), ih, drop_cons hj, ib_cons]
    by_cases h : (dl a)[j] = c
    · rw [if_pos h, decide_eq_true h]; simp
    · rw [if_neg h, decide_eq_false h]
      simp only [Bool.not_false, cond_true]
      rcases ib_range ((dl a).drop (j + 1)) c with h2 | h2
      · simp [h2]
      · rw [if_neg (by omega), if_neg (by omega), if_neg (by omega)]
        congr 1; omega)
theorem pred_nat {j : Nat} (h : j < 9223372036854775807) : IntKind.i64.wrap (((j + 1 : Nat) : Int) - 1) = (j : Int) := by
  simp [IntKind.wrap, IntKind.signed, IntKind.bits]
  split <;> omega
/-- The document's name: up to the first colon. -/
theorem colon_loop (a : ByteArray) (hs : a.size ≤ 65536) (acc : List ByteArray) (i : Nat) : ∀ m : Nat, i + 2 + m ≤ a.size → ∀ nm : Int, smithyref05_Refs.l2.v a (acc, (i : Int)) (nm, ((i + 1 + m : Nat) : Int)) = some (if Lib.indexByte (((dl a).drop (i + 2)).take m) 58 = -1 then nm else ((i + 2 : Nat) : Int) + Lib.indexByte (((dl a).drop (i + 2)).take m) 58)
  | 0, h, nm => by
    rw [smithyref05_Refs.l2.v_eq]
    simp only
    rw [wrap_nat (by omega), gtr_nat, decide_eq_false (by omega), List.take_zero]; rfl
  | m + 1, h, nm => by
    have ih := colon_loop a hs acc i m (by omega)
    have hk : i + 1 + (m + 1) < a.size := by omega
    have hlen : m < ((dl a).drop (i + 2)).length := by rw [List.length_drop, dl_len]; omega
    have hel : ((dl a).drop (i + 2))[m] = (dl a)[i + 1 + (m + 1)]'(by rw [dl_len]; exact hk) := by
      rw [List.getElem_drop]; congr 1; omega
    have htk : ((dl a).drop (i + 2)).take (m + 1) = ((dl a).drop (i + 2)).take m ++ [((dl a).drop (i + 2))[m]] := by rw [List.take_add_one, List.getElem?_eq_getElem hlen]; rfl
    have hml : (((dl a).drop (i + 2)).take m).length = m := by rw [List.length_take]; omega
    rw [smithyref05_Refs.l2.v_eq]
    simp only
    rw [wrap_nat (by omega), gtr_nat, decide_eq_true (by omega), cond_true, bidx_nat hk, Option.bind_some]
    rw [show icmp .eql (((dl a)[i + 1 + (m + 1)]'(by rw [dl_len]; exact hk)).toNat : Int) (58 : Int) = _ from eq_byte _ 58]
    rw [show ((i + 1 + (m + 1) : Nat) : Int) = ((i + 1 + m + 1 : Nat) : Int) by omega, pred_nat (by omega), htk, ib_snoc, hml, ← hel]
    by_cases hc : ((dl a).drop (i + 2))[m] = 58
    · rw [decide_eq_true hc, cond_true, Option.bind_some, ih, if_pos hc]
      by_cases h1 : Lib.indexByte (((dl a).drop (i + 2)).take m) 58 = -1
      · rw [if_pos h1, if_pos h1, if_neg (by omega)]; congr 1; omega
      · rw [if_neg h1, if_neg h1, if_neg h1]
    · rw [decide_eq_false hc, cond_false, Option.bind_some, ih, if_neg hc]
      by_cases h1 : Lib.indexByte (((dl a).drop (i + 2)).take m) 58 = -1
      · rw [if_pos h1, if_pos h1, if_pos rfl]
      · rw [if_neg h1, if_neg h1, if_neg h1]
end Go.Proofs.Ytodogppelokapaa.F
