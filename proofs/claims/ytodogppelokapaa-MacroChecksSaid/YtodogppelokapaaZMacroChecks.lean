import Derived.Test.YtodogppelokapaaQMacroChecks
import Derived.Test.YtodogppelokapaaBytes
import Derived.Test.YtodogppelokapaaExt
set_option linter.unusedVariables false
set_option linter.unusedSimpArgs false
namespace Go.Proofs.Ytodogppelokapaa.P
open Go Go.RowKit Go.Proofs.Ytodogppelokapaa.Ext Go.Proofs.YtodogppelokapaaW.PrintWords Go.Proofs.YtodogppelokapaaW.PrintLast Go.Proofs.YtodogppelokapaaW.PrintMore
theorem get_bt (s : ByteArray) (i : Nat) (h : i < s.size) : ((s.get! i).toNat : Int) = bt s (i : Int) := by
  have e : s.get! i = s[i]'h := by cases s with | mk d => exact getElem!_pos d i h
  unfold bt
  rw [e, dif_pos (show (i : Int).toNat < s.size by simpa using h)]
  simp
theorem decode_low (s : ByteArray) (i : Nat) (h : (s.get! i).toNat < 128) : Utf8.decode s i = ((s.get! i).toNat, 1) := by
  unfold Utf8.decode
  simp only [Nat.add_zero]
  rw [if_pos h]
theorem decode_high (s : ByteArray) (i : Nat) (h : ¬ (s.get! i).toNat < 128) : 128 ≤ (Utf8.decode s i).1 := by
  unfold Utf8.decode
  simp only [Nat.add_zero]
  rw [if_neg h]
  have hr : 128 ≤ Utf8.runeError := by decide
  repeat' split
  all_goals first | exact hr | (rename_i h1; exact h1) | (rename_i h1; simp only [Bool.and_eq_true, decide_eq_true_eq] at h1; show 128 ≤ _; omega)
theorem mletter_high (r : Int) (h : 128 ≤ r) : mletter r = false := decide_eq_false (by omega)
theorem idx_step (s : ByteArray) (f pos : Nat) (h : pos < s.size) : Lib.idxFuncFrom mother true s (f + 1) pos = if mletter (bt s (pos : Int)) = true then Lib.idxFuncFrom mother true s f (pos + 1) else (pos : Int) := by
  have hg := get_bt s pos h
  conv => lhs; unfold Lib.idxFuncFrom
  rw [if_pos h]
  by_cases hb : (s.get! pos).toNat < 128
  · rw [decode_low s pos hb]
    simp only [mother, hg]
    cases hm : mletter (bt s (pos : Int)) with
    | true => simp only [Bool.not_true, Bool.false_eq_true, if_false, if_true]
    | false => simp only [Bool.not_false, if_true, Bool.false_eq_true, if_false]
  · have hd := decode_high s pos hb
    have h1 : mletter (((Utf8.decode s pos).1 : Nat) : Int) = false := mletter_high _ (by omega)
    have h2 : mletter (bt s (pos : Int)) = false := mletter_high _ (by rw [← hg]; omega)
    simp only [mother, h1, h2, Bool.not_false, if_true, Bool.false_eq_true, if_false]
theorem rname_round (k : Nat) (s : ByteArray) (i : Int) (h0 : 0 ≤ i) (h1 : i < (s.size : Int)) :
    smithyref05_Name.l0 (k + 1) s i = if mletter (bt s i) = true then smithyref05_Name.l0 k s (wrap64 (i + 1)) else some false := by
  have hL : mletter (bt s i) = true ↔ _ := decide_eq_true_iff
  simp only [smithyref05_Name.l0]
  rw [if_pos h1, if_pos h0]
  generalize bt s i = c at *
  generalize smithyref05_Name.l0 k s (wrap64 (i + 1)) = r at *
  by_cases hl : mletter c = true
  · rw [if_pos hl]
    have hL' := hL.mp hl
    clear hL hl
    by_cases a7 : c = 95
    · subst a7; rfl
    · by_cases a8 : c = 46
      · subst a8; rfl
      · by_cases a1 : c ≥ 97 <;> by_cases a2 : c ≤ 122 <;> by_cases a3 : c ≥ 65 <;> by_cases a4 : c ≤ 90 <;> by_cases a5 : c ≥ 48 <;> by_cases a6 : c ≤ 57 <;> first | (exfalso; omega) | simp only [a1, a2, a3, a4, a5, a6, a7, a8, if_true, if_false]
  · rw [if_neg hl]
    have hL' : ¬ ((97 ≤ c ∧ c ≤ 122) ∨ (65 ≤ c ∧ c ≤ 90) ∨ (48 ≤ c ∧ c ≤ 57) ∨ c = 95 ∨ c = 46) := fun h => hl (hL.mpr h)
    clear hL hl
    have a7 : ¬ c = 95 := by omega
    have a8 : ¬ c = 46 := by omega
    by_cases a1 : c ≥ 97 <;> by_cases a2 : c ≤ 122 <;> by_cases a3 : c ≥ 65 <;> by_cases a4 : c ≤ 90 <;> by_cases a5 : c ≥ 48 <;> by_cases a6 : c ≤ 57 <;> first | (exfalso; omega) | simp only [a1, a2, a3, a4, a5, a6, a7, a8, if_true, if_false]
theorem rname_loop (s : ByteArray) (hs : s.size ≤ 140737488351232) : ∀ (d i : Nat), s.size - i = d → i ≤ s.size →
    Ev (fun k => smithyref05_Name.l0 k s (i : Int)) (!(decide (0 ≤ Lib.idxFuncFrom mother true s d i)))
  | 0, i, hd, hi => by
    have : i = s.size := by omega
    subst this
    refine Ev.step (fun _ => rfl) ?_
    simp only [smithyref05_Name.l0, if_neg (show ¬ (s.size : Int) < (s.size : Int) by omega)]
    exact Ev.now _
  | d + 1, i, hd, hi => by
    have hlt : i < s.size := by omega
    have hw : wrap64 ((i : Int) + 1) = ((i + 1 : Nat) : Int) := by unfold wrap64; omega
    have ih := rname_loop s hs d (i + 1) (by omega) (by omega)
    rw [idx_step s d i hlt]
    refine Ev.step (fun _ => rfl) ?_
    simp only [rname_round _ s (i : Int) (by omega) (show (i : Int) < (s.size : Int) by omega), hw]
    cases hm : mletter (bt s (i : Int)) with
    | true => simp only [if_true]; exact ih
    | false =>
      have : decide (0 ≤ (i : Int)) = true := decide_eq_true (by omega)
      simp only [Bool.false_eq_true, if_false, this, Bool.not_true]
      exact Ev.now _
theorem rname_ev (s : ByteArray) (hs : s.size ≤ 140737488351232) : Ev (fun k => smithyref05_Name.f k s) (mname s) := by
  simp only [smithyref05_Name.f]
  unfold mname
  by_cases h1 : (s.size : Int) < 1
  · simp only [if_pos h1]
    refine Ev.step (fun _ => rfl) ?_
    have : decide (0 < s.size) = false := decide_eq_false (by omega)
    simp only [smithyref05_Name.j0, if_true, this, Bool.false_and]
    exact Ev.now _
  · simp only [if_neg h1]
    have e1 : decide (0 < s.size) = true := decide_eq_true (by omega)
    refine Ev.step (fun _ => rfl) ?_
    by_cases h2 : (s.size : Int) > 64
    · have : decide (s.size ≤ 64) = false := decide_eq_false (by omega)
      simp only [smithyref05_Name.j0, decide_eq_true h2, if_true, e1, this, Bool.true_and, Bool.false_and]
      exact Ev.now _
    · have e2 : decide (s.size ≤ 64) = true := decide_eq_true (by omega)
      simp only [smithyref05_Name.j0, decide_eq_false h2, Bool.false_eq_true, if_false, e1, e2, Bool.true_and]
      exact rname_loop s hs s.size 0 rfl (Nat.zero_le _)
def oneR (m : S30) : Int := if mname m.f0 = true then (if m.f2 < 0 ∨ m.f2 > 2 then 51 else if m.f1.size > 8192 then 41 else 0) else 50
def onesR : List S30 → Int
  | [] => 0
  | x :: xs => if oneR x = 0 then onesR xs else oneR x
def lessB (p q : ByteArray) : Bool := Op.bytesLess p.toList q.toList
def chain : ByteArray → List S30 → Bool
  | _, [] => true
  | p, x :: xs => lessB p x.f0 && chain x.f0 xs
def chained : List S30 → Bool
  | [] => true
  | x :: xs => chain x.f0 xs
def mcheckR (l : List S30) : Int := if l.length > 256 then 2 else if onesR l = 0 then (if chained l = true then 0 else 5) else onesR l
def msmall (l : List S30) : Prop := ∀ y ∈ l, ok30 y
theorem mrd_mid (pre : List S30) (x : S30) (xs : List S30) : rd_T30 (pre ++ x :: xs) (pre.length : Int) = x := by simp [rd_T30]
theorem one_ev (m : S30) : Ev (fun k => macro_one.f k m.f0 m.f1 m.f2) (oneR m) := by
  simp only [macro_one.f, macro_Name.f, Option.bind_some]
  unfold oneR
  cases hm : mname m.f0 with
  | false => simp only [Bool.false_eq_true, if_false]; exact Ev.now _
  | true =>
    simp only [if_true]
    by_cases h1 : m.f2 < 0
    · simp only [if_pos h1, if_pos (show m.f2 < 0 ∨ m.f2 > 2 from .inl h1)]
      refine Ev.step (fun _ => rfl) ?_
      simp only [macro_one.j0, if_true]
      exact Ev.now _
    · simp only [if_neg h1]
      refine Ev.step (fun _ => rfl) ?_
      by_cases h2 : m.f2 > 2
      · simp only [macro_one.j0, decide_eq_true h2, if_true, if_pos (show m.f2 < 0 ∨ m.f2 > 2 from .inr h2)]
        exact Ev.now _
      · simp only [macro_one.j0, decide_eq_false h2, Bool.false_eq_true, if_false, if_neg (show ¬ (m.f2 < 0 ∨ m.f2 > 2) from fun h => h.elim h1 h2)]
        by_cases h3 : m.f1.size > 8192
        · simp only [if_pos h3, if_pos (show (m.f1.size : Int) > 8192 by omega)]; exact Ev.now _
        · simp only [if_neg h3, if_neg (show ¬ (m.f1.size : Int) > 8192 by omega)]; exact Ev.now _
theorem rone_ev (m : S30) (hs : m.f0.size ≤ 140737488351232) : Ev (fun k => smithyref05_One.f k m.f0 m.f1 m.f2) (oneR m) := by
  simp only [smithyref05_One.f]
  refine Ev.bind (rname_ev m.f0 hs) ?_
  unfold oneR
  cases hm : mname m.f0 with
  | false => simp only [Bool.false_eq_true, if_false]; exact Ev.now _
  | true =>
    simp only [if_true]
    by_cases h1 : m.f2 < 0
    · simp only [if_pos h1, if_pos (show m.f2 < 0 ∨ m.f2 > 2 from .inl h1)]
      refine Ev.step (fun _ => rfl) ?_
      simp only [smithyref05_One.j0, if_true]
      exact Ev.now _
    · simp only [if_neg h1]
      refine Ev.step (fun _ => rfl) ?_
      by_cases h2 : m.f2 > 2
      · simp only [smithyref05_One.j0, decide_eq_true h2, if_true, if_pos (show m.f2 < 0 ∨ m.f2 > 2 from .inr h2)]
        exact Ev.now _
      · simp only [smithyref05_One.j0, decide_eq_false h2, Bool.false_eq_true, if_false, if_neg (show ¬ (m.f2 < 0 ∨ m.f2 > 2) from fun h => h.elim h1 h2)]
        by_cases h3 : m.f1.size > 8192
        · simp only [if_pos h3, if_pos (show (m.f1.size : Int) > 8192 by omega)]; exact Ev.now _
        · simp only [if_neg h3, if_neg (show ¬ (m.f1.size : Int) > 8192 by omega)]; exact Ev.now _
theorem byName_eq (a b : ByteArray) (c : Int) (d e : ByteArray) (f : Int) : macro_byName.f a b c d e f = some (Lib.compareBytes a.data.toList d.data.toList) := rfl
theorem mcheck_l1 (l : List S30) (hl : l.length ≤ 256) : ∀ (suf pre : List S30) (z : S30), l = (pre ++ [z]) ++ suf →
    Ev (fun k => macro_Check.l1 k l (l.length : Int) ((pre ++ [z]).length : Int)) (if chain z.f0 suf = true then 0 else 5)
  | [], pre, z, e => by
    refine Ev.step (fun _ => rfl) ?_
    have : l.length = (pre ++ [z]).length := by rw [e]; simp
    simp only [macro_Check.l1, if_neg (show ¬ ((pre ++ [z]).length : Int) < (l.length : Int) by omega), chain, if_true]
    exact Ev.now _
  | x :: xs, pre, z, e => by
    have hp : (pre ++ [z]).length = pre.length + 1 := by simp
    have hlen : l.length = pre.length + 1 + (xs.length + 1) := by rw [e]; simp; omega
    have hx : rd_T30 l ((pre ++ [z]).length : Int) = x := by rw [e]; exact mrd_mid (pre ++ [z]) x xs
    have hz : rd_T30 l (pre.length : Int) = z := by rw [e, List.append_assoc]; exact mrd_mid pre z ([] ++ x :: xs)
    have hw1 : wrap64 (((pre ++ [z]).length : Int) - 1) = (pre.length : Int) := by rw [hp]; unfold wrap64; omega
    have hw : wrap64 (((pre ++ [z]).length : Int) + 1) = (((pre ++ [z]) ++ [x]).length : Int) := by rw [show ((pre ++ [z]) ++ [x]).length = pre.length + 2 by simp, hp]; unfold wrap64; omega
    have ih := mcheck_l1 l hl xs (pre ++ [z]) x (by rw [e]; simp)
    refine Ev.step (fun _ => rfl) ?_
    simp only [macro_Check.l1, if_pos (show ((pre ++ [z]).length : Int) < (l.length : Int) by omega), if_pos (show ((pre ++ [z]).length : Int) > 0 by omega), hw1, if_pos (show (0 : Int) ≤ (pre.length : Int) by omega), if_pos (show (pre.length : Int) < (l.length : Int) by omega), if_pos (show (0 : Int) ≤ ((pre ++ [z]).length : Int) by omega), hx, hz, byName_eq, Option.bind_some, hw]
    have hc : Lib.compareBytes z.f0.data.toList x.f0.data.toList < 0 ↔ lessB z.f0 x.f0 = true := by
      unfold lessB
      rw [cmp_lt, toList_data, toList_data]
    cases hb : lessB z.f0 x.f0 with
    | true =>
      have := hc.2 hb
      simp only [if_neg (show ¬ Lib.compareBytes z.f0.data.toList x.f0.data.toList ≥ 0 by omega), chain, hb, Bool.true_and]
      exact ih
    | false =>
      have : ¬ Lib.compareBytes z.f0.data.toList x.f0.data.toList < 0 := fun h => by rw [hc.1 h] at hb; cases hb
      simp only [if_pos (show Lib.compareBytes z.f0.data.toList x.f0.data.toList ≥ 0 by omega), chain, hb, Bool.false_and, Bool.false_eq_true, if_false]
      exact Ev.now _
theorem mcheck_l1s (l : List S30) (hl : l.length ≤ 256) : Ev (fun k => macro_Check.l1 k l (l.length : Int) 0) (if chained l = true then 0 else 5) := by
  cases l with
  | nil =>
    refine Ev.step (fun _ => rfl) ?_
    simp only [macro_Check.l1, List.length_nil, if_neg (show ¬ (0 : Int) < ((0 : Nat) : Int) by omega), chained, if_true]
    exact Ev.now _
  | cons x xs =>
    have h := mcheck_l1 (x :: xs) hl xs [] x rfl
    have hw : wrap64 ((0 : Int) + 1) = (([] ++ [x] : List S30).length : Int) := by show wrap64 (0 + 1) = ((1 : Nat) : Int); unfold wrap64; omega
    refine Ev.step (fun _ => rfl) ?_
    simp only [macro_Check.l1, if_pos (show (0 : Int) < ((x :: xs).length : Int) by simp only [List.length_cons]; omega), if_neg (show ¬ (0 : Int) > 0 by omega), hw]
    exact h
theorem mcheck_l0 (l : List S30) (hl : l.length ≤ 256) : ∀ (suf pre : List S30), l = pre ++ suf →
    Ev (fun k => macro_Check.l0 k l l (l.length : Int) (pre.length : Int)) (if onesR suf = 0 then (if chained l = true then 0 else 5) else onesR suf)
  | [], pre, e => by
    refine Ev.step (fun _ => rfl) ?_
    have : l.length = pre.length := by rw [e]; simp
    simp only [macro_Check.l0, if_neg (show ¬ (pre.length : Int) < (l.length : Int) by omega), onesR, if_true]
    exact mcheck_l1s l hl
  | x :: xs, pre, e => by
    have hlen : l.length = pre.length + (xs.length + 1) := by rw [e]; simp
    have hlt : (pre.length : Int) < (l.length : Int) := by omega
    have hx : rd_T30 l (pre.length : Int) = x := by rw [e]; exact mrd_mid pre x xs
    have hw : wrap64 ((pre.length : Int) + 1) = ((pre ++ [x]).length : Int) := by simp; unfold wrap64; omega
    have ih := mcheck_l0 l hl xs (pre ++ [x]) (by rw [e]; simp)
    refine Ev.step (fun _ => rfl) ?_
    simp only [macro_Check.l0, if_pos hlt, if_pos (show (0 : Int) ≤ (pre.length : Int) by omega), hx, hw]
    refine Ev.bind (one_ev x) ?_
    by_cases h : oneR x = 0
    · simp only [if_pos h, onesR]
      exact ih
    · simp only [if_neg h, onesR]
      exact Ev.now _
theorem mcheck_ev (l : List S30) : Ev (fun k => macro_Check.f k l) (mcheckR l) := by
  simp only [macro_Check.f]
  unfold mcheckR
  by_cases h : l.length > 256
  · simp only [if_pos h, if_pos (show (l.length : Int) > 256 by omega)]
    exact Ev.now _
  · simp only [if_neg h, if_neg (show ¬ (l.length : Int) > 256 by omega)]
    exact mcheck_l0 l (by omega) l [] rfl
theorem rmcheck_l1 (l : List S30) (hl : l.length ≤ 256) : ∀ (suf pre : List S30) (z : S30), l = (pre ++ [z]) ++ suf →
    Ev (fun k => smithyref05_Check.l1 k l ((pre ++ [z]).length : Int)) (if chain z.f0 suf = true then 0 else 5)
  | [], pre, z, e => by
    refine Ev.step (fun _ => rfl) ?_
    have : l.length = (pre ++ [z]).length := by rw [e]; simp
    simp only [smithyref05_Check.l1, if_neg (show ¬ ((pre ++ [z]).length : Int) < (l.length : Int) by omega), chain, if_true]
    exact Ev.now _
  | x :: xs, pre, z, e => by
    have hp : (pre ++ [z]).length = pre.length + 1 := by simp
    have hlen : l.length = pre.length + 1 + (xs.length + 1) := by rw [e]; simp; omega
    have hx : rd_T30 l ((pre ++ [z]).length : Int) = x := by rw [e]; exact mrd_mid (pre ++ [z]) x xs
    have hz : rd_T30 l (pre.length : Int) = z := by rw [e, List.append_assoc]; exact mrd_mid pre z ([] ++ x :: xs)
    have hw1 : wrap64 (((pre ++ [z]).length : Int) - 1) = (pre.length : Int) := by rw [hp]; unfold wrap64; omega
    have hw : wrap64 (((pre ++ [z]).length : Int) + 1) = (((pre ++ [z]) ++ [x]).length : Int) := by rw [show ((pre ++ [z]) ++ [x]).length = pre.length + 2 by simp, hp]; unfold wrap64; omega
    have ih := rmcheck_l1 l hl xs (pre ++ [z]) x (by rw [e]; simp)
    refine Ev.step (fun _ => rfl) ?_
    simp only [smithyref05_Check.l1, if_pos (show ((pre ++ [z]).length : Int) < (l.length : Int) by omega), hw1, if_pos (show (0 : Int) ≤ (pre.length : Int) by omega), if_pos (show (pre.length : Int) < (l.length : Int) by omega), if_pos (show (0 : Int) ≤ ((pre ++ [z]).length : Int) by omega), hx, hz, hw]
    have hd : Op.bytesLess z.f0.toList x.f0.toList = lessB z.f0 x.f0 := rfl
    rw [hd]
    cases hb : lessB z.f0 x.f0 with
    | true =>
      simp only [if_true, chain, hb, Bool.true_and]
      exact ih
    | false =>
      simp only [Bool.false_eq_true, if_false, chain, hb, Bool.false_and]
      exact Ev.now _
theorem rmcheck_l1s (l : List S30) (hl : l.length ≤ 256) : Ev (fun k => smithyref05_Check.l1 k l 1) (if chained l = true then 0 else 5) := by
  cases l with
  | nil =>
    refine Ev.step (fun _ => rfl) ?_
    simp only [smithyref05_Check.l1, List.length_nil, if_neg (show ¬ (1 : Int) < ((0 : Nat) : Int) by omega), chained, if_true]
    exact Ev.now _
  | cons x xs => exact rmcheck_l1 (x :: xs) hl xs [] x rfl
theorem rmcheck_l0 (l : List S30) (hl : l.length ≤ 256) (hs : msmall l) : ∀ (suf pre : List S30), l = pre ++ suf →
    Ev (fun k => smithyref05_Check.l0 k l l (l.length : Int) (pre.length : Int)) (if onesR suf = 0 then (if chained l = true then 0 else 5) else onesR suf)
  | [], pre, e => by
    refine Ev.step (fun _ => rfl) ?_
    have : l.length = pre.length := by rw [e]; simp
    simp only [smithyref05_Check.l0, if_neg (show ¬ (pre.length : Int) < (l.length : Int) by omega), onesR, if_true]
    exact rmcheck_l1s l hl
  | x :: xs, pre, e => by
    have hlen : l.length = pre.length + (xs.length + 1) := by rw [e]; simp
    have hlt : (pre.length : Int) < (l.length : Int) := by omega
    have hx : rd_T30 l (pre.length : Int) = x := by rw [e]; exact mrd_mid pre x xs
    have hxs : x.f0.size ≤ 140737488351232 := (hs x (by rw [e]; simp)).1
    have hw : wrap64 ((pre.length : Int) + 1) = ((pre ++ [x]).length : Int) := by simp; unfold wrap64; omega
    have ih := rmcheck_l0 l hl hs xs (pre ++ [x]) (by rw [e]; simp)
    refine Ev.step (fun _ => rfl) ?_
    simp only [smithyref05_Check.l0, if_pos hlt, if_pos (show (0 : Int) ≤ (pre.length : Int) by omega), hx, hw]
    refine Ev.bind (rone_ev x hxs) ?_
    by_cases h : oneR x = 0
    · simp only [if_pos h, onesR]
      exact ih
    · simp only [if_neg h, onesR]
      exact Ev.now _
theorem rmcheck_ev (l : List S30) (hs : msmall l) : Ev (fun k => smithyref05_Check.f k l) (mcheckR l) := by
  simp only [smithyref05_Check.f]
  unfold mcheckR
  by_cases h : l.length > 256
  · simp only [if_pos h, if_pos (show (l.length : Int) > 256 by omega)]
    exact Ev.now _
  · simp only [if_neg h, if_neg (show ¬ (l.length : Int) > 256 by omega)]
    exact rmcheck_l0 l (by omega) hs l [] rfl
theorem small_at : smithylaw05_small.f 40 = some true := by
  unfold smithylaw05_small.f
  simp only [toList_data]
  decide +kernel
theorem small_ev : Ev (fun k => smithylaw05_small.f k) true := ⟨40, fun k hk => at_rounds (fun k => smithylaw05_small.mono k) hk small_at⟩
end Go.Proofs.Ytodogppelokapaa.P
