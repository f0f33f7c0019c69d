import Derived.Test.YtodogppelokapaaQMacroLooks
import Derived.Test.YtodogppelokapaaBytes
import Derived.Test.YtodogppelokapaaExt
set_option linter.unusedVariables false
set_option linter.unusedSimpArgs false
namespace Go.Proofs.Ytodogppelokapaa.P
open Go Go.RowKit Go.Proofs.Ytodogppelokapaa.Ext Go.Proofs.YtodogppelokapaaW.PrintWords Go.Proofs.YtodogppelokapaaW.PrintLast Go.Proofs.YtodogppelokapaaW.PrintMore
theorem get_bt (s : ByteArray) (i : Nat) (h : i < s.size) : ((s.get! i).toNat : Int) = bt s (i : Int) := by
  have e : s.get! i = s[i]'h := by cases s with | mk d => exact getElem!_pos d i h
  unfold bt
  rw [e, dif_pos (show (i : Int).toNat < s.size by simpa using h)]
  simp
theorem decode_low (s : ByteArray) (i : Nat) (h : (s.get! i).toNat < 128) : Utf8.decode s i = ((s.get! i).toNat, 1) := by
  unfold Utf8.decode
  simp only [Nat.add_zero]
  rw [if_pos h]
theorem decode_high (s : ByteArray) (i : Nat) (h : ¬ (s.get! i).toNat < 128) : 128 ≤ (Utf8.decode s i).1 := by
  unfold Utf8.decode
  simp only [Nat.add_zero]
  rw [if_neg h]
  have hr : 128 ≤ Utf8.runeError := by decide
  repeat' split
  all_goals first | exact hr | (rename_i h1; exact h1) | (rename_i h1; simp only [Bool.and_eq_true, decide_eq_true_eq] at h1; show 128 ≤ _; omega)
theorem mletter_high (r : Int) (h : 128 ≤ r) : mletter r = false := decide_eq_false (by omega)
theorem idx_step (s : ByteArray) (f pos : Nat) (h : pos < s.size) : Lib.idxFuncFrom mother true s (f + 1) pos = if mletter (bt s (pos : Int)) = true then Lib.idxFuncFrom mother true s f (pos + 1) else (pos : Int) := by
  have hg := get_bt s pos h
  conv => lhs; unfold Lib.idxFuncFrom
  rw [if_pos h]
  by_cases hb : (s.get! pos).toNat < 128
  · rw [decode_low s pos hb]
    simp only [mother, hg]
    cases hm : mletter (bt s (pos : Int)) with
    | true => simp only [Bool.not_true, Bool.false_eq_true, if_false, if_true]
    | false => simp only [Bool.not_false, if_true, Bool.false_eq_true, if_false]
  · have hd := decode_high s pos hb
    have h1 : mletter (((Utf8.decode s pos).1 : Nat) : Int) = false := mletter_high _ (by omega)
    have h2 : mletter (bt s (pos : Int)) = false := mletter_high _ (by rw [← hg]; omega)
    simp only [mother, h1, h2, Bool.not_false, if_true, Bool.false_eq_true, if_false]
theorem rname_round (k : Nat) (s : ByteArray) (i : Int) (h0 : 0 ≤ i) (h1 : i < (s.size : Int)) :
    smithyref05_Name.l0 (k + 1) s i = if mletter (bt s i) = true then smithyref05_Name.l0 k s (wrap64 (i + 1)) else some false := by
  have hL : mletter (bt s i) = true ↔ _ := decide_eq_true_iff
  simp only [smithyref05_Name.l0]
  rw [if_pos h1, if_pos h0]
  generalize bt s i = c at *
  generalize smithyref05_Name.l0 k s (wrap64 (i + 1)) = r at *
  by_cases hl : mletter c = true
  · rw [if_pos hl]
    have hL' := hL.mp hl
    clear hL hl
    by_cases a7 : c = 95
    · subst a7; rfl
    · by_cases a8 : c = 46
      · subst a8; rfl
      · by_cases a1 : c ≥ 97 <;> by_cases a2 : c ≤ 122 <;> by_cases a3 : c ≥ 65 <;> by_cases a4 : c ≤ 90 <;> by_cases a5 : c ≥ 48 <;> by_cases a6 : c ≤ 57 <;> first | (exfalso; omega) | simp only [a1, a2, a3, a4, a5, a6, a7, a8, if_true, if_false]
  · rw [if_neg hl]
    have hL' : ¬ ((97 ≤ c ∧ c ≤ 122) ∨ (65 ≤ c ∧ c ≤ 90) ∨ (48 ≤ c ∧ c ≤ 57) ∨ c = 95 ∨ c = 46) := fun h => hl (hL.mpr h)
    clear hL hl
    have a7 : ¬ c = 95 := by omega
    have a8 : ¬ c = 46 := by omega
    by_cases a1 : c ≥ 97 <;> by_cases a2 : c ≤ 122 <;> by_cases a3 : c ≥ 65 <;> by_cases a4 : c ≤ 90 <;> by_cases a5 : c ≥ 48 <;> by_cases a6 : c ≤ 57 <;> first | (exfalso; omega) | simp only [a1, a2, a3, a4, a5, a6, a7, a8, if_true, if_false]
theorem rname_loop (s : ByteArray) (hs : s.size ≤ 140737488351232) : ∀ (d i : Nat), s.size - i = d → i ≤ s.size →
    Ev (fun k => smithyref05_Name.l0 k s (i : Int)) (!(decide (0 ≤ Lib.idxFuncFrom mother true s d i)))
  | 0, i, hd, hi => by
    have : i = s.size := by omega
    subst this
    refine Ev.step (fun _ => rfl) ?_
    simp only [smithyref05_Name.l0, if_neg (show ¬ (s.size : Int) < (s.size : Int) by omega)]
    exact Ev.now _
  | d + 1, i, hd, hi => by
    have hlt : i < s.size := by omega
    have hw : wrap64 ((i : Int) + 1) = ((i + 1 : Nat) : Int) := by unfold wrap64; omega
    have ih := rname_loop s hs d (i + 1) (by omega) (by omega)
    rw [idx_step s d i hlt]
    refine Ev.step (fun _ => rfl) ?_
    simp only [rname_round _ s (i : Int) (by omega) (show (i : Int) < (s.size : Int) by omega), hw]
    cases hm : mletter (bt s (i : Int)) with
    | true => simp only [if_true]; exact ih
    | false =>
      have : decide (0 ≤ (i : Int)) = true := decide_eq_true (by omega)
      simp only [Bool.false_eq_true, if_false, this, Bool.not_true]
      exact Ev.now _
theorem rname_ev (s : ByteArray) (hs : s.size ≤ 140737488351232) : Ev (fun k => smithyref05_Name.f k s) (mname s) := by
  simp only [smithyref05_Name.f]
  unfold mname
  by_cases h1 : (s.size : Int) < 1
  · simp only [if_pos h1]
    refine Ev.step (fun _ => rfl) ?_
    have : decide (0 < s.size) = false := decide_eq_false (by omega)
    simp only [smithyref05_Name.j0, if_true, this, Bool.false_and]
    exact Ev.now _
  · simp only [if_neg h1]
    have e1 : decide (0 < s.size) = true := decide_eq_true (by omega)
    refine Ev.step (fun _ => rfl) ?_
    by_cases h2 : (s.size : Int) > 64
    · have : decide (s.size ≤ 64) = false := decide_eq_false (by omega)
      simp only [smithyref05_Name.j0, decide_eq_true h2, if_true, e1, this, Bool.true_and, Bool.false_and]
      exact Ev.now _
    · have e2 : decide (s.size ≤ 64) = true := decide_eq_true (by omega)
      simp only [smithyref05_Name.j0, decide_eq_false h2, Bool.false_eq_true, if_false, e1, e2, Bool.true_and]
      exact rname_loop s hs s.size 0 rfl (Nat.zero_le _)
def oneR (m : S30) : Int := if mname m.f0 = true then (if m.f2 < 0 ∨ m.f2 > 2 then 51 else if m.f1.size > 8192 then 41 else 0) else 50
def onesR : List S30 → Int
  | [] => 0
  | x :: xs => if oneR x = 0 then onesR xs else oneR x
def lessB (p q : ByteArray) : Bool := Op.bytesLess p.toList q.toList
def chain : ByteArray → List S30 → Bool
  | _, [] => true
  | p, x :: xs => lessB p x.f0 && chain x.f0 xs
def chained : List S30 → Bool
  | [] => true
  | x :: xs => chain x.f0 xs
def mcheckR (l : List S30) : Int := if l.length > 256 then 2 else if onesR l = 0 then (if chained l = true then 0 else 5) else onesR l
def msmall (l : List S30) : Prop := ∀ y ∈ l, ok30 y
theorem mrd_mid (pre : List S30) (x : S30) (xs : List S30) : rd_T30 (pre ++ x :: xs) (pre.length : Int) = x := by simp [rd_T30]
theorem one_ev (m : S30) : Ev (fun k => macro_one.f k m.f0 m.f1 m.f2) (oneR m) := by
  simp only [macro_one.f, macro_Name.f, Option.bind_some]
  unfold oneR
  cases hm : mname m.f0 with
  | false => simp only [Bool.false_eq_true, if_false]; exact Ev.now _
  | true =>
    simp only [if_true]
    by_cases h1 : m.f2 < 0
    · simp only [if_pos h1, if_pos (show m.f2 < 0 ∨ m.f2 > 2 from .inl h1)]
      refine Ev.step (fun _ => rfl) ?_
      simp only [macro_one.j0, if_true]
      exact Ev.now _
    · simp only [if_neg h1]
      refine Ev.step (fun _ => rfl) ?_
      by_cases h2 : m.f2 > 2
      · simp only [macro_one.j0, decide_eq_true h2, if_true, if_pos (show m.f2 < 0 ∨ m.f2 > 2 from .inr h2)]
        exact Ev.now _
      · simp only [macro_one.j0, decide_eq_false h2, Bool.false_eq_true, if_false, if_neg (show ¬ (m.f2 < 0 ∨ m.f2 > 2) from fun h => h.elim h1 h2)]
        by_cases h3 : m.f1.size > 8192
        · simp only [if_pos h3, if_pos (show (m.f1.size : Int) > 8192 by omega)]; exact Ev.now _
        · simp only [if_neg h3, if_neg (show ¬ (m.f1.size : Int) > 8192 by omega)]; exact Ev.now _
theorem rone_ev (m : S30) (hs : m.f0.size ≤ 140737488351232) : Ev (fun k => smithyref05_One.f k m.f0 m.f1 m.f2) (oneR m) := by
  simp only [smithyref05_One.f]
  refine Ev.bind (rname_ev m.f0 hs) ?_
  unfold oneR
  cases hm : mname m.f0 with
  | false => simp only [Bool.false_eq_true, if_false]; exact Ev.now _
  | true =>
    simp only [if_true]
    by_cases h1 : m.f2 < 0
    · simp only [if_pos h1, if_pos (show m.f2 < 0 ∨ m.f2 > 2 from .inl h1)]
      refine Ev.step (fun _ => rfl) ?_
      simp only [smithyref05_One.j0, if_true]
      exact Ev.now _
    · simp only [if_neg h1]
      refine Ev.step (fun _ => rfl) ?_
      by_cases h2 : m.f2 > 2
      · simp only [smithyref05_One.j0, decide_eq_true h2, if_true, if_pos (show m.f2 < 0 ∨ m.f2 > 2 from .inr h2)]
        exact Ev.now _
      · simp only [smithyref05_One.j0, decide_eq_false h2, Bool.false_eq_true, if_false, if_neg (show ¬ (m.f2 < 0 ∨ m.f2 > 2) from fun h => h.elim h1 h2)]
        by_cases h3 : m.f1.size > 8192
        · simp only [if_pos h3, if_pos (show (m.f1.size : Int) > 8192 by omega)]; exact Ev.now _
        · simp only [if_neg h3, if_neg (show ¬ (m.f1.size : Int) > 8192 by omega)]; exact Ev.now _
theorem byName_eq (a b : ByteArray) (c : Int) (d e : ByteArray) (f : Int) : macro_byName.f a b c d e f = some (Lib.compareBytes a.data.toList d.data.toList) := rfl
theorem mcheck_l1 (l : List S30) (hl : l.length ≤ 256) : ∀ (suf pre : List S30) (z : S30), l = (pre ++ [z]) ++ suf →
    Ev (fun k => macro_Check.l1 k l (l.length : Int) ((pre ++ [z]).length : Int)) (if chain z.f0 suf = true then 0 else 5)
  | [], pre, z, e => by
    refine Ev.step (fun _ => rfl) ?_
    have : l.length = (pre ++ [z]).length := by rw [e]; simp
    simp only [macro_Check.l1, if_neg (show ¬ ((pre ++ [z]).length : Int) < (l.length : Int) by omega), chain, if_true]
    exact Ev.now _
  | x :: xs, pre, z, e => by
    have hp : (pre ++ [z]).length = pre.length + 1 := by simp
    have hlen : l.length = pre.length + 1 + (xs.length + 1) := by rw [e]; simp; omega
    have hx : rd_T30 l ((pre ++ [z]).length : Int) = x := by rw [e]; exact mrd_mid (pre ++ [z]) x xs
    have hz : rd_T30 l (pre.length : Int) = z := by rw [e, List.append_assoc]; exact mrd_mid pre z ([] ++ x :: xs)
    have hw1 : wrap64 (((pre ++ [z]).length : Int) - 1) = (pre.length : Int) := by rw [hp]; unfold wrap64; omega
    have hw : wrap64 (((pre ++ [z]).length : Int) + 1) = (((pre ++ [z]) ++ [x]).length : Int) := by rw [show ((pre ++ [z]) ++ [x]).length = pre.length + 2 by simp, hp]; unfold wrap64; omega
    have ih := mcheck_l1 l hl xs (pre ++ [z]) x (by rw [e]; simp)
    refine Ev.step (fun _ => rfl) ?_
    simp only [macro_Check.l1, if_pos (show ((pre ++ [z]).length : Int) < (l.length : Int) by omega), if_pos (show ((pre ++ [z]).length : Int) > 0 by omega), hw1, if_pos (show (0 : Int) ≤ (pre.length : Int) by omega), if_pos (show (pre.length : Int) < (l.length : Int) by omega), if_pos (show (0 : Int) ≤ ((pre ++ [z]).length : Int) by omega), hx, hz, byName_eq, Option.bind_some, hw]
    have hc : Lib.compareBytes z.f0.data.toList x.f0.data.toList < 0 ↔ lessB z.f0 x.f0 = true := by
      unfold lessB
      rw [cmp_lt, toList_data, toList_data]
    cases hb : lessB z.f0 x.f0 with
    | true =>
      have := hc.2 hb
      simp only [if_neg (show ¬ Lib.compareBytes z.f0.data.toList x.f0.data.toList ≥ 0 by omega), chain, hb, Bool.true_and]
      exact ih
    | false =>
      have : ¬ Lib.compareBytes z.f0.data.toList x.f0.data.toList < 0 := fun h => by rw [hc.1 h] at hb; cases hb
      simp only [if_pos (show Lib.compareBytes z.f0.data.toList x.f0.data.toList ≥ 0 by omega), chain, hb, Bool.false_and, Bool.false_eq_true, if_false]
      exact Ev.now _
theorem mcheck_l1s (l : List S30) (hl : l.length ≤ 256) : Ev (fun k => macro_Check.l1 k l (l.length : Int) 0) (if chained l = true then 0 else 5) := by
  cases l with
  | nil =>
    refine Ev.step (fun _ => rfl) ?_
    simp only [macro_Check.l1, List.length_nil, if_neg (show ¬ (0 : Int) < ((0 : Nat) : Int) by omega), chained, if_true]
    exact Ev.now _
  | cons x xs =>
    have h := mcheck_l1 (x :: xs) hl xs [] x rfl
    have hw : wrap64 ((0 : Int) + 1) = (([] ++ [x] : List S30).length : Int) := by show wrap64 (0 + 1) = ((1 : Nat) : Int); unfold wrap64; omega
    refine Ev.step (fun _ => rfl) ?_
    simp only [macro_Check.l1, if_pos (show (0 : Int) < ((x :: xs).length : Int) by simp only [List.length_cons]; omega), if_neg (show ¬ (0 : Int) > 0 by omega), hw]
    exact h
theorem mcheck_l0 (l : List S30) (hl : l.length ≤ 256) : ∀ (suf pre : List S30), l = pre ++ suf →
    Ev (fun k => macro_Check.l0 k l l (l.length : Int) (pre.length : Int)) (if onesR suf = 0 then (if chained l = true then 0 else 5) else onesR suf)
  | [], pre, e => by
    refine Ev.step (fun _ => rfl) ?_
    have : l.length = pre.length := by rw [e]; simp
    simp only [macro_Check.l0, if_neg (show ¬ (pre.length : Int) < (l.length : Int) by omega), onesR, if_true]
    exact mcheck_l1s l hl
  | x :: xs, pre, e => by
    have hlen : l.length = pre.length + (xs.length + 1) := by rw [e]; simp
    have hlt : (pre.length : Int) < (l.length : Int) := by omega
    have hx : rd_T30 l (pre.length : Int) = x := by rw [e]; exact mrd_mid pre x xs
    have hw : wrap64 ((pre.length : Int) + 1) = ((pre ++ [x]).length : Int) := by simp; unfold wrap64; omega
    have ih := mcheck_l0 l hl xs (pre ++ [x]) (by rw [e]; simp)
    refine Ev.step (fun _ => rfl) ?_
    simp only [macro_Check.l0, if_pos hlt, if_pos (show (0 : Int) ≤ (pre.length : Int) by omega), hx, hw]
    refine Ev.bind (one_ev x) ?_
    by_cases h : oneR x = 0
    · simp only [if_pos h, onesR]
      exact ih
    · simp only [if_neg h, onesR]
      exact Ev.now _
theorem mcheck_ev (l : List S30) : Ev (fun k => macro_Check.f k l) (mcheckR l) := by
  simp only [macro_Check.f]
  unfold mcheckR
  by_cases h : l.length > 256
  · simp only [if_pos h, if_pos (show (l.length : Int) > 256 by omega)]
    exact Ev.now _
  · simp only [if_neg h, if_neg (show ¬ (l.length : Int) > 256 by omega)]
    exact mcheck_l0 l (by omega) l [] rfl
theorem rmcheck_l1 (l : List S30) (hl : l.length ≤ 256) : ∀ (suf pre : List S30) (z : S30), l = (pre ++ [z]) ++ suf →
    Ev (fun k => smithyref05_Check.l1 k l ((pre ++ [z]).length : Int)) (if chain z.f0 suf = true then 0 else 5)
  | [], pre, z, e => by
    refine Ev.step (fun _ => rfl) ?_
    have : l.length = (pre ++ [z]).length := by rw [e]; simp
    simp only [smithyref05_Check.l1, if_neg (show ¬ ((pre ++ [z]).length : Int) < (l.length : Int) by omega), chain, if_true]
    exact Ev.now _
  | x :: xs, pre, z, e => by
    have hp : (pre ++ [z]).length = pre.length + 1 := by simp
    have hlen : l.length = pre.length + 1 + (xs.length + 1) := by rw [e]; simp; omega
    have hx : rd_T30 l ((pre ++ [z]).length : Int) = x := by rw [e]; exact mrd_mid (pre ++ [z]) x xs
    have hz : rd_T30 l (pre.length : Int) = z := by rw [e, List.append_assoc]; exact mrd_mid pre z ([] ++ x :: xs)
    have hw1 : wrap64 (((pre ++ [z]).length : Int) - 1) = (pre.length : Int) := by rw [hp]; unfold wrap64; omega
    have hw : wrap64 (((pre ++ [z]).length : Int) + 1) = (((pre ++ [z]) ++ [x]).length : Int) := by rw [show ((pre ++ [z]) ++ [x]).length = pre.length + 2 by simp, hp]; unfold wrap64; omega
    have ih := rmcheck_l1 l hl xs (pre ++ [z]) x (by rw [e]; simp)
    refine Ev.step (fun _ => rfl) ?_
    simp only [smithyref05_Check.l1, if_pos (show ((pre ++ [z]).length : Int) < (l.length : Int) by omega), hw1, if_pos (show (0 : Int) ≤ (pre.length : Int) by omega), if_pos (show (pre.length : Int) < (l.length : Int) by omega), if_pos (show (0 : Int) ≤ ((pre ++ [z]).length : Int) by omega), hx, hz, hw]
    have hd : Op.bytesLess z.f0.toList x.f0.toList = lessB z.f0 x.f0 := rfl
    rw [hd]
    cases hb : lessB z.f0 x.f0 with
    | true =>
      simp only [if_true, chain, hb, Bool.true_and]
      exact ih
    | false =>
      simp only [Bool.false_eq_true, if_false, chain, hb, Bool.false_and]
      exact Ev.now _
theorem rmcheck_l1s (l : List S30) (hl : l.length ≤ 256) : Ev (fun k => smithyref05_Check.l1 k l 1) (if chained l = true then 0 else 5) := by
  cases l with
  | nil =>
    refine Ev.step (fun _ => rfl) ?_
    simp only [smithyref05_Check.l1, List.length_nil, if_neg (show ¬ (1 : Int) < ((0 : Nat) : Int) by omega), chained, if_true]
    exact Ev.now _
  | cons x xs => exact rmcheck_l1 (x :: xs) hl xs [] x rfl
theorem rmcheck_l0 (l : List S30) (hl : l.length ≤ 256) (hs : msmall l) : ∀ (suf pre : List S30), l = pre ++ suf →
    Ev (fun k => smithyref05_Check.l0 k l l (l.length : Int) (pre.length : Int)) (if onesR suf = 0 then (if chained l = true then 0 else 5) else onesR suf)
  | [], pre, e => by
    refine Ev.step (fun _ => rfl) ?_
    have : l.length = pre.length := by rw [e]; simp
    simp only [smithyref05_Check.l0, if_neg (show ¬ (pre.length : Int) < (l.length : Int) by omega), onesR, if_true]
    exact rmcheck_l1s l hl
  | x :: xs, pre, e => by
    have hlen : l.length = pre.length + (xs.length + 1) := by rw [e]; simp
    have hlt : (pre.length : Int) < (l.length : Int) := by omega
    have hx : rd_T30 l (pre.length : Int) = x := by rw [e]; exact mrd_mid pre x xs
    have hxs : x.f0.size ≤ 140737488351232 := (hs x (by rw [e]; simp)).1
    have hw : wrap64 ((pre.length : Int) + 1) = ((pre ++ [x]).length : Int) := by simp; unfold wrap64; omega
    have ih := rmcheck_l0 l hl hs xs (pre ++ [x]) (by rw [e]; simp)
    refine Ev.step (fun _ => rfl) ?_
    simp only [smithyref05_Check.l0, if_pos hlt, if_pos (show (0 : Int) ≤ (pre.length : Int) by omega), hx, hw]
    refine Ev.bind (rone_ev x hxs) ?_
    by_cases h : oneR x = 0
    · simp only [if_pos h, onesR]
      exact ih
    · simp only [if_neg h, onesR]
      exact Ev.now _
theorem rmcheck_ev (l : List S30) (hs : msmall l) : Ev (fun k => smithyref05_Check.f k l) (mcheckR l) := by
  simp only [smithyref05_Check.f]
  unfold mcheckR
  by_cases h : l.length > 256
  · simp only [if_pos h, if_pos (show (l.length : Int) > 256 by omega)]
    exact Ev.now _
  · simp only [if_neg h, if_neg (show ¬ (l.length : Int) > 256 by omega)]
    exact rmcheck_l0 l (by omega) hs l [] rfl
theorem small_at : smithylaw05_small.f 40 = some true := by
  unfold smithylaw05_small.f
  simp only [toList_data]
  decide +kernel
theorem small_ev : Ev (fun k => smithylaw05_small.f k) true := ⟨40, fun k hk => at_rounds (fun k => smithylaw05_small.mono k) hk small_at⟩
/-- Macros stand in the order of their names. -/
def MSorted (l : List S30) : Prop := l.Pairwise (fun a b => Less a.f0 b.f0)
theorem chain_iff : ∀ (p : ByteArray) (l : List S30), chain p l = true ↔ (∀ x ∈ l, Less p x.f0) ∧ MSorted l
  | p, [] => by simp [chain, MSorted]
  | p, x :: xs => by
    have h : lessB p x.f0 = true ↔ Less p x.f0 := Iff.rfl
    simp only [chain, Bool.and_eq_true, chain_iff x.f0 xs, MSorted, List.pairwise_cons, List.mem_cons, forall_eq_or_imp, h]
    constructor
    · rintro ⟨h1, h2, h3⟩
      exact ⟨⟨h1, fun y hy => h1.trans (h2 y hy)⟩, h2, h3⟩
    · rintro ⟨⟨h1, _⟩, h2, h3⟩
      exact ⟨h1, h2, h3⟩
theorem chained_iff (l : List S30) : chained l = true ↔ MSorted l := by
  cases l with
  | nil => simp [chained, MSorted]
  | cons x xs => simp only [chained, chain_iff, MSorted, List.pairwise_cons]
theorem onesR_iff : ∀ (l : List S30), onesR l = 0 ↔ ∀ x ∈ l, oneR x = 0
  | [] => by simp [onesR]
  | x :: xs => by
    simp only [onesR, List.mem_cons, forall_eq_or_imp]
    by_cases h : oneR x = 0
    · rw [if_pos h, onesR_iff xs]; simp [h]
    · rw [if_neg h]; simp [h]
theorem mcheck_iff (l : List S30) : mcheckR l = 0 ↔ l.length ≤ 256 ∧ (∀ x ∈ l, oneR x = 0) ∧ MSorted l := by
  unfold mcheckR
  by_cases h : l.length > 256
  · rw [if_pos h]
    constructor
    · intro h2; cases h2
    · intro h2; omega
  · rw [if_neg h]
    by_cases h2 : onesR l = 0
    · rw [if_pos h2]
      have h3 := (onesR_iff l).1 h2
      by_cases h4 : chained l = true
      · rw [if_pos h4]
        exact ⟨fun _ => ⟨by omega, h3, (chained_iff l).1 h4⟩, fun _ => rfl⟩
      · rw [if_neg h4]
        exact ⟨fun h => absurd h (by decide), fun h => absurd ((chained_iff l).2 h.2.2) h4⟩
    · rw [if_neg h2]
      exact ⟨fun h => absurd h h2, fun h => absurd ((onesR_iff l).2 h.2.1) h2⟩
/-- A text's place among sorted files. -/
theorem mcut_at (s : ByteArray) : ∀ (l : List S30), MSorted l →
    (∃ A y B, l = A ++ y :: B ∧ y.f0 = s ∧ (∀ x ∈ A, Less x.f0 s) ∧ (∀ x ∈ B, Less s x.f0)) ∨ (∃ A B, l = A ++ B ∧ (∀ x ∈ A, Less x.f0 s) ∧ (∀ x ∈ B, Less s x.f0))
  | [], _ => .inr ⟨[], [], rfl, by simp, by simp⟩
  | x :: xs, h => by
    have hp := List.pairwise_cons.1 h
    by_cases h1 : Less x.f0 s
    · rcases mcut_at s xs hp.2 with ⟨A, y, B, rfl, hy, hA, hB⟩ | ⟨A, B, rfl, hA, hB⟩
      · exact .inl ⟨x :: A, y, B, rfl, hy, List.forall_mem_cons.2 ⟨h1, hA⟩, hB⟩
      · exact .inr ⟨x :: A, B, rfl, List.forall_mem_cons.2 ⟨h1, hA⟩, hB⟩
    · by_cases h2 : Less s x.f0
      · exact .inr ⟨[], x :: xs, rfl, by simp, List.forall_mem_cons.2 ⟨h2, fun z hz => h2.trans (hp.1 z hz)⟩⟩
      · have e := Less.tri h1 h2
        exact .inl ⟨[], x, xs, rfl, e, by simp, fun z hz => e ▸ hp.1 z hz⟩
theorem mbsearch_at {α : Type} (c : α → Int) (g : Int → α) (n m : Int) (hm : m ≤ n) (h : ∀ j, 0 ≤ j → j < n → (c (g j) < 0 ↔ j < m)) : ∀ (d : Nat) (i j : Int), 0 ≤ i → i ≤ m → m ≤ j → j ≤ n → j - i ≤ d → bsearch c g d i j = m
  | 0, i, j, h0, h1, h2, h3, hd => by simp only [bsearch]; omega
  | d + 1, i, j, h0, h1, h2, h3, hd => by
    simp only [bsearch]
    by_cases hlt : i < j
    · rw [if_pos hlt]
      have hk := h ((i + j) / 2) (by omega) (by omega)
      by_cases hc : c (g ((i + j) / 2)) < 0
      · rw [if_pos hc]
        exact mbsearch_at c g n m hm h d _ _ (by omega) (by have := hk.1 hc; omega) h2 h3 (by omega)
      · rw [if_neg hc]
        exact mbsearch_at c g n m hm h d _ _ h0 h1 (by have := fun h => hc (hk.2 h); omega) (by omega) (by omega)
    · rw [if_neg hlt]; omega
theorem mcmp_lt (s : ByteArray) (x : S30) : mcmp s x < 0 ↔ Less x.f0 s := by
  unfold mcmp Less
  rw [cmp_lt, toList_data, toList_data]
theorem mcmp_eq (s : ByteArray) (x : S30) : mcmp s x = 0 ↔ x.f0 = s := by
  unfold mcmp
  rw [cmp_eq0]
  constructor
  · intro h; exact toList_inj (by rw [toList_data, toList_data]; exact h)
  · intro h; rw [h]
theorem mrd_app (A B : List S30) (j : Int) (h0 : 0 ≤ j) (h : j < A.length) : rd_T30 (A ++ B) j ∈ A := by
  have hj : j.toNat < A.length := by omega
  simp only [rd_T30, List.getD_eq_getElem?_getD, List.getElem?_append_left hj, List.getElem?_eq_getElem hj, Option.getD_some]
  exact List.getElem_mem hj
theorem mrd_app2 (A B : List S30) (j : Int) (h0 : A.length ≤ j) (h : j < (A ++ B).length) : rd_T30 (A ++ B) j ∈ B := by
  rw [List.length_append] at h
  have hj : j.toNat - A.length < B.length := by omega
  simp only [rd_T30, List.getD_eq_getElem?_getD, List.getElem?_append_right (show A.length ≤ j.toNat by omega), List.getElem?_eq_getElem hj, Option.getD_some]
  exact List.getElem_mem hj
theorem mAt_eq (s : ByteArray) (A B : List S30) (hA : ∀ x ∈ A, Less x.f0 s) (hB : ∀ x ∈ B, ¬ Less x.f0 s) : mAt (A ++ B) s = A.length := by
  unfold mAt bend
  refine mbsearch_at _ _ ((A ++ B).length : Int) _ (by simp; omega) (fun j h0 h1 => ?_) _ _ _ (Int.le_refl _) (by omega) (by simp; omega) (Int.le_refl _) (by omega)
  rw [mcmp_lt]
  by_cases hj : j < A.length
  · exact ⟨fun _ => hj, fun _ => hA _ (mrd_app A B j h0 hj)⟩
  · exact ⟨fun h => absurd h (hB _ (mrd_app2 A B j (by omega) h1)), fun h => absurd h hj⟩
theorem mplace_there (s : ByteArray) (A B : List S30) (y : S30) (hy : y.f0 = s) (hA : ∀ x ∈ A, Less x.f0 s) (hB : ∀ x ∈ B, Less s x.f0) (c : Int) :
    macro_find.f (A ++ y :: B) s = some ((A.length : Int), true) := by
  have h := mAt_eq s A (y :: B) hA (List.forall_mem_cons.2 ⟨by rw [hy]; exact Less.irrefl _, fun x hx => (hB x hx).asymm⟩)
  unfold macro_find.f api_Macro_47.f mThere
  rw [h, mrd_mid]
  have e : mcmp s y = 0 := (mcmp_eq s y).2 hy
  have e2 : decide ((A.length : Int) < ((A ++ y :: B).length : Int)) = true := decide_eq_true (by simp; omega)
  rw [e, e2]
  rfl
theorem mplace_not (s : ByteArray) (A B : List S30) (hA : ∀ x ∈ A, Less x.f0 s) (hB : ∀ x ∈ B, Less s x.f0) (c : Int) :
    macro_find.f (A ++ B) s = some ((A.length : Int), false) := by
  have h := mAt_eq s A B hA (fun x hx => (hB x hx).asymm)
  unfold macro_find.f api_Macro_47.f mThere
  rw [h]
  cases B with
  | nil =>
    have e2 : decide ((A.length : Int) < ((A ++ ([] : List S30)).length : Int)) = false := decide_eq_false (by simp)
    rw [e2]; rfl
  | cons y B =>
    rw [mrd_mid]
    have e : (mcmp s y == 0) = false := by
      rw [beq_eq_false_iff_ne]
      intro h
      exact (hB y (by simp)).ne ((mcmp_eq s y).1 h).symm
    rw [e, Bool.and_false]
    rfl
/-- The files with a file laid in its place. -/
def mlay (l : List S30) (f : S30) : List S30 := l.filter (fun x => decide (Less x.f0 f.f0)) ++ f :: l.filter (fun x => decide (Less f.f0 x.f0))
def mhas (l : List S30) (s : ByteArray) : Bool := l.any (fun x => decide (x.f0 = s))
theorem mfilter_less (s : ByteArray) (A B : List S30) (hA : ∀ x ∈ A, Less x.f0 s) (hB : ∀ x ∈ B, ¬ Less x.f0 s) : (A ++ B).filter (fun x => decide (Less x.f0 s)) = A := by
  rw [List.filter_append, List.filter_eq_self.2 (fun x hx => decide_eq_true (hA x hx)), List.filter_eq_nil_iff.2 (fun x hx => by simpa using hB x hx), List.append_nil]
theorem mfilter_more (s : ByteArray) (A B : List S30) (hA : ∀ x ∈ A, ¬ Less s x.f0) (hB : ∀ x ∈ B, Less s x.f0) : (A ++ B).filter (fun x => decide (Less s x.f0)) = B := by
  rw [List.filter_append, List.filter_eq_self.2 (fun x hx => decide_eq_true (hB x hx)), List.filter_eq_nil_iff.2 (fun x hx => by simpa using hA x hx), List.nil_append]
theorem mlay_there (A B : List S30) (y f : S30) (hy : y.f0 = f.f0) (hA : ∀ x ∈ A, Less x.f0 f.f0) (hB : ∀ x ∈ B, Less f.f0 x.f0) : mlay (A ++ y :: B) f = A ++ f :: B := by
  unfold mlay
  rw [mfilter_less f.f0 A (y :: B) hA (List.forall_mem_cons.2 ⟨by rw [hy]; exact Less.irrefl _, fun x hx => (hB x hx).asymm⟩)]
  have := mfilter_more f.f0 (A ++ [y]) B (List.forall_mem_append.2 ⟨fun x hx => (hA x hx).asymm, by simp [hy, Less.irrefl]⟩) hB
  rw [List.append_assoc] at this
  rw [show A ++ y :: B = A ++ ([y] ++ B) from rfl, this]
theorem mlay_not (A B : List S30) (f : S30) (hA : ∀ x ∈ A, Less x.f0 f.f0) (hB : ∀ x ∈ B, Less f.f0 x.f0) : mlay (A ++ B) f = A ++ f :: B := by
  unfold mlay
  rw [mfilter_less f.f0 A B hA (fun x hx => (hB x hx).asymm), mfilter_more f.f0 A B (fun x hx => (hA x hx).asymm) hB]
theorem mhas_there (s : ByteArray) (A B : List S30) (y : S30) (hy : y.f0 = s) : mhas (A ++ y :: B) s = true := by simp [mhas, hy]
theorem mhas_not (s : ByteArray) (A B : List S30) (hA : ∀ x ∈ A, Less x.f0 s) (hB : ∀ x ∈ B, Less s x.f0) : mhas (A ++ B) s = false := by
  rw [Bool.eq_false_iff]
  simp only [mhas, ne_eq, List.any_eq_true, decide_eq_true_eq, not_exists, not_and]
  exact List.forall_mem_append.2 ⟨fun x hx => (hA x hx).ne, fun x hx h => (hB x hx).ne h.symm⟩
theorem mlay_length (l : List S30) (f : S30) : (mlay l f).length ≤ l.length + 1 := by
  unfold mlay
  rw [List.length_append, List.length_cons]
  have h : ∀ l : List S30, (l.filter (fun x => decide (Less x.f0 f.f0))).length + (l.filter (fun x => decide (Less f.f0 x.f0))).length ≤ l.length := by
    intro l
    induction l with
    | nil => simp
    | cons x xs ih =>
      simp only [List.filter_cons]
      by_cases h1 : Less x.f0 f.f0
      · simp only [decide_eq_true h1, decide_eq_false h1.asymm, if_true, Bool.false_eq_true, if_false, List.length_cons]; omega
      · by_cases h2 : Less f.f0 x.f0
        · simp only [decide_eq_false h1, decide_eq_true h2, if_true, Bool.false_eq_true, if_false, List.length_cons]; omega
        · simp only [decide_eq_false h1, decide_eq_false h2, Bool.false_eq_true, if_false, List.length_cons]; omega
  have := h l
  omega
theorem macros_loop (l : List S30) (hl : l.length ≤ 140737488351232) : ∀ (suf pre : List S30), l = pre ++ suf → Ev (fun k => smithyplain_Macros.l0 k l l (l.length : Int) (pre.length : Int)) true
  | [], pre, e => by
    refine Ev.step (fun _ => rfl) ?_
    have : l.length = pre.length := by rw [e]; simp
    simp only [smithyplain_Macros.l0, if_neg (show ¬ (pre.length : Int) < (l.length : Int) by omega)]
    exact Ev.now _
  | x :: xs, pre, e => by
    have hlen : l.length = pre.length + (xs.length + 1) := by rw [e]; simp
    have hlt : (pre.length : Int) < (l.length : Int) := by omega
    have hw : wrap64 ((pre.length : Int) + 1) = ((pre ++ [x]).length : Int) := by simp; unfold wrap64; omega
    have ih := macros_loop l hl xs (pre ++ [x]) (by rw [e]; simp)
    refine Ev.step (fun _ => rfl) ?_
    simp only [smithyplain_Macros.l0, if_pos hlt, if_pos (show (0 : Int) ≤ (pre.length : Int) by omega), beq_self_eq_true, Bool.not_true, Bool.or_self, Bool.false_eq_true, if_false, hw]
    exact ih
theorem macros_ev (l : List S30) (hl : l.length ≤ 140737488351232) : Ev (fun k => smithyplain_Macros.f k l l) true := by
  simp only [smithyplain_Macros.f, if_true]
  exact macros_loop l hl l [] rfl
def mfind (l : List S30) (s : ByteArray) : Option S30 := l.find? (fun x => decide (x.f0 = s))
theorem mfind_there (s : ByteArray) (A B : List S30) (y : S30) (hy : y.f0 = s) (hA : ∀ x ∈ A, Less x.f0 s) : mfind (A ++ y :: B) s = some y := by
  unfold mfind
  rw [List.find?_append, List.find?_eq_none.2 (fun x hx => by simpa using (hA x hx).ne), Option.none_or, List.find?_cons_of_pos (by simpa using hy)]
theorem mfind_not (s : ByteArray) (A B : List S30) (hA : ∀ x ∈ A, Less x.f0 s) (hB : ∀ x ∈ B, Less s x.f0) : mfind (A ++ B) s = none := by
  unfold mfind
  rw [List.find?_eq_none]
  intro x hx
  rcases List.mem_append.1 hx with hx | hx
  · simpa using (hA x hx).ne
  · simpa using fun h => (hB x hx).ne h.symm
/-- What Define answers. -/
def defL (l : List S30) (m : S30) : List S30 × Int := match mfind l m.f0 with
  | some y => if y.f2 > m.f2 then (l, 0) else (mlay l m, 0)
  | none => if l.length = 256 then ([], 2) else (mlay l m, 0)
def defR (l : List S30) (m : S30) : List S30 × Int := if mcheckR l = 0 then (if oneR m = 0 then defL l m else ([], oneR m)) else ([], mcheckR l)
theorem mlay_mem (l : List S30) (m x : S30) (h : x ∈ mlay l m) : x ∈ l ∨ x = m := by
  unfold mlay at h
  rcases List.mem_append.1 h with h | h
  · exact .inl (List.mem_filter.1 h).1
  · rcases List.mem_cons.1 h with h | h
    · exact .inr h
    · exact .inl (List.mem_filter.1 h).1
theorem defR_mem (l : List S30) (m x : S30) (h : x ∈ (defR l m).1) : x ∈ l ∨ x = m := by
  unfold defR defL at h
  repeat' split at h
  all_goals first | (simp at h; done) | exact .inl h | exact mlay_mem l m x h
/-- What All answers. -/
def allGo : List S30 → List S30 → List S30 × Int
  | out, [] => (out, 0)
  | out, m :: ms => if (defR out m).2 = 0 then allGo (defR out m).1 ms else ([], (defR out m).2)
def allR (l more : List S30) : List S30 × Int := if mcheckR l = 0 then allGo l more else ([], mcheckR l)
theorem define_ev (l : List S30) (m : S30) : Ev (fun k => macro_Define.f k l m.f0 m.f1 m.f2) (defR l m) := by
  have hm : (⟨m.f0, m.f1, m.f2⟩ : S30) = m := rfl
  simp only [macro_Define.f]
  refine Ev.bind (mcheck_ev l) ?_
  unfold defR
  by_cases hc : mcheckR l = 0
  · simp only [if_pos hc]
    obtain ⟨h2, _, h4⟩ := (mcheck_iff l).1 hc
    refine Ev.bind (one_ev m) ?_
    by_cases ho : oneR m = 0
    · have hcl : api_Macro_33.f l = some l := if_pos (show l.length < 3518437208883 by omega)
      simp only [if_pos ho, hcl, Option.bind_some]
      rcases mcut_at m.f0 l h4 with ⟨A, y, B, e, hy, hA, hB⟩ | ⟨A, B, e, hA, hB⟩
      · have hp : macro_find.f l m.f0 = some ((A.length : Int), true) := by rw [e]; exact mplace_there m.f0 A B y hy hA hB 0
        have hf : mfind l m.f0 = some y := by rw [e]; exact mfind_there m.f0 A B y hy hA
        have hr : rd_T30 l (A.length : Int) = y := by rw [e]; exact mrd_mid A y B
        have hlt : (A.length : Int) < (l.length : Int) := by rw [e]; simp; omega
        have hset : l.set A.length m = mlay l m := by rw [e, mlay_there A B y m hy hA hB, List.set_append_right _ _ (Nat.le_refl _), Nat.sub_self, List.set_cons_zero]
        simp only [hp, Option.bind_some, if_true, if_pos (show (0 : Int) ≤ (A.length : Int) by omega), if_pos hlt, hr]
        refine Ev.step (fun _ => rfl) ?_
        by_cases hg : y.f2 > m.f2
        · simp only [macro_Define.j0, decide_eq_true hg, if_true, defL, hf, if_pos hg]
          exact Ev.now _
        · simp only [macro_Define.j0, decide_eq_false hg, Bool.false_eq_true, if_false, if_true, if_pos (show (0 : Int) ≤ (A.length : Int) by omega), if_pos hlt, Int.toNat_natCast, hm, hset, defL, hf, if_neg hg]
          exact Ev.now _
      · have hp : macro_find.f l m.f0 = some ((A.length : Int), false) := by rw [e]; exact mplace_not m.f0 A B hA hB 0
        have hf : mfind l m.f0 = none := by rw [e]; exact mfind_not m.f0 A B hA hB
        have hle : (A.length : Int) ≤ (l.length : Int) := by rw [e]; simp; omega
        simp only [hp, Option.bind_some, Bool.false_eq_true, if_false]
        refine Ev.step (fun _ => rfl) ?_
        by_cases hn : l.length = 256
        · simp only [macro_Define.j0, Bool.false_eq_true, if_false, if_pos (show (l.length : Int) ≥ 256 by omega), defL, hf, if_pos hn]
          exact Ev.now _
        · have hi : api_Macro_35.f l (A.length : Int) [m] = some (mlay l m) := by
            rw [e, mlay_not A B m hA hB]
            simp only [api_Macro_35.f, insertF30, if_pos (show (0 : Int) ≤ (A.length : Int) by omega), if_pos (show (A.length : Int) ≤ ((A ++ B).length : Int) by simp; omega), if_pos (show (A ++ B).length < 3518437208882 by rw [← e]; omega), Int.toNat_natCast, List.take_left, List.drop_left]
          simp only [macro_Define.j0, Bool.false_eq_true, if_false, if_neg (show ¬ (l.length : Int) ≥ 256 by omega), hm, hi, Option.bind_some, defL, hf, if_neg hn]
          exact Ev.now _
    · simp only [if_neg ho]
      exact Ev.now _
  · simp only [if_neg hc]
    exact Ev.now _
theorem at_loop (s : ByteArray) (l : List S30) (hl : l.length ≤ 256) : ∀ (A B pre : List S30), l = pre ++ (A ++ B) → (∀ x ∈ A, Less x.f0 s) → (∀ x ∈ B.head?, ¬ Less x.f0 s) →
    Ev (fun k => smithyref05_at.l0 k l s (pre.length : Int)) ((pre.length + A.length : Nat) : Int)
  | [], B, pre, e, hA, hB => by
    refine Ev.step (fun _ => rfl) ?_
    cases B with
    | nil =>
      have : l.length = pre.length := by rw [e]; simp
      simp only [smithyref05_at.l0, if_neg (show ¬ (pre.length : Int) < (l.length : Int) by omega), List.length_nil, Nat.add_zero]
      exact Ev.now _
    | cons y B =>
      have hlen : l.length = pre.length + (B.length + 1) := by rw [e]; simp
      have hy : rd_T30 l (pre.length : Int) = y := by rw [e]; exact mrd_mid pre y B
      have hn : ¬ Op.bytesLess y.f0.toList s.toList = true := hB y rfl
      simp only [smithyref05_at.l0, if_pos (show (pre.length : Int) < (l.length : Int) by omega), if_pos (show (0 : Int) ≤ (pre.length : Int) by omega), hy, if_neg hn, List.length_nil, Nat.add_zero]
      exact Ev.now _
  | x :: A, B, pre, e, hA, hB => by
    have hlen : l.length = pre.length + (A.length + B.length + 1) := by rw [e]; simp
    have hx : rd_T30 l (pre.length : Int) = x := by rw [e]; exact mrd_mid pre x (A ++ B)
    have hw : wrap64 ((pre.length : Int) + 1) = ((pre ++ [x]).length : Int) := by simp; unfold wrap64; omega
    have hn : Op.bytesLess x.f0.toList s.toList = true := hA x (by simp)
    have ih := at_loop s l hl A B (pre ++ [x]) (by rw [e]; simp) (fun z hz => hA z (by simp [hz])) hB
    have he : ((pre ++ [x]).length + A.length : Nat) = pre.length + (x :: A).length := by simp; omega
    rw [he] at ih
    refine Ev.step (fun _ => rfl) ?_
    simp only [smithyref05_at.l0, if_pos (show (pre.length : Int) < (l.length : Int) by omega), if_pos (show (0 : Int) ≤ (pre.length : Int) by omega), hx, hn, if_true, hw]
    exact ih
theorem at_ev (s : ByteArray) (A B : List S30) (hl : (A ++ B).length ≤ 256) (hA : ∀ x ∈ A, Less x.f0 s) (hB : ∀ x ∈ B.head?, ¬ Less x.f0 s) :
    Ev (fun k => smithyref05_at.f k (A ++ B) s) (A.length : Int) := by
  simp only [smithyref05_at.f]
  have h := at_loop s (A ++ B) hl A B [] rfl hA hB
  simpa using h
theorem mfind_cons (x : S30) (xs : List S30) (s : ByteArray) : mfind (x :: xs) s = if x.f0 = s then some x else mfind xs s := by
  unfold mfind
  by_cases h : x.f0 = s
  · rw [if_pos h, List.find?_cons_of_pos (by simpa using h)]
  · rw [if_neg h, List.find?_cons_of_neg (by simpa using h)]
theorem mfind_above (s : ByteArray) : ∀ (l : List S30), (∀ z ∈ l, Less s z.f0) → mfind l s = none := fun l h => mfind_not s [] l (by simp) h
theorem mfind_app (A B : List S30) (s : ByteArray) : mfind (A ++ B) s = (mfind A s).or (mfind B s) := by unfold mfind; rw [List.find?_append]
theorem msorted_ext : ∀ (l l' : List S30), MSorted l → MSorted l' → (∀ s, mfind l s = mfind l' s) → l = l'
  | [], [], _, _, _ => rfl
  | [], y :: ys, _, _, h => by have := h y.f0; rw [mfind_cons, if_pos rfl] at this; cases this
  | x :: xs, [], _, _, h => by have := h x.f0; rw [mfind_cons, if_pos rfl] at this; cases this
  | x :: xs, y :: ys, hl, hl', h => by
    have p := List.pairwise_cons.1 hl
    have p' := List.pairwise_cons.1 hl'
    have hx : ¬ Less x.f0 y.f0 := fun hlt => by
      have := h x.f0
      rw [mfind_cons, if_pos rfl, mfind_above x.f0 (y :: ys) (List.forall_mem_cons.2 ⟨hlt, fun z hz => hlt.trans (p'.1 z hz)⟩)] at this
      cases this
    have hy : ¬ Less y.f0 x.f0 := fun hlt => by
      have := h y.f0
      rw [mfind_cons y, if_pos rfl, mfind_above y.f0 (x :: xs) (List.forall_mem_cons.2 ⟨hlt, fun z hz => hlt.trans (p.1 z hz)⟩)] at this
      cases this
    have e := Less.tri hx hy
    have exy : x = y := by
      have := h x.f0
      rw [mfind_cons, if_pos rfl, mfind_cons, if_pos e.symm] at this
      exact Option.some.inj this
    subst exy
    rw [msorted_ext xs ys p.2 p'.2 (fun s => by
      by_cases hs : x.f0 = s
      · subst hs; rw [mfind_above _ xs p.1, mfind_above _ ys p'.1]
      · have := h s; rwa [mfind_cons, if_neg hs, mfind_cons, if_neg hs] at this)]
theorem mlay_laws (l : List S30) (m : S30) (hl : MSorted l) : MSorted (mlay l m) ∧ (∀ s, mfind (mlay l m) s = if s = m.f0 then some m else mfind l s) ∧ (mlay l m).length = l.length + (if (mfind l m.f0).isSome then 0 else 1) := by
  rcases mcut_at m.f0 l hl with ⟨A, y, B, e, hy, hA, hB⟩ | ⟨A, B, e, hA, hB⟩
  · have hml := mlay_there A B y m hy hA hB
    rw [← e] at hml
    rw [hml]
    rw [e] at hl
    have hp := List.pairwise_append.1 hl
    have hq := List.pairwise_cons.1 hp.2.1
    refine ⟨List.pairwise_append.2 ⟨hp.1, List.pairwise_cons.2 ⟨hB, hq.2⟩, fun a ha b hb => ?_⟩, fun s => ?_, ?_⟩
    · rcases List.mem_cons.1 hb with rfl | hb
      · exact hA a ha
      · exact hp.2.2 a ha b (List.mem_cons_of_mem _ hb)
    · by_cases hs : s = m.f0
      · rw [if_pos hs]; exact mfind_there s A B m hs.symm (by rw [hs]; exact hA)
      · rw [if_neg hs, e, mfind_app, mfind_app, mfind_cons, mfind_cons, if_neg (fun h => hs h.symm), if_neg (fun h => hs (h.symm.trans hy))]
    · rw [e, mfind_there m.f0 A B y hy hA]; simp
  · have hml := mlay_not A B m hA hB
    rw [← e] at hml
    rw [hml]
    rw [e] at hl
    have hp := List.pairwise_append.1 hl
    refine ⟨List.pairwise_append.2 ⟨hp.1, List.pairwise_cons.2 ⟨hB, hp.2.1⟩, fun a ha b hb => ?_⟩, fun s => ?_, ?_⟩
    · rcases List.mem_cons.1 hb with rfl | hb
      · exact hA a ha
      · exact hp.2.2 a ha b hb
    · by_cases hs : s = m.f0
      · rw [if_pos hs]; exact mfind_there s A B m hs.symm (by rw [hs]; exact hA)
      · rw [if_neg hs, e, mfind_app, mfind_app, mfind_cons, if_neg (fun h => hs h.symm)]
    · rw [e, mfind_not m.f0 A B hA hB]; simp; omega
/-- The one that counts of two. -/
def mkeep (l : List S30) (m : S30) : S30 := match mfind l m.f0 with
  | some y => if y.f2 > m.f2 then y else m
  | none => m
theorem mfind_name {l : List S30} {s : ByteArray} {y : S30} (h : mfind l s = some y) : y.f0 = s := by
  have := List.find?_some h; simpa using this
theorem mfind_mem {l : List S30} {s : ByteArray} {y : S30} (h : mfind l s = some y) : y ∈ l := List.mem_of_find?_eq_some h
theorem define_bad (l : List S30) (m : S30) (h : ¬ (defR l m).2 = 0) : (defR l m).1 = [] := by
  unfold defR defL at *
  repeat' split at h
  all_goals first | (exact absurd rfl h) | skip
  all_goals simp_all
theorem define_ok (l : List S30) (m : S30) (hg : mcheckR l = 0) : (defR l m).2 = 0 ↔ oneR m = 0 ∧ ((mfind l m.f0).isSome = true ∨ l.length < 256) := by
  have hlen := ((mcheck_iff l).1 hg).1
  unfold defR defL
  rw [if_pos hg]
  by_cases ho : oneR m = 0
  · rw [if_pos ho]
    cases hf : mfind l m.f0 with
    | some y => by_cases hy : y.f2 > m.f2 <;> simp [hy, ho]
    | none =>
      by_cases hn : l.length = 256
      · simp [hn]
      · simp [hn, ho]; omega
  · rw [if_neg ho]; simp [ho]
theorem define_laws (l : List S30) (m : S30) (hg : mcheckR l = 0) (h : (defR l m).2 = 0) :
    mcheckR (defR l m).1 = 0 ∧ (∀ s, mfind (defR l m).1 s = if s = m.f0 then some (mkeep l m) else mfind l s) ∧ (defR l m).1.length = l.length + (if (mfind l m.f0).isSome then 0 else 1) := by
  obtain ⟨ho, hr⟩ := (define_ok l m hg).1 h
  obtain ⟨hlen, hones, hs⟩ := (mcheck_iff l).1 hg
  obtain ⟨q1, q2, q3⟩ := mlay_laws l m hs
  have hlay : (mlay l m).length ≤ 256 → mcheckR (mlay l m) = 0 := fun hle => (mcheck_iff _).2 ⟨hle, fun x hx => by
    rcases mlay_mem l m x hx with hx | rfl
    · exact hones x hx
    · exact ho, q1⟩
  unfold defR defL
  rw [if_pos hg, if_pos ho]
  cases hf : mfind l m.f0 with
  | some y =>
    rw [hf] at q3
    by_cases hy : y.f2 > m.f2
    · simp only [if_pos hy]
      refine ⟨hg, fun s => ?_, by simp⟩
      by_cases hsm : s = m.f0
      · rw [if_pos hsm, hsm, hf]; unfold mkeep; rw [hf]; simp only [if_pos hy]
      · rw [if_neg hsm]
    · simp only [if_neg hy]
      refine ⟨hlay (by rw [q3]; simpa using hlen), fun s => ?_, q3⟩
      rw [q2]
      unfold mkeep; rw [hf]; simp only [if_neg hy]
  | none =>
    rw [hf] at q3 hr
    have hlt : l.length < 256 := by simpa using hr
    simp only [if_neg (show ¬ l.length = 256 by omega)]
    refine ⟨hlay (by rw [q3]; simp; omega), fun s => ?_, q3⟩
    rw [q2]
    unfold mkeep; rw [hf]
theorem allGo_bad : ∀ (more out : List S30), ¬ (allGo out more).2 = 0 → (allGo out more).1 = []
  | [], out, h => absurd rfl h
  | m :: ms, out, h => by
    simp only [allGo] at h ⊢
    by_cases hd : (defR out m).2 = 0
    · rw [if_pos hd] at h ⊢; exact allGo_bad ms _ h
    · rw [if_neg hd]
def lookR (l : List S30) (s : ByteArray) : ByteArray × ByteArray × Int × Bool × Int :=
  if mcheckR l = 0 then (if mname s = true then (match mfind l s with | some y => (y.f0, y.f1, y.f2, true, 0) | none => (⟨#[]⟩, ⟨#[]⟩, 0, false, 0)) else (⟨#[]⟩, ⟨#[]⟩, 0, false, 50)) else (⟨#[]⟩, ⟨#[]⟩, 0, false, mcheckR l)
theorem look_ev (l : List S30) (s : ByteArray) : Ev (fun k => macro_Look.f k l s) (lookR l s) := by
  simp only [macro_Look.f]
  refine Ev.bind (mcheck_ev l) ?_
  unfold lookR
  by_cases hc : mcheckR l = 0
  · simp only [if_pos hc, macro_Name.f, Option.bind_some]
    by_cases hn : mname s = true
    · simp only [if_pos hn]
      obtain ⟨_, _, h4⟩ := (mcheck_iff l).1 hc
      rcases mcut_at s l h4 with ⟨A, y, B, e, hy, hA, hB⟩ | ⟨A, B, e, hA, hB⟩
      · have hp : macro_find.f l s = some ((A.length : Int), true) := by rw [e]; exact mplace_there s A B y hy hA hB 0
        have hf : mfind l s = some y := by rw [e]; exact mfind_there s A B y hy hA
        have hr : rd_T30 l (A.length : Int) = y := by rw [e]; exact mrd_mid A y B
        have hlt : (A.length : Int) < (l.length : Int) := by rw [e]; simp; omega
        simp only [hp, Option.bind_some, if_true, if_pos (show (0 : Int) ≤ (A.length : Int) by omega), if_pos hlt, hr, hf]
        exact Ev.now _
      · have hp : macro_find.f l s = some ((A.length : Int), false) := by rw [e]; exact mplace_not s A B hA hB 0
        have hf : mfind l s = none := by rw [e]; exact mfind_not s A B hA hB
        simp only [hp, Option.bind_some, Bool.false_eq_true, if_false, hf]
        exact Ev.now _
    · simp only [if_neg hn]
      exact Ev.now _
  · simp only [if_neg hc]
    exact Ev.now _
theorem oneR_name {m : S30} (h : oneR m = 0) : mname m.f0 = true := by
  unfold oneR at h
  by_cases hn : mname m.f0 = true
  · exact hn
  · rw [if_neg hn] at h; cases h
end Go.Proofs.Ytodogppelokapaa.P
