import Derived.Test.YtmmjbobicnmilaaQModesChecks
import Derived.Test.YtmmjbobicnmilaaBytes
import Derived.Test.YtmmjbobicnmilaaExt
set_option linter.unusedVariables false
set_option linter.unusedSimpArgs false
namespace Go.Proofs.Ytmmjbobicnmilaa.P
open Go Go.RowKit Go.Proofs.Ytmmjbobicnmilaa.Ext Go.Proofs.YtmmjbobicnmilaaW.PrintWords Go.Proofs.YtmmjbobicnmilaaW.PrintLast Go.Proofs.YtmmjbobicnmilaaW.PrintMore
theorem get_bt (s : ByteArray) (i : Nat) (h : i < s.size) : ((s.get! i).toNat : Int) = bt s (i : Int) := by
  have e : s.get! i = s[i]'h := by cases s with | mk d => exact getElem!_pos d i h
  unfold bt
  rw [e, dif_pos (show (i : Int).toNat < s.size by simpa using h)]
  simp
theorem decode_low (s : ByteArray) (i : Nat) (h : (s.get! i).toNat < 128) : Utf8.decode s i = ((s.get! i).toNat, 1) := by
  unfold Utf8.decode
  simp only [Nat.add_zero]
  rw [if_pos h]
theorem decode_high (s : ByteArray) (i : Nat) (h : ¬ (s.get! i).toNat < 128) : 128 ≤ (Utf8.decode s i).1 := by
  unfold Utf8.decode
  simp only [Nat.add_zero]
  rw [if_neg h]
  have hr : 128 ≤ Utf8.runeError := by decide
  repeat' split
  all_goals first | exact hr | (rename_i h1; exact h1) | (rename_i h1; simp only [Bool.and_eq_true, decide_eq_true_eq] at h1; show 128 ≤ _; omega)
theorem mletter_high (r : Int) (h : 128 ≤ r) : mletter r = false := decide_eq_false (by omega)
theorem idx_step (s : ByteArray) (f pos : Nat) (h : pos < s.size) : Lib.idxFuncFrom mother true s (f + 1) pos = if mletter (bt s (pos : Int)) = true then Lib.idxFuncFrom mother true s f (pos + 1) else (pos : Int) := by
  have hg := get_bt s pos h
  conv => lhs; unfold Lib.idxFuncFrom
  rw [if_pos h]
  by_cases hb : (s.get! pos).toNat < 128
  · rw [decode_low s pos hb]
    simp only [mother, hg]
    cases hm : mletter (bt s (pos : Int)) with
    | true => simp only [Bool.not_true, Bool.false_eq_true, if_false, if_true]
    | false => simp only [Bool.not_false, if_true, Bool.false_eq_true, if_false]
  · have hd := decode_high s pos hb
    have h1 : mletter (((Utf8.decode s pos).1 : Nat) : Int) = false := mletter_high _ (by omega)
    have h2 : mletter (bt s (pos : Int)) = false := mletter_high _ (by rw [← hg]; omega)
    simp only [mother, h1, h2, Bool.not_false, if_true, Bool.false_eq_true, if_false]
theorem rname_round (k : Nat) (s : ByteArray) (i : Int) (h0 : 0 ≤ i) (h1 : i < (s.size : Int)) :
    smithyref05_Name.l0 (k + 1) s i = if mletter (bt s i) = true then smithyref05_Name.l0 k s (wrap64 (i + 1)) else some false := by
  have hL : mletter (bt s i) = true ↔ _ := decide_eq_true_iff
  simp only [smithyref05_Name.l0]
  rw [if_pos h1, if_pos h0]
  generalize bt s i = c at *
  generalize smithyref05_Name.l0 k s (wrap64 (i + 1)) = r at *
  by_cases hl : mletter c = true
  · rw [if_pos hl]
    have hL' := hL.mp hl
    clear hL hl
    by_cases a7 : c = 95
    · subst a7; rfl
    · by_cases a8 : c = 46
      · subst a8; rfl
      · by_cases a1 : c ≥ 97 <;> by_cases a2 : c ≤ 122 <;> by_cases a3 : c ≥ 65 <;> by_cases a4 : c ≤ 90 <;> by_cases a5 : c ≥ 48 <;> by_cases a6 : c ≤ 57 <;> first | (exfalso; omega) | simp only [a1, a2, a3, a4, a5, a6, a7, a8, if_true, if_false]
  · rw [if_neg hl]
    have hL' : ¬ ((97 ≤ c ∧ c ≤ 122) ∨ (65 ≤ c ∧ c ≤ 90) ∨ (48 ≤ c ∧ c ≤ 57) ∨ c = 95 ∨ c = 46) := fun h => hl (hL.mpr h)
    clear hL hl
    have a7 : ¬ c = 95 := by omega
    have a8 : ¬ c = 46 := by omega
    by_cases a1 : c ≥ 97 <;> by_cases a2 : c ≤ 122 <;> by_cases a3 : c ≥ 65 <;> by_cases a4 : c ≤ 90 <;> by_cases a5 : c ≥ 48 <;> by_cases a6 : c ≤ 57 <;> first | (exfalso; omega) | simp only [a1, a2, a3, a4, a5, a6, a7, a8, if_true, if_false]
theorem rname_loop (s : ByteArray) (hs : s.size ≤ 140737488351232) : ∀ (d i : Nat), s.size - i = d → i ≤ s.size →
    Ev (fun k => smithyref05_Name.l0 k s (i : Int)) (!(decide (0 ≤ Lib.idxFuncFrom mother true s d i)))
  | 0, i, hd, hi => by
    have : i = s.size := by omega
    subst this
    refine Ev.step (fun _ => rfl) ?_
    simp only [smithyref05_Name.l0, if_neg (show ¬ (s.size : Int) < (s.size : Int) by omega)]
    exact Ev.now _
  | d + 1, i, hd, hi => by
    have hlt : i < s.size := by omega
    have hw : wrap64 ((i : Int) + 1) = ((i + 1 : Nat) : Int) := by unfold wrap64; omega
    have ih := rname_loop s hs d (i + 1) (by omega) (by omega)
    rw [idx_step s d i hlt]
    refine Ev.step (fun _ => rfl) ?_
    simp only [rname_round _ s (i : Int) (by omega) (show (i : Int) < (s.size : Int) by omega), hw]
    cases hm : mletter (bt s (i : Int)) with
    | true => simp only [if_true]; exact ih
    | false =>
      have : decide (0 ≤ (i : Int)) = true := decide_eq_true (by omega)
      simp only [Bool.false_eq_true, if_false, this, Bool.not_true]
      exact Ev.now _
theorem rname_ev (s : ByteArray) (hs : s.size ≤ 140737488351232) : Ev (fun k => smithyref05_Name.f k s) (mname s) := by
  simp only [smithyref05_Name.f]
  unfold mname
  by_cases h1 : (s.size : Int) < 1
  · simp only [if_pos h1]
    refine Ev.step (fun _ => rfl) ?_
    have : decide (0 < s.size) = false := decide_eq_false (by omega)
    simp only [smithyref05_Name.j0, if_true, this, Bool.false_and]
    exact Ev.now _
  · simp only [if_neg h1]
    have e1 : decide (0 < s.size) = true := decide_eq_true (by omega)
    refine Ev.step (fun _ => rfl) ?_
    by_cases h2 : (s.size : Int) > 64
    · have : decide (s.size ≤ 64) = false := decide_eq_false (by omega)
      simp only [smithyref05_Name.j0, decide_eq_true h2, if_true, e1, this, Bool.true_and, Bool.false_and]
      exact Ev.now _
    · have e2 : decide (s.size ≤ 64) = true := decide_eq_true (by omega)
      simp only [smithyref05_Name.j0, decide_eq_false h2, Bool.false_eq_true, if_false, e1, e2, Bool.true_and]
      exact rname_loop s hs s.size 0 rfl (Nat.zero_le _)
def oneR (m : S58) : Int := if mname m.f0 = true then (if m.f2 < 0 ∨ m.f2 > 2 then 51 else if m.f1.size > 8192 then 41 else 0) else 50
def onesR : List S58 → Int
  | [] => 0
  | x :: xs => if oneR x = 0 then onesR xs else oneR x
def lessB (p q : ByteArray) : Bool := Op.bytesLess p.toList q.toList
def chain : ByteArray → List S58 → Bool
  | _, [] => true
  | p, x :: xs => lessB p x.f0 && chain x.f0 xs
def chained : List S58 → Bool
  | [] => true
  | x :: xs => chain x.f0 xs
def mcheckR (l : List S58) : Int := if l.length > 256 then 2 else if onesR l = 0 then (if chained l = true then 0 else 5) else onesR l
def msmall (l : List S58) : Prop := ∀ y ∈ l, ok58 y
theorem mrd_mid (pre : List S58) (x : S58) (xs : List S58) : rd_T58 (pre ++ x :: xs) (pre.length : Int) = x := by simp [rd_T58]
theorem one_ev (m : S58) : Ev (fun k => macro_one.f k m.f0 m.f1 m.f2) (oneR m) := by
  simp only [macro_one.f, macro_Name.f, Option.bind_some]
  unfold oneR
  cases hm : mname m.f0 with
  | false => simp only [Bool.false_eq_true, if_false]; exact Ev.now _
  | true =>
    simp only [if_true]
    by_cases h1 : m.f2 < 0
    · simp only [if_pos h1, if_pos (show m.f2 < 0 ∨ m.f2 > 2 from .inl h1)]
      refine Ev.step (fun _ => rfl) ?_
      simp only [macro_one.j0, if_true]
      exact Ev.now _
    · simp only [if_neg h1]
      refine Ev.step (fun _ => rfl) ?_
      by_cases h2 : m.f2 > 2
      · simp only [macro_one.j0, decide_eq_true h2, if_true, if_pos (show m.f2 < 0 ∨ m.f2 > 2 from .inr h2)]
        exact Ev.now _
      · simp only [macro_one.j0, decide_eq_false h2, Bool.false_eq_true, if_false, if_neg (show ¬ (m.f2 < 0 ∨ m.f2 > 2) from fun h => h.elim h1 h2)]
        by_cases h3 : m.f1.size > 8192
        · simp only [if_pos h3, if_pos (show (m.f1.size : Int) > 8192 by omega)]; exact Ev.now _
        · simp only [if_neg h3, if_neg (show ¬ (m.f1.size : Int) > 8192 by omega)]; exact Ev.now _
theorem rone_ev (m : S58) (hs : m.f0.size ≤ 140737488351232) : Ev (fun k => smithyref05_One.f k m.f0 m.f1 m.f2) (oneR m) := by
  simp only [smithyref05_One.f]
  refine Ev.bind (rname_ev m.f0 hs) ?_
  unfold oneR
  cases hm : mname m.f0 with
  | false => simp only [Bool.false_eq_true, if_false]; exact Ev.now _
  | true =>
    simp only [if_true]
    by_cases h1 : m.f2 < 0
    · simp only [if_pos h1, if_pos (show m.f2 < 0 ∨ m.f2 > 2 from .inl h1)]
      refine Ev.step (fun _ => rfl) ?_
      simp only [smithyref05_One.j0, if_true]
      exact Ev.now _
    · simp only [if_neg h1]
      refine Ev.step (fun _ => rfl) ?_
      by_cases h2 : m.f2 > 2
      · simp only [smithyref05_One.j0, decide_eq_true h2, if_true, if_pos (show m.f2 < 0 ∨ m.f2 > 2 from .inr h2)]
        exact Ev.now _
      · simp only [smithyref05_One.j0, decide_eq_false h2, Bool.false_eq_true, if_false, if_neg (show ¬ (m.f2 < 0 ∨ m.f2 > 2) from fun h => h.elim h1 h2)]
        by_cases h3 : m.f1.size > 8192
        · simp only [if_pos h3, if_pos (show (m.f1.size : Int) > 8192 by omega)]; exact Ev.now _
        · simp only [if_neg h3, if_neg (show ¬ (m.f1.size : Int) > 8192 by omega)]; exact Ev.now _
theorem byName_eq (a b : ByteArray) (c : Int) (d e : ByteArray) (f : Int) : macro_byName.f a b c d e f = some (Lib.compareBytes a.data.toList d.data.toList) := rfl
theorem mcheck_l1 (l : List S58) (hl : l.length ≤ 256) : ∀ (suf pre : List S58) (z : S58), l = (pre ++ [z]) ++ suf →
    Ev (fun k => macro_Check.l1 k l (l.length : Int) ((pre ++ [z]).length : Int)) (if chain z.f0 suf = true then 0 else 5)
  | [], pre, z, e => by
    refine Ev.step (fun _ => rfl) ?_
    have : l.length = (pre ++ [z]).length := by rw [e]; simp
    simp only [macro_Check.l1, if_neg (show ¬ ((pre ++ [z]).length : Int) < (l.length : Int) by omega), chain, if_true]
    exact Ev.now _
  | x :: xs, pre, z, e => by
    have hp : (pre ++ [z]).length = pre.length + 1 := by simp
    have hlen : l.length = pre.length + 1 + (xs.length + 1) := by rw [e]; simp; omega
    have hx : rd_T58 l ((pre ++ [z]).length : Int) = x := by rw [e]; exact mrd_mid (pre ++ [z]) x xs
    have hz : rd_T58 l (pre.length : Int) = z := by rw [e, List.append_assoc]; exact mrd_mid pre z ([] ++ x :: xs)
    have hw1 : wrap64 (((pre ++ [z]).length : Int) - 1) = (pre.length : Int) := by rw [hp]; unfold wrap64; omega
    have hw : wrap64 (((pre ++ [z]).length : Int) + 1) = (((pre ++ [z]) ++ [x]).length : Int) := by rw [show ((pre ++ [z]) ++ [x]).length = pre.length + 2 by simp, hp]; unfold wrap64; omega
    have ih := mcheck_l1 l hl xs (pre ++ [z]) x (by rw [e]; simp)
    refine Ev.step (fun _ => rfl) ?_
    simp only [macro_Check.l1, if_pos (show ((pre ++ [z]).length : Int) < (l.length : Int) by omega), if_pos (show ((pre ++ [z]).length : Int) > 0 by omega), hw1, if_pos (show (0 : Int) ≤ (pre.length : Int) by omega), if_pos (show (pre.length : Int) < (l.length : Int) by omega), if_pos (show (0 : Int) ≤ ((pre ++ [z]).length : Int) by omega), hx, hz, byName_eq, Option.bind_some, hw]
    have hc : Lib.compareBytes z.f0.data.toList x.f0.data.toList < 0 ↔ lessB z.f0 x.f0 = true := by
      unfold lessB
      rw [cmp_lt, toList_data, toList_data]
    cases hb : lessB z.f0 x.f0 with
    | true =>
      have := hc.2 hb
      simp only [if_neg (show ¬ Lib.compareBytes z.f0.data.toList x.f0.data.toList ≥ 0 by omega), chain, hb, Bool.true_and]
      exact ih
    | false =>
      have : ¬ Lib.compareBytes z.f0.data.toList x.f0.data.toList < 0 := fun h => by rw [hc.1 h] at hb; cases hb
      simp only [if_pos (show Lib.compareBytes z.f0.data.toList x.f0.data.toList ≥ 0 by omega), chain, hb, Bool.false_and, Bool.false_eq_true, if_false]
      exact Ev.now _
theorem mcheck_l1s (l : List S58) (hl : l.length ≤ 256) : Ev (fun k => macro_Check.l1 k l (l.length : Int) 0) (if chained l = true then 0 else 5) := by
  cases l with
  | nil =>
    refine Ev.step (fun _ => rfl) ?_
    simp only [macro_Check.l1, List.length_nil, if_neg (show ¬ (0 : Int) < ((0 : Nat) : Int) by omega), chained, if_true]
    exact Ev.now _
  | cons x xs =>
    have h := mcheck_l1 (x :: xs) hl xs [] x rfl
    have hw : wrap64 ((0 : Int) + 1) = (([] ++ [x] : List S58).length : Int) := by show wrap64 (0 + 1) = ((1 : Nat) : Int); unfold wrap64; omega
    refine Ev.step (fun _ => rfl) ?_
    simp only [macro_Check.l1, if_pos (show (0 : Int) < ((x :: xs).length : Int) by simp only [List.length_cons]; omega), if_neg (show ¬ (0 : Int) > 0 by omega), hw]
    exact h
theorem mcheck_l0 (l : List S58) (hl : l.length ≤ 256) : ∀ (suf pre : List S58), l = pre ++ suf →
    Ev (fun k => macro_Check.l0 k l l (l.length : Int) (pre.length : Int)) (if onesR suf = 0 then (if chained l = true then 0 else 5) else onesR suf)
  | [], pre, e => by
    refine Ev.step (fun _ => rfl) ?_
    have : l.length = pre.length := by rw [e]; simp
    simp only [macro_Check.l0, if_neg (show ¬ (pre.length : Int) < (l.length : Int) by omega), onesR, if_true]
    exact mcheck_l1s l hl
  | x :: xs, pre, e => by
    have hlen : l.length = pre.length + (xs.length + 1) := by rw [e]; simp
    have hlt : (pre.length : Int) < (l.length : Int) := by omega
    have hx : rd_T58 l (pre.length : Int) = x := by rw [e]; exact mrd_mid pre x xs
    have hw : wrap64 ((pre.length : Int) + 1) = ((pre ++ [x]).length : Int) := by simp; unfold wrap64; omega
    have ih := mcheck_l0 l hl xs (pre ++ [x]) (by rw [e]; simp)
    refine Ev.step (fun _ => rfl) ?_
    simp only [macro_Check.l0, if_pos hlt, if_pos (show (0 : Int) ≤ (pre.length : Int) by omega), hx, hw]
    refine Ev.bind (one_ev x) ?_
    by_cases h : oneR x = 0
    · simp only [if_pos h, onesR]
      exact ih
    · simp only [if_neg h, onesR]
      exact Ev.now _
theorem mcheck_ev (l : List S58) : Ev (fun k => macro_Check.f k l) (mcheckR l) := by
  simp only [macro_Check.f]
  unfold mcheckR
  by_cases h : l.length > 256
  · simp only [if_pos h, if_pos (show (l.length : Int) > 256 by omega)]
    exact Ev.now _
  · simp only [if_neg h, if_neg (show ¬ (l.length : Int) > 256 by omega)]
    exact mcheck_l0 l (by omega) l [] rfl
/-- Macros stand in the order of their names. -/
def MSorted (l : List S58) : Prop := l.Pairwise (fun a b => Less a.f0 b.f0)
theorem chain_iff : ∀ (p : ByteArray) (l : List S58), chain p l = true ↔ (∀ x ∈ l, Less p x.f0) ∧ MSorted l
  | p, [] => by simp [chain, MSorted]
  | p, x :: xs => by
    have h : lessB p x.f0 = true ↔ Less p x.f0 := Iff.rfl
    simp only [chain, Bool.and_eq_true, chain_iff x.f0 xs, MSorted, List.pairwise_cons, List.mem_cons, forall_eq_or_imp, h]
    constructor
    · rintro ⟨h1, h2, h3⟩
      exact ⟨⟨h1, fun y hy => h1.trans (h2 y hy)⟩, h2, h3⟩
    · rintro ⟨⟨h1, _⟩, h2, h3⟩
      exact ⟨h1, h2, h3⟩
theorem chained_iff (l : List S58) : chained l = true ↔ MSorted l := by
  cases l with
  | nil => simp [chained, MSorted]
  | cons x xs => simp only [chained, chain_iff, MSorted, List.pairwise_cons]
theorem onesR_iff : ∀ (l : List S58), onesR l = 0 ↔ ∀ x ∈ l, oneR x = 0
  | [] => by simp [onesR]
  | x :: xs => by
    simp only [onesR, List.mem_cons, forall_eq_or_imp]
    by_cases h : oneR x = 0
    · rw [if_pos h, onesR_iff xs]; simp [h]
    · rw [if_neg h]; simp [h]
theorem mcheck_iff (l : List S58) : mcheckR l = 0 ↔ l.length ≤ 256 ∧ (∀ x ∈ l, oneR x = 0) ∧ MSorted l := by
  unfold mcheckR
  by_cases h : l.length > 256
  · rw [if_pos h]
    constructor
    · intro h2; cases h2
    · intro h2; omega
  · rw [if_neg h]
    by_cases h2 : onesR l = 0
    · rw [if_pos h2]
      have h3 := (onesR_iff l).1 h2
      by_cases h4 : chained l = true
      · rw [if_pos h4]
        exact ⟨fun _ => ⟨by omega, h3, (chained_iff l).1 h4⟩, fun _ => rfl⟩
      · rw [if_neg h4]
        exact ⟨fun h => absurd h (by decide), fun h => absurd ((chained_iff l).2 h.2.2) h4⟩
    · rw [if_neg h2]
      exact ⟨fun h => absurd h h2, fun h => absurd ((onesR_iff l).2 h.2.1) h2⟩
/-- A text's place among sorted files. -/
theorem mcut_at (s : ByteArray) : ∀ (l : List S58), MSorted l →
    (∃ A y B, l = A ++ y :: B ∧ y.f0 = s ∧ (∀ x ∈ A, Less x.f0 s) ∧ (∀ x ∈ B, Less s x.f0)) ∨ (∃ A B, l = A ++ B ∧ (∀ x ∈ A, Less x.f0 s) ∧ (∀ x ∈ B, Less s x.f0))
  | [], _ => .inr ⟨[], [], rfl, by simp, by simp⟩
  | x :: xs, h => by
    have hp := List.pairwise_cons.1 h
    by_cases h1 : Less x.f0 s
    · rcases mcut_at s xs hp.2 with ⟨A, y, B, rfl, hy, hA, hB⟩ | ⟨A, B, rfl, hA, hB⟩
      · exact .inl ⟨x :: A, y, B, rfl, hy, List.forall_mem_cons.2 ⟨h1, hA⟩, hB⟩
      · exact .inr ⟨x :: A, B, rfl, List.forall_mem_cons.2 ⟨h1, hA⟩, hB⟩
    · by_cases h2 : Less s x.f0
      · exact .inr ⟨[], x :: xs, rfl, by simp, List.forall_mem_cons.2 ⟨h2, fun z hz => h2.trans (hp.1 z hz)⟩⟩
      · have e := Less.tri h1 h2
        exact .inl ⟨[], x, xs, rfl, e, by simp, fun z hz => e ▸ hp.1 z hz⟩
/-- The files with a file laid in its place. -/
def mlay (l : List S58) (f : S58) : List S58 := l.filter (fun x => decide (Less x.f0 f.f0)) ++ f :: l.filter (fun x => decide (Less f.f0 x.f0))
def mhas (l : List S58) (s : ByteArray) : Bool := l.any (fun x => decide (x.f0 = s))
theorem mfilter_less (s : ByteArray) (A B : List S58) (hA : ∀ x ∈ A, Less x.f0 s) (hB : ∀ x ∈ B, ¬ Less x.f0 s) : (A ++ B).filter (fun x => decide (Less x.f0 s)) = A := by
  rw [List.filter_append, List.filter_eq_self.2 (fun x hx => decide_eq_true (hA x hx)), List.filter_eq_nil_iff.2 (fun x hx => by simpa using hB x hx), List.append_nil]
theorem mfilter_more (s : ByteArray) (A B : List S58) (hA : ∀ x ∈ A, ¬ Less s x.f0) (hB : ∀ x ∈ B, Less s x.f0) : (A ++ B).filter (fun x => decide (Less s x.f0)) = B := by
  rw [List.filter_append, List.filter_eq_self.2 (fun x hx => decide_eq_true (hB x hx)), List.filter_eq_nil_iff.2 (fun x hx => by simpa using hA x hx), List.nil_append]
theorem mlay_there (A B : List S58) (y f : S58) (hy : y.f0 = f.f0) (hA : ∀ x ∈ A, Less x.f0 f.f0) (hB : ∀ x ∈ B, Less f.f0 x.f0) : mlay (A ++ y :: B) f = A ++ f :: B := by
  unfold mlay
  rw [mfilter_less f.f0 A (y :: B) hA (List.forall_mem_cons.2 ⟨by rw [hy]; exact Less.irrefl _, fun x hx => (hB x hx).asymm⟩)]
  have := mfilter_more f.f0 (A ++ [y]) B (List.forall_mem_append.2 ⟨fun x hx => (hA x hx).asymm, by simp [hy, Less.irrefl]⟩) hB
  rw [List.append_assoc] at this
  rw [show A ++ y :: B = A ++ ([y] ++ B) from rfl, this]
theorem mlay_not (A B : List S58) (f : S58) (hA : ∀ x ∈ A, Less x.f0 f.f0) (hB : ∀ x ∈ B, Less f.f0 x.f0) : mlay (A ++ B) f = A ++ f :: B := by
  unfold mlay
  rw [mfilter_less f.f0 A B hA (fun x hx => (hB x hx).asymm), mfilter_more f.f0 A B (fun x hx => (hA x hx).asymm) hB]
theorem mhas_there (s : ByteArray) (A B : List S58) (y : S58) (hy : y.f0 = s) : mhas (A ++ y :: B) s = true := by simp [mhas, hy]
theorem mhas_not (s : ByteArray) (A B : List S58) (hA : ∀ x ∈ A, Less x.f0 s) (hB : ∀ x ∈ B, Less s x.f0) : mhas (A ++ B) s = false := by
  rw [Bool.eq_false_iff]
  simp only [mhas, ne_eq, List.any_eq_true, decide_eq_true_eq, not_exists, not_and]
  exact List.forall_mem_append.2 ⟨fun x hx => (hA x hx).ne, fun x hx h => (hB x hx).ne h.symm⟩
theorem mlay_length (l : List S58) (f : S58) : (mlay l f).length ≤ l.length + 1 := by
  unfold mlay
  rw [List.length_append, List.length_cons]
  have h : ∀ l : List S58, (l.filter (fun x => decide (Less x.f0 f.f0))).length + (l.filter (fun x => decide (Less f.f0 x.f0))).length ≤ l.length := by
    intro l
    induction l with
    | nil => simp
    | cons x xs ih =>
      simp only [List.filter_cons]
      by_cases h1 : Less x.f0 f.f0
      · simp only [decide_eq_true h1, decide_eq_false h1.asymm, if_true, Bool.false_eq_true, if_false, List.length_cons]; omega
      · by_cases h2 : Less f.f0 x.f0
        · simp only [decide_eq_false h1, decide_eq_true h2, if_true, Bool.false_eq_true, if_false, List.length_cons]; omega
        · simp only [decide_eq_false h1, decide_eq_false h2, Bool.false_eq_true, if_false, List.length_cons]; omega
  have := h l
  omega
def mfind (l : List S58) (s : ByteArray) : Option S58 := l.find? (fun x => decide (x.f0 = s))
theorem mfind_there (s : ByteArray) (A B : List S58) (y : S58) (hy : y.f0 = s) (hA : ∀ x ∈ A, Less x.f0 s) : mfind (A ++ y :: B) s = some y := by
  unfold mfind
  rw [List.find?_append, List.find?_eq_none.2 (fun x hx => by simpa using (hA x hx).ne), Option.none_or, List.find?_cons_of_pos (by simpa using hy)]
theorem mfind_not (s : ByteArray) (A B : List S58) (hA : ∀ x ∈ A, Less x.f0 s) (hB : ∀ x ∈ B, Less s x.f0) : mfind (A ++ B) s = none := by
  unfold mfind
  rw [List.find?_eq_none]
  intro x hx
  rcases List.mem_append.1 hx with hx | hx
  · simpa using (hA x hx).ne
  · simpa using fun h => (hB x hx).ne h.symm
/-- What Define answers. -/
def defL (l : List S58) (m : S58) : List S58 × Int := match mfind l m.f0 with
  | some y => if y.f2 > m.f2 then (l, 0) else (mlay l m, 0)
  | none => if l.length = 256 then ([], 2) else (mlay l m, 0)
def defR (l : List S58) (m : S58) : List S58 × Int := if mcheckR l = 0 then (if oneR m = 0 then defL l m else ([], oneR m)) else ([], mcheckR l)
theorem mlay_mem (l : List S58) (m x : S58) (h : x ∈ mlay l m) : x ∈ l ∨ x = m := by
  unfold mlay at h
  rcases List.mem_append.1 h with h | h
  · exact .inl (List.mem_filter.1 h).1
  · rcases List.mem_cons.1 h with h | h
    · exact .inr h
    · exact .inl (List.mem_filter.1 h).1
theorem defR_mem (l : List S58) (m x : S58) (h : x ∈ (defR l m).1) : x ∈ l ∨ x = m := by
  unfold defR defL at h
  repeat' split at h
  all_goals first | (simp at h; done) | exact .inl h | exact mlay_mem l m x h
/-- What All answers. -/
def allGo : List S58 → List S58 → List S58 × Int
  | out, [] => (out, 0)
  | out, m :: ms => if (defR out m).2 = 0 then allGo (defR out m).1 ms else ([], (defR out m).2)
def allR (l more : List S58) : List S58 × Int := if mcheckR l = 0 then allGo l more else ([], mcheckR l)
theorem mfind_cons (x : S58) (xs : List S58) (s : ByteArray) : mfind (x :: xs) s = if x.f0 = s then some x else mfind xs s := by
  unfold mfind
  by_cases h : x.f0 = s
  · rw [if_pos h, List.find?_cons_of_pos (by simpa using h)]
  · rw [if_neg h, List.find?_cons_of_neg (by simpa using h)]
theorem mfind_above (s : ByteArray) : ∀ (l : List S58), (∀ z ∈ l, Less s z.f0) → mfind l s = none := fun l h => mfind_not s [] l (by simp) h
theorem mfind_app (A B : List S58) (s : ByteArray) : mfind (A ++ B) s = (mfind A s).or (mfind B s) := by unfold mfind; rw [List.find?_append]
theorem msorted_ext : ∀ (l l' : List S58), MSorted l → MSorted l' → (∀ s, mfind l s = mfind l' s) → l = l'
  | [], [], _, _, _ => rfl
  | [], y :: ys, _, _, h => by have := h y.f0; rw [mfind_cons, if_pos rfl] at this; cases this
  | x :: xs, [], _, _, h => by have := h x.f0; rw [mfind_cons, if_pos rfl] at this; cases this
  | x :: xs, y :: ys, hl, hl', h => by
    have p := List.pairwise_cons.1 hl
    have p' := List.pairwise_cons.1 hl'
    have hx : ¬ Less x.f0 y.f0 := fun hlt => by
      have := h x.f0
      rw [mfind_cons, if_pos rfl, mfind_above x.f0 (y :: ys) (List.forall_mem_cons.2 ⟨hlt, fun z hz => hlt.trans (p'.1 z hz)⟩)] at this
      cases this
    have hy : ¬ Less y.f0 x.f0 := fun hlt => by
      have := h y.f0
      rw [mfind_cons y, if_pos rfl, mfind_above y.f0 (x :: xs) (List.forall_mem_cons.2 ⟨hlt, fun z hz => hlt.trans (p.1 z hz)⟩)] at this
      cases this
    have e := Less.tri hx hy
    have exy : x = y := by
      have := h x.f0
      rw [mfind_cons, if_pos rfl, mfind_cons, if_pos e.symm] at this
      exact Option.some.inj this
    subst exy
    rw [msorted_ext xs ys p.2 p'.2 (fun s => by
      by_cases hs : x.f0 = s
      · subst hs; rw [mfind_above _ xs p.1, mfind_above _ ys p'.1]
      · have := h s; rwa [mfind_cons, if_neg hs, mfind_cons, if_neg hs] at this)]
theorem mlay_laws (l : List S58) (m : S58) (hl : MSorted l) : MSorted (mlay l m) ∧ (∀ s, mfind (mlay l m) s = if s = m.f0 then some m else mfind l s) ∧ (mlay l m).length = l.length + (if (mfind l m.f0).isSome then 0 else 1) := by
  rcases mcut_at m.f0 l hl with ⟨A, y, B, e, hy, hA, hB⟩ | ⟨A, B, e, hA, hB⟩
  · have hml := mlay_there A B y m hy hA hB
    rw [← e] at hml
    rw [hml]
    rw [e] at hl
    have hp := List.pairwise_append.1 hl
    have hq := List.pairwise_cons.1 hp.2.1
    refine ⟨List.pairwise_append.2 ⟨hp.1, List.pairwise_cons.2 ⟨hB, hq.2⟩, fun a ha b hb => ?_⟩, fun s => ?_, ?_⟩
    · rcases List.mem_cons.1 hb with rfl | hb
      · exact hA a ha
      · exact hp.2.2 a ha b (List.mem_cons_of_mem _ hb)
    · by_cases hs : s = m.f0
      · rw [if_pos hs]; exact mfind_there s A B m hs.symm (by rw [hs]; exact hA)
      · rw [if_neg hs, e, mfind_app, mfind_app, mfind_cons, mfind_cons, if_neg (fun h => hs h.symm), if_neg (fun h => hs (h.symm.trans hy))]
    · rw [e, mfind_there m.f0 A B y hy hA]; simp
  · have hml := mlay_not A B m hA hB
    rw [← e] at hml
    rw [hml]
    rw [e] at hl
    have hp := List.pairwise_append.1 hl
    refine ⟨List.pairwise_append.2 ⟨hp.1, List.pairwise_cons.2 ⟨hB, hp.2.1⟩, fun a ha b hb => ?_⟩, fun s => ?_, ?_⟩
    · rcases List.mem_cons.1 hb with rfl | hb
      · exact hA a ha
      · exact hp.2.2 a ha b hb
    · by_cases hs : s = m.f0
      · rw [if_pos hs]; exact mfind_there s A B m hs.symm (by rw [hs]; exact hA)
      · rw [if_neg hs, e, mfind_app, mfind_app, mfind_cons, if_neg (fun h => hs h.symm)]
    · rw [e, mfind_not m.f0 A B hA hB]; simp; omega
/-- The one that counts of two. -/
def mkeep (l : List S58) (m : S58) : S58 := match mfind l m.f0 with
  | some y => if y.f2 > m.f2 then y else m
  | none => m
theorem mfind_name {l : List S58} {s : ByteArray} {y : S58} (h : mfind l s = some y) : y.f0 = s := by
  have := List.find?_some h; simpa using this
theorem mfind_mem {l : List S58} {s : ByteArray} {y : S58} (h : mfind l s = some y) : y ∈ l := List.mem_of_find?_eq_some h
theorem define_bad (l : List S58) (m : S58) (h : ¬ (defR l m).2 = 0) : (defR l m).1 = [] := by
  unfold defR defL at *
  repeat' split at h
  all_goals first | (exact absurd rfl h) | skip
  all_goals simp_all
theorem define_ok (l : List S58) (m : S58) (hg : mcheckR l = 0) : (defR l m).2 = 0 ↔ oneR m = 0 ∧ ((mfind l m.f0).isSome = true ∨ l.length < 256) := by
  have hlen := ((mcheck_iff l).1 hg).1
  unfold defR defL
  rw [if_pos hg]
  by_cases ho : oneR m = 0
  · rw [if_pos ho]
    cases hf : mfind l m.f0 with
    | some y => by_cases hy : y.f2 > m.f2 <;> simp [hy, ho]
    | none =>
      by_cases hn : l.length = 256
      · simp [hn]
      · simp [hn, ho]; omega
  · rw [if_neg ho]; simp [ho]
theorem define_laws (l : List S58) (m : S58) (hg : mcheckR l = 0) (h : (defR l m).2 = 0) :
    mcheckR (defR l m).1 = 0 ∧ (∀ s, mfind (defR l m).1 s = if s = m.f0 then some (mkeep l m) else mfind l s) ∧ (defR l m).1.length = l.length + (if (mfind l m.f0).isSome then 0 else 1) := by
  obtain ⟨ho, hr⟩ := (define_ok l m hg).1 h
  obtain ⟨hlen, hones, hs⟩ := (mcheck_iff l).1 hg
  obtain ⟨q1, q2, q3⟩ := mlay_laws l m hs
  have hlay : (mlay l m).length ≤ 256 → mcheckR (mlay l m) = 0 := fun hle => (mcheck_iff _).2 ⟨hle, fun x hx => by
    rcases mlay_mem l m x hx with hx | rfl
    · exact hones x hx
    · exact ho, q1⟩
  unfold defR defL
  rw [if_pos hg, if_pos ho]
  cases hf : mfind l m.f0 with
  | some y =>
    rw [hf] at q3
    by_cases hy : y.f2 > m.f2
    · simp only [if_pos hy]
      refine ⟨hg, fun s => ?_, by simp⟩
      by_cases hsm : s = m.f0
      · rw [if_pos hsm, hsm, hf]; unfold mkeep; rw [hf]; simp only [if_pos hy]
      · rw [if_neg hsm]
    · simp only [if_neg hy]
      refine ⟨hlay (by rw [q3]; simpa using hlen), fun s => ?_, q3⟩
      rw [q2]
      unfold mkeep; rw [hf]; simp only [if_neg hy]
  | none =>
    rw [hf] at q3 hr
    have hlt : l.length < 256 := by simpa using hr
    simp only [if_neg (show ¬ l.length = 256 by omega)]
    refine ⟨hlay (by rw [q3]; simp; omega), fun s => ?_, q3⟩
    rw [q2]
    unfold mkeep; rw [hf]
theorem allGo_bad : ∀ (more out : List S58), ¬ (allGo out more).2 = 0 → (allGo out more).1 = []
  | [], out, h => absurd rfl h
  | m :: ms, out, h => by
    simp only [allGo] at h ⊢
    by_cases hd : (defR out m).2 = 0
    · rw [if_pos hd] at h ⊢; exact allGo_bad ms _ h
    · rw [if_neg hd]
theorem names_ev (s : ByteArray) : Ev (fun k => names_Check.f k s) (nameR s) := by
  obtain ⟨k, h⟩ := names_clean_f s
  exact Ev.of (fun k => names_Check.mono s k) h
def listR (l : List ByteArray) (most : Int) : Int := if (l.length : Int) > most then 2 else if (l.all nameOk) = true then 0 else 3
theorem mlist_loop (l : List ByteArray) (hl : l.length ≤ 140737488351232) : ∀ (suf pre : List ByteArray), l = pre ++ suf → Ev (fun k => modes_list.l0 k l (l.length : Int) (pre.length : Int)) (if (suf.all nameOk) = true then 0 else 3)
  | [], pre, e => by
    refine Ev.step (fun _ => rfl) ?_
    have : l.length = pre.length := by rw [e]; simp
    simp only [modes_list.l0, if_neg (show ¬ (pre.length : Int) < (l.length : Int) by omega), List.all_nil, if_true]
    exact Ev.now _
  | x :: xs, pre, e => by
    have hlen : l.length = pre.length + (xs.length + 1) := by rw [e]; simp
    have hlt : (pre.length : Int) < (l.length : Int) := by omega
    have hx : rdOf ByteArray.empty l (pre.length : Int) = x := by rw [e]; simp [rdOf]
    have hw : wrap64 ((pre.length : Int) + 1) = ((pre ++ [x]).length : Int) := by simp; unfold wrap64; omega
    have ih := mlist_loop l hl xs (pre ++ [x]) (by rw [e]; simp)
    refine Ev.step (fun _ => rfl) ?_
    simp only [modes_list.l0, if_pos hlt, if_pos (show (0 : Int) ≤ (pre.length : Int) by omega), hx, hw]
    refine Ev.bind (names_ev x) ?_
    unfold nameR
    cases hn : nameOk x with
    | true => simp only [if_true, List.all_cons, hn, Bool.true_and]; exact ih
    | false => simp only [Bool.false_eq_true, if_false, List.all_cons, hn, Bool.false_and, if_neg (show ¬ (3 : Int) = 0 by decide)]; exact Ev.now _
theorem mlist_ev (l : List ByteArray) (hl : l.length ≤ 140737488351232) (m : Int) : Ev (fun k => modes_list.f k l m) (listR l m) := by
  simp only [modes_list.f, listR]
  by_cases h : (l.length : Int) > m
  · simp only [if_pos h]; exact Ev.now _
  · simp only [if_neg h]; exact mlist_loop l hl l [] rfl
/-- What is wrong with the first macro that is not right, each at the arguments' level. -/
def macsR : List S58 → Int
  | [] => 0
  | x :: xs => if oneR ⟨x.f0, x.f1, 2⟩ = 0 then macsR xs else oneR ⟨x.f0, x.f1, 2⟩
theorem mcheck_single (x : S58) : mcheckR [x] = oneR x := by
  have e : onesR [x] = oneR x := by
    by_cases h : oneR x = 0 <;> simp [onesR, h]
  unfold mcheckR
  rw [if_neg (by simp)]
  by_cases h : oneR x = 0
  · have h1 : onesR [x] = 0 := e.trans h
    rw [if_pos h1, if_pos (by simp [chained, chain]), h]
  · have h1 : ¬ onesR [x] = 0 := fun h2 => h (e.symm.trans h2)
    rw [if_neg h1, e]
theorem macs_loop (l : List S58) (hl : l.length ≤ 256) : ∀ (suf pre : List S58), l = pre ++ suf → Ev (fun k => modes_Check.l0 k l (l.length : Int) (pre.length : Int)) (macsR suf)
  | [], pre, e => by
    refine Ev.step (fun _ => rfl) ?_
    have : l.length = pre.length := by rw [e]; simp
    simp only [modes_Check.l0, if_neg (show ¬ (pre.length : Int) < (l.length : Int) by omega), macsR]
    exact Ev.now _
  | x :: xs, pre, e => by
    have hlen : l.length = pre.length + (xs.length + 1) := by rw [e]; simp
    have hlt : (pre.length : Int) < (l.length : Int) := by omega
    have hx : rd_T58 l (pre.length : Int) = x := by rw [e]; exact mrd_mid pre x xs
    have hw : wrap64 ((pre.length : Int) + 1) = ((pre ++ [x]).length : Int) := by simp; unfold wrap64; omega
    have ih := macs_loop l hl xs (pre ++ [x]) (by rw [e]; simp)
    refine Ev.step (fun _ => rfl) ?_
    simp only [modes_Check.l0, if_pos hlt, if_pos (show (0 : Int) ≤ (pre.length : Int) by omega), hx, hw]
    refine Ev.bind (mcheck_ev [(⟨x.f0, x.f1, 2⟩ : S58)]) ?_
    rw [mcheck_single]
    by_cases h : oneR ⟨x.f0, x.f1, 2⟩ = 0
    · simp only [macsR, if_pos h]; exact ih
    · simp only [macsR, if_neg h]; exact Ev.now _
def optR (d t q : Bool) (slots : Int) (files : List ByteArray) (macros : List S58) (goals : List ByteArray) : Int :=
  if slots < 1 ∨ slots > 8 ∨ cnt3 d t q > 1 then 1
  else if listR files 64 = 0 then (if listR goals 512 = 0 then (if macros.length > 256 then 2 else macsR macros) else listR goals 512) else listR files 64
theorem mopt_j0 (a b c d e f : Bool) (s : Int) (l7 : List ByteArray) (l8 : List S58) (l9 : List ByteArray) (h7 : l7.length ≤ 140737488351232) (h9 : l9.length ≤ 140737488351232) :
    Ev (fun k => modes_Check.j0 k false a b c d e f s l7 l8 l9) (if listR l7 64 = 0 then (if listR l9 512 = 0 then (if l8.length > 256 then 2 else macsR l8) else listR l9 512) else listR l7 64) := by
  refine Ev.step (fun _ => rfl) ?_
  simp only [modes_Check.j0, Bool.false_eq_true, if_false]
  refine Ev.bind (mlist_ev l7 h7 64) ?_
  by_cases h1 : listR l7 64 = 0
  · simp only [if_pos h1]
    refine Ev.bind (mlist_ev l9 h9 512) ?_
    by_cases h2 : listR l9 512 = 0
    · simp only [if_pos h2]
      by_cases h3 : l8.length > 256
      · simp only [if_pos h3, if_pos (show (l8.length : Int) > 256 by omega)]; exact Ev.now _
      · simp only [if_neg h3, if_neg (show ¬ (l8.length : Int) > 256 by omega)]; exact macs_loop l8 (by omega) l8 [] rfl
    · simp only [if_neg h2]; exact Ev.now _
  · simp only [if_neg h1]; exact Ev.now _
theorem mopt_bad (a b c d e f : Bool) (s : Int) (l7 : List ByteArray) (l8 : List S58) (l9 : List ByteArray) : Ev (fun k => modes_Check.j0 k true a b c d e f s l7 l8 l9) 1 := by
  refine Ev.step (fun _ => rfl) ?_
  simp only [modes_Check.j0, if_true]
  exact Ev.now _
theorem mset_ev (x y z : Bool) : Ev (fun k => modes_set.f k [x, y, z]) (cnt3 x y z) := Ev.of (fun k => modes_set.mono [x, y, z] k) (set3 x y z)
theorem mopt_ev (a b c d e f : Bool) (s : Int) (l7 : List ByteArray) (l8 : List S58) (l9 : List ByteArray) (h7 : l7.length ≤ 140737488351232) (h9 : l9.length ≤ 140737488351232) :
    Ev (fun k => modes_Check.f k a b c d e f s l7 l8 l9) (optR a b c s l7 l8 l9) := by
  simp only [modes_Check.f, optR]
  by_cases h1 : s < 1
  · simp only [if_pos h1, if_pos (show s < 1 ∨ s > 8 ∨ cnt3 a b c > 1 from .inl h1)]; exact mopt_bad ..
  · simp only [if_neg h1]
    by_cases h2 : s > 8
    · simp only [if_pos h2, if_pos (show s < 1 ∨ s > 8 ∨ cnt3 a b c > 1 from .inr (.inl h2))]; exact mopt_bad ..
    · simp only [if_neg h2]
      refine Ev.bind (mset_ev a b c) ?_
      by_cases h3 : cnt3 a b c > 1
      · simp only [decide_eq_true h3, if_pos (show s < 1 ∨ s > 8 ∨ cnt3 a b c > 1 from .inr (.inr h3))]; exact mopt_bad ..
      · simp only [decide_eq_false h3, if_neg (show ¬ (s < 1 ∨ s > 8 ∨ cnt3 a b c > 1) from fun h => by rcases h with h | h | h <;> contradiction)]
        exact mopt_j0 a b c d e f s l7 l8 l9 h7 h9
set_option maxHeartbeats 8000000 in
theorem rletter3_eq (c : Int) : smithyref03_letter.f c = some (letter c) := by
  have hL := nletter_iff c
  unfold smithyref03_letter.f
  cases hl : letter c with
  | true =>
    have hL' := hL.mp hl
    clear hL hl
    repeat' split
    all_goals first | rfl | (exfalso; omega) | (congr 1; exact beq_iff_eq.mpr (by omega))
  | false =>
    have hL' : ¬ ((97 ≤ c ∧ c ≤ 122) ∨ (65 ≤ c ∧ c ≤ 90) ∨ (48 ≤ c ∧ c ≤ 57) ∨ c = 95 ∨ c = 45 ∨ c = 46 ∨ c = 47 ∨ c = 43) := fun h => by rw [hL.mpr h] at hl; cases hl
    clear hL hl
    repeat' split
    all_goals first | rfl | (exfalso; omega) | (congr 1; exact beq_eq_false_iff_ne.mpr (by omega))
theorem is3_loop (s : ByteArray) (hs : s.size ≤ 64) : ∀ (d k i : Nat), s.size - i = d → i ≤ s.size → d < k →
    smithyref03_Is.l0 k s (i : Int) = some ((List.range s.size).all fun j => decide (j < i) || letter (bt s j))
  | 0, k, i, hd, hi, hk => by
    obtain ⟨k, rfl⟩ : ∃ m, k = m + 1 := ⟨k - 1, by omega⟩
    have : i = s.size := by omega
    subst this
    simp only [smithyref03_Is.l0]
    rw [if_neg (by omega), all_end _ _ _ (Nat.le_refl _)]
  | d + 1, k, i, hd, hi, hk => by
    obtain ⟨k, rfl⟩ : ∃ m, k = m + 1 := ⟨k - 1, by omega⟩
    have hlt : i < s.size := by omega
    have hw : wrap64 ((i : Int) + 1) = ((i + 1 : Nat) : Int) := by unfold wrap64; omega
    simp only [smithyref03_Is.l0]
    rw [if_pos (show (i : Int) < (s.size : Int) by omega), if_pos (show (0 : Int) ≤ (i : Int) by omega), rletter3_eq, Option.bind_some, hw, is3_loop s hs d k (i + 1) (by omega) (by omega) (by omega), all_from (fun j => letter (bt s j)) s.size i hlt]
    cases hl : letter (bt s i) with
    | true => simp
    | false => simp
theorem is3_ev (s : ByteArray) : Ev (fun k => smithyref03_Is.f k s) (nameOk s) := by
  refine Ev.of (fun k => smithyref03_Is.mono s k) (k := s.size + 3) ?_
  unfold smithyref03_Is.f nameOk
  by_cases h1 : (s.size : Int) < 1
  · rw [if_pos h1]
    simp only [smithyref03_Is.j0, if_true]
    have : decide (0 < s.size) = false := decide_eq_false (by omega)
    rw [this]; rfl
  · rw [if_neg h1]
    have e1 : decide (0 < s.size) = true := decide_eq_true (by omega)
    simp only [smithyref03_Is.j0, decide_eq_true_eq, e1, Bool.true_and]
    by_cases h2 : (s.size : Int) > 64
    · rw [if_pos h2]
      have : decide (s.size ≤ 64) = false := decide_eq_false (by omega)
      rw [this]; rfl
    · rw [if_neg h2]
      have e2 : decide (s.size ≤ 64) = true := decide_eq_true (by omega)
      have h := is3_loop s (by omega) s.size (s.size + 2) 0 (by omega) (by omega) (by omega)
      rw [all_start (fun j => letter (bt s j))] at h
      rw [e2, Bool.true_and]
      exact h
theorem rlist_loop (l : List ByteArray) (hl : l.length ≤ 140737488351232) : ∀ (suf pre : List ByteArray), l = pre ++ suf → Ev (fun k => smithyref19_names.l0 k l (l.length : Int) (pre.length : Int)) (if (suf.all nameOk) = true then 0 else 3)
  | [], pre, e => by
    refine Ev.step (fun _ => rfl) ?_
    have : l.length = pre.length := by rw [e]; simp
    simp only [smithyref19_names.l0, if_neg (show ¬ (pre.length : Int) < (l.length : Int) by omega), List.all_nil, if_true]
    exact Ev.now _
  | x :: xs, pre, e => by
    have hlen : l.length = pre.length + (xs.length + 1) := by rw [e]; simp
    have hlt : (pre.length : Int) < (l.length : Int) := by omega
    have hx : rdOf ByteArray.empty l (pre.length : Int) = x := by rw [e]; simp [rdOf]
    have hw : wrap64 ((pre.length : Int) + 1) = ((pre ++ [x]).length : Int) := by simp; unfold wrap64; omega
    have ih := rlist_loop l hl xs (pre ++ [x]) (by rw [e]; simp)
    refine Ev.step (fun _ => rfl) ?_
    simp only [smithyref19_names.l0, if_pos hlt, if_pos (show (0 : Int) ≤ (pre.length : Int) by omega), hx, hw]
    refine Ev.bind (is3_ev x) ?_
    cases hn : nameOk x with
    | true => simp only [if_true, List.all_cons, hn, Bool.true_and]; exact ih
    | false => simp only [Bool.false_eq_true, if_false, List.all_cons, hn, Bool.false_and]; exact Ev.now _
theorem rlist_ev (l : List ByteArray) (hl : l.length ≤ 140737488351232) (m : Int) : Ev (fun k => smithyref19_names.f k l m) (listR l m) := by
  simp only [smithyref19_names.f, listR]
  by_cases h : (l.length : Int) > m
  · simp only [if_pos h]; exact Ev.now _
  · simp only [if_neg h]; exact rlist_loop l hl l [] rfl
theorem rmacs_loop (l : List S58) (hl : l.length ≤ 140737488351232) (hs : ∀ y ∈ l, y.f0.size ≤ 140737488351232) : ∀ (suf pre : List S58) (e0 : Int), l = pre ++ suf → Ev (fun k => smithyref19_Check.l0 k e0 l (l.length : Int) (pre.length : Int)) (if e0 = 0 then macsR suf else e0)
  | [], pre, e0, e => by
    refine Ev.step (fun _ => rfl) ?_
    have : l.length = pre.length := by rw [e]; simp
    simp only [smithyref19_Check.l0, if_neg (show ¬ (pre.length : Int) < (l.length : Int) by omega), macsR]
    by_cases h : e0 = 0
    · rw [if_pos h, h]; exact Ev.now _
    · rw [if_neg h]; exact Ev.now _
  | x :: xs, pre, e0, e => by
    have hlen : l.length = pre.length + (xs.length + 1) := by rw [e]; simp
    have hlt : (pre.length : Int) < (l.length : Int) := by omega
    have hx : rd_T58 l (pre.length : Int) = x := by rw [e]; exact mrd_mid pre x xs
    have hw : wrap64 ((pre.length : Int) + 1) = ((pre ++ [x]).length : Int) := by simp; unfold wrap64; omega
    have ih := fun e1 => rmacs_loop l hl hs xs (pre ++ [x]) e1 (by rw [e]; simp)
    refine Ev.step (fun _ => rfl) ?_
    simp only [smithyref19_Check.l0, if_pos hlt, if_pos (show (0 : Int) ≤ (pre.length : Int) by omega), hx, hw]
    by_cases h : e0 = 0
    · simp only [if_pos h, macsR]
      refine Ev.bind (rone_ev ⟨x.f0, x.f1, 2⟩ (hs x (by rw [e]; simp))) ?_
      exact ih _
    · simp only [if_neg h]
      have := ih e0
      rw [if_neg h] at this
      exact this
theorem two_eq (a b c : Bool) : smithyref19_two.f a b c = some (decide (cnt3 a b c > 1)) := by cases a <;> cases b <;> cases c <;> rfl
theorem ropt_ev (a b c d e f : Bool) (s : Int) (l7 : List ByteArray) (l8 : List S58) (l9 : List ByteArray) (h7 : l7.length ≤ 140737488351232) (h8 : l8.length ≤ 140737488351232) (hs : ∀ y ∈ l8, y.f0.size ≤ 140737488351232) (h9 : l9.length ≤ 140737488351232) :
    Ev (fun k => smithyref19_Check.f k a b c d e f s l7 l8 l9) (optR a b c s l7 l8 l9) := by
  have bad : Ev (fun k => smithyref19_Check.j0 k true a b c d e f s l7 l8 l9) 1 := by
    refine Ev.step (fun _ => rfl) ?_
    simp only [smithyref19_Check.j0, if_true]
    exact Ev.now _
  have fin : ∀ e0, Ev (fun k => smithyref19_Check.j3 k e0 a b c d e f s l7 l8 l9) (if e0 = 0 then macsR l8 else e0) := fun e0 => by
    refine Ev.step (fun _ => rfl) ?_
    simp only [smithyref19_Check.j3]
    exact rmacs_loop l8 h8 hs l8 [] e0 rfl
  have mid : ∀ e0, Ev (fun k => smithyref19_Check.j1 k e0 a b c d e f s l7 l8 l9) (if e0 = 0 then (if l8.length > 256 then 2 else macsR l8) else e0) := fun e0 => by
    refine Ev.step (fun _ => rfl) ?_
    simp only [smithyref19_Check.j1]
    by_cases h : e0 = 0
    · simp only [if_pos h]
      refine Ev.step (fun _ => rfl) ?_
      by_cases h2 : l8.length > 256
      · simp only [smithyref19_Check.j2, decide_eq_true (show (l8.length : Int) > 256 by omega), if_true, if_pos h2]
        have := fin 2
        rwa [if_neg (by decide)] at this
      · simp only [smithyref19_Check.j2, decide_eq_false (show ¬ (l8.length : Int) > 256 by omega), Bool.false_eq_true, if_false, if_neg h2]
        have := fin e0
        rwa [if_pos h] at this
    · simp only [if_neg h]
      refine Ev.step (fun _ => rfl) ?_
      simp only [smithyref19_Check.j2, Bool.false_eq_true, if_false]
      have := fin e0
      rwa [if_neg h] at this
  have good : Ev (fun k => smithyref19_Check.j0 k false a b c d e f s l7 l8 l9) (if listR l7 64 = 0 then (if listR l9 512 = 0 then (if l8.length > 256 then 2 else macsR l8) else listR l9 512) else listR l7 64) := by
    refine Ev.step (fun _ => rfl) ?_
    simp only [smithyref19_Check.j0, Bool.false_eq_true, if_false]
    refine Ev.bind (rlist_ev l7 h7 64) ?_
    by_cases h1 : listR l7 64 = 0
    · simp only [if_pos h1]
      exact Ev.bind (rlist_ev l9 h9 512) (mid _)
    · simp only [if_neg h1]
      have := mid (listR l7 64)
      rwa [if_neg h1] at this
  simp only [smithyref19_Check.f, optR]
  by_cases h1 : s < 1
  · simp only [if_pos h1, if_pos (show s < 1 ∨ s > 8 ∨ cnt3 a b c > 1 from .inl h1)]; exact bad
  · simp only [if_neg h1]
    by_cases h2 : s > 8
    · simp only [if_pos h2, if_pos (show s < 1 ∨ s > 8 ∨ cnt3 a b c > 1 from .inr (.inl h2))]; exact bad
    · simp only [if_neg h2, two_eq, Option.bind_some]
      by_cases h3 : cnt3 a b c > 1
      · simp only [decide_eq_true h3, if_pos (show s < 1 ∨ s > 8 ∨ cnt3 a b c > 1 from .inr (.inr h3))]; exact bad
      · simp only [decide_eq_false h3, if_neg (show ¬ (s < 1 ∨ s > 8 ∨ cnt3 a b c > 1) from fun h => by rcases h with h | h | h <;> contradiction)]
        exact good
end Go.Proofs.Ytmmjbobicnmilaa.P
