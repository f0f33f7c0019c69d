import Derived.Test.YtaeapobjhgakiaaQDiskWrites
import Derived.Test.YtaeapobjhgakiaaBytes
import Derived.Test.YtaeapobjhgakiaaExt
set_option linter.unusedVariables false
set_option linter.unusedSimpArgs false
namespace Go.Proofs.Ytaeapobjhgakiaa.P
open Go Go.RowKit Go.Proofs.Ytaeapobjhgakiaa.Ext Go.Proofs.YtaeapobjhgakiaaW.PrintWords Go.Proofs.YtaeapobjhgakiaaW.PrintLast Go.Proofs.YtaeapobjhgakiaaW.PrintMore
theorem letter_iff (c : Int) : letter c = true ↔ (97 ≤ c ∧ c ≤ 122) ∨ (65 ≤ c ∧ c ≤ 90) ∨ (48 ≤ c ∧ c ≤ 57) ∨ c = 95 ∨ c = 45 ∨ c = 46 ∨ c = 47 ∨ c = 43 := by
  simp only [letter, Bool.or_eq_true, decide_eq_true_eq, or_assoc]
theorem signs_list : (⟨#[95, 45, 46, 47, 43]⟩ : ByteArray).data.toList = [95, 45, 46, 47, 43] := rfl
theorem named_round (k : Nat) (s : ByteArray) (i : Int) (h0 : 0 ≤ i) (h1 : i < (s.size : Int)) :
    disk_named.l0 (k + 1) s (s.size : Int) i = if letter (bt s i) = true then disk_named.l0 k s (s.size : Int) (wrap64 (i + 1)) else some false := by
  have hb := bt_byte s i
  have hf := find_signs (bt s i) hb.1 hb.2
  have hL := letter_iff (bt s i)
  simp only [disk_named.l0, strings_IndexByte.f, Option.bind_some, signs_list]
  rw [if_pos h1, if_pos h0, if_pos h1]
  generalize Lib.indexByte [95, 45, 46, 47, 43] (bt s i).toNat.toUInt8 = t at *
  generalize bt s i = c at *
  by_cases hl : letter c = true
  · rw [if_pos hl]
    have hL' := hL.mp hl
    clear hL hl
    repeat' split
    all_goals first | rfl | (exfalso; omega)
  · rw [if_neg hl]
    have hL' : ¬ ((97 ≤ c ∧ c ≤ 122) ∨ (65 ≤ c ∧ c ≤ 90) ∨ (48 ≤ c ∧ c ≤ 57) ∨ c = 95 ∨ c = 45 ∨ c = 46 ∨ c = 47 ∨ c = 43) := fun h => hl (hL.mpr h)
    clear hL hl
    repeat' split
    all_goals first | rfl | (exfalso; omega)
theorem named_loop (s : ByteArray) (hs : s.size ≤ 140737488351232) : ∀ (d k i : Nat), s.size - i = d → i ≤ s.size → d < k →
    disk_named.l0 k s (s.size : Int) (i : Int) = some ((List.range s.size).all fun j => decide (j < i) || letter (bt s j))
  | 0, k, i, hd, hi, hk => by
    obtain ⟨k, rfl⟩ : ∃ m, k = m + 1 := ⟨k - 1, by omega⟩
    have : i = s.size := by omega
    subst this
    simp only [disk_named.l0]
    rw [if_neg (by omega), all_end _ _ _ (Nat.le_refl _)]
  | d + 1, k, i, hd, hi, hk => by
    obtain ⟨k, rfl⟩ : ∃ m, k = m + 1 := ⟨k - 1, by omega⟩
    have hlt : i < s.size := by omega
    rw [named_round k s i (by omega) (by omega)]
    have hw : wrap64 ((i : Int) + 1) = ((i + 1 : Nat) : Int) := by unfold wrap64; omega
    rw [hw, named_loop s hs d k (i + 1) (by omega) (by omega) (by omega), all_from (fun j => letter (bt s j)) s.size i hlt]
    cases hl : letter (bt s i) with
    | true => simp
    | false => simp
theorem named_ev (s : ByteArray) (hs : s.size ≤ 140737488351232) : Ev (fun k => disk_named.f k s) (nameOk s) := by
  refine ⟨s.size + 3, fun k hk => ?_⟩
  obtain ⟨k, rfl⟩ : ∃ m, k = m + 1 := ⟨k - 1, by omega⟩
  show disk_named.f (k + 1) s = _
  unfold disk_named.f nameOk
  by_cases h1 : (s.size : Int) < 1
  · rw [if_pos h1]
    simp only [disk_named.j0, if_true]
    have : decide (0 < s.size) = false := decide_eq_false (by omega)
    rw [this]; rfl
  · rw [if_neg h1]
    have e1 : decide (0 < s.size) = true := decide_eq_true (by omega)
    simp only [disk_named.j0, decide_eq_true_eq, e1, Bool.true_and]
    by_cases h2 : (s.size : Int) > 64
    · rw [if_pos h2]
      have : decide (s.size ≤ 64) = false := decide_eq_false (by omega)
      rw [this]; rfl
    · rw [if_neg h2]
      have e2 : decide (s.size ≤ 64) = true := decide_eq_true (by omega)
      have h := named_loop s hs s.size k 0 (by omega) (by omega) (by omega)
      rw [all_start (fun j => letter (bt s j))] at h
      rw [e2, Bool.true_and]
      exact h
theorem rletter_iff (c : Int) : letter c = true ↔ (97 ≤ c ∧ c ≤ 122) ∨ (65 ≤ c ∧ c ≤ 90) ∨ (48 ≤ c ∧ c ≤ 57) ∨ c = 95 ∨ c = 45 ∨ c = 46 ∨ c = 47 ∨ c = 43 := by
  simp only [letter, Bool.or_eq_true, decide_eq_true_eq, or_assoc]
theorem rname_round (k : Nat) (s : ByteArray) (i : Int) (h0 : 0 ≤ i) (h1 : i < (s.size : Int)) :
    smithyref02_Name.l0 (k + 1) s i = if letter (bt s i) = true then smithyref02_Name.l0 k s (wrap64 (i + 1)) else some false := by
  have hL := rletter_iff (bt s i)
  simp only [smithyref02_Name.l0]
  rw [if_pos h1, if_pos h0]
  generalize bt s i = c at *
  generalize smithyref02_Name.l0 k s (wrap64 (i + 1)) = r at *
  by_cases hl : letter c = true
  · rw [if_pos hl]
    rcases hL.mp hl with h | h | h | rfl | rfl | rfl | rfl | rfl
    · rw [if_pos h.1, if_pos h.2]
    · rw [if_neg (by omega), if_pos h.1, if_pos h.2]
    · rw [if_neg (by omega), if_neg (by omega), if_pos h.1, if_pos h.2]
    all_goals rfl
  · rw [if_neg hl]
    have hL' : ¬ ((97 ≤ c ∧ c ≤ 122) ∨ (65 ≤ c ∧ c ≤ 90) ∨ (48 ≤ c ∧ c ≤ 57) ∨ c = 95 ∨ c = 45 ∨ c = 46 ∨ c = 47 ∨ c = 43) := fun h => hl (hL.mpr h)
    clear hL hl
    have n1 : ¬ c = 95 := by omega
    have n2 : ¬ c = 45 := by omega
    have n3 : ¬ c = 46 := by omega
    have n4 : ¬ c = 47 := by omega
    have n5 : ¬ c = 43 := by omega
    by_cases a1 : c ≥ 97 <;> by_cases a2 : c ≤ 122 <;> by_cases a3 : c ≥ 65 <;> by_cases a4 : c ≤ 90 <;> by_cases a5 : c ≥ 48 <;> by_cases a6 : c ≤ 57 <;> first | (exfalso; omega) | simp only [a1, a2, a3, a4, a5, a6, n1, n2, n3, n4, n5, if_true, if_false]
theorem rname_loop (s : ByteArray) (hs : s.size ≤ 140737488351232) : ∀ (d k i : Nat), s.size - i = d → i ≤ s.size → d < k →
    smithyref02_Name.l0 k s (i : Int) = some (((List.range s.size).all fun j => decide (j < i) || letter (bt s j)) && (decide (0 < s.size) && decide (s.size ≤ 64)))
  | 0, k, i, hd, hi, hk => by
    obtain ⟨k, rfl⟩ : ∃ m, k = m + 1 := ⟨k - 1, by omega⟩
    have : i = s.size := by omega
    subst this
    simp only [smithyref02_Name.l0]
    rw [if_neg (by omega), all_end _ _ _ (Nat.le_refl _)]
    by_cases h : (s.size : Int) > 0
    · rw [if_pos h]
      have e1 : decide (0 < s.size) = true := decide_eq_true (by omega)
      rw [e1]
      have e2 : decide ((s.size : Int) ≤ 64) = decide (s.size ≤ 64) := by rw [decide_eq_decide]; omega
      rw [e2]
      simp
    · rw [if_neg h]
      have e1 : decide (0 < s.size) = false := decide_eq_false (by omega)
      rw [e1]
      simp
  | d + 1, k, i, hd, hi, hk => by
    obtain ⟨k, rfl⟩ : ∃ m, k = m + 1 := ⟨k - 1, by omega⟩
    have hlt : i < s.size := by omega
    rw [rname_round k s i (by omega) (by omega)]
    have hw : wrap64 ((i : Int) + 1) = ((i + 1 : Nat) : Int) := by unfold wrap64; omega
    rw [hw, rname_loop s hs d k (i + 1) (by omega) (by omega) (by omega), all_from (fun j => letter (bt s j)) s.size i hlt]
    cases hl : letter (bt s i) with
    | true => simp
    | false => simp
theorem rname_ev (s : ByteArray) (hs : s.size ≤ 140737488351232) : Ev (fun k => smithyref02_Name.f k s) (nameOk s) := by
  refine ⟨s.size + 3, fun k hk => ?_⟩
  show smithyref02_Name.f k s = _
  unfold smithyref02_Name.f nameOk
  have h := rname_loop s hs s.size k 0 (by omega) (by omega) (by omega)
  rw [all_start (fun j => letter (bt s j))] at h
  have e : (decide (0 < s.size) && decide (s.size ≤ 64) && allLetters s) = ((List.range s.size).all (fun j => letter (bt s j)) && (decide (0 < s.size) && decide (s.size ≤ 64))) := by
    rw [Bool.and_comm]; rfl
  rw [e]
  exact h
def goodL (c : Int) : Option ByteArray → List S26 → Bool
  | _, [] => true
  | p, x :: xs => nameOk x.f0 && (match p with | none => true | some q => Op.bytesLess q.toList x.f0.toList) && decide (x.f1.size ≤ 4096) && decide (0 ≤ x.f2) && decide (x.f2 ≤ c) && goodL c (some x.f0) xs
/-- A disk is right. -/
def diskOk (c : Int) (l : List S26) : Bool := decide (0 ≤ c) && decide (c ≤ 1099511627776) && decide (l.length ≤ 256) && goodL c none l
def small (l : List S26) : Prop := ∀ y ∈ l, ok26 y
theorem rd_mid (pre : List S26) (x : S26) (xs : List S26) : rd_T26 (pre ++ x :: xs) (pre.length : Int) = x := by simp [rd_T26]
theorem check_loop (c : Int) (l : List S26) (hl : l.length ≤ 256) (hs : small l) : ∀ (suf pre : List S26) (last : S26), l = pre ++ suf →
    Ev (fun k => disk_Check.l0 k l (l.length : Int) (pre.length : Int) c l last.f0 last.f1 last.f2) (if goodL c (if pre.length = 0 then none else some last.f0) suf = true then 0 else 4)
  | [], pre, last, e => by
    refine Ev.step (fun _ => rfl) ?_
    have : l.length = pre.length := by rw [e]; simp
    simp only [disk_Check.l0, if_neg (show ¬ (pre.length : Int) < (l.length : Int) by omega), goodL, if_true]
    exact Ev.now _
  | x :: xs, pre, last, e => by
    refine Ev.step (fun _ => rfl) ?_
    have hlen : l.length = pre.length + (xs.length + 1) := by rw [e]; simp
    have hlt : (pre.length : Int) < (l.length : Int) := by omega
    have hx : rd_T26 l (pre.length : Int) = x := by rw [e]; exact rd_mid pre x xs
    have hxs : x.f0.size ≤ 140737488351232 := (hs x (by rw [e]; simp)).1
    have hw : wrap64 ((pre.length : Int) + 1) = ((pre ++ [x]).length : Int) := by simp; unfold wrap64; omega
    have ih := check_loop c l hl hs xs (pre ++ [x]) x (by rw [e]; simp)
    rw [if_neg (show ¬ (pre ++ [x]).length = 0 by simp)] at ih
    simp only [disk_Check.l0, if_pos hlt, if_pos (show (0 : Int) ≤ (pre.length : Int) by omega), hx, hw]
    refine Ev.bind (named_ev x.f0 hxs) ?_
    cases hn : nameOk x.f0 with
    | false =>
      simp only [goodL, hn, Bool.false_and, Bool.false_eq_true, if_false]
      exact Ev.now _
    | true =>
      simp only [if_true, goodL, hn, Bool.true_and]
      by_cases hp : pre.length = 0
      · simp only [if_neg (show ¬ (pre.length : Int) > 0 by omega), if_pos hp, Bool.true_and]
        by_cases h1 : (x.f1.size : Int) > 4096
        · simp only [if_pos h1, decide_eq_false (show ¬ x.f1.size ≤ 4096 by omega), Bool.false_and, Bool.false_eq_true, if_false]
          exact Ev.now _
        · simp only [if_neg h1, decide_eq_true (show x.f1.size ≤ 4096 by omega), Bool.true_and]
          by_cases h2 : x.f2 < 0
          · simp only [if_pos h2, decide_eq_false (show ¬ 0 ≤ x.f2 by omega), Bool.false_and, Bool.false_eq_true, if_false]
            exact Ev.now _
          · simp only [if_neg h2, decide_eq_true (show 0 ≤ x.f2 by omega), Bool.true_and]
            by_cases h3 : x.f2 > c
            · simp only [if_pos h3, decide_eq_false (show ¬ x.f2 ≤ c by omega), Bool.false_and, Bool.false_eq_true, if_false]
              exact Ev.now _
            · simp only [if_neg h3, decide_eq_true (show x.f2 ≤ c by omega), Bool.true_and]
              exact ih
      · simp only [if_pos (show (pre.length : Int) > 0 by omega), if_neg hp]
        cases hb : Op.bytesLess last.f0.toList x.f0.toList with
        | false =>
          simp only [Bool.false_eq_true, if_false, Bool.false_and]
          exact Ev.now _
        | true =>
          simp only [if_true, Bool.true_and]
          by_cases h1 : (x.f1.size : Int) > 4096
          · simp only [if_pos h1, decide_eq_false (show ¬ x.f1.size ≤ 4096 by omega), Bool.false_and, Bool.false_eq_true, if_false]
            exact Ev.now _
          · simp only [if_neg h1, decide_eq_true (show x.f1.size ≤ 4096 by omega), Bool.true_and]
            by_cases h2 : x.f2 < 0
            · simp only [if_pos h2, decide_eq_false (show ¬ 0 ≤ x.f2 by omega), Bool.false_and, Bool.false_eq_true, if_false]
              exact Ev.now _
            · simp only [if_neg h2, decide_eq_true (show 0 ≤ x.f2 by omega), Bool.true_and]
              by_cases h3 : x.f2 > c
              · simp only [if_pos h3, decide_eq_false (show ¬ x.f2 ≤ c by omega), Bool.false_and, Bool.false_eq_true, if_false]
                exact Ev.now _
              · simp only [if_neg h3, decide_eq_true (show x.f2 ≤ c by omega), Bool.true_and]
                exact ih
theorem check_ev (c : Int) (l : List S26) (hs : small l) : Ev (fun k => disk_Check.f k c l) (if diskOk c l = true then 0 else 4) := by
  unfold diskOk
  by_cases h1 : c < 0
  · simp only [disk_Check.f, if_pos h1, decide_eq_false (show ¬ 0 ≤ c by omega), Bool.false_and, Bool.false_eq_true, if_false]
    refine Ev.step (fun _ => rfl) ?_
    simp only [disk_Check.j0, if_true]
    exact Ev.now _
  · simp only [disk_Check.f, if_neg h1, decide_eq_true (show 0 ≤ c by omega), Bool.true_and]
    by_cases h2 : c > 1099511627776
    · simp only [if_pos h2, decide_eq_false (show ¬ c ≤ 1099511627776 by omega), Bool.false_and, Bool.false_eq_true, if_false]
      refine Ev.step (fun _ => rfl) ?_
      simp only [disk_Check.j0, if_true]
      exact Ev.now _
    · simp only [if_neg h2, decide_eq_true (show c ≤ 1099511627776 by omega), Bool.true_and]
      refine Ev.step (fun _ => rfl) ?_
      by_cases h3 : l.length ≤ 256
      · simp only [disk_Check.j0, decide_eq_false (show ¬ (l.length : Int) > 256 by omega), Bool.false_eq_true, if_false, decide_eq_true h3, Bool.true_and]
        exact check_loop c l h3 hs l [] ⟨⟨#[]⟩, ⟨#[]⟩, 0⟩ rfl
      · simp only [disk_Check.j0, decide_eq_true (show (l.length : Int) > 256 by omega), if_true, decide_eq_false h3, Bool.false_and, Bool.false_eq_true, if_false]
        exact Ev.now _
theorem asked_ev (c : Int) (l : List S26) (s : ByteArray) (hs : small l) (hn : s.size ≤ 140737488351232) :
    Ev (fun k => disk_asked.f k c l s) (if diskOk c l = true then (if nameOk s = true then 0 else 3) else 4) := by
  simp only [disk_asked.f]
  refine Ev.bind (check_ev c l hs) ?_
  cases diskOk c l with
  | false => simp only [Bool.false_eq_true, if_false]; exact Ev.now _
  | true =>
    simp only [if_true]
    refine Ev.bind (named_ev s hn) ?_
    cases nameOk s with
    | false => simp only [Bool.false_eq_true, if_false]; exact Ev.now _
    | true => simp only [if_true]; exact Ev.now _
theorem rcheck_loop (c : Int) (l : List S26) (hl : l.length ≤ 256) (hs : small l) : ∀ (suf pre : List S26), l = pre ++ suf →
    Ev (fun k => smithyref02_Check.l0 k (pre.length : Int) c l) (if goodL c (pre.getLast?.map (·.f0)) suf = true then 0 else 4)
  | [], pre, e => by
    refine Ev.step (fun _ => rfl) ?_
    have : l.length = pre.length := by rw [e]; simp
    simp only [smithyref02_Check.l0, if_neg (show ¬ (pre.length : Int) < (l.length : Int) by omega), goodL, if_true]
    exact Ev.now _
  | x :: xs, pre, e => by
    refine Ev.step (fun _ => rfl) ?_
    have hlen : l.length = pre.length + (xs.length + 1) := by rw [e]; simp
    have hlt : (pre.length : Int) < (l.length : Int) := by omega
    have hx : rd_T26 l (pre.length : Int) = x := by rw [e]; exact rd_mid pre x xs
    have hxs : x.f0.size ≤ 140737488351232 := (hs x (by rw [e]; simp)).1
    have hw : wrap64 ((pre.length : Int) + 1) = ((pre ++ [x]).length : Int) := by simp; unfold wrap64; omega
    have ih := rcheck_loop c l hl hs xs (pre ++ [x]) (by rw [e]; simp)
    rw [List.getLast?_concat] at ih
    simp only [Option.map_some] at ih
    simp only [smithyref02_Check.l0, if_pos hlt, if_pos (show (0 : Int) ≤ (pre.length : Int) by omega), hx]
    refine Ev.bind (rname_ev x.f0 hxs) ?_
    have bad : Ev (fun k => smithyref02_Check.j2 k (pre.length : Int) true c l x.f0 x.f1 x.f2) 4 := by
      refine Ev.step (fun _ => rfl) ?_
      simp only [smithyref02_Check.j2, if_true]
      exact Ev.now _
    cases hn : nameOk x.f0 with
    | false =>
      simp only [goodL, hn, Bool.false_and, Bool.false_eq_true, if_false]
      exact bad
    | true =>
      simp only [if_true, goodL, hn, Bool.true_and]
      by_cases h1 : (x.f1.size : Int) > 4096
      · simp only [if_pos h1, decide_eq_false (show ¬ x.f1.size ≤ 4096 by omega), Bool.and_false, Bool.false_and, Bool.false_eq_true, if_false]
        exact bad
      · simp only [if_neg h1, decide_eq_true (show x.f1.size ≤ 4096 by omega), Bool.and_true]
        by_cases h2 : x.f2 < 0
        · simp only [if_pos h2, decide_eq_false (show ¬ 0 ≤ x.f2 by omega), Bool.and_false, Bool.false_and, Bool.false_eq_true, if_false]
          exact bad
        · simp only [if_neg h2, decide_eq_true (show 0 ≤ x.f2 by omega), Bool.and_true]
          by_cases h3 : x.f2 > c
          · simp only [decide_eq_true h3, decide_eq_false (show ¬ x.f2 ≤ c by omega), Bool.and_false, Bool.false_and, Bool.false_eq_true, if_false]
            exact bad
          · simp only [decide_eq_false h3, decide_eq_true (show x.f2 ≤ c by omega), Bool.and_true]
            refine Ev.step (fun _ => rfl) ?_
            by_cases hp : pre = []
            · subst hp
              have z : ((([] : List S26).length : Nat) : Int) = 0 := rfl
              rw [z] at hw
              simp only [smithyref02_Check.j2, Bool.false_eq_true, if_false, z, if_neg (show ¬ (0 : Int) > 0 by omega), hw, List.getLast?_nil, Option.map_none, Bool.true_and]
              exact ih
            · obtain ⟨p, q, rfl⟩ : ∃ p q, pre = p ++ [q] := ⟨pre.dropLast, pre.getLast hp, (List.dropLast_concat_getLast hp).symm⟩
              have hpl : (p ++ [q]).length = p.length + 1 := by simp
              have hq : rd_T26 l (wrap64 (((p ++ [q]).length : Int) - 1)) = q := by
                have : wrap64 (((p ++ [q]).length : Int) - 1) = (p.length : Int) := by unfold wrap64; omega
                rw [this, e]
                have := rd_mid p q (x :: xs)
                simpa using this
              have hm0 : 0 ≤ wrap64 (((p ++ [q]).length : Int) - 1) := by unfold wrap64; omega
              have hm1 : wrap64 (((p ++ [q]).length : Int) - 1) < (l.length : Int) := by
                unfold wrap64; omega
              simp only [smithyref02_Check.j2, Bool.false_eq_true, if_false, if_pos (show ((p ++ [q]).length : Int) > 0 by omega), if_pos hm0, if_pos hm1, hq, hw, List.getLast?_concat, Option.map_some]
              cases hb : Op.bytesLess q.f0.toList x.f0.toList with
              | false =>
                simp only [Bool.false_eq_true, if_false, Bool.false_and]
                exact Ev.now _
              | true =>
                simp only [if_true, Bool.true_and]
                exact ih
theorem rcheck_ev (c : Int) (l : List S26) (hs : small l) : Ev (fun k => smithyref02_Check.f k c l) (if diskOk c l = true then 0 else 4) := by
  unfold diskOk
  by_cases h1 : c < 0
  · simp only [smithyref02_Check.f, if_pos h1, decide_eq_false (show ¬ 0 ≤ c by omega), Bool.false_and, Bool.false_eq_true, if_false]
    refine Ev.step (fun _ => rfl) ?_
    simp only [smithyref02_Check.j0, if_true]
    exact Ev.now _
  · simp only [smithyref02_Check.f, if_neg h1, decide_eq_true (show 0 ≤ c by omega), Bool.true_and]
    by_cases h2 : c > 1099511627776
    · simp only [if_pos h2, decide_eq_false (show ¬ c ≤ 1099511627776 by omega), Bool.false_and, Bool.false_eq_true, if_false]
      refine Ev.step (fun _ => rfl) ?_
      simp only [smithyref02_Check.j0, if_true]
      exact Ev.now _
    · simp only [if_neg h2, decide_eq_true (show c ≤ 1099511627776 by omega), Bool.true_and]
      refine Ev.step (fun _ => rfl) ?_
      by_cases h3 : l.length ≤ 256
      · simp only [smithyref02_Check.j0, decide_eq_false (show ¬ (l.length : Int) > 256 by omega), Bool.false_eq_true, if_false, decide_eq_true h3, Bool.true_and]
        exact rcheck_loop c l h3 hs l [] rfl
      · simp only [smithyref02_Check.j0, decide_eq_true (show (l.length : Int) > 256 by omega), if_true, decide_eq_false h3, Bool.false_and, Bool.false_eq_true, if_false]
        exact Ev.now _
theorem rfit_ev (c : Int) (l : List S26) (s : ByteArray) (hs : small l) (hn : s.size ≤ 140737488351232) :
    Ev (fun k => smithyref02_fit.f k c l s) (if diskOk c l = true then (if nameOk s = true then 0 else 3) else 4) := by
  simp only [smithyref02_fit.f]
  refine Ev.bind (rcheck_ev c l hs) ?_
  cases diskOk c l with
  | false => simp only [Bool.false_eq_true, if_false]; exact Ev.now _
  | true =>
    simp only [if_true]
    refine Ev.bind (rname_ev s hn) ?_
    cases nameOk s with
    | false => simp only [Bool.false_eq_true, if_false]; exact Ev.now _
    | true => simp only [if_true]; exact Ev.now _
def fileOk (c : Int) (x : S26) : Prop := nameOk x.f0 = true ∧ x.f1.size ≤ 4096 ∧ 0 ≤ x.f2 ∧ x.f2 ≤ c
/-- Files stand in the order of their names. -/
def Sorted (l : List S26) : Prop := l.Pairwise (fun a b => Less a.f0 b.f0)
theorem goodL_iff (c : Int) : ∀ (p : Option ByteArray) (l : List S26), goodL c p l = true ↔ (∀ x ∈ l, fileOk c x) ∧ Sorted l ∧ (∀ q, p = some q → ∀ x ∈ l, Less q x.f0)
  | p, [] => by simp [goodL, Sorted]
  | p, x :: xs => by
    simp only [goodL, Bool.and_eq_true, decide_eq_true_eq, goodL_iff c (some x.f0) xs, Sorted, List.pairwise_cons, List.mem_cons, forall_eq_or_imp, Option.some.injEq, forall_eq']
    constructor
    · rintro ⟨⟨⟨⟨⟨h1, h2⟩, h3⟩, h4⟩, h5⟩, h6, h7, h8⟩
      refine ⟨⟨⟨h1, h3, h4, h5⟩, h6⟩, ⟨h8, h7⟩, fun q hq => ?_⟩
      subst hq
      exact ⟨h2, fun y hy => Less.trans h2 (h8 y hy)⟩
    · rintro ⟨⟨⟨h1, h3, h4, h5⟩, h6⟩, ⟨h8, h7⟩, h9⟩
      refine ⟨⟨⟨⟨⟨h1, ?_⟩, h3⟩, h4⟩, h5⟩, h6, h7, h8⟩
      cases p with
      | none => rfl
      | some q => exact (h9 q rfl).1
theorem diskOk_iff (c : Int) (l : List S26) : diskOk c l = true ↔ 0 ≤ c ∧ c ≤ 1099511627776 ∧ l.length ≤ 256 ∧ (∀ x ∈ l, fileOk c x) ∧ Sorted l := by
  simp only [diskOk, Bool.and_eq_true, decide_eq_true_eq, goodL_iff]
  constructor
  · rintro ⟨⟨⟨h1, h2⟩, h3⟩, h4, h5, _⟩
    exact ⟨h1, h2, h3, h4, h5⟩
  · rintro ⟨h1, h2, h3, h4, h5⟩
    exact ⟨⟨⟨h1, h2⟩, h3⟩, h4, h5, fun q hq => by cases hq⟩
/-- A text's place among sorted files. -/
theorem cut_at (s : ByteArray) : ∀ (l : List S26), Sorted l →
    (∃ A y B, l = A ++ y :: B ∧ y.f0 = s ∧ (∀ x ∈ A, Less x.f0 s) ∧ (∀ x ∈ B, Less s x.f0)) ∨ (∃ A B, l = A ++ B ∧ (∀ x ∈ A, Less x.f0 s) ∧ (∀ x ∈ B, Less s x.f0))
  | [], _ => .inr ⟨[], [], rfl, by simp, by simp⟩
  | x :: xs, h => by
    have hp := List.pairwise_cons.1 h
    by_cases h1 : Less x.f0 s
    · rcases cut_at s xs hp.2 with ⟨A, y, B, rfl, hy, hA, hB⟩ | ⟨A, B, rfl, hA, hB⟩
      · exact .inl ⟨x :: A, y, B, rfl, hy, List.forall_mem_cons.2 ⟨h1, hA⟩, hB⟩
      · exact .inr ⟨x :: A, B, rfl, List.forall_mem_cons.2 ⟨h1, hA⟩, hB⟩
    · by_cases h2 : Less s x.f0
      · exact .inr ⟨[], x :: xs, rfl, by simp, List.forall_mem_cons.2 ⟨h2, fun z hz => h2.trans (hp.1 z hz)⟩⟩
      · have e := Less.tri h1 h2
        exact .inl ⟨[], x, xs, rfl, e, by simp, fun z hz => e ▸ hp.1 z hz⟩
theorem bsearch_at {α : Type} (c : α → Int) (g : Int → α) (n m : Int) (hm : m ≤ n) (h : ∀ j, 0 ≤ j → j < n → (c (g j) < 0 ↔ j < m)) : ∀ (d : Nat) (i j : Int), 0 ≤ i → i ≤ m → m ≤ j → j ≤ n → j - i ≤ d → bsearch c g d i j = m
  | 0, i, j, h0, h1, h2, h3, hd => by simp only [bsearch]; omega
  | d + 1, i, j, h0, h1, h2, h3, hd => by
    simp only [bsearch]
    by_cases hlt : i < j
    · rw [if_pos hlt]
      have hk := h ((i + j) / 2) (by omega) (by omega)
      by_cases hc : c (g ((i + j) / 2)) < 0
      · rw [if_pos hc]
        exact bsearch_at c g n m hm h d _ _ (by omega) (by have := hk.1 hc; omega) h2 h3 (by omega)
      · rw [if_neg hc]
        exact bsearch_at c g n m hm h d _ _ h0 h1 (by have := fun h => hc (hk.2 h); omega) (by omega) (by omega)
    · rw [if_neg hlt]; omega
theorem pcmp_lt (s : ByteArray) (x : S26) : pcmp s x < 0 ↔ Less x.f0 s := by
  unfold pcmp Less
  rw [cmp_lt, toList_data, toList_data]
theorem pcmp_eq (s : ByteArray) (x : S26) : pcmp s x = 0 ↔ x.f0 = s := by
  unfold pcmp
  rw [cmp_eq0]
  constructor
  · intro h; exact toList_inj (by rw [toList_data, toList_data]; exact h)
  · intro h; rw [h]
theorem rd_app (A B : List S26) (j : Int) (h0 : 0 ≤ j) (h : j < A.length) : rd_T26 (A ++ B) j ∈ A := by
  have hj : j.toNat < A.length := by omega
  simp only [rd_T26, List.getD_eq_getElem?_getD, List.getElem?_append_left hj, List.getElem?_eq_getElem hj, Option.getD_some]
  exact List.getElem_mem hj
theorem rd_app2 (A B : List S26) (j : Int) (h0 : A.length ≤ j) (h : j < (A ++ B).length) : rd_T26 (A ++ B) j ∈ B := by
  rw [List.length_append] at h
  have hj : j.toNat - A.length < B.length := by omega
  simp only [rd_T26, List.getD_eq_getElem?_getD, List.getElem?_append_right (show A.length ≤ j.toNat by omega), List.getElem?_eq_getElem hj, Option.getD_some]
  exact List.getElem_mem hj
theorem pAt_eq (s : ByteArray) (A B : List S26) (hA : ∀ x ∈ A, Less x.f0 s) (hB : ∀ x ∈ B, ¬ Less x.f0 s) : pAt (A ++ B) s = A.length := by
  unfold pAt bend
  refine bsearch_at _ _ ((A ++ B).length : Int) _ (by simp; omega) (fun j h0 h1 => ?_) _ _ _ (Int.le_refl _) (by omega) (by simp; omega) (Int.le_refl _) (by omega)
  rw [pcmp_lt]
  by_cases hj : j < A.length
  · exact ⟨fun _ => hj, fun _ => hA _ (rd_app A B j h0 hj)⟩
  · exact ⟨fun h => absurd h (hB _ (rd_app2 A B j (by omega) h1)), fun h => absurd h hj⟩
theorem place_there (s : ByteArray) (A B : List S26) (y : S26) (hy : y.f0 = s) (hA : ∀ x ∈ A, Less x.f0 s) (hB : ∀ x ∈ B, Less s x.f0) (c : Int) :
    disk_place.f c (A ++ y :: B) s = some ((A.length : Int), true) := by
  have h := pAt_eq s A (y :: B) hA (List.forall_mem_cons.2 ⟨by rw [hy]; exact Less.irrefl _, fun x hx => (hB x hx).asymm⟩)
  unfold disk_place.f pThere
  rw [h, rd_mid]
  have e : pcmp s y = 0 := (pcmp_eq s y).2 hy
  have e2 : decide ((A.length : Int) < ((A ++ y :: B).length : Int)) = true := decide_eq_true (by simp; omega)
  rw [e, e2]
  rfl
theorem place_not (s : ByteArray) (A B : List S26) (hA : ∀ x ∈ A, Less x.f0 s) (hB : ∀ x ∈ B, Less s x.f0) (c : Int) :
    disk_place.f c (A ++ B) s = some ((A.length : Int), false) := by
  have h := pAt_eq s A B hA (fun x hx => (hB x hx).asymm)
  unfold disk_place.f pThere
  rw [h]
  cases B with
  | nil =>
    have e2 : decide ((A.length : Int) < ((A ++ ([] : List S26)).length : Int)) = false := decide_eq_false (by simp)
    rw [e2]; rfl
  | cons y B =>
    rw [rd_mid]
    have e : (pcmp s y == 0) = false := by
      rw [beq_eq_false_iff_ne]
      intro h
      exact (hB y (by simp)).ne ((pcmp_eq s y).1 h).symm
    rw [e, Bool.and_false]
theorem rplace_loop (s : ByteArray) (c : Int) (l : List S26) (hl : l.length ≤ 256) : ∀ (suf pre : List S26), l = pre ++ suf →
    (∀ A y B, suf = A ++ y :: B → y.f0 = s → (∀ x ∈ A, x.f0 ≠ s) → Ev (fun k => smithyref02_place.l0 k s (pre.length : Int) c l) ((pre ++ A).length : Int)) ∧
    ((∀ x ∈ suf, x.f0 ≠ s) → Ev (fun k => smithyref02_place.l0 k s (pre.length : Int) c l) (-1))
  | [], pre, e => by
    refine ⟨fun A y B h => by simp at h, fun _ => ?_⟩
    refine Ev.step (fun _ => rfl) ?_
    have : l.length = pre.length := by rw [e]; simp
    simp only [smithyref02_place.l0, if_neg (show ¬ (pre.length : Int) < (l.length : Int) by omega)]
    exact Ev.now _
  | x :: xs, pre, e => by
    have hlen : l.length = pre.length + (xs.length + 1) := by rw [e]; simp
    have hlt : (pre.length : Int) < (l.length : Int) := by omega
    have hx : rd_T26 l (pre.length : Int) = x := by rw [e]; exact rd_mid pre x xs
    have hw : wrap64 ((pre.length : Int) + 1) = ((pre ++ [x]).length : Int) := by simp; unfold wrap64; omega
    have ih := rplace_loop s c l hl xs (pre ++ [x]) (by rw [e]; simp)
    refine ⟨fun A y B h hy hA => ?_, fun h => ?_⟩
    · refine Ev.step (fun _ => rfl) ?_
      simp only [smithyref02_place.l0, if_pos hlt, if_pos (show (0 : Int) ≤ (pre.length : Int) by omega), hx, hw]
      cases A with
      | nil =>
        simp only [List.nil_append, List.cons.injEq] at h
        obtain ⟨rfl, rfl⟩ := h
        simp only [hy, if_true, List.append_nil]
        exact Ev.now _
      | cons a A =>
        simp only [List.cons_append, List.cons.injEq] at h
        obtain ⟨rfl, rfl⟩ := h
        have hne : ¬ x.f0.toList = s.toList := fun h => hA x (by simp) (toList_inj h)
        simp only [if_neg hne]
        have := ih.1 A y B rfl hy (fun z hz => hA z (by simp [hz]))
        simpa using this
    · refine Ev.step (fun _ => rfl) ?_
      have hne : ¬ x.f0.toList = s.toList := fun h2 => h x (by simp) (toList_inj h2)
      simp only [smithyref02_place.l0, if_pos hlt, if_pos (show (0 : Int) ≤ (pre.length : Int) by omega), hx, hw, if_neg hne]
      exact ih.2 (fun z hz => h z (by simp [hz]))
theorem rplace_there (s : ByteArray) (A B : List S26) (y : S26) (hl : (A ++ y :: B).length ≤ 256) (hy : y.f0 = s) (hA : ∀ x ∈ A, Less x.f0 s) (c : Int) :
    Ev (fun k => smithyref02_place.f k c (A ++ y :: B) s) (A.length : Int) := by
  have := (rplace_loop s c (A ++ y :: B) hl (A ++ y :: B) [] rfl).1 A y B rfl hy (fun x hx => (hA x hx).ne)
  simpa [smithyref02_place.f] using this
theorem rplace_not (s : ByteArray) (A B : List S26) (hl : (A ++ B).length ≤ 256) (hA : ∀ x ∈ A, Less x.f0 s) (hB : ∀ x ∈ B, Less s x.f0) (c : Int) :
    Ev (fun k => smithyref02_place.f k c (A ++ B) s) (-1) := by
  have := (rplace_loop s c (A ++ B) hl (A ++ B) [] rfl).2 (List.forall_mem_append.2 ⟨fun x hx => (hA x hx).ne, fun x hx h => (hB x hx).ne h.symm⟩)
  simpa [smithyref02_place.f] using this
/-- The files with a file laid in its place. -/
def lay (l : List S26) (f : S26) : List S26 := l.filter (fun x => decide (Less x.f0 f.f0)) ++ f :: l.filter (fun x => decide (Less f.f0 x.f0))
def has (l : List S26) (s : ByteArray) : Bool := l.any (fun x => decide (x.f0 = s))
theorem filter_less (s : ByteArray) (A B : List S26) (hA : ∀ x ∈ A, Less x.f0 s) (hB : ∀ x ∈ B, ¬ Less x.f0 s) : (A ++ B).filter (fun x => decide (Less x.f0 s)) = A := by
  rw [List.filter_append, List.filter_eq_self.2 (fun x hx => decide_eq_true (hA x hx)), List.filter_eq_nil_iff.2 (fun x hx => by simpa using hB x hx), List.append_nil]
theorem filter_more (s : ByteArray) (A B : List S26) (hA : ∀ x ∈ A, ¬ Less s x.f0) (hB : ∀ x ∈ B, Less s x.f0) : (A ++ B).filter (fun x => decide (Less s x.f0)) = B := by
  rw [List.filter_append, List.filter_eq_self.2 (fun x hx => decide_eq_true (hB x hx)), List.filter_eq_nil_iff.2 (fun x hx => by simpa using hA x hx), List.nil_append]
theorem lay_there (A B : List S26) (y f : S26) (hy : y.f0 = f.f0) (hA : ∀ x ∈ A, Less x.f0 f.f0) (hB : ∀ x ∈ B, Less f.f0 x.f0) : lay (A ++ y :: B) f = A ++ f :: B := by
  unfold lay
  rw [filter_less f.f0 A (y :: B) hA (List.forall_mem_cons.2 ⟨by rw [hy]; exact Less.irrefl _, fun x hx => (hB x hx).asymm⟩)]
  have := filter_more f.f0 (A ++ [y]) B (List.forall_mem_append.2 ⟨fun x hx => (hA x hx).asymm, by simp [hy, Less.irrefl]⟩) hB
  rw [List.append_assoc] at this
  rw [show A ++ y :: B = A ++ ([y] ++ B) from rfl, this]
theorem lay_not (A B : List S26) (f : S26) (hA : ∀ x ∈ A, Less x.f0 f.f0) (hB : ∀ x ∈ B, Less f.f0 x.f0) : lay (A ++ B) f = A ++ f :: B := by
  unfold lay
  rw [filter_less f.f0 A B hA (fun x hx => (hB x hx).asymm), filter_more f.f0 A B (fun x hx => (hA x hx).asymm) hB]
theorem has_there (s : ByteArray) (A B : List S26) (y : S26) (hy : y.f0 = s) : has (A ++ y :: B) s = true := by simp [has, hy]
theorem has_not (s : ByteArray) (A B : List S26) (hA : ∀ x ∈ A, Less x.f0 s) (hB : ∀ x ∈ B, Less s x.f0) : has (A ++ B) s = false := by
  rw [Bool.eq_false_iff]
  simp only [has, ne_eq, List.any_eq_true, decide_eq_true_eq, not_exists, not_and]
  exact List.forall_mem_append.2 ⟨fun x hx => (hA x hx).ne, fun x hx h => (hB x hx).ne h.symm⟩
/-- What laying a file answers. -/
def laidR (c : Int) (l : List S26) (f : S26) : Int × List S26 × Int := if has l f.f0 = true then (c, lay l f, 0) else if l.length = 256 then (0, [], 22) else (c, lay l f, 0)
theorem laid_eq (c : Int) (l : List S26) (f : S26) (hs : Sorted l) (hl : l.length ≤ 256) : disk_laid.f c l f.f0 f.f1 f.f2 = some (laidR c l f) := by
  have hf : (⟨f.f0, f.f1, f.f2⟩ : S26) = f := rfl
  rcases cut_at f.f0 l hs with ⟨A, y, B, rfl, hy, hA, hB⟩ | ⟨A, B, rfl, hA, hB⟩
  · unfold disk_laid.f laidR
    rw [place_there f.f0 A B y hy hA hB, has_there f.f0 A B y hy, lay_there A B y f hy hA hB]
    simp only [Option.bind_some, api_File_47.f, if_pos (show (A ++ y :: B).length < 3518437208883 by omega), if_true, if_pos (show (0 : Int) ≤ (A.length : Int) by omega), if_pos (show (A.length : Int) < ((A ++ y :: B).length : Int) by simp; omega), Int.toNat_natCast, hf]
    rw [List.set_append_right _ _ (Nat.le_refl _), Nat.sub_self, List.set_cons_zero]
  · unfold disk_laid.f laidR
    rw [place_not f.f0 A B hA hB, has_not f.f0 A B hA hB, lay_not A B f hA hB]
    simp only [Option.bind_some, api_File_47.f, if_pos (show (A ++ B).length < 3518437208883 by omega), Bool.false_eq_true, if_false]
    by_cases h : (A ++ B).length = 256
    · rw [if_pos (by omega), if_pos h]
    · rw [if_neg (by omega), if_neg h]
      simp only [api_File_59.f, insertF26, if_pos (show (0 : Int) ≤ (A.length : Int) by omega), if_pos (show (A.length : Int) ≤ ((A ++ B).length : Int) by simp; omega), if_pos (show (A ++ B).length < 3518437208882 by omega), Int.toNat_natCast, Option.bind_some, List.take_left, List.drop_left, hf]
theorem rlaid_done (c d : Int) (l : List S26) (f : S26) (hl : l.length ≤ 256) : ∀ (suf pre out : List S26), l = pre ++ suf → out.length ≤ pre.length + 1 → (∀ x ∈ suf, x.f0 ≠ f.f0) →
    Ev (fun k => smithyref02_laid.l0 k true (pre.length : Int) c l f.f0 f.f1 f.f2 d out) (d, out ++ suf)
  | [], pre, out, e, ho, hx => by
    refine Ev.step (fun _ => rfl) ?_
    have : l.length = pre.length := by rw [e]; simp
    simp only [smithyref02_laid.l0, if_neg (show ¬ (pre.length : Int) < (l.length : Int) by omega), if_true, List.append_nil]
    exact Ev.now _
  | x :: xs, pre, out, e, ho, hx => by
    have hlen : l.length = pre.length + (xs.length + 1) := by rw [e]; simp
    have hlt : (pre.length : Int) < (l.length : Int) := by omega
    have hr : rd_T26 l (pre.length : Int) = x := by rw [e]; exact rd_mid pre x xs
    have hw : wrap64 ((pre.length : Int) + 1) = ((pre ++ [x]).length : Int) := by simp; unfold wrap64; omega
    have hne : ¬ x.f0.toList = f.f0.toList := fun h2 => hx x (by simp) (toList_inj h2)
    have ih := rlaid_done c d l f hl xs (pre ++ [x]) (out ++ [x]) (by rw [e]; simp) (by simp; omega) (fun z hz => hx z (by simp [hz]))
    refine Ev.step (fun _ => rfl) ?_
    simp only [smithyref02_laid.l0, if_pos hlt, if_pos (show (0 : Int) ≤ (pre.length : Int) by omega), if_true, hr]
    refine Ev.step (fun _ => rfl) ?_
    simp only [smithyref02_laid.j1, Bool.false_eq_true, if_false, if_neg hne, if_pos (show out.length < 3518437208883 by omega), hw]
    rw [List.append_assoc] at ih
    exact ih
theorem rlaid_less (c d : Int) (l : List S26) (f : S26) (hl : l.length ≤ 256) (r : Int × List S26) (rest : List S26) : ∀ (A pre out : List S26), l = pre ++ (A ++ rest) → out.length ≤ pre.length → (∀ x ∈ A, Less x.f0 f.f0) →
    Ev (fun k => smithyref02_laid.l0 k false ((pre ++ A).length : Int) c l f.f0 f.f1 f.f2 d (out ++ A)) r →
    Ev (fun k => smithyref02_laid.l0 k false (pre.length : Int) c l f.f0 f.f1 f.f2 d out) r
  | [], pre, out, e, ho, hx, h => by simpa using h
  | x :: xs, pre, out, e, ho, hx, h => by
    have hlen : l.length = pre.length + (xs.length + rest.length + 1) := by rw [e]; simp
    have hlt : (pre.length : Int) < (l.length : Int) := by omega
    have hr : rd_T26 l (pre.length : Int) = x := by rw [e]; exact rd_mid pre x (xs ++ rest)
    have hw : wrap64 ((pre.length : Int) + 1) = ((pre ++ [x]).length : Int) := by simp; unfold wrap64; omega
    have hx1 : Less x.f0 f.f0 := hx x (by simp)
    have hne : ¬ x.f0.toList = f.f0.toList := fun h2 => hx1.ne (toList_inj h2)
    have hb : (!(Op.bytesLess x.f0.toList f.f0.toList)) = false := by
      have : Op.bytesLess x.f0.toList f.f0.toList = true := hx1
      rw [this]; rfl
    have ih := rlaid_less c d l f hl r rest xs (pre ++ [x]) (out ++ [x]) (by rw [e]; simp) (by simp; omega) (fun z hz => hx z (by simp [hz])) (by simpa using h)
    refine Ev.step (fun _ => rfl) ?_
    simp only [smithyref02_laid.l0, if_pos hlt, if_pos (show (0 : Int) ≤ (pre.length : Int) by omega), Bool.false_eq_true, if_false, hr, hb]
    refine Ev.step (fun _ => rfl) ?_
    simp only [smithyref02_laid.j1, Bool.false_eq_true, if_false, if_neg hne, if_pos (show out.length < 3518437208883 by omega), hw]
    exact ih
theorem rlaid_ev (c : Int) (l : List S26) (f : S26) (hs : Sorted l) (hl : l.length ≤ 256) : Ev (fun k => smithyref02_laid.f k c l f.f0 f.f1 f.f2) (c, lay l f) := by
  have hf : (⟨f.f0, f.f1, f.f2⟩ : S26) = f := rfl
  unfold smithyref02_laid.f
  rcases cut_at f.f0 l hs with ⟨A, y, B, rfl, hy, hA, hB⟩ | ⟨A, B, rfl, hA, hB⟩
  · rw [lay_there A B y f hy hA hB]
    have hlen : (A ++ y :: B).length = A.length + (B.length + 1) := by simp
    refine rlaid_less c c _ f hl _ (y :: B) A [] [] rfl (by simp) hA ?_
    simp only [List.nil_append]
    have hr := rd_mid A y B
    have hw : wrap64 ((A.length : Int) + 1) = ((A ++ [y]).length : Int) := by simp; unfold wrap64; omega
    have hb : (!(Op.bytesLess y.f0.toList f.f0.toList)) = true := by
      have : Op.bytesLess y.f0.toList f.f0.toList = false := by rw [hy]; exact bless_irrefl _
      rw [this]; rfl
    have h2 := rlaid_done c c (A ++ y :: B) f hl B (A ++ [y]) (A ++ [f]) (by simp) (by simp) (fun x hx h => (hB x hx).ne h.symm)
    refine Ev.step (fun _ => rfl) ?_
    simp only [smithyref02_laid.l0, if_pos (show (A.length : Int) < ((A ++ y :: B).length : Int) by omega), if_pos (show (0 : Int) ≤ (A.length : Int) by omega), Bool.false_eq_true, if_false, hr, hb]
    refine Ev.step (fun _ => rfl) ?_
    simp only [smithyref02_laid.j1, if_true, if_pos (show A.length < 3518437208883 by omega), Option.bind_some, hy, hw, hf]
    rw [List.append_assoc] at h2
    exact h2
  · rw [lay_not A B f hA hB]
    refine rlaid_less c c _ f hl _ B A [] [] rfl (by simp) hA ?_
    simp only [List.nil_append]
    cases B with
    | nil =>
      refine Ev.step (fun _ => rfl) ?_
      rw [List.append_nil] at hl ⊢
      simp only [smithyref02_laid.l0, if_neg (show ¬ (A.length : Int) < (A.length : Int) by omega), Bool.false_eq_true, if_false, if_pos (show A.length < 3518437208883 by omega), hf]
      exact Ev.now _
    | cons y B =>
      have hlen : (A ++ y :: B).length = A.length + (B.length + 1) := by simp
      have hr := rd_mid A y B
      have hw : wrap64 ((A.length : Int) + 1) = ((A ++ [y]).length : Int) := by simp; unfold wrap64; omega
      have hy := hB y (by simp)
      have hb : (!(Op.bytesLess y.f0.toList f.f0.toList)) = true := by
        have : Op.bytesLess y.f0.toList f.f0.toList = false := by
          have := hy.asymm
          simpa [Less] using this
        rw [this]; rfl
      have hne : ¬ y.f0.toList = f.f0.toList := fun h2 => hy.ne (toList_inj h2).symm
      have h2 := rlaid_done c c (A ++ y :: B) f hl B (A ++ [y]) (A ++ [f] ++ [y]) (by simp) (by simp) (fun x hx h => (hB x (by simp [hx])).ne h.symm)
      refine Ev.step (fun _ => rfl) ?_
      simp only [smithyref02_laid.l0, if_pos (show (A.length : Int) < ((A ++ y :: B).length : Int) by omega), if_pos (show (0 : Int) ≤ (A.length : Int) by omega), Bool.false_eq_true, if_false, hr, hb]
      refine Ev.step (fun _ => rfl) ?_
      simp only [smithyref02_laid.j1, if_true, if_pos (show A.length < 3518437208883 by omega), Option.bind_some, if_neg hne, if_pos (show (A ++ [f]).length < 3518437208883 by simp; omega), hw, hf]
      simp only [List.append_assoc, List.cons_append, List.nil_append] at h2 ⊢
      exact h2
/-- What writing a file answers. -/
def writtenR (c : Int) (l : List S26) (s t : ByteArray) : Int × List S26 × Int :=
  if has l s = false ∧ l.length = 256 then (0, [], 22) else if c = 1099511627776 then (0, [], 23) else (c + 1, lay l ⟨s, t, c + 1⟩, 0)
theorem written_eq (c : Int) (l : List S26) (s t : ByteArray) (h0 : 0 ≤ c) (h1 : c ≤ 1099511627776) (hs : Sorted l) (hl : l.length ≤ 256) : disk_written.f c l s t = some (writtenR c l s t) := by
  have hw : wrap64 (c + 1) = c + 1 := by unfold wrap64; omega
  have h := laid_eq c l ⟨s, t, c + 1⟩ hs hl
  simp only at h
  unfold disk_written.f writtenR
  rw [hw, h]
  unfold laidR
  simp only [Option.bind_some]
  cases hh : has l s with
  | true =>
    simp only [if_true, Bool.true_eq_false, false_and, if_false]
    by_cases hc : c = 1099511627776
    · simp only [if_pos hc]
    · simp only [if_neg hc, hw]
  | false =>
    simp only [Bool.false_eq_true, if_false, true_and]
    by_cases hn : l.length = 256
    · simp only [if_pos hn]
      rfl
    · simp only [if_neg hn, if_true]
      by_cases hc : c = 1099511627776
      · simp only [if_pos hc]
      · simp only [if_neg hc, hw]
/-- What Write answers. -/
def writeR (c : Int) (l : List S26) (s t : ByteArray) : Int × List S26 × Int :=
  if diskOk c l = true then (if nameOk s = true then (if t.size > 4096 then (0, [], 20) else writtenR c l s t) else (0, [], 3)) else (0, [], 4)
theorem write_ev (c : Int) (l : List S26) (s t : ByteArray) (hs : small l) (hn : s.size ≤ 140737488351232) : Ev (fun k => disk_Write.f k c l s t) (writeR c l s t) := by
  simp only [disk_Write.f]
  refine Ev.bind (asked_ev c l s hs hn) ?_
  unfold writeR
  cases hd : diskOk c l with
  | false => simp only [Bool.false_eq_true, if_false]; exact Ev.now _
  | true =>
    obtain ⟨h0, h1, h2, _, h4⟩ := (diskOk_iff c l).1 hd
    cases hm : nameOk s with
    | false => simp only [if_true, Bool.false_eq_true, if_false]; exact Ev.now _
    | true =>
      simp only [if_true]
      by_cases ht : (t.size : Int) > 4096
      · simp only [if_pos ht, if_pos (show t.size > 4096 by omega)]
        exact Ev.now _
      · simp only [if_neg ht, if_neg (show ¬ t.size > 4096 by omega), written_eq c l s t h0 h1 h4 h2, Option.bind_some]
        exact Ev.now _
def find? (l : List S26) (s : ByteArray) : Option S26 := l.find? (fun x => decide (x.f0 = s))
theorem find_there (s : ByteArray) (A B : List S26) (y : S26) (hy : y.f0 = s) (hA : ∀ x ∈ A, Less x.f0 s) : find? (A ++ y :: B) s = some y := by
  unfold find?
  rw [List.find?_append, List.find?_eq_none.2 (fun x hx => by simpa using (hA x hx).ne), Option.none_or, List.find?_cons_of_pos (by simpa using hy)]
theorem find_not (s : ByteArray) (A B : List S26) (hA : ∀ x ∈ A, Less x.f0 s) (hB : ∀ x ∈ B, Less s x.f0) : find? (A ++ B) s = none := by
  unfold find?
  rw [List.find?_eq_none]
  intro x hx
  rcases List.mem_append.1 hx with hx | hx
  · simpa using (hA x hx).ne
  · simpa using fun h => (hB x hx).ne h.symm
/-- What Find answers. -/
def findR (c : Int) (l : List S26) (s : ByteArray) : ByteArray × ByteArray × Int × Int :=
  if diskOk c l = true then (if nameOk s = true then (match find? l s with | some y => (y.f0, y.f1, y.f2, 0) | none => (⟨#[]⟩, ⟨#[]⟩, 0, 21)) else (⟨#[]⟩, ⟨#[]⟩, 0, 3)) else (⟨#[]⟩, ⟨#[]⟩, 0, 4)
theorem find_ev (c : Int) (l : List S26) (s : ByteArray) (hs : small l) (hn : s.size ≤ 140737488351232) : Ev (fun k => disk_Find.f k c l s) (findR c l s) := by
  simp only [disk_Find.f]
  refine Ev.bind (asked_ev c l s hs hn) ?_
  unfold findR
  cases hd : diskOk c l with
  | false => simp only [Bool.false_eq_true, if_false]; exact Ev.now _
  | true =>
    obtain ⟨h0, h1, h2, _, h4⟩ := (diskOk_iff c l).1 hd
    cases hm : nameOk s with
    | false => simp only [if_true, Bool.false_eq_true, if_false]; exact Ev.now _
    | true =>
      simp only [if_true]
      rcases cut_at s l h4 with ⟨A, y, B, rfl, hy, hA, hB⟩ | ⟨A, B, rfl, hA, hB⟩
      · simp only [place_there s A B y hy hA hB, Option.bind_some, if_true, if_pos (show (0 : Int) ≤ (A.length : Int) by omega), if_pos (show (A.length : Int) < ((A ++ y :: B).length : Int) by simp; omega), rd_mid, find_there s A B y hy hA]
        exact Ev.now _
      · simp only [place_not s A B hA hB, Option.bind_some, Bool.false_eq_true, if_false, find_not s A B hA hB]
        exact Ev.now _
theorem speaks_ev : Ev (fun k => smithylaw02_speaks.f k) true := by
  have n1 : nameOk (⟨#[97]⟩ : ByteArray) = true := by decide +kernel
  have n2 : nameOk (⟨#[98]⟩ : ByteArray) = true := by decide +kernel
  have w1 : writeR 5 [] (⟨#[97]⟩ : ByteArray) (⟨#[120]⟩ : ByteArray) = (6, [⟨⟨#[97]⟩, ⟨#[120]⟩, 6⟩], 0) := by
    unfold writeR
    rw [n1]
    rfl
  have hsm : small ([⟨⟨#[97]⟩, ⟨#[120]⟩, 6⟩] : List S26) := by
    intro y hy
    rw [List.mem_singleton.1 hy]
    refine ⟨by decide, by decide, by decide⟩
  have hd : diskOk 6 ([⟨⟨#[97]⟩, ⟨#[120]⟩, 6⟩] : List S26) = true := by
    simp only [diskOk, goodL, n1]
    rfl
  have f1 : findR 6 ([⟨⟨#[97]⟩, ⟨#[120]⟩, 6⟩] : List S26) (⟨#[97]⟩ : ByteArray) = (⟨#[97]⟩, ⟨#[120]⟩, 6, 0) := by
    unfold findR
    rw [hd, n1]
    rfl
  have f2 : findR 6 ([⟨⟨#[97]⟩, ⟨#[120]⟩, 6⟩] : List S26) (⟨#[98]⟩ : ByteArray) = (⟨#[]⟩, ⟨#[]⟩, 0, 21) := by
    unfold findR
    rw [hd, n2]
    rfl
  simp only [smithylaw02_speaks.f]
  refine Ev.bind (write_ev 5 [] _ _ (fun y hy => by cases hy) (by decide)) ?_
  rw [w1]
  refine Ev.bind (find_ev 6 _ _ hsm (by decide)) ?_
  rw [f1]
  refine Ev.bind (find_ev 6 _ _ hsm (by decide)) ?_
  rw [f2]
  simp only [toList_data]
  exact Ev.now _
theorem files_loop (l : List S26) (hl : l.length ≤ 140737488351232) : ∀ (suf pre : List S26), l = pre ++ suf → Ev (fun k => smithyplain_Files.l0 k l l (l.length : Int) (pre.length : Int)) true
  | [], pre, e => by
    refine Ev.step (fun _ => rfl) ?_
    have : l.length = pre.length := by rw [e]; simp
    simp only [smithyplain_Files.l0, if_neg (show ¬ (pre.length : Int) < (l.length : Int) by omega)]
    exact Ev.now _
  | x :: xs, pre, e => by
    have hlen : l.length = pre.length + (xs.length + 1) := by rw [e]; simp
    have hlt : (pre.length : Int) < (l.length : Int) := by omega
    have hw : wrap64 ((pre.length : Int) + 1) = ((pre ++ [x]).length : Int) := by simp; unfold wrap64; omega
    have ih := files_loop l hl xs (pre ++ [x]) (by rw [e]; simp)
    refine Ev.step (fun _ => rfl) ?_
    simp only [smithyplain_Files.l0, if_pos hlt, if_pos (show (0 : Int) ≤ (pre.length : Int) by omega), beq_self_eq_true, Bool.not_true, Bool.or_self, Bool.false_eq_true, if_false, hw]
    exact ih
theorem files_ev (l : List S26) (hl : l.length ≤ 140737488351232) : Ev (fun k => smithyplain_Files.f k l l) true := by
  simp only [smithyplain_Files.f, if_true]
  exact files_loop l hl l [] rfl
theorem disk_ev (c : Int) (l : List S26) (hl : l.length ≤ 140737488351232) : Ev (fun k => smithyplain_Disk.f k c l c l) true := by
  simp only [smithyplain_Disk.f, if_true]
  exact Ev.bind (files_ev l hl) (Ev.now _)
theorem lay_length (l : List S26) (f : S26) : (lay l f).length ≤ l.length + 1 := by
  unfold lay
  rw [List.length_append, List.length_cons]
  have h : ∀ l : List S26, (l.filter (fun x => decide (Less x.f0 f.f0))).length + (l.filter (fun x => decide (Less f.f0 x.f0))).length ≤ l.length := by
    intro l
    induction l with
    | nil => simp
    | cons x xs ih =>
      simp only [List.filter_cons]
      by_cases h1 : Less x.f0 f.f0
      · simp only [decide_eq_true h1, decide_eq_false h1.asymm, if_true, Bool.false_eq_true, if_false, List.length_cons]; omega
      · by_cases h2 : Less f.f0 x.f0
        · simp only [decide_eq_false h1, decide_eq_true h2, if_true, Bool.false_eq_true, if_false, List.length_cons]; omega
        · simp only [decide_eq_false h1, decide_eq_false h2, Bool.false_eq_true, if_false, List.length_cons]; omega
  have := h l
  omega
/-- The files without a file. -/
def dropf (l : List S26) (s : ByteArray) : List S26 := l.filter (fun x => decide (¬ x.f0 = s))
theorem dropf_self {s : ByteArray} {l : List S26} (h : ∀ x ∈ l, x.f0 ≠ s) : dropf l s = l := List.filter_eq_self.2 (fun x hx => decide_eq_true (h x hx))
theorem dropf_not (s : ByteArray) (A B : List S26) (hA : ∀ x ∈ A, Less x.f0 s) (hB : ∀ x ∈ B, Less s x.f0) : dropf (A ++ B) s = A ++ B :=
  dropf_self (List.forall_mem_append.2 ⟨fun x hx => (hA x hx).ne, fun x hx h => (hB x hx).ne h.symm⟩)
theorem dropf_there (s : ByteArray) (A B : List S26) (y : S26) (hy : y.f0 = s) (hA : ∀ x ∈ A, Less x.f0 s) (hB : ∀ x ∈ B, Less s x.f0) : dropf (A ++ y :: B) s = A ++ B := by
  have h : dropf (A ++ y :: B) s = dropf A s ++ dropf (y :: B) s := List.filter_append ..
  have h2 : dropf (y :: B) s = dropf B s := List.filter_cons_of_neg (by simp [hy])
  rw [h, h2, dropf_self (fun x hx => (hA x hx).ne), dropf_self (fun x hx h => (hB x hx).ne h.symm)]
/-- What Remove answers. -/
def removeR (c : Int) (l : List S26) (s : ByteArray) : Int × List S26 × Int :=
  if diskOk c l = true then (if nameOk s = true then (if has l s = true then (c, dropf l s, 0) else (0, [], 21)) else (0, [], 3)) else (0, [], 4)
theorem delete_there (A B : List S26) (y : S26) : api_File_46.f (A ++ y :: B) (A.length : Int) ((A.length + 1 : Nat) : Int) = some (A ++ B) := by
  have h1 : (0 : Int) ≤ (A.length : Int) := by omega
  have h2 : (A.length : Int) < ((A.length + 1 : Nat) : Int) := by omega
  have h3 : ((A.length + 1 : Nat) : Int) ≤ ((A ++ y :: B).length : Int) := by simp; omega
  have h4 : (A ++ y :: B).drop (A.length + 1) = B := by simp
  unfold api_File_46.f deleteF26
  rw [if_pos h1, if_pos h2, if_pos h3, Int.toNat_natCast, Int.toNat_natCast, List.take_left, h4]
theorem remove_ev (c : Int) (l : List S26) (s : ByteArray) (hs : small l) (hn : s.size ≤ 140737488351232) : Ev (fun k => disk_Remove.f k c l s) (removeR c l s) := by
  simp only [disk_Remove.f]
  refine Ev.bind (asked_ev c l s hs hn) ?_
  unfold removeR
  cases hd : diskOk c l with
  | false => simp only [Bool.false_eq_true, if_false]; exact Ev.now _
  | true =>
    obtain ⟨h0, h1, h2, _, h4⟩ := (diskOk_iff c l).1 hd
    cases hm : nameOk s with
    | false => simp only [if_true, Bool.false_eq_true, if_false]; exact Ev.now _
    | true =>
      simp only [if_true]
      rcases cut_at s l h4 with ⟨A, y, B, rfl, hy, hA, hB⟩ | ⟨A, B, rfl, hA, hB⟩
      · have hlen : (A ++ y :: B).length = A.length + (B.length + 1) := by simp
        have hw : wrap64 ((A.length : Int) + 1) = ((A.length + 1 : Nat) : Int) := by unfold wrap64; omega
        have hdl := delete_there A B y
        have hcl : api_File_47.f (A ++ y :: B) = some (A ++ y :: B) := if_pos (show (A ++ y :: B).length < 3518437208883 by omega)
        rw [if_pos (has_there s A B y hy), dropf_there s A B y hy hA hB]
        obtain ⟨W, hW⟩ : ∃ W, wrap64 = W := ⟨_, rfl⟩
        rw [hW] at hw ⊢
        simp only [place_there s A B y hy hA hB, Option.bind_some, if_true, hcl, hw, hdl]
        exact Ev.now _
      · simp only [place_not s A B hA hB, Option.bind_some, Bool.false_eq_true, if_false, has_not s A B hA hB]
        exact Ev.now _
theorem write_cases (c : Int) (l : List S26) (s t : ByteArray) : (∃ e, ¬ e = 0 ∧ writeR c l s t = (0, [], e)) ∨
    (diskOk c l = true ∧ nameOk s = true ∧ t.size ≤ 4096 ∧ ¬ (has l s = false ∧ l.length = 256) ∧ c < 1099511627776 ∧ writeR c l s t = (c + 1, lay l ⟨s, t, c + 1⟩, 0)) := by
  unfold writeR writtenR
  cases hd : diskOk c l with
  | false => exact .inl ⟨4, by decide, by simp⟩
  | true =>
    obtain ⟨h0, h1, _⟩ := (diskOk_iff c l).1 hd
    cases hm : nameOk s with
    | false => exact .inl ⟨3, by decide, by simp⟩
    | true =>
      simp only [if_true]
      by_cases ht : t.size > 4096
      · exact .inl ⟨20, by decide, by rw [if_pos ht]⟩
      · rw [if_neg ht]
        by_cases hf : has l s = false ∧ l.length = 256
        · exact .inl ⟨22, by decide, by rw [if_pos hf]⟩
        · rw [if_neg hf]
          by_cases hc : c = 1099511627776
          · exact .inl ⟨23, by decide, by rw [if_pos hc]⟩
          · exact .inr ⟨trivial, trivial, by omega, hf, by omega, by rw [if_neg hc]⟩
/-- A laid disk, cut at the file. -/
theorem lay_cut (c : Int) (l : List S26) (s t : ByteArray) (hd : diskOk c l = true) (hn : nameOk s = true) (ht : t.size ≤ 4096) (hf : ¬ (has l s = false ∧ l.length = 256)) :
    ∃ A B, (∀ x ∈ A, Less x.f0 s) ∧ (∀ x ∈ B, Less s x.f0) ∧ lay l ⟨s, t, c + 1⟩ = A ++ ⟨s, t, c + 1⟩ :: B ∧ dropf l s = A ++ B ∧ (∀ x ∈ A ++ B, x ∈ l ∧ fileOk c x) ∧ Sorted (A ++ ⟨s, t, c + 1⟩ :: B) ∧ Sorted (A ++ B) ∧ A.length + B.length + 1 ≤ 256 := by
  obtain ⟨h0, h1, h2, h3, h4⟩ := (diskOk_iff c l).1 hd
  have key : ∀ A B : List S26, Sorted A → Sorted B → (∀ x ∈ A, Less x.f0 s) → (∀ x ∈ B, Less s x.f0) → Sorted (A ++ ⟨s, t, c + 1⟩ :: B) ∧ Sorted (A ++ B) := by
    intro A B sA sB hA hB
    refine ⟨List.pairwise_append.2 ⟨sA, List.pairwise_cons.2 ⟨hB, sB⟩, fun a ha b hb => ?_⟩, List.pairwise_append.2 ⟨sA, sB, fun a ha b hb => (hA a ha).trans (hB b hb)⟩⟩
    rcases List.mem_cons.1 hb with rfl | hb
    · exact hA a ha
    · exact (hA a ha).trans (hB b hb)
  rcases cut_at s l h4 with ⟨A, y, B, rfl, hy, hA, hB⟩ | ⟨A, B, rfl, hA, hB⟩
  · obtain ⟨sA, sB, _⟩ := List.pairwise_append.1 h4
    have k := key A B sA (List.pairwise_cons.1 sB).2 hA hB
    have hlen : (A ++ y :: B).length = A.length + (B.length + 1) := by simp
    refine ⟨A, B, hA, hB, lay_there A B y ⟨s, t, c + 1⟩ hy hA hB, dropf_there s A B y hy hA hB, fun x hx => ?_, k.1, k.2, by omega⟩
    have : x ∈ A ++ y :: B := by
      rcases List.mem_append.1 hx with h | h
      · exact List.mem_append_left _ h
      · exact List.mem_append_right _ (List.mem_cons_of_mem _ h)
    exact ⟨this, h3 x this⟩
  · obtain ⟨sA, sB, _⟩ := List.pairwise_append.1 h4
    have k := key A B sA sB hA hB
    have hlen : (A ++ B).length = A.length + B.length := by simp
    have hne : ¬ (A ++ B).length = 256 := fun h => hf ⟨has_not s A B hA hB, h⟩
    exact ⟨A, B, hA, hB, lay_not A B ⟨s, t, c + 1⟩ hA hB, dropf_not s A B hA hB, fun x hx => ⟨hx, h3 x hx⟩, k.1, k.2, by omega⟩
theorem fileOk_up {c : Int} {x : S26} (h : fileOk c x) : fileOk (c + 1) x := ⟨h.1, h.2.1, h.2.2.1, by have := h.2.2.2; omega⟩
/-- What Touch answers. -/
def touchR (c : Int) (l : List S26) (s : ByteArray) : Int × List S26 × Int :=
  if diskOk c l = true then (if nameOk s = true then writtenR c l s (match find? l s with | some y => y.f1 | none => ⟨#[]⟩) else (0, [], 3)) else (0, [], 4)
theorem touch_ev (c : Int) (l : List S26) (s : ByteArray) (hs : small l) (hn : s.size ≤ 140737488351232) : Ev (fun k => disk_Touch.f k c l s) (touchR c l s) := by
  simp only [disk_Touch.f]
  refine Ev.bind (asked_ev c l s hs hn) ?_
  unfold touchR
  cases hd : diskOk c l with
  | false => simp only [Bool.false_eq_true, if_false]; exact Ev.now _
  | true =>
    obtain ⟨h0, h1, h2, _, h4⟩ := (diskOk_iff c l).1 hd
    cases hm : nameOk s with
    | false => simp only [if_true, Bool.false_eq_true, if_false]; exact Ev.now _
    | true =>
      simp only [if_true]
      rcases cut_at s l h4 with ⟨A, y, B, e, hy, hA, hB⟩ | ⟨A, B, e, hA, hB⟩
      · have hp : disk_place.f c l s = some ((A.length : Int), true) := by rw [e]; exact place_there s A B y hy hA hB c
        have hf : find? l s = some y := by rw [e]; exact find_there s A B y hy hA
        have hr : rd_T26 l (A.length : Int) = y := by rw [e]; exact rd_mid A y B
        have hlt : (A.length : Int) < (l.length : Int) := by rw [e]; simp; omega
        simp only [hp, Option.bind_some, if_true, if_pos (show (0 : Int) ≤ (A.length : Int) by omega), if_pos hlt, hr, hf, written_eq c l s _ h0 h1 h4 h2]
        exact Ev.now _
      · have hp : disk_place.f c l s = some ((A.length : Int), false) := by rw [e]; exact place_not s A B hA hB c
        have hf : find? l s = none := by rw [e]; exact find_not s A B hA hB
        simp only [hp, Option.bind_some, Bool.false_eq_true, if_false, hf, written_eq c l s _ h0 h1 h4 h2]
        exact Ev.now _
theorem rwritten_ev (c : Int) (l : List S26) (s t : ByteArray) (h0 : 0 ≤ c) (h1 : c ≤ 1099511627776) (h4 : Sorted l) (h2 : l.length ≤ 256) : Ev (fun k => smithyref02_written.f k c l s t) (writtenR c l s t) := by
  have hw : wrap64 (c + 1) = c + 1 := by unfold wrap64; omega
  have hlaid := rlaid_ev c l ⟨s, t, c + 1⟩ h4 h2
  have fin : Ev (fun k => if c ≥ 1099511627776 then (some ((0 : Int), ([] : List S26), (23 : Int))) else ((smithyref02_laid.f k c l s t (wrap64 (c + 1))).bind fun bt212 => (some (wrap64 (c + 1), bt212.2, 0))))
      (if c = 1099511627776 then (0, [], 23) else (c + 1, lay l ⟨s, t, c + 1⟩, 0)) := by
    by_cases hc : c = 1099511627776
    · simp only [if_pos hc, if_pos (show c ≥ 1099511627776 by omega)]
      exact Ev.now _
    · simp only [if_neg hc, if_neg (show ¬ c ≥ 1099511627776 by omega), hw]
      exact Ev.bind hlaid (Ev.now _)
  simp only [smithyref02_written.f]
  rcases cut_at s l h4 with ⟨A, y, B, e, hy, hA, hB⟩ | ⟨A, B, e, hA, hB⟩
  · have hp : Ev (fun k => smithyref02_place.f k c l s) (A.length : Int) := by rw [e] at h2 ⊢; exact rplace_there s A B y h2 hy hA c
    have hh : has l s = true := by rw [e]; exact has_there s A B y hy
    refine Ev.bind hp ?_
    simp only [if_neg (show ¬ (A.length : Int) < 0 by omega)]
    refine Ev.step (fun _ => rfl) ?_
    simp only [smithyref02_written.j0, Bool.false_eq_true, if_false]
    unfold writtenR
    rw [if_neg (show ¬ (has l s = false ∧ l.length = 256) by rw [hh]; simp)]
    exact fin
  · have hp : Ev (fun k => smithyref02_place.f k c l s) (-1) := by rw [e] at h2 ⊢; exact rplace_not s A B h2 hA hB c
    have hh : has l s = false := by rw [e]; exact has_not s A B hA hB
    refine Ev.bind hp ?_
    simp only [if_pos (show (-1 : Int) < 0 by omega)]
    refine Ev.step (fun _ => rfl) ?_
    by_cases hn : l.length = 256
    · simp only [smithyref02_written.j0, decide_eq_true (show (l.length : Int) ≥ 256 by omega), if_true]
      unfold writtenR
      rw [if_pos ⟨hh, hn⟩]
      exact Ev.now _
    · simp only [smithyref02_written.j0, decide_eq_false (show ¬ (l.length : Int) ≥ 256 by omega), Bool.false_eq_true, if_false]
      unfold writtenR
      rw [if_neg (show ¬ (has l s = false ∧ l.length = 256) from fun h => hn h.2)]
      exact fin
theorem rwrite_ev (c : Int) (l : List S26) (s t : ByteArray) (hs : small l) (hn : s.size ≤ 140737488351232) : Ev (fun k => smithyref02_Write.f k c l s t) (writeR c l s t) := by
  simp only [smithyref02_Write.f]
  refine Ev.bind (rfit_ev c l s hs hn) ?_
  unfold writeR
  cases hd : diskOk c l with
  | false => simp only [Bool.false_eq_true, if_false]; exact Ev.now _
  | true =>
    obtain ⟨h0, h1, h2, _, h4⟩ := (diskOk_iff c l).1 hd
    cases hm : nameOk s with
    | false => simp only [if_true, Bool.false_eq_true, if_false]; exact Ev.now _
    | true =>
      simp only [if_true]
      by_cases ht : (t.size : Int) > 4096
      · simp only [if_pos ht, if_pos (show t.size > 4096 by omega)]
        exact Ev.now _
      · simp only [if_neg ht, if_neg (show ¬ t.size > 4096 by omega)]
        exact Ev.bind (rwritten_ev c l s t h0 h1 h4 h2) (Ev.now _)
theorem rtouch_ev (c : Int) (l : List S26) (s : ByteArray) (hs : small l) (hn : s.size ≤ 140737488351232) : Ev (fun k => smithyref02_Touch.f k c l s) (touchR c l s) := by
  simp only [smithyref02_Touch.f]
  refine Ev.bind (rfit_ev c l s hs hn) ?_
  unfold touchR
  cases hd : diskOk c l with
  | false => simp only [Bool.false_eq_true, if_false]; exact Ev.now _
  | true =>
    obtain ⟨h0, h1, h2, _, h4⟩ := (diskOk_iff c l).1 hd
    cases hm : nameOk s with
    | false => simp only [if_true, Bool.false_eq_true, if_false]; exact Ev.now _
    | true =>
      simp only [if_true]
      rcases cut_at s l h4 with ⟨A, y, B, e, hy, hA, hB⟩ | ⟨A, B, e, hA, hB⟩
      · have hp : Ev (fun k => smithyref02_place.f k c l s) (A.length : Int) := by have h2' := h2; rw [e] at h2' ⊢; exact rplace_there s A B y h2' hy hA c
        have hf : find? l s = some y := by rw [e]; exact find_there s A B y hy hA
        have hr : rd_T26 l (A.length : Int) = y := by rw [e]; exact rd_mid A y B
        have hlt : (A.length : Int) < (l.length : Int) := by rw [e]; simp; omega
        refine Ev.bind hp ?_
        simp only [if_pos (show (A.length : Int) ≥ 0 by omega)]
        refine Ev.bind hp ?_
        simp only [if_pos (show (0 : Int) ≤ (A.length : Int) by omega), if_pos hlt, hr, hf]
        exact Ev.bind (rwritten_ev c l s _ h0 h1 h4 h2) (Ev.now _)
      · have hp : Ev (fun k => smithyref02_place.f k c l s) (-1) := by have h2' := h2; rw [e] at h2' ⊢; exact rplace_not s A B h2' hA hB c
        have hf : find? l s = none := by rw [e]; exact find_not s A B hA hB
        refine Ev.bind hp ?_
        simp only [if_neg (show ¬ (-1 : Int) ≥ 0 by omega), hf]
        exact Ev.bind (rwritten_ev c l s _ h0 h1 h4 h2) (Ev.now _)
theorem rremove_loop (s : ByteArray) (c : Int) (l : List S26) (hl : l.length ≤ 256) : ∀ (suf pre : List S26), l = pre ++ suf →
    Ev (fun k => smithyref02_Remove.l0 k s (pre.length : Int) c l c (dropf pre s)) (c, dropf l s, 0)
  | [], pre, e => by
    refine Ev.step (fun _ => rfl) ?_
    have : l.length = pre.length := by rw [e]; simp
    simp only [smithyref02_Remove.l0, if_neg (show ¬ (pre.length : Int) < (l.length : Int) by omega)]
    rw [show l = pre by rw [e]; simp]
    exact Ev.now _
  | x :: xs, pre, e => by
    have hlen : l.length = pre.length + (xs.length + 1) := by rw [e]; simp
    have hlt : (pre.length : Int) < (l.length : Int) := by omega
    have hx : rd_T26 l (pre.length : Int) = x := by rw [e]; exact rd_mid pre x xs
    have hw : wrap64 ((pre.length : Int) + 1) = ((pre ++ [x]).length : Int) := by simp; unfold wrap64; omega
    have ih := rremove_loop s c l hl xs (pre ++ [x]) (by rw [e]; simp)
    have hd : dropf (pre ++ [x]) s = dropf pre s ++ dropf [x] s := List.filter_append ..
    have hdl : (dropf pre s).length ≤ pre.length := List.length_filter_le _ _
    refine Ev.step (fun _ => rfl) ?_
    by_cases hxs : x.f0 = s
    · have e1 : dropf [x] s = [] := List.filter_cons_of_neg (by simp [hxs])
      rw [hd, e1, List.append_nil] at ih
      simp only [smithyref02_Remove.l0, if_pos hlt, if_pos (show (0 : Int) ≤ (pre.length : Int) by omega), hx, hxs, if_true, hw]
      exact ih
    · have e1 : dropf [x] s = [x] := List.filter_cons_of_pos (by simp [hxs])
      rw [hd, e1] at ih
      have hne : ¬ x.f0.toList = s.toList := fun h2 => hxs (toList_inj h2)
      simp only [smithyref02_Remove.l0, if_pos hlt, if_pos (show (0 : Int) ≤ (pre.length : Int) by omega), hx, if_neg hne, hw, if_pos (show (dropf pre s).length < 3518437208883 by omega)]
      exact ih
theorem rremove_ev (c : Int) (l : List S26) (s : ByteArray) (hs : small l) (hn : s.size ≤ 140737488351232) : Ev (fun k => smithyref02_Remove.f k c l s) (removeR c l s) := by
  simp only [smithyref02_Remove.f]
  refine Ev.bind (rfit_ev c l s hs hn) ?_
  unfold removeR
  cases hd : diskOk c l with
  | false => simp only [Bool.false_eq_true, if_false]; exact Ev.now _
  | true =>
    obtain ⟨h0, h1, h2, _, h4⟩ := (diskOk_iff c l).1 hd
    cases hm : nameOk s with
    | false => simp only [if_true, Bool.false_eq_true, if_false]; exact Ev.now _
    | true =>
      simp only [if_true]
      rcases cut_at s l h4 with ⟨A, y, B, e, hy, hA, hB⟩ | ⟨A, B, e, hA, hB⟩
      · have hp : Ev (fun k => smithyref02_place.f k c l s) (A.length : Int) := by have h2' := h2; rw [e] at h2' ⊢; exact rplace_there s A B y h2' hy hA c
        have hh : has l s = true := by rw [e]; exact has_there s A B y hy
        refine Ev.bind hp ?_
        simp only [if_neg (show ¬ (A.length : Int) < 0 by omega), hh, if_true]
        exact rremove_loop s c l h2 l [] rfl
      · have hp : Ev (fun k => smithyref02_place.f k c l s) (-1) := by have h2' := h2; rw [e] at h2' ⊢; exact rplace_not s A B h2' hA hB c
        have hh : has l s = false := by rw [e]; exact has_not s A B hA hB
        refine Ev.bind hp ?_
        simp only [if_pos (show (-1 : Int) < 0 by omega), hh, Bool.false_eq_true, if_false]
        exact Ev.now _
/-- What a list of names answers. -/
def listR (l : List ByteArray) : Int := if l.length > 512 then 2 else if l.any (fun s => !nameOk s) = true then 3 else 0
def bname : Option S26 → ByteArray
  | none => ⟨#[]⟩
  | some y => y.f0
def bstamp : Option S26 → Int
  | none => -1
  | some y => y.f2
def nstep (l : List S26) (b : Option S26) (s : ByteArray) : Option S26 := match find? l s with
  | none => b
  | some y => if y.f2 > bstamp b then some y else b
def bres : Option S26 → ByteArray × Int
  | none => (⟨#[]⟩, 21)
  | some y => (y.f0, 0)
/-- What Newest answers. -/
def newestR (c : Int) (l : List S26) (names : List ByteArray) : ByteArray × Int :=
  if diskOk c l = true then (if listR names = 0 then bres (names.foldl (nstep l) none) else (⟨#[]⟩, listR names)) else (⟨#[]⟩, 4)
end Go.Proofs.Ytaeapobjhgakiaa.P
