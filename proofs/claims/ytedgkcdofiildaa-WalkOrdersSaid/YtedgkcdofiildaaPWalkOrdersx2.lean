-- written by mp.py (wip/tools), a program of this session, over the kit's print
import Derived.Test.YtedgkcdofiildaaPWalkOrdersx0
import Derived.Test.YtedgkcdofiildaaPWalkOrdersx1
namespace Go.Proofs.Ytedgkcdofiildaa.P
open Go.RowKit Go.Proofs.YtedgkcdofiildaaW.PrintWords Go.Proofs.YtedgkcdofiildaaW.PrintLast Go.Proofs.YtedgkcdofiildaaW.PrintMore
attribute [local go_sem] max2_int min2_int max_two min_two max_three min_three max_four min_four   -- for this text's walks alone
set_option linter.unusedVariables false
set_option linter.unusedSimpArgs false

/-! ### resolve_Check: function 54 -/
open Go.Proofs.Ytedgkcdofiildaa.Ext Go.Proofs.Ytedgkcdofiildaa.Maps0
theorem nletter_iff (c : Int) : letter c = true ↔ (97 ≤ c ∧ c ≤ 122) ∨ (65 ≤ c ∧ c ≤ 90) ∨ (48 ≤ c ∧ c ≤ 57) ∨ c = 95 ∨ c = 45 ∨ c = 46 ∨ c = 47 ∨ c = 43 := by
  simp only [letter, Bool.or_eq_true, decide_eq_true_eq, or_assoc]
theorem nsigns_list : (⟨#[95, 45, 46, 47, 43]⟩ : ByteArray).data.toList = [95, 45, 46, 47, 43] := rfl
theorem names_letter_eq (c : Int) (h0 : 0 ≤ c) (h1 : c ≤ 255) : names_letter.f c = some (letter c) := by
  have hf := find_signs c h0 h1
  have hL := nletter_iff c
  unfold names_letter.f
  simp only [strings_IndexByte.f, Option.bind_some, nsigns_list]
  generalize Lib.indexByte [95, 45, 46, 47, 43] c.toNat.toUInt8 = t at *
  cases hl : letter c with
  | true =>
    have hL' := hL.mp hl
    clear hL hl
    repeat' split
    all_goals first | rfl | (exfalso; omega) | (congr 1; exact decide_eq_true (by omega))
  | false =>
    have hL' : ¬ ((97 ≤ c ∧ c ≤ 122) ∨ (65 ≤ c ∧ c ≤ 90) ∨ (48 ≤ c ∧ c ≤ 57) ∨ c = 95 ∨ c = 45 ∨ c = 46 ∨ c = 47 ∨ c = 43) := fun h => by rw [hL.mpr h] at hl; cases hl
    clear hL hl
    repeat' split
    all_goals first | rfl | (exfalso; omega) | (congr 1; exact decide_eq_false (by omega))
def nameR (s : ByteArray) : Int := if nameOk s = true then 0 else 3
theorem nc_loop (s : ByteArray) (hs : s.size ≤ 64) : ∀ (d k i : Nat), s.size - i = d → i ≤ s.size → d < k →
    names_Check.l0 k s (s.size : Int) (i : Int) = some (if ((List.range s.size).all fun j => decide (j < i) || letter (bt s j)) = true then 0 else 3)
  | 0, k, i, hd, hi, hk => by
    obtain ⟨k, rfl⟩ : ∃ m, k = m + 1 := ⟨k - 1, by omega⟩
    have : i = s.size := by omega
    subst this
    simp only [names_Check.l0]
    rw [if_neg (by omega), all_end _ _ _ (Nat.le_refl _), if_pos rfl]
  | d + 1, k, i, hd, hi, hk => by
    obtain ⟨k, rfl⟩ : ∃ m, k = m + 1 := ⟨k - 1, by omega⟩
    have hlt : i < s.size := by omega
    have hb := bt_byte s (i : Int)
    have hw : wrap64 ((i : Int) + 1) = ((i + 1 : Nat) : Int) := by unfold wrap64; omega
    simp only [names_Check.l0]
    rw [if_pos (show (i : Int) < (s.size : Int) by omega), if_pos (show (0 : Int) ≤ (i : Int) by omega), if_pos (show (i : Int) < (s.size : Int) by omega), names_letter_eq _ hb.1 hb.2, Option.bind_some, hw, nc_loop s hs d k (i + 1) (by omega) (by omega) (by omega), all_from (fun j => letter (bt s j)) s.size i hlt]
    cases hl : letter (bt s i) with
    | true => simp
    | false => simp
theorem names_clean_f (s : ByteArray) : ∃ k, names_Check.f k s = some (nameR s) := by
  refine ⟨s.size + 3, ?_⟩
  unfold names_Check.f nameR nameOk
  by_cases h1 : (s.size : Int) = 0
  · rw [if_pos h1]
    simp only [names_Check.j0, if_true]
    have : decide (0 < s.size) = false := decide_eq_false (by omega)
    rw [this]; rfl
  · rw [if_neg h1]
    have e1 : decide (0 < s.size) = true := decide_eq_true (by omega)
    simp only [names_Check.j0, decide_eq_true_eq, e1, Bool.true_and]
    by_cases h2 : (s.size : Int) > 64
    · rw [if_pos h2]
      have : decide (s.size ≤ 64) = false := decide_eq_false (by omega)
      rw [this]; rfl
    · rw [if_neg h2]
      have e2 : decide (s.size ≤ 64) = true := decide_eq_true (by omega)
      have h := nc_loop s (by omega) s.size (s.size + 2) 0 (by omega) (by omega) (by omega)
      rw [all_start (fun j => letter (bt s j))] at h
      rw [e2, Bool.true_and]
      exact h
theorem names_clean (s : ByteArray) (w : World) : Calls Try.prog 55 #[.string s] w fun e w' => e = .returned (.int .i64 (nameR s)) ∧ Drawn0 w w' := by
  obtain ⟨k, h⟩ := names_clean_f s
  exact names_Check.calls k s _ w h
theorem nameOk_size {s : ByteArray} (h : nameOk s = true) : s.size ≤ 64 := by
  unfold nameOk at h
  simp only [Bool.and_eq_true, decide_eq_true_eq] at h
  exact h.1.2
def memB (l : List ByteArray) (s : ByteArray) : Bool := l.any (fun x => decide (x = s))
theorem index_loop (l : List ByteArray) (s : ByteArray) (hl : l.length ≤ 9223372036854775807) : ∀ (suf pre : List ByteArray) (k : Nat), l = pre ++ suf → suf.length < k →
    (slices_Index_string_string.l0 k l s (l.length : Int) (pre.length : Int)).bind (fun t => some (decide (t ≥ 0))) = some (memB suf s)
  | [], pre, k, e, hk => by
    obtain ⟨k, rfl⟩ : ∃ m, k = m + 1 := ⟨k - 1, by omega⟩
    have : l.length = pre.length := by rw [e]; simp
    simp only [slices_Index_string_string.l0, if_neg (show ¬ (pre.length : Int) < (l.length : Int) by omega)]
    rfl
  | x :: xs, pre, k, e, hk => by
    obtain ⟨k, rfl⟩ : ∃ m, k = m + 1 := ⟨k - 1, by omega⟩
    have hlen : l.length = pre.length + (xs.length + 1) := by rw [e]; simp
    have hlt : (pre.length : Int) < (l.length : Int) := by omega
    have hx : rdOf ByteArray.empty l (pre.length : Int) = x := by rw [e]; simp [rdOf]
    have hw : wrap64 ((pre.length : Int) + 1) = ((pre ++ [x]).length : Int) := by simp; unfold wrap64; omega
    simp only [slices_Index_string_string.l0, if_pos hlt, if_pos (show (0 : Int) ≤ (pre.length : Int) by omega), hx, hw]
    by_cases h : s.toList = x.toList
    · rw [if_pos h]
      have : x = s := (toList_inj h).symm
      simp only [Option.bind_some, memB, List.any_cons, decide_eq_true this, Bool.true_or]
      rw [decide_eq_true (by omega)]
    · rw [if_neg h, index_loop l s hl xs (pre ++ [x]) k (by rw [e]; simp) (by simp at hk; omega)]
      have : ¬ x = s := fun e => h (by rw [e])
      simp only [memB, List.any_cons, decide_eq_false this, Bool.false_or]
theorem contains_clean (A : Option Addr) (c : Nat) (l : List ByteArray) (s : ByteArray) (w : World) (hr : Kd.C Kd.string w A l.length l) (hc : l.length ≤ c) :
    Calls Try.prog 63 #[.slice A l.length c, .string s] w fun e w' => e = .returned (.bool (memB l s)) ∧ Drawn0 w w' :=
  slices_Contains_string_string.calls (l.length + 1) A c l s _ w hr hc (index_loop l s hr.2.1 l [] (l.length + 1) rfl (by omega))
def longB (s : ByteArray) : Bool := decide (65536 < s.size)
set_option maxHeartbeats 400000 in
theorem right1 (s : ByteArray) (w : World) : Calls Try.prog 66 #[.string s] w fun e w' => e = .returned (.bool (longB s)) ∧ w' = w := by
  unfold longB
  by_cases h : 65536 < s.size
  · have e1 : decide ((65536 : Int) < (s.size : Int)) = true := decide_eq_true (by omega)
    go_enter Try.func66, Try.ntmps66
    go_wp2
    go_ret
    exact ⟨by simp [h], rfl⟩
  · have e1 : decide ((65536 : Int) < (s.size : Int)) = false := decide_eq_false (by omega)
    go_enter Try.func66, Try.ntmps66
    go_wp2
    go_ret
    exact ⟨by simp [h], rfl⟩
set_option maxHeartbeats 400000 in
set_option maxRecDepth 100000 in
theorem idxLong (A : Option Addr) (c : Nat) (l : List ByteArray) (w : World) (hr : Kd.C Kd.string w A l.length l) (hl : (l.length : Int) ≤ 9223372036854775807) :
    Calls Try.prog 57 #[.slice A l.length c, .func (.func 66) #[] #[]] w fun e w' => ∃ r : Int, e = .returned (.int .i64 r) ∧ decide (r ≥ 0) = l.any longB ∧ Drawn0 w w' := by
  go_enter Try.func57, Try.ntmps57
  go_wp2_with fail
  go_loopw [8] (fun vi wr => ∃ i : Nat, i ≤ l.length ∧ vi = .int .i64 i ∧ Aside0 (l.any longB = (l.drop i).any longB) ∧ Drawn0 w wr) (fun vi _ => ((l.length : Int) - intOf vi).toNat)
  case atStart => exact ⟨0, Nat.zero_le _, rfl, ⟨rfl⟩, Drawn0.refl _⟩
  case round =>
    obtain ⟨i, hi, rfl, hb, hD⟩ := hrel
    by_cases hlt : i < l.length
    · have hw1 : IntKind.i64.wrap ((i : Int) + 1) = ((i + 1 : Nat) : Int) := by rw [IntKind.wrap_i64]; omega
      have q : (i : Int) < (l.length : Int) := by omega
      have p : (0 : Int) ≤ (i : Int) := by omega
      have hb' := hb.out
      rw [List.drop_eq_getElem_cons hlt, List.any_cons] at hb'
      obtain ⟨n, rfl⟩ := hD
      obtain ⟨ad, rfl, h0⟩ := Kd.at_string (Kd.C_drewN hr n) (i : Int) p q
      have he : rdOf ByteArray.empty l (i : Int) = l[i] := by simp [rdOf, hlt]
      rw [he, Int.toNat_natCast] at h0
      clear he hb
      cases ht : longB l[i] with
      | true =>
        rw [ht, Bool.true_or] at hb'
        have HB := Lib.hid hb'
        have hcall : ∀ W, Calls Try.prog 66 #[.string l[i]] W fun e w' => e = .returned (.bool true) ∧ w' = W := fun W => by rw [← ht]; exact right1 l[i] W
        clear hb' ht
        go_wp2_with (go_at_call 66; refine (hcall _).mono ?_; rintro e w' ⟨rfl, rfl⟩)
        go_ret
        exact ⟨i, rfl, (decide_eq_true (by omega)).trans HB.out.symm, ⟨⟨n, rfl⟩⟩⟩
      | false =>
        rw [ht, Bool.false_or] at hb'
        have HB := Aside0.mk hb'
        have hcall : ∀ W, Calls Try.prog 66 #[.string l[i]] W fun e w' => e = .returned (.bool false) ∧ w' = W := fun W => by rw [← ht]; exact right1 l[i] W
        clear hb' ht
        go_wp2_with (go_at_call 66; refine (hcall _).mono ?_; rintro e w' ⟨rfl, rfl⟩)
        go_roundw
        case rel => exact ⟨i + 1, hlt, rfl, HB, ⟨⟨n, rfl⟩⟩⟩
        case measure => simp [intOf]; omega
    · have hb' := hb.out
      rw [List.drop_eq_nil_of_le (by omega), List.any_nil] at hb'
      have HB := Lib.hid hb'
      clear hb' hb
      have hn : ¬ (i : Int) < (l.length : Int) := by omega
      go_wp2_with fail
      go_ret
      exact ⟨-1, rfl, (decide_eq_false (by omega)).trans HB.out.symm, hD⟩
set_option maxHeartbeats 400000 in
theorem anyLong (A : Option Addr) (c : Nat) (l : List ByteArray) (w : World) (hr : Kd.C Kd.string w A l.length l) :
    Calls Try.prog 37 #[.slice A l.length c, .func (.func 66) #[] #[]] w fun e w' => e = .returned (.bool (l.any longB)) ∧ Drawn0 w w' := by
  have hl : (l.length : Int) ≤ 9223372036854775807 := by have := hr.2.1; omega
  obtain ⟨R, hR⟩ : ∃ R, l.any longB = R := ⟨_, rfl⟩
  have hidx : ∀ W, Kd.C Kd.string W A l.length l → Calls Try.prog 57 #[.slice A l.length c, .func (.func 66) #[] #[]] W fun e w' => ∃ r : Int, e = .returned (.int .i64 r) ∧ decide (r ≥ 0) = R ∧ Drawn0 W w' := fun W h => by rw [← hR]; exact idxLong A c l W h hl
  rw [hR]
  clear hR
  go_enter Try.func37, Try.ntmps37
  go_wp2_with (go_at_call 57; refine (hidx _ hr).mono ?_; rintro e w' ⟨ri, rfl, hri, hb1⟩)
  go_ret
  exact ⟨rfl, hb1⟩
theorem names_ok (s : ByteArray) (h : nameOk s = true) (w : World) : Calls Try.prog 55 #[.string s] w fun e w' => e = .returned (.int .i64 0) ∧ Drawn0 w w' := by
  have := names_clean s w
  rwa [show nameR s = 0 by unfold nameR; rw [if_pos h]] at this
theorem names_no (s : ByteArray) (h : nameOk s = false) (w : World) : Calls Try.prog 55 #[.string s] w fun e w' => e = .returned (.int .i64 3) ∧ Drawn0 w w' := by
  have := names_clean s w
  rwa [show nameR s = 3 by unfold nameR; rw [if_neg (by rw [h]; decide)]] at this
theorem contains_at (A : Option Addr) (c n : Nat) (l : List ByteArray) (s : ByteArray) (r : Bool) (h : memB l s = r) (w : World) (hr : Kd.C Kd.string w A n l) (hc : n ≤ c) :
    Calls Try.prog 63 #[.slice A n c, .string s] w fun e w' => e = .returned (.bool r) ∧ Drawn0 w w' := by
  obtain rfl : l.length = n := hr.1
  rw [← h]
  exact contains_clean A c l s w hr hc
theorem anyLong_at (A : Option Addr) (c : Nat) (l : List ByteArray) (r : Bool) (h : l.any longB = r) (w : World) (hr : Kd.C Kd.string w A l.length l) :
    Calls Try.prog 37 #[.slice A l.length c, .func (.func 66) #[] #[]] w fun e w' => e = .returned (.bool r) ∧ Drawn0 w w' := by
  rw [← h]
  exact anyLong A c l w hr
def needsR (g : ByteArray → Int) : List ByteArray → List ByteArray → Bool
  | _, [] => true
  | pre, x :: xs => nameOk x && (!memB pre x) && decide (g x = 1) && needsR g (pre ++ [x]) xs
def badHead (n : S48) (g : ByteArray → Int) : Bool := !nameOk n.f0 || decide (g n.f0 = 1) || decide (65 < n.f1.length) || decide (64 < n.f2.length) || (!n.f3 && decide (0 < n.f2.length))
def tailR (n : S48) : Bool := if n.f4.toList = [] then decide (n.f5.toList = []) else decide (0 < n.f1.length) && decide (rdOf ByteArray.empty n.f1 0 = n.f4) && decide (n.f5.size ≤ 64)
def rightR (n : S48) (g : ByteArray → Int) : Bool := !badHead n g && needsR g [] n.f1 && !(n.f2.any longB) && tailR n
def nodeV (n : S48) (A1 : Option Addr) (c1 : Nat) (A2 : Option Addr) (c2 : Nat) : Array Value := #[.string n.f0, .slice A1 n.f1.length c1, .slice A2 n.f2.length c2, .bool n.f3, .string n.f4, .string n.f5, .bool n.f6, .bool n.f7, .bool n.f8, .bool n.f9]
set_option maxHeartbeats 2000000 in
set_option maxRecDepth 100000 in
theorem right_bad (n : S48) (A1 : Option Addr) (c1 : Nat) (A2 : Option Addr) (c2 : Nat) (b m : Nat) (g : ByteArray → Int) (w : World) (hm : IMap Try.prog 9 w b m g) (hbad : badHead n g = true) :
    Calls Try.prog 62 #[.agg #[.string n.f0, .slice A1 n.f1.length c1, .slice A2 n.f2.length c2, .bool n.f3, .string n.f4, .string n.f5, .bool n.f6, .bool n.f7, .bool n.f8, .bool n.f9], .map (some b)] w fun e w' => e = .returned (.bool false) ∧ Below w.heap.size w w' := by
  have hlk : nameOk n.f0 = true → ∀ o q, (Instr.lookup 64 (.map (some b)) (.string n.f0) false).run Try.prog ((w.alloc o).drewN q) = .ok (.int .i64 (g n.f0)) ((w.alloc o).drewN q) := fun h o q =>
    ((hm.alloc o).drewN q).look Try.underlying9 Try.underlying64 (Try.zeroValue3 _) (by have := nameOk_size h; unfold maxLen; omega)
  unfold badHead at hbad
  cases h1 : nameOk n.f0 with
  | false =>
    go_enter Try.func62, Try.ntmps62
    go_wp2_with (go_at_call 55; refine (names_no n.f0 h1 _).mono ?_; rintro e w' ⟨rfl, ⟨q, rfl⟩⟩)
    go_ret
    exact ⟨rfl, pw_below_drewN (below_alloc (Below.refl _ _) _) _⟩
  | true =>
    replace hlk := hlk h1
    rw [h1] at hbad
    by_cases h2 : g n.f0 = 1
    · have e2 : ((g n.f0 : Int) == 1) = true := beq_iff_eq.mpr h2
      rw [h2] at hlk
      clear hbad h2 e2
      go_enter Try.func62, Try.ntmps62
      go_wp2_with (go_at_call 55; refine (names_ok n.f0 h1 _).mono ?_; rintro e w' ⟨rfl, ⟨q, rfl⟩⟩)
      go_ret
      exact ⟨rfl, pw_below_drewN (below_alloc (Below.refl _ _) _) _⟩
    · have e2 : ((g n.f0 : Int) == 1) = false := beq_eq_false_iff_ne.mpr h2
      rw [decide_eq_false h2] at hbad
      clear h2
      by_cases h3 : 65 < n.f1.length
      · have e3 : decide ((65 : Int) < (n.f1.length : Int)) = true := decide_eq_true (by omega)
        clear hbad h3
        go_enter Try.func62, Try.ntmps62
        go_wp2_with (go_at_call 55; refine (names_ok n.f0 h1 _).mono ?_; rintro e w' ⟨rfl, ⟨q, rfl⟩⟩)
        go_ret
        exact ⟨rfl, pw_below_drewN (below_alloc (Below.refl _ _) _) _⟩
      · have e3 : decide ((65 : Int) < (n.f1.length : Int)) = false := decide_eq_false (by omega)
        rw [decide_eq_false h3] at hbad
        clear h3
        by_cases h4 : 64 < n.f2.length
        · have e4 : decide ((64 : Int) < (n.f2.length : Int)) = true := decide_eq_true (by omega)
          clear hbad h4
          go_enter Try.func62, Try.ntmps62
          go_wp2_with (go_at_call 55; refine (names_ok n.f0 h1 _).mono ?_; rintro e w' ⟨rfl, ⟨q, rfl⟩⟩)
          go_ret
          exact ⟨rfl, pw_below_drewN (below_alloc (Below.refl _ _) _) _⟩
        · have e4 : decide ((64 : Int) < (n.f2.length : Int)) = false := decide_eq_false (by omega)
          rw [decide_eq_false h4] at hbad
          clear h4
          simp only [Bool.not_true, Bool.false_or, Bool.and_eq_true, Bool.not_eq_true', decide_eq_true_eq] at hbad
          have e5 : decide (0 < n.f2.length) = true := decide_eq_true (by omega)
          have h5 := hbad.1
          clear hbad
          go_enter Try.func62, Try.ntmps62
          go_wp2_with (go_at_call 55; refine (names_ok n.f0 h1 _).mono ?_; rintro e w' ⟨rfl, ⟨q, rfl⟩⟩)
          go_ret
          exact ⟨rfl, pw_below_drewN (below_alloc (Below.refl _ _) _) _⟩
set_option maxHeartbeats 4000000 in
set_option maxRecDepth 100000 in
theorem right_good (n : S48) (A1 : Option Addr) (c1 : Nat) (A2 : Option Addr) (c2 : Nat) (b m : Nat) (g : ByteArray → Int) (w : World) (hm : IMap Try.prog 9 w b m g) (hbad : badHead n g = false)
    (hc1 : n.f1.length ≤ c1) (hr1 : Kd.C Kd.string w A1 n.f1.length n.f1) (hc2 : n.f2.length ≤ c2) (hr2 : Kd.C Kd.string w A2 n.f2.length n.f2) :
    Calls Try.prog 62 #[.agg #[.string n.f0, .slice A1 n.f1.length c1, .slice A2 n.f2.length c2, .bool n.f3, .string n.f4, .string n.f5, .bool n.f6, .bool n.f7, .bool n.f8, .bool n.f9], .map (some b)] w fun e w' => e = .returned (.bool (needsR g [] n.f1 && !(n.f2.any longB) && tailR n)) ∧ Below w.heap.size w w' := by
  have hlk : ∀ x, nameOk x = true → ∀ o q, (Instr.lookup 64 (.map (some b)) (.string x) false).run Try.prog ((w.alloc o).drewN q) = .ok (.int .i64 (g x)) ((w.alloc o).drewN q) := fun x h o q =>
    ((hm.alloc o).drewN q).look Try.underlying9 Try.underlying64 (Try.zeroValue3 _) (by have := nameOk_size h; unfold maxLen; omega)
  unfold badHead at hbad
  simp only [Bool.or_eq_false_iff, Bool.and_eq_false_iff, Bool.not_eq_false', decide_eq_false_iff_not] at hbad
  obtain ⟨⟨⟨⟨h1, h2⟩, h3⟩, h4⟩, h5⟩ := hbad
  have hlk0 := hlk n.f0 h1
  have e2 : ((g n.f0 : Int) == 1) = false := beq_eq_false_iff_ne.mpr h2
  have e3 : decide ((65 : Int) < (n.f1.length : Int)) = false := decide_eq_false (by omega)
  have e4 : decide ((64 : Int) < (n.f2.length : Int)) = false := decide_eq_false (by omega)
  have HR1 := Aside0.mk (fun o q => Kd.C_drewN (Kd.C_alloc hr1 o) q)
  have HR2 := Aside0.mk (fun o q => Kd.C_drewN (Kd.C_alloc hr2 o) q)
  have HLK := Aside0.mk hlk
  have hl1 : n.f1.length ≤ 65 := by omega
  clear hlk hr1 hr2 h2 h3 h4
  have h5' : n.f3 = true ∨ (n.f3 = false ∧ decide (0 < n.f2.length) = false) := by
    rcases h5 with h5 | h5
    · exact .inl h5
    · cases hf : n.f3 with
      | true => exact .inl rfl
      | false => exact .inr ⟨rfl, decide_eq_false (by omega)⟩
  clear h5
  obtain ⟨T, hT⟩ : ∃ T, tailR n = T := ⟨_, rfl⟩
  rw [hT]
  obtain ⟨n0, n1, n2, n3, n4, n5, n6, n7, n8, n9⟩ := n
  simp only [tailR] at *
  have HT := Aside0.mk hT
  clear hT
  rcases h5' with rfl | ⟨rfl, h6⟩
  all_goals
    go_enter Try.func62, Try.ntmps62
    go_wp2_with (go_at_call 55; refine (names_ok n0 h1 _).mono ?_; rintro e w' ⟨rfl, ⟨q, rfl⟩⟩)
    go_loopw [44] (fun vi wr => ∃ (i q2 : Nat) (v3 : Bool), i ≤ n1.length ∧ vi = .int .i64 (i : Int) ∧ Aside0 (needsR g [] n1 = needsR g (n1.take i) (n1.drop i)) ∧ wr = (w.alloc (.cells #[.string n0, .slice A1 n1.length c1, .slice A2 n2.length c2, .bool v3, .string n4, .string n5, .bool n6, .bool n7, .bool n8, .bool n9] 48)).drewN q2) (fun vi _ => ((n1.length : Int) - intOf vi).toNat)
    case atStart => exact ⟨0, q, _, Nat.zero_le _, rfl, ⟨rfl⟩, rfl⟩
    case round =>
      obtain ⟨i, q2, v3, hi, rfl, hb, rfl⟩ := hrel
      by_cases hlt : i < n1.length
      · have hw1 : IntKind.i64.wrap ((i : Int) + 1) = ((i + 1 : Nat) : Int) := by rw [IntKind.wrap_i64]; omega
        have qi : (i : Int) < (n1.length : Int) := by omega
        have pi : (0 : Int) ≤ (i : Int) := by omega
        have qic : (i : Int) ≤ (n1.length : Int) := by omega
        have qcc : (i : Int) ≤ (c1 : Int) := by omega
        have htk : (n1.take i).length = i := by rw [List.length_take]; omega
        have HC3 := Aside0.mk (fun (o : Obj) (q3 : Nat) => by
          have h9 := Kd.C_take (HR1.out o q3) (show i ≤ n1.length by omega)
          rw [htk] at h9
          exact h9)
        have hC := fun o => HR1.out o q2
        obtain ⟨ad, rfl, h0⟩ := Kd.at_string (hC (.cells #[.string n0, .slice A1 n1.length c1, .slice A2 n2.length c2, .bool v3, .string n4, .string n5, .bool n6, .bool n7, .bool n8, .bool n9] 48)) (i : Int) pi qi
        have he : rdOf ByteArray.empty n1 (i : Int) = n1[i] := by simp [rdOf, hlt]
        rw [he, Int.toNat_natCast] at h0
        clear he
        have hb' := hb.out
        rw [List.drop_eq_getElem_cons hlt, needsR] at hb'
        obtain ⟨x, hx⟩ : ∃ x, n1[i] = x := ⟨_, rfl⟩
        rw [hx] at h0 hb'
        have hnext : n1.take (i + 1) = n1.take i ++ [x] := by rw [List.take_succ_eq_append_getElem hlt, hx]
        have HN := Aside0.mk hnext
        have HB := Aside0.mk hb'
        clear hC hb' hb hnext htk hx
        cases hn : nameOk x with
        | false =>
          have HBX := Aside0.mk (show needsR g [] n1 = false by rw [HB.out, hn]; simp)
          clear HB
          go_wp2_with (go_at_call 55; refine (names_no x hn _).mono ?_; rintro e w' ⟨rfl, ⟨q4, rfl⟩⟩)
          go_ret
          exact ⟨by rw [HBX.out]; simp, pw_below_drewN (below_alloc (Below.refl _ _) _) _⟩
        | true =>
          cases hmem : memB (n1.take i) x with
          | true =>
            have HBX := Aside0.mk (show needsR g [] n1 = false by rw [HB.out, hmem]; simp)
            clear HB
            have HM := Aside0.mk hmem
            clear hmem
            go_wp2_with (first | (go_at_call 55; refine (names_ok x hn _).mono ?_; rintro e w' ⟨rfl, ⟨q4, rfl⟩⟩) | (go_at_call 63; refine (contains_at (some ad) c1 i _ x true HM.out _ (HC3.out _ _) (by omega)).mono ?_; rintro e w' ⟨rfl, ⟨q5, rfl⟩⟩))
            go_ret
            exact ⟨by rw [HBX.out]; simp, pw_below_drewN (below_alloc (Below.refl _ _) _) _⟩
          | false =>
            have HM := Aside0.mk hmem
            have hlkx := HLK.out x hn
            by_cases hg : g x = 1
            · have HBX := Aside0.mk (show needsR g [] n1 = needsR g (n1.take (i + 1)) (n1.drop (i + 1)) by rw [HB.out, hmem, hn, decide_eq_true hg, HN.out]; simp)
              rw [hg] at hlkx
              clear HB hmem hg
              go_wp2_with (first | (go_at_call 55; refine (names_ok x hn _).mono ?_; rintro e w' ⟨rfl, ⟨q4, rfl⟩⟩) | (go_at_call 63; refine (contains_at (some ad) c1 i _ x false HM.out _ (HC3.out _ _) (by omega)).mono ?_; rintro e w' ⟨rfl, ⟨q5, rfl⟩⟩))
              go_roundw
              case rel => exact ⟨i + 1, _, _, hlt, rfl, HBX, rfl⟩
              case measure => simp [intOf]; omega
            · have HBX := Aside0.mk (show needsR g [] n1 = false by rw [HB.out, decide_eq_false hg]; simp)
              have eg : ((g x : Int) != 1) = true := by simpa using hg
              clear HB hmem hg
              go_wp2_with (first | (go_at_call 55; refine (names_ok x hn _).mono ?_; rintro e w' ⟨rfl, ⟨q4, rfl⟩⟩) | (go_at_call 63; refine (contains_at (some ad) c1 i _ x false HM.out _ (HC3.out _ _) (by omega)).mono ?_; rintro e w' ⟨rfl, ⟨q5, rfl⟩⟩))
              go_ret
              exact ⟨by rw [HBX.out]; simp, pw_below_drewN (below_alloc (Below.refl _ _) _) _⟩
      · have hb' := hb.out
        rw [List.drop_eq_nil_of_le (by omega), needsR] at hb'
        have HB := Aside0.mk hb'
        have hn : ¬ (i : Int) < (n1.length : Int) := by omega
        clear hb' hb
        cases hL : n2.any longB with
        | true =>
          have HL := Aside0.mk hL
          clear hL
          go_wp2_with (go_at_call 37; refine (anyLong_at A2 c2 n2 true HL.out _ (HR2.out _ _)).mono ?_; rintro e w' ⟨rfl, ⟨q4, rfl⟩⟩)
          go_ret
          exact ⟨by rw [HB.out, HL.out]; simp, pw_below_drewN (below_alloc (Below.refl _ _) _) _⟩
        | false =>
          have HL := Aside0.mk hL
          clear hL
          have HT' := HT.out
          by_cases h4 : n4.toList = []
          · rw [if_pos h4] at HT'
            have es4 : n4.toList.isEmpty = true := by rw [h4]; rfl
            by_cases h5 : n5.toList = []
            · have HTT := Aside0.mk (show T = true by rw [← HT', decide_eq_true h5])
              clear HT'
              go_wp2_with (go_at_call 37; refine (anyLong_at A2 c2 n2 false HL.out _ (HR2.out _ _)).mono ?_; rintro e w' ⟨rfl, ⟨q4, rfl⟩⟩)
              go_ret
              exact ⟨by rw [HB.out, HL.out, HTT.out]; simp, pw_below_drewN (below_alloc (Below.refl _ _) _) _⟩
            · have HTT := Aside0.mk (show T = false by rw [← HT', decide_eq_false h5])
              clear HT'
              go_wp2_with (go_at_call 37; refine (anyLong_at A2 c2 n2 false HL.out _ (HR2.out _ _)).mono ?_; rintro e w' ⟨rfl, ⟨q4, rfl⟩⟩)
              go_ret
              exact ⟨by rw [HB.out, HL.out, HTT.out]; simp [h5], pw_below_drewN (below_alloc (Below.refl _ _) _) _⟩
          · rw [if_neg h4] at HT'
            have es4 : n4.toList.isEmpty = false := by cases hh : n4.toList with | nil => exact absurd hh h4 | cons _ _ => rfl
            by_cases h7 : 0 < n1.length
            · have h7i : (0 : Int) < (n1.length : Int) := by omega
              have d7 : decide ((0 : Int) < (n1.length : Int)) = true := decide_eq_true h7i
              have d7n : decide (0 < n1.length) = true := decide_eq_true h7
              have hC := HR1.out (.cells #[.string n0, .slice A1 n1.length c1, .slice A2 n2.length c2, .bool v3, .string n4, .string n5, .bool n6, .bool n7, .bool n8, .bool n9] 48) q2
              obtain ⟨ad, rfl, h0⟩ := Kd.at_string hC 0 (Int.le_refl _) h7i
              simp only [Int.toNat_zero, Addr.add_zero'] at h0
              obtain ⟨y, hy⟩ : ∃ y, rdOf ByteArray.empty n1 0 = y := ⟨_, rfl⟩
              rw [hy] at h0 HT'
              rw [d7n, Bool.true_and] at HT'
              clear hy hC
              have h0b : (w.alloc (.cells #[.string n0, .slice (some ad) n1.length c1, .slice A2 n2.length c2, .bool v3, .string n4, .string n5, .bool n6, .bool n7, .bool n8, .bool n9] 48)).cell? ad = some (.string y) := h0
              clear h0
              by_cases h8 : y = n4
              · have b8 : (y.toList == n4.toList) = true := by rw [h8]; simp
                rw [decide_eq_true h8, Bool.true_and] at HT'
                clear h8
                by_cases h9 : n5.size ≤ 64
                · have b9 : decide ((n5.size : Int) ≤ 64) = true := decide_eq_true (by omega)
                  have HTT := Aside0.mk (show T = true by rw [← HT', decide_eq_true h9])
                  clear HT'
                  go_wp2_with (go_at_call 37; refine (anyLong_at A2 c2 n2 false HL.out _ (HR2.out _ _)).mono ?_; rintro e w' ⟨rfl, ⟨q4, rfl⟩⟩)
                  go_quiet (fail)
                  go_wp2
                  go_ret
                  exact ⟨by rw [HB.out, HL.out, HTT.out]; simp, pw_below_drewN (pw_below_drewN (below_alloc (Below.refl _ _) _) _) _⟩
                · have b9 : decide ((n5.size : Int) ≤ 64) = false := decide_eq_false (by omega)
                  have HTT := Aside0.mk (show T = false by rw [← HT', decide_eq_false h9])
                  clear HT'
                  go_wp2_with (go_at_call 37; refine (anyLong_at A2 c2 n2 false HL.out _ (HR2.out _ _)).mono ?_; rintro e w' ⟨rfl, ⟨q4, rfl⟩⟩)
                  go_quiet (fail)
                  go_wp2
                  go_ret
                  exact ⟨by rw [HB.out, HL.out, HTT.out]; simp, pw_below_drewN (pw_below_drewN (below_alloc (Below.refl _ _) _) _) _⟩
              · have b8 : (y.toList == n4.toList) = false := by rw [beq_eq_false_iff_ne]; exact fun e => h8 (toList_inj e)
                have HTT := Aside0.mk (show T = false by rw [← HT', decide_eq_false h8]; rfl)
                clear HT' h8
                go_wp2_with (go_at_call 37; refine (anyLong_at A2 c2 n2 false HL.out _ (HR2.out _ _)).mono ?_; rintro e w' ⟨rfl, ⟨q4, rfl⟩⟩)
                go_quiet (fail)
                go_wp2
                go_ret
                exact ⟨by rw [HB.out, HL.out, HTT.out]; simp, pw_below_drewN (pw_below_drewN (below_alloc (Below.refl _ _) _) _) _⟩
            · have d7 : decide ((0 : Int) < (n1.length : Int)) = false := decide_eq_false (by omega)
              have d7n : decide (0 < n1.length) = false := decide_eq_false h7
              have HTT := Aside0.mk (show T = false by rw [← HT', d7n]; rfl)
              clear HT'
              go_wp2_with (go_at_call 37; refine (anyLong_at A2 c2 n2 false HL.out _ (HR2.out _ _)).mono ?_; rintro e w' ⟨rfl, ⟨q4, rfl⟩⟩)
              go_quiet (fail)
              go_wp2
              go_ret
              exact ⟨by rw [HB.out, HL.out, HTT.out]; simp, pw_below_drewN (pw_below_drewN (below_alloc (Below.refl _ _) _) _) _⟩
theorem right_calls (n : S48) (A1 : Option Addr) (c1 : Nat) (A2 : Option Addr) (c2 : Nat) (b m : Nat) (g : ByteArray → Int) (r : Bool) (hr : rightR n g = r) (w : World) (hm : IMap Try.prog 9 w b m g)
    (hc1 : n.f1.length ≤ c1) (hr1 : Kd.C Kd.string w A1 n.f1.length n.f1) (hc2 : n.f2.length ≤ c2) (hr2 : Kd.C Kd.string w A2 n.f2.length n.f2) :
    Calls Try.prog 62 #[.agg #[.string n.f0, .slice A1 n.f1.length c1, .slice A2 n.f2.length c2, .bool n.f3, .string n.f4, .string n.f5, .bool n.f6, .bool n.f7, .bool n.f8, .bool n.f9], .map (some b)] w fun e w' => e = .returned (.bool r) ∧ Below w.heap.size w w' := by
  rw [← hr]
  unfold rightR
  cases hbad : badHead n g with
  | true =>
    have := right_bad n A1 c1 A2 c2 b m g w hm hbad
    simpa using this
  | false =>
    have := right_good n A1 c1 A2 c2 b m g w hm hbad hc1 hr1 hc2 hr2
    simpa using this
def planGo : (ByteArray → Int) → List S48 → Option (ByteArray → Int)
  | g, [] => some g
  | g, n :: ns => if rightR n g = true then planGo (updI g n.f0 1) ns else none
def goalsR (g : ByteArray → Int) : List ByteArray → List ByteArray → Bool
  | _, [] => true
  | pre, x :: xs => decide (g x = 1) && (!memB pre x) && goalsR g (pre ++ [x]) xs
def planR (ns : List S48) (gs : List ByteArray) : Int := if 256 < ns.length then 7 else if gs.length < 1 then 7 else if 512 < gs.length then 7 else match planGo (fun _ => 0) ns with | none => 7 | some g => if goalsR g [] gs = true then 0 else 7
set_option maxHeartbeats 2000000 in
set_option maxRecDepth 100000 in
theorem check_long (A0 : Option Addr) (c0 : Nat) (l0 : List S48) (A1 : Option Addr) (c1 : Nat) (l1 : List ByteArray) (w : World) (h : 256 < l0.length ∨ l1.length < 1 ∨ 512 < l1.length) :
    Calls Try.prog 54 #[.agg #[.slice A0 l0.length c0, .slice A1 l1.length c1]] w fun e w' => e = .returned (.int .i64 7) ∧ Below w.heap.size w w' := by
  by_cases h1 : 256 < l0.length
  · have e1 : decide ((256 : Int) < (l0.length : Int)) = true := decide_eq_true (by omega)
    go_enter Try.func54, Try.ntmps54
    go_wp2_with fail
    go_ret
    exact ⟨rfl, below_alloc (Below.refl _ _) _⟩
  · have e1 : decide ((256 : Int) < (l0.length : Int)) = false := decide_eq_false (by omega)
    by_cases h2 : l1.length < 1
    · have e2 : decide ((l1.length : Int) < 1) = true := decide_eq_true (by omega)
      go_enter Try.func54, Try.ntmps54
      go_wp2_with fail
      go_ret
      exact ⟨rfl, below_alloc (Below.refl _ _) _⟩
    · have e2 : decide ((l1.length : Int) < 1) = false := decide_eq_false (by omega)
      have e3 : decide ((512 : Int) < (l1.length : Int)) = true := decide_eq_true (by omega)
      go_enter Try.func54, Try.ntmps54
      go_wp2_with fail
      go_ret
      exact ⟨rfl, below_alloc (Below.refl _ _) _⟩
set_option maxHeartbeats 4000000 in
set_option maxRecDepth 100000 in
theorem check_short (A0 : Option Addr) (c0 : Nat) (l0 : List S48) (A1 : Option Addr) (c1 : Nat) (l1 : List ByteArray) (w : World) (h1 : ¬ 256 < l0.length) (h2 : ¬ l1.length < 1) (h3 : ¬ 512 < l1.length)
    (hr0 : Kd.C k48 w A0 l0.length l0) (hc0 : l0.length ≤ c0) (hr1 : Kd.C Kd.string w A1 l1.length l1) (hc1 : l1.length ≤ c1) (hs : ∀ s ∈ l1, s.size ≤ 140737488351232) (r : Int) (hr : planR l0 l1 = r) :
    Calls Try.prog 54 #[.agg #[.slice A0 l0.length c0, .slice A1 l1.length c1]] w fun e w' => e = .returned (.int .i64 r) ∧ Below w.heap.size w w' := by
  have e1 : decide ((256 : Int) < (l0.length : Int)) = false := decide_eq_false (by omega)
  have e2 : decide ((l1.length : Int) < 1) = false := decide_eq_false (by omega)
  have e3 : decide ((512 : Int) < (l1.length : Int)) = false := decide_eq_false (by omega)
  unfold planR at hr
  rw [if_neg h1, if_neg h2, if_neg h3] at hr
  have HR := Aside0.mk hr
  have HR0 := Aside0.mk hr0
  have HR1 := Aside0.mk hr1
  have HS := Aside0.mk hs
  have hl0 : l0.length ≤ 256 := by omega
  have hl1 : l1.length ≤ 512 := by omega
  have hmm := @run_makeMap Try.prog
  clear hr hr0 hr1 hs h1 h2 h3
  go_enter Try.func54, Try.ntmps54
  go_wp2_with fail
  go_loopw [28] (fun vi wr => ∃ (i m : Nat) (g : ByteArray → Int), i ≤ l0.length ∧ m ≤ i ∧ vi = .int .i64 (i : Int) ∧ Aside0 (planGo (fun _ => 0) l0 = planGo g (l0.drop i)) ∧ IMap Try.prog 9 wr (w.heap.size + 1) m g ∧ Below w.heap.size w wr ∧ wr.cell? ⟨w.heap.size, 0, none⟩ = some (.slice A0 l0.length c0) ∧ wr.cell? ⟨w.heap.size, 1, none⟩ = some (.slice A1 l1.length c1)) (fun vi _ => ((l0.length : Int) - intOf vi).toNat)
  case atStart =>
    refine ⟨0, 0, fun _ => 0, Nat.zero_le _, Nat.le_refl _, rfl, ⟨rfl⟩, ?_, below_alloc (below_alloc (Below.refl _ _) _) _, by go_simp, by go_simp⟩
    have := IMap.made Try.prog 9 (w.alloc (.cells #[.slice A0 l0.length c0, .slice A1 l1.length c1] 25))
    simpa using this
  case round =>
    obtain ⟨i, m, g, hi, hmi, rfl, hb, hM, hB, hc0_, hc1_⟩ := hrel
    by_cases hlt : i < l0.length
    · have hw1 : IntKind.i64.wrap ((i : Int) + 1) = ((i + 1 : Nat) : Int) := by rw [IntKind.wrap_i64]; omega
      have qi : (i : Int) < (l0.length : Int) := by omega
      have pi : (0 : Int) ≤ (i : Int) := by omega
      have hC := Kd.C_below HR0.out hB
      obtain ⟨ad, B1, d1, B2, d2, rfl, y0, y1, y2, y3, y4, y5, y6, y7, y8, y9, hd1, hg1, hd2, hg2⟩ := at_T48 hC (i : Int) pi qi
      have he : rd_T48 l0 (i : Int) = l0[i] := by simp [rd_T48, hlt]
      rw [he, Int.toNat_natCast] at y0 y1 y2 y3 y4 y5 y6 y7 y8 y9
      rw [he] at hd1 hg1 hd2 hg2
      clear he hC
      have hb' := hb.out
      rw [List.drop_eq_getElem_cons hlt, planGo] at hb'
      obtain ⟨x, hx⟩ : ∃ x, l0[i] = x := ⟨_, rfl⟩
      rw [hx] at y0 y1 y2 y3 y4 y5 y6 y7 y8 y9 hd1 hg1 hd2 hg2 hb'
      have HG1 := Aside0.mk (fun o => Kd.C_alloc hg1 o)
      have HG2 := Aside0.mk (fun o => Kd.C_alloc hg2 o)
      have HM := Aside0.mk (fun o => hM.alloc o)
      have HB := Aside0.mk hb'
      clear hb hb' hx hg1 hg2 hM
      cases hrt : rightR x g with
      | false =>
        have HRT := Aside0.mk hrt
        have HX := Aside0.mk (show planGo (fun _ => 0) l0 = none by rw [HB.out, hrt]; rfl)
        clear hrt HB
        go_wp2_with (go_at_call 62; refine (right_calls x B1 d1 B2 d2 (w.heap.size + 1) m g false HRT.out _ (HM.out _) hd1 (HG1.out _) hd2 (HG2.out _)).mono ?_; rintro e w2 ⟨rfl, hb2⟩)
        go_ret
        exact ⟨by have h := HR.out; rw [HX.out] at h; exact congrArg (fun z => Ending.returned (Value.int .i64 z)) h, below_step (below_alloc hB _) hb2⟩
      | true =>
        have HRT := Aside0.mk hrt
        have HX := Aside0.mk (show planGo (fun _ => 0) l0 = planGo (updI g x.f0 1) (l0.drop (i + 1)) by rw [HB.out, hrt, if_pos rfl])
        have hsz : x.f0.size ≤ maxLen := by
          have h9 : badHead x g = false := by
            cases h8 : badHead x g with
            | false => rfl
            | true => unfold rightR at hrt; rw [h8] at hrt; simp at hrt
          unfold badHead at h9
          simp only [Bool.or_eq_false_iff, Bool.not_eq_false'] at h9
          have := nameOk_size h9.1.1.1.1
          unfold maxLen; omega
        clear hrt HB
        go_wp2_with (first | (go_at_call 62; refine (right_calls x B1 d1 B2 d2 (w.heap.size + 1) m g true HRT.out _ (HM.out _) hd1 (HG1.out _) hd2 (HG2.out _)).mono ?_; rintro e w2 ⟨rfl, hb2⟩; have z0 : w2.cell? ⟨wr.heap.size, 0, none⟩ = some (.string x.f0) := (hb2.cell (p := ⟨wr.heap.size, 0, none⟩) (by simp)).trans (by go_simp); have HM2 := (HM.out _).below hb2; have HB2 := Aside0.mk (below_step (below_alloc hB _) hb2); have zc0 := (hb2.cell (World.block_lt_of_cell? _ _ (Lib.cell?_alloc_some _ hc0_))).trans (Lib.cell?_alloc_some _ hc0_); have zc1 := (hb2.cell (World.block_lt_of_cell? _ _ (Lib.cell?_alloc_some _ hc1_))).trans (Lib.cell?_alloc_some _ hc1_)) | (at_mapUpdate; refine wpList_put_i _ rfl _ _ _ 64 rfl 9 3 Try.underlying9 Try.underlying64 _ m g rfl HM2 (by unfold maxLen; omega) x.f0 1 rfl rfl hsz ?_; intro w3 hm3 hg3))
        go_roundw
        case rel =>
          have hgr := hg3.grown
          have q0 := World.block_lt_of_cell? _ _ zc0
          refine ⟨i + 1, m + 1, updI g x.f0 1, hlt, by omega, rfl, HX, hm3, HB2.out.grown hgr HB2.out.size (fun k e => by cases e; omega), ?_, ?_⟩
          · exact (hgr.cell_far ⟨w.heap.size, 0, none⟩ q0 (by simp)).trans zc0
          · exact (hgr.cell_far ⟨w.heap.size, 1, none⟩ q0 (by simp)).trans zc1
        case measure => simp [intOf]; omega
    · have hb' := hb.out
      rw [List.drop_eq_nil_of_le (by omega), planGo] at hb'
      have HX := Aside0.mk hb'
      have hn : ¬ (i : Int) < (l0.length : Int) := by omega
      have HM := Aside0.mk (fun (q : Nat) => hM.drewN q)
      have HR1w := Aside0.mk (fun (q : Nat) => Kd.C_drewN (Kd.C_below HR1.out hB) q)
      have HRR := Aside0.mk (show (if goalsR g [] l1 = true then (0 : Int) else 7) = r by have h := HR.out; rw [HX.out] at h; exact h)
      obtain ⟨wo, rfl⟩ : ∃ wo : World, wo = wr := ⟨_, rfl⟩
      clear hb hb' hM HX
      go_wp2_with fail
      go_loopw [43] (fun vi wr => ∃ (i2 q : Nat), i2 ≤ l1.length ∧ vi = .int .i64 (i2 : Int) ∧ Aside0 (goalsR g [] l1 = goalsR g (l1.take i2) (l1.drop i2)) ∧ wr = wo.drewN q) (fun vi _ => ((l1.length : Int) - intOf vi).toNat)
      case atStart => exact ⟨0, 0, Nat.zero_le _, rfl, ⟨rfl⟩, rfl⟩
      case round =>
        obtain ⟨j, q, hj, rfl, hb, rfl⟩ := hrel
        by_cases hjl : j < l1.length
        · have hw1 : IntKind.i64.wrap ((j : Int) + 1) = ((j + 1 : Nat) : Int) := by rw [IntKind.wrap_i64]; omega
          have qi : (j : Int) < (l1.length : Int) := by omega
          have pi : (0 : Int) ≤ (j : Int) := by omega
          have qic : (j : Int) ≤ (l1.length : Int) := by omega
          have qcc : (j : Int) ≤ (c1 : Int) := by omega
          have htk : (l1.take j).length = j := by rw [List.length_take]; omega
          have HC3 := Aside0.mk (fun (q3 : Nat) => by
            have h9 := Kd.C_take (HR1w.out q3) (show j ≤ l1.length by omega)
            rw [htk] at h9
            exact h9)
          obtain ⟨ad, rfl, h0⟩ := Kd.at_string (HR1w.out q) (j : Int) pi qi
          have he : rdOf ByteArray.empty l1 (j : Int) = l1[j] := by simp [rdOf, hjl]
          rw [he, Int.toNat_natCast] at h0
          clear he
          have hxs := HS.out l1[j] (List.getElem_mem hjl)
          have hb' := hb.out
          rw [List.drop_eq_getElem_cons hjl, goalsR] at hb'
          obtain ⟨x, hx⟩ : ∃ x, l1[j] = x := ⟨_, rfl⟩
          have hnext : l1.take (j + 1) = l1.take j ++ [l1[j]] := by rw [List.take_succ_eq_append_getElem hjl]
          rw [hx] at h0 hb' hxs hnext
          have hlk : ∀ q, (Instr.lookup 64 (.map (some (w.heap.size + 1))) (.string x) false).run Try.prog (wo.drewN q) = .ok (.int .i64 (g x)) (wo.drewN q) := fun q =>
            (HM.out q).look Try.underlying9 Try.underlying64 (Try.zeroValue3 _) (by unfold maxLen; omega)
          have HN := Aside0.mk hnext
          have HB := Aside0.mk hb'
          clear hb' hb hnext htk hx hxs
          by_cases hg : g x = 1
          · have eg : ((g x : Int) != 1) = false := by rw [hg]; rfl
            cases hmem : memB (l1.take j) x with
            | true =>
              have HBX := Aside0.mk (show goalsR g [] l1 = false by rw [HB.out, hmem]; simp)
              have HM2 := Aside0.mk hmem
              rw [hg] at hlk
              clear HB hmem hg eg
              go_wp2_with (go_at_call 63; refine (contains_at (some ad) c1 j _ x true HM2.out _ (HC3.out _) (by omega)).mono ?_; rintro e w' ⟨rfl, ⟨q5, rfl⟩⟩)
              go_ret
              exact ⟨by have h := HRR.out; rw [HBX.out] at h; exact congrArg (fun z => Ending.returned (Value.int .i64 z)) h, pw_below_drewN hB _⟩
            | false =>
              have HBX := Aside0.mk (show goalsR g [] l1 = goalsR g (l1.take (j + 1)) (l1.drop (j + 1)) by rw [HB.out, hmem, decide_eq_true hg, HN.out]; simp)
              have HM2 := Aside0.mk hmem
              rw [hg] at hlk
              clear HB hmem hg eg
              go_wp2_with (go_at_call 63; refine (contains_at (some ad) c1 j _ x false HM2.out _ (HC3.out _) (by omega)).mono ?_; rintro e w' ⟨rfl, ⟨q5, rfl⟩⟩)
              go_roundw
              case rel => exact ⟨j + 1, _, hjl, rfl, HBX, rfl⟩
              case measure => simp [intOf]; omega
          · have HBX := Aside0.mk (show goalsR g [] l1 = false by rw [HB.out, decide_eq_false hg]; simp)
            have eg : ((g x : Int) != 1) = true := by simpa using hg
            clear HB hg
            go_wp2_with fail
            go_ret
            exact ⟨by have h := HRR.out; rw [HBX.out] at h; exact congrArg (fun z => Ending.returned (Value.int .i64 z)) h, pw_below_drewN hB _⟩
        · have hb' := hb.out
          rw [List.drop_eq_nil_of_le (by omega), goalsR] at hb'
          have HBX := Aside0.mk hb'
          have hn2 : ¬ (j : Int) < (l1.length : Int) := by omega
          clear hb hb'
          go_wp2_with fail
          go_ret
          exact ⟨by have h := HRR.out; rw [HBX.out] at h; exact congrArg (fun z => Ending.returned (Value.int .i64 z)) h, pw_below_drewN hB _⟩
def resolve_Check.f (l0 : List S48) (l1 : List ByteArray) : Option Int := if (l1.all fun s => decide (s.size ≤ 140737488351232)) = true then some (planR l0 l1) else none
theorem resolve_Check.calls (A0_0 : Option Addr) (c0_0 : Nat) (l0_0 : List S48) (A0_1 : Option Addr) (c0_1 : Nat) (l0_1 : List ByteArray) (r : Int) (w : World) (hr0_0 : Kd.C k48 w A0_0 l0_0.length l0_0) (hc0_0 : l0_0.length ≤ c0_0) (hr0_1 : Kd.C Kd.string w A0_1 l0_1.length l0_1) (hc0_1 : l0_1.length ≤ c0_1) (h : resolve_Check.f l0_0 l0_1 = some r) :
    Calls Try.prog 54 #[.agg #[.slice A0_0 l0_0.length c0_0, .slice A0_1 l0_1.length c0_1]] w fun e w' => e = .returned (.int .i64 r) ∧ Below w.heap.size w w' := by
  unfold resolve_Check.f at h
  split at h
  · rename_i hs
    obtain rfl := Option.some.inj h
    have hs' : ∀ s ∈ l0_1, s.size ≤ 140737488351232 := fun s hm => by
      have := List.all_eq_true.1 hs s hm
      exact of_decide_eq_true this
    by_cases h1 : 256 < l0_0.length
    · rw [show planR l0_0 l0_1 = 7 by unfold planR; rw [if_pos h1]]
      exact check_long A0_0 c0_0 l0_0 A0_1 c0_1 l0_1 w (.inl h1)
    · by_cases h2 : l0_1.length < 1
      · rw [show planR l0_0 l0_1 = 7 by unfold planR; rw [if_neg h1, if_pos h2]]
        exact check_long A0_0 c0_0 l0_0 A0_1 c0_1 l0_1 w (.inr (.inl h2))
      · by_cases h3 : 512 < l0_1.length
        · rw [show planR l0_0 l0_1 = 7 by unfold planR; rw [if_neg h1, if_neg h2, if_pos h3]]
          exact check_long A0_0 c0_0 l0_0 A0_1 c0_1 l0_1 w (.inr (.inr h3))
        · exact check_short A0_0 c0_0 l0_0 A0_1 c0_1 l0_1 w h1 h2 h3 hr0_0 hc0_0 hr0_1 hc0_1 hs' _ rfl
  · cases h

end Go.Proofs.Ytedgkcdofiildaa.P
