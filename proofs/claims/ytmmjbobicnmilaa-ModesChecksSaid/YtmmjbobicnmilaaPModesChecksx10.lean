-- written by mp.py (wip/tools), a program of this session, over the kit's print
import Derived.Test.YtmmjbobicnmilaaPModesChecksx0
import Derived.Test.YtmmjbobicnmilaaPModesChecksx6
import Derived.Test.YtmmjbobicnmilaaPModesChecksx9
namespace Go.Proofs.Ytmmjbobicnmilaa.P
open Go.RowKit Go.Proofs.YtmmjbobicnmilaaW.PrintWords Go.Proofs.YtmmjbobicnmilaaW.PrintLast Go.Proofs.YtmmjbobicnmilaaW.PrintMore
attribute [local go_sem] max2_int min2_int max_two min_two max_three min_three max_four min_four   -- for this text's walks alone
set_option linter.unusedVariables false
set_option linter.unusedSimpArgs false

/-! ### resolve_Check: function 29 -/
open Go.Proofs.Ytmmjbobicnmilaa.Ext Go.Proofs.Ytmmjbobicnmilaa.Maps0
theorem nletter_iff (c : Int) : letter c = true ↔ (97 ≤ c ∧ c ≤ 122) ∨ (65 ≤ c ∧ c ≤ 90) ∨ (48 ≤ c ∧ c ≤ 57) ∨ c = 95 ∨ c = 45 ∨ c = 46 ∨ c = 47 ∨ c = 43 := by
  simp only [letter, Bool.or_eq_true, decide_eq_true_eq, or_assoc]
theorem nsigns_list : (⟨#[95, 45, 46, 47, 43]⟩ : ByteArray).data.toList = [95, 45, 46, 47, 43] := rfl
theorem names_letter_eq (c : Int) (h0 : 0 ≤ c) (h1 : c ≤ 255) : names_letter.f c = some (letter c) := by
  have hf := find_signs c h0 h1
  have hL := nletter_iff c
  unfold names_letter.f
  simp only [strings_IndexByte.f, Option.bind_some, nsigns_list]
  generalize Lib.indexByte [95, 45, 46, 47, 43] c.toNat.toUInt8 = t at *
  cases hl : letter c with
  | true =>
    have hL' := hL.mp hl
    clear hL hl
    repeat' split
    all_goals first | rfl | (exfalso; omega) | (congr 1; exact decide_eq_true (by omega))
  | false =>
    have hL' : ¬ ((97 ≤ c ∧ c ≤ 122) ∨ (65 ≤ c ∧ c ≤ 90) ∨ (48 ≤ c ∧ c ≤ 57) ∨ c = 95 ∨ c = 45 ∨ c = 46 ∨ c = 47 ∨ c = 43) := fun h => by rw [hL.mpr h] at hl; cases hl
    clear hL hl
    repeat' split
    all_goals first | rfl | (exfalso; omega) | (congr 1; exact decide_eq_false (by omega))
def nameR (s : ByteArray) : Int := if nameOk s = true then 0 else 3
theorem nc_loop (s : ByteArray) (hs : s.size ≤ 64) : ∀ (d k i : Nat), s.size - i = d → i ≤ s.size → d < k →
    names_Check.l0 k s (s.size : Int) (i : Int) = some (if ((List.range s.size).all fun j => decide (j < i) || letter (bt s j)) = true then 0 else 3)
  | 0, k, i, hd, hi, hk => by
    obtain ⟨k, rfl⟩ : ∃ m, k = m + 1 := ⟨k - 1, by omega⟩
    have : i = s.size := by omega
    subst this
    simp only [names_Check.l0]
    rw [if_neg (by omega), all_end _ _ _ (Nat.le_refl _), if_pos rfl]
  | d + 1, k, i, hd, hi, hk => by
    obtain ⟨k, rfl⟩ : ∃ m, k = m + 1 := ⟨k - 1, by omega⟩
    have hlt : i < s.size := by omega
    have hb := bt_byte s (i : Int)
    have hw : wrap64 ((i : Int) + 1) = ((i + 1 : Nat) : Int) := by unfold wrap64; omega
    simp only [names_Check.l0]
    rw [if_pos (show (i : Int) < (s.size : Int) by omega), if_pos (show (0 : Int) ≤ (i : Int) by omega), if_pos (show (i : Int) < (s.size : Int) by omega), names_letter_eq _ hb.1 hb.2, Option.bind_some, hw, nc_loop s hs d k (i + 1) (by omega) (by omega) (by omega), all_from (fun j => letter (bt s j)) s.size i hlt]
    cases hl : letter (bt s i) with
    | true => simp
    | false => simp
theorem names_clean_f (s : ByteArray) : ∃ k, names_Check.f k s = some (nameR s) := by
  refine ⟨s.size + 3, ?_⟩
  unfold names_Check.f nameR nameOk
  by_cases h1 : (s.size : Int) = 0
  · rw [if_pos h1]
    simp only [names_Check.j0, if_true]
    have : decide (0 < s.size) = false := decide_eq_false (by omega)
    rw [this]; rfl
  · rw [if_neg h1]
    have e1 : decide (0 < s.size) = true := decide_eq_true (by omega)
    simp only [names_Check.j0, decide_eq_true_eq, e1, Bool.true_and]
    by_cases h2 : (s.size : Int) > 64
    · rw [if_pos h2]
      have : decide (s.size ≤ 64) = false := decide_eq_false (by omega)
      rw [this]; rfl
    · rw [if_neg h2]
      have e2 : decide (s.size ≤ 64) = true := decide_eq_true (by omega)
      have h := nc_loop s (by omega) s.size (s.size + 2) 0 (by omega) (by omega) (by omega)
      rw [all_start (fun j => letter (bt s j))] at h
      rw [e2, Bool.true_and]
      exact h
theorem names_clean (s : ByteArray) (w : World) : Calls Try.prog 32 #[.string s] w fun e w' => e = .returned (.int .i64 (nameR s)) ∧ Drawn0 w w' := by
  obtain ⟨k, h⟩ := names_clean_f s
  exact names_Check.calls k s _ w h
theorem nameOk_size {s : ByteArray} (h : nameOk s = true) : s.size ≤ 64 := by
  unfold nameOk at h
  simp only [Bool.and_eq_true, decide_eq_true_eq] at h
  exact h.1.2
def memB (l : List ByteArray) (s : ByteArray) : Bool := l.any (fun x => decide (x = s))
theorem index_loop (l : List ByteArray) (s : ByteArray) (hl : l.length ≤ 9223372036854775807) : ∀ (suf pre : List ByteArray) (k : Nat), l = pre ++ suf → suf.length < k →
    (slices_Index_string_string.l0 k l s (l.length : Int) (pre.length : Int)).bind (fun t => some (decide (t ≥ 0))) = some (memB suf s)
  | [], pre, k, e, hk => by
    obtain ⟨k, rfl⟩ : ∃ m, k = m + 1 := ⟨k - 1, by omega⟩
    have : l.length = pre.length := by rw [e]; simp
    simp only [slices_Index_string_string.l0, if_neg (show ¬ (pre.length : Int) < (l.length : Int) by omega)]
    rfl
  | x :: xs, pre, k, e, hk => by
    obtain ⟨k, rfl⟩ : ∃ m, k = m + 1 := ⟨k - 1, by omega⟩
    have hlen : l.length = pre.length + (xs.length + 1) := by rw [e]; simp
    have hlt : (pre.length : Int) < (l.length : Int) := by omega
    have hx : rdOf ByteArray.empty l (pre.length : Int) = x := by rw [e]; simp [rdOf]
    have hw : wrap64 ((pre.length : Int) + 1) = ((pre ++ [x]).length : Int) := by simp; unfold wrap64; omega
    simp only [slices_Index_string_string.l0, if_pos hlt, if_pos (show (0 : Int) ≤ (pre.length : Int) by omega), hx, hw]
    by_cases h : s.toList = x.toList
    · rw [if_pos h]
      have : x = s := (toList_inj h).symm
      simp only [Option.bind_some, memB, List.any_cons, decide_eq_true this, Bool.true_or]
      rw [decide_eq_true (by omega)]
    · rw [if_neg h, index_loop l s hl xs (pre ++ [x]) k (by rw [e]; simp) (by simp at hk; omega)]
      have : ¬ x = s := fun e => h (by rw [e])
      simp only [memB, List.any_cons, decide_eq_false this, Bool.false_or]
theorem contains_clean (A : Option Addr) (c : Nat) (l : List ByteArray) (s : ByteArray) (w : World) (hr : Kd.C Kd.string w A l.length l) (hc : l.length ≤ c) :
    Calls Try.prog 36 #[.slice A l.length c, .string s] w fun e w' => e = .returned (.bool (memB l s)) ∧ Drawn0 w w' :=
  slices_Contains_string_string.calls (l.length + 1) A c l s _ w hr hc (index_loop l s hr.2.1 l [] (l.length + 1) rfl (by omega))
def longB (s : ByteArray) : Bool := decide (65536 < s.size)
set_option maxHeartbeats 400000 in
theorem right1 (s : ByteArray) (w : World) : Calls Try.prog 42 #[.string s] w fun e w' => e = .returned (.bool (longB s)) ∧ w' = w := by
  unfold longB
  by_cases h : 65536 < s.size
  · have e1 : decide ((65536 : Int) < (s.size : Int)) = true := decide_eq_true (by omega)
    go_enter Try.func42, Try.ntmps42
    go_wp2
    go_ret
    exact ⟨by simp [h], rfl⟩
  · have e1 : decide ((65536 : Int) < (s.size : Int)) = false := decide_eq_false (by omega)
    go_enter Try.func42, Try.ntmps42
    go_wp2
    go_ret
    exact ⟨by simp [h], rfl⟩
set_option maxHeartbeats 400000 in
set_option maxRecDepth 100000 in
theorem idxLong (A : Option Addr) (c : Nat) (l : List ByteArray) (w : World) (hr : Kd.C Kd.string w A l.length l) (hl : (l.length : Int) ≤ 9223372036854775807) :
    Calls Try.prog 48 #[.slice A l.length c, .func (.func 42) #[] #[]] w fun e w' => ∃ r : Int, e = .returned (.int .i64 r) ∧ decide (r ≥ 0) = l.any longB ∧ Drawn0 w w' := by
  go_enter Try.func48, Try.ntmps48
  go_wp2_with fail
  go_loopw [8] (fun vi wr => ∃ i : Nat, i ≤ l.length ∧ vi = .int .i64 i ∧ Aside0 (l.any longB = (l.drop i).any longB) ∧ Drawn0 w wr) (fun vi _ => ((l.length : Int) - intOf vi).toNat)
  case atStart => exact ⟨0, Nat.zero_le _, rfl, ⟨rfl⟩, Drawn0.refl _⟩
  case round =>
    obtain ⟨i, hi, rfl, hb, hD⟩ := hrel
    by_cases hlt : i < l.length
    · have hw1 : IntKind.i64.wrap ((i : Int) + 1) = ((i + 1 : Nat) : Int) := by rw [IntKind.wrap_i64]; omega
      have q : (i : Int) < (l.length : Int) := by omega
      have p : (0 : Int) ≤ (i : Int) := by omega
      have hb' := hb.out
      rw [List.drop_eq_getElem_cons hlt, List.any_cons] at hb'
      obtain ⟨n, rfl⟩ := hD
      obtain ⟨ad, rfl, h0⟩ := Kd.at_string (Kd.C_drewN hr n) (i : Int) p q
      have he : rdOf ByteArray.empty l (i : Int) = l[i] := by simp [rdOf, hlt]
      rw [he, Int.toNat_natCast] at h0
      clear he hb
      cases ht : longB l[i] with
      | true =>
        rw [ht, Bool.true_or] at hb'
        have HB := Lib.hid hb'
        have hcall : ∀ W, Calls Try.prog 42 #[.string l[i]] W fun e w' => e = .returned (.bool true) ∧ w' = W := fun W => by rw [← ht]; exact right1 l[i] W
        clear hb' ht
        go_wp2_with (go_at_call 42; refine (hcall _).mono ?_; rintro e w' ⟨rfl, rfl⟩)
        go_ret
        exact ⟨i, rfl, (decide_eq_true (by omega)).trans HB.out.symm, ⟨⟨n, rfl⟩⟩⟩
      | false =>
        rw [ht, Bool.false_or] at hb'
        have HB := Aside0.mk hb'
        have hcall : ∀ W, Calls Try.prog 42 #[.string l[i]] W fun e w' => e = .returned (.bool false) ∧ w' = W := fun W => by rw [← ht]; exact right1 l[i] W
        clear hb' ht
        go_wp2_with (go_at_call 42; refine (hcall _).mono ?_; rintro e w' ⟨rfl, rfl⟩)
        go_roundw
        case rel => exact ⟨i + 1, hlt, rfl, HB, ⟨⟨n, rfl⟩⟩⟩
        case measure => simp [intOf]; omega
    · have hb' := hb.out
      rw [List.drop_eq_nil_of_le (by omega), List.any_nil] at hb'
      have HB := Lib.hid hb'
      clear hb' hb
      have hn : ¬ (i : Int) < (l.length : Int) := by omega
      go_wp2_with fail
      go_ret
      exact ⟨-1, rfl, (decide_eq_false (by omega)).trans HB.out.symm, hD⟩
set_option maxHeartbeats 400000 in
theorem anyLong (A : Option Addr) (c : Nat) (l : List ByteArray) (w : World) (hr : Kd.C Kd.string w A l.length l) :
    Calls Try.prog 41 #[.slice A l.length c, .func (.func 42) #[] #[]] w fun e w' => e = .returned (.bool (l.any longB)) ∧ Drawn0 w w' := by
  have hl : (l.length : Int) ≤ 9223372036854775807 := by have := hr.2.1; omega
  obtain ⟨R, hR⟩ : ∃ R, l.any longB = R := ⟨_, rfl⟩
  have hidx : ∀ W, Kd.C Kd.string W A l.length l → Calls Try.prog 48 #[.slice A l.length c, .func (.func 42) #[] #[]] W fun e w' => ∃ r : Int, e = .returned (.int .i64 r) ∧ decide (r ≥ 0) = R ∧ Drawn0 W w' := fun W h => by rw [← hR]; exact idxLong A c l W h hl
  rw [hR]
  clear hR
  go_enter Try.func41, Try.ntmps41
  go_wp2_with (go_at_call 48; refine (hidx _ hr).mono ?_; rintro e w' ⟨ri, rfl, hri, hb1⟩)
  go_ret
  exact ⟨rfl, hb1⟩
theorem names_ok (s : ByteArray) (h : nameOk s = true) (w : World) : Calls Try.prog 32 #[.string s] w fun e w' => e = .returned (.int .i64 0) ∧ Drawn0 w w' := by
  have := names_clean s w
  rwa [show nameR s = 0 by unfold nameR; rw [if_pos h]] at this
theorem names_no (s : ByteArray) (h : nameOk s = false) (w : World) : Calls Try.prog 32 #[.string s] w fun e w' => e = .returned (.int .i64 3) ∧ Drawn0 w w' := by
  have := names_clean s w
  rwa [show nameR s = 3 by unfold nameR; rw [if_neg (by rw [h]; decide)]] at this
theorem contains_at (A : Option Addr) (c n : Nat) (l : List ByteArray) (s : ByteArray) (r : Bool) (h : memB l s = r) (w : World) (hr : Kd.C Kd.string w A n l) (hc : n ≤ c) :
    Calls Try.prog 36 #[.slice A n c, .string s] w fun e w' => e = .returned (.bool r) ∧ Drawn0 w w' := by
  obtain rfl : l.length = n := hr.1
  rw [← h]
  exact contains_clean A c l s w hr hc
theorem anyLong_at (A : Option Addr) (c : Nat) (l : List ByteArray) (r : Bool) (h : l.any longB = r) (w : World) (hr : Kd.C Kd.string w A l.length l) :
    Calls Try.prog 41 #[.slice A l.length c, .func (.func 42) #[] #[]] w fun e w' => e = .returned (.bool r) ∧ Drawn0 w w' := by
  rw [← h]
  exact anyLong A c l w hr
def needsR (g : ByteArray → Int) : List ByteArray → List ByteArray → Bool
  | _, [] => true
  | pre, x :: xs => nameOk x && (!memB pre x) && decide (g x = 1) && needsR g (pre ++ [x]) xs
def badHead (n : S27) (g : ByteArray → Int) : Bool := !nameOk n.f0 || decide (g n.f0 = 1) || decide (65 < n.f1.length) || decide (64 < n.f2.length) || (!n.f3 && decide (0 < n.f2.length))
def tailR (n : S27) : Bool := if n.f4.toList = [] then decide (n.f5.toList = []) else decide (0 < n.f1.length) && decide (rdOf ByteArray.empty n.f1 0 = n.f4) && decide (n.f5.size ≤ 64)
def rightR (n : S27) (g : ByteArray → Int) : Bool := !badHead n g && needsR g [] n.f1 && !(n.f2.any longB) && tailR n
def nodeV (n : S27) (A1 : Option Addr) (c1 : Nat) (A2 : Option Addr) (c2 : Nat) : Array Value := #[.string n.f0, .slice A1 n.f1.length c1, .slice A2 n.f2.length c2, .bool n.f3, .string n.f4, .string n.f5, .bool n.f6, .bool n.f7, .bool n.f8, .bool n.f9]
set_option maxHeartbeats 2000000 in
set_option maxRecDepth 100000 in
theorem right_bad (n : S27) (A1 : Option Addr) (c1 : Nat) (A2 : Option Addr) (c2 : Nat) (b m : Nat) (g : ByteArray → Int) (w : World) (hm : IMap Try.prog 9 w b m g) (hbad : badHead n g = true) :
    Calls Try.prog 35 #[.agg #[.string n.f0, .slice A1 n.f1.length c1, .slice A2 n.f2.length c2, .bool n.f3, .string n.f4, .string n.f5, .bool n.f6, .bool n.f7, .bool n.f8, .bool n.f9], .map (some b)] w fun e w' => e = .returned (.bool false) ∧ Below w.heap.size w w' := by
  have hlk : nameOk n.f0 = true → ∀ o q, (Instr.lookup 74 (.map (some b)) (.string n.f0) false).run Try.prog ((w.alloc o).drewN q) = .ok (.int .i64 (g n.f0)) ((w.alloc o).drewN q) := fun h o q =>
    ((hm.alloc o).drewN q).look Try.underlying9 Try.underlying74 (Try.zeroValue3 _) (by have := nameOk_size h; unfold maxLen; omega)
  unfold badHead at hbad
  cases h1 : nameOk n.f0 with
  | false =>
    go_enter Try.func35, Try.ntmps35
    go_wp2_with (go_at_call 32; refine (names_no n.f0 h1 _).mono ?_; rintro e w' ⟨rfl, ⟨q, rfl⟩⟩)
    go_ret
    exact ⟨rfl, pw_below_drewN (below_alloc (Below.refl _ _) _) _⟩
  | true =>
    replace hlk := hlk h1
    rw [h1] at hbad
    by_cases h2 : g n.f0 = 1
    · have e2 : ((g n.f0 : Int) == 1) = true := beq_iff_eq.mpr h2
      rw [h2] at hlk
      clear hbad h2 e2
      go_enter Try.func35, Try.ntmps35
      go_wp2_with (go_at_call 32; refine (names_ok n.f0 h1 _).mono ?_; rintro e w' ⟨rfl, ⟨q, rfl⟩⟩)
      go_ret
      exact ⟨rfl, pw_below_drewN (below_alloc (Below.refl _ _) _) _⟩
    · have e2 : ((g n.f0 : Int) == 1) = false := beq_eq_false_iff_ne.mpr h2
      rw [decide_eq_false h2] at hbad
      clear h2
      by_cases h3 : 65 < n.f1.length
      · have e3 : decide ((65 : Int) < (n.f1.length : Int)) = true := decide_eq_true (by omega)
        clear hbad h3
        go_enter Try.func35, Try.ntmps35
        go_wp2_with (go_at_call 32; refine (names_ok n.f0 h1 _).mono ?_; rintro e w' ⟨rfl, ⟨q, rfl⟩⟩)
        go_ret
        exact ⟨rfl, pw_below_drewN (below_alloc (Below.refl _ _) _) _⟩
      · have e3 : decide ((65 : Int) < (n.f1.length : Int)) = false := decide_eq_false (by omega)
        rw [decide_eq_false h3] at hbad
        clear h3
        by_cases h4 : 64 < n.f2.length
        · have e4 : decide ((64 : Int) < (n.f2.length : Int)) = true := decide_eq_true (by omega)
          clear hbad h4
          go_enter Try.func35, Try.ntmps35
          go_wp2_with (go_at_call 32; refine (names_ok n.f0 h1 _).mono ?_; rintro e w' ⟨rfl, ⟨q, rfl⟩⟩)
          go_ret
          exact ⟨rfl, pw_below_drewN (below_alloc (Below.refl _ _) _) _⟩
        · have e4 : decide ((64 : Int) < (n.f2.length : Int)) = false := decide_eq_false (by omega)
          rw [decide_eq_false h4] at hbad
          clear h4
          simp only [Bool.not_true, Bool.false_or, Bool.and_eq_true, Bool.not_eq_true', decide_eq_true_eq] at hbad
          have e5 : decide (0 < n.f2.length) = true := decide_eq_true (by omega)
          have h5 := hbad.1
          clear hbad
          go_enter Try.func35, Try.ntmps35
          go_wp2_with (go_at_call 32; refine (names_ok n.f0 h1 _).mono ?_; rintro e w' ⟨rfl, ⟨q, rfl⟩⟩)
          go_ret
          exact ⟨rfl, pw_below_drewN (below_alloc (Below.refl _ _) _) _⟩
set_option maxHeartbeats 4000000 in
set_option maxRecDepth 100000 in
theorem right_good (n : S27) (A1 : Option Addr) (c1 : Nat) (A2 : Option Addr) (c2 : Nat) (b m : Nat) (g : ByteArray → Int) (w : World) (hm : IMap Try.prog 9 w b m g) (hbad : badHead n g = false)
    (hc1 : n.f1.length ≤ c1) (hr1 : Kd.C Kd.string w A1 n.f1.length n.f1) (hc2 : n.f2.length ≤ c2) (hr2 : Kd.C Kd.string w A2 n.f2.length n.f2) :
    Calls Try.prog 35 #[.agg #[.string n.f0, .slice A1 n.f1.length c1, .slice A2 n.f2.length c2, .bool n.f3, .string n.f4, .string n.f5, .bool n.f6, .bool n.f7, .bool n.f8, .bool n.f9], .map (some b)] w fun e w' => e = .returned (.bool (needsR g [] n.f1 && !(n.f2.any longB) && tailR n)) ∧ Below w.heap.size w w' := by
  have hlk : ∀ x, nameOk x = true → ∀ o q, (Instr.lookup 74 (.map (some b)) (.string x) false).run Try.prog ((w.alloc o).drewN q) = .ok (.int .i64 (g x)) ((w.alloc o).drewN q) := fun x h o q =>
    ((hm.alloc o).drewN q).look Try.underlying9 Try.underlying74 (Try.zeroValue3 _) (by have := nameOk_size h; unfold maxLen; omega)
  unfold badHead at hbad
  simp only [Bool.or_eq_false_iff, Bool.and_eq_false_iff, Bool.not_eq_false', decide_eq_false_iff_not] at hbad
  obtain ⟨⟨⟨⟨h1, h2⟩, h3⟩, h4⟩, h5⟩ := hbad
  have hlk0 := hlk n.f0 h1
  have e2 : ((g n.f0 : Int) == 1) = false := beq_eq_false_iff_ne.mpr h2
  have e3 : decide ((65 : Int) < (n.f1.length : Int)) = false := decide_eq_false (by omega)
  have e4 : decide ((64 : Int) < (n.f2.length : Int)) = false := decide_eq_false (by omega)
  have HR1 := Aside0.mk (fun o q => Kd.C_drewN (Kd.C_alloc hr1 o) q)
  have HR2 := Aside0.mk (fun o q => Kd.C_drewN (Kd.C_alloc hr2 o) q)
  have HLK := Aside0.mk hlk
  have hl1 : n.f1.length ≤ 65 := by omega
  clear hlk hr1 hr2 h2 h3 h4
  have h5' : n.f3 = true ∨ (n.f3 = false ∧ decide (0 < n.f2.length) = false) := by
    rcases h5 with h5 | h5
    · exact .inl h5
    · cases hf : n.f3 with
      | true => exact .inl rfl
      | false => exact .inr ⟨rfl, decide_eq_false (by omega)⟩
  clear h5
  obtain ⟨T, hT⟩ : ∃ T, tailR n = T := ⟨_, rfl⟩
  rw [hT]
  obtain ⟨n0, n1, n2, n3, n4, n5, n6, n7, n8, n9⟩ := n
  simp only [tailR] at *
  have HT := Aside0.mk hT
  clear hT
  rcases h5' with rfl | ⟨rfl, h6⟩
  all_goals
    go_enter Try.func35, Try.ntmps35
    go_wp2_with (go_at_call 32; refine (names_ok n0 h1 _).mono ?_; rintro e w' ⟨rfl, ⟨q, rfl⟩⟩)
    go_loopw [44] (fun vi wr => ∃ (i q2 : Nat) (v3 : Bool), i ≤ n1.length ∧ vi = .int .i64 (i : Int) ∧ Aside0 (needsR g [] n1 = needsR g (n1.take i) (n1.drop i)) ∧ wr = (w.alloc (.cells #[.string n0, .slice A1 n1.length c1, .slice A2 n2.length c2, .bool v3, .string n4, .string n5, .bool n6, .bool n7, .bool n8, .bool n9] 27)).drewN q2) (fun vi _ => ((n1.length : Int) - intOf vi).toNat)
    case atStart => exact ⟨0, q, _, Nat.zero_le _, rfl, ⟨rfl⟩, rfl⟩
    case round =>
      obtain ⟨i, q2, v3, hi, rfl, hb, rfl⟩ := hrel
      by_cases hlt : i < n1.length
      · have hw1 : IntKind.i64.wrap ((i : Int) + 1) = ((i + 1 : Nat) : Int) := by rw [IntKind.wrap_i64]; omega
        have qi : (i : Int) < (n1.length : Int) := by omega
        have pi : (0 : Int) ≤ (i : Int) := by omega
        have qic : (i : Int) ≤ (n1.length : Int) := by omega
        have qcc : (i : Int) ≤ (c1 : Int) := by omega
        have htk : (n1.take i).length = i := by rw [List.length_take]; omega
        have HC3 := Aside0.mk (fun (o : Obj) (q3 : Nat) => by
          have h9 := Kd.C_take (HR1.out o q3) (show i ≤ n1.length by omega)
          rw [htk] at h9
          exact h9)
        have hC := fun o => HR1.out o q2
        obtain ⟨ad, rfl, h0⟩ := Kd.at_string (hC (.cells #[.string n0, .slice A1 n1.length c1, .slice A2 n2.length c2, .bool v3, .string n4, .string n5, .bool n6, .bool n7, .bool n8, .bool n9] 27)) (i : Int) pi qi
        have he : rdOf ByteArray.empty n1 (i : Int) = n1[i] := by simp [rdOf, hlt]
        rw [he, Int.toNat_natCast] at h0
        clear he
        have hb' := hb.out
        rw [List.drop_eq_getElem_cons hlt, needsR] at hb'
        obtain ⟨x, hx⟩ : ∃ x, n1[i] = x := ⟨_, rfl⟩
        rw [hx] at h0 hb'
        have hnext : n1.take (i + 1) = n1.take i ++ [x] := by rw [List.take_succ_eq_append_getElem hlt, hx]
        have HN := Aside0.mk hnext
        have HB := Aside0.mk hb'
        clear hC hb' hb hnext htk hx
        cases hn : nameOk x with
        | false =>
          have HBX := Aside0.mk (show needsR g [] n1 = false by rw [HB.out, hn]; simp)
          clear HB
          go_wp2_with (go_at_call 32; refine (names_no x hn _).mono ?_; rintro e w' ⟨rfl, ⟨q4, rfl⟩⟩)
          go_ret
          exact ⟨by rw [HBX.out]; simp, pw_below_drewN (below_alloc (Below.refl _ _) _) _⟩
        | true =>
          cases hmem : memB (n1.take i) x with
          | true =>
            have HBX := Aside0.mk (show needsR g [] n1 = false by rw [HB.out, hmem]; simp)
            clear HB
            have HM := Aside0.mk hmem
            clear hmem
            go_wp2_with (first | (go_at_call 32; refine (names_ok x hn _).mono ?_; rintro e w' ⟨rfl, ⟨q4, rfl⟩⟩) | (go_at_call 36; refine (contains_at (some ad) c1 i _ x true HM.out _ (HC3.out _ _) (by omega)).mono ?_; rintro e w' ⟨rfl, ⟨q5, rfl⟩⟩))
            go_ret
            exact ⟨by rw [HBX.out]; simp, pw_below_drewN (below_alloc (Below.refl _ _) _) _⟩
          | false =>
            have HM := Aside0.mk hmem
            have hlkx := HLK.out x hn
            by_cases hg : g x = 1
            · have HBX := Aside0.mk (show needsR g [] n1 = needsR g (n1.take (i + 1)) (n1.drop (i + 1)) by rw [HB.out, hmem, hn, decide_eq_true hg, HN.out]; simp)
              rw [hg] at hlkx
              clear HB hmem hg
              go_wp2_with (first | (go_at_call 32; refine (names_ok x hn _).mono ?_; rintro e w' ⟨rfl, ⟨q4, rfl⟩⟩) | (go_at_call 36; refine (contains_at (some ad) c1 i _ x false HM.out _ (HC3.out _ _) (by omega)).mono ?_; rintro e w' ⟨rfl, ⟨q5, rfl⟩⟩))
              go_roundw
              case rel => exact ⟨i + 1, _, _, hlt, rfl, HBX, rfl⟩
              case measure => simp [intOf]; omega
            · have HBX := Aside0.mk (show needsR g [] n1 = false by rw [HB.out, decide_eq_false hg]; simp)
              have eg : ((g x : Int) != 1) = true := by simpa using hg
              clear HB hmem hg
              go_wp2_with (first | (go_at_call 32; refine (names_ok x hn _).mono ?_; rintro e w' ⟨rfl, ⟨q4, rfl⟩⟩) | (go_at_call 36; refine (contains_at (some ad) c1 i _ x false HM.out _ (HC3.out _ _) (by omega)).mono ?_; rintro e w' ⟨rfl, ⟨q5, rfl⟩⟩))
              go_ret
              exact ⟨by rw [HBX.out]; simp, pw_below_drewN (below_alloc (Below.refl _ _) _) _⟩
      · have hb' := hb.out
        rw [List.drop_eq_nil_of_le (by omega), needsR] at hb'
        have HB := Aside0.mk hb'
        have hn : ¬ (i : Int) < (n1.length : Int) := by omega
        clear hb' hb
        cases hL : n2.any longB with
        | true =>
          have HL := Aside0.mk hL
          clear hL
          go_wp2_with (go_at_call 41; refine (anyLong_at A2 c2 n2 true HL.out _ (HR2.out _ _)).mono ?_; rintro e w' ⟨rfl, ⟨q4, rfl⟩⟩)
          go_ret
          exact ⟨by rw [HB.out, HL.out]; simp, pw_below_drewN (below_alloc (Below.refl _ _) _) _⟩
        | false =>
          have HL := Aside0.mk hL
          clear hL
          have HT' := HT.out
          by_cases h4 : n4.toList = []
          · rw [if_pos h4] at HT'
            have es4 : n4.toList.isEmpty = true := by rw [h4]; rfl
            by_cases h5 : n5.toList = []
            · have HTT := Aside0.mk (show T = true by rw [← HT', decide_eq_true h5])
              clear HT'
              go_wp2_with (go_at_call 41; refine (anyLong_at A2 c2 n2 false HL.out _ (HR2.out _ _)).mono ?_; rintro e w' ⟨rfl, ⟨q4, rfl⟩⟩)
              go_ret
              exact ⟨by rw [HB.out, HL.out, HTT.out]; simp, pw_below_drewN (below_alloc (Below.refl _ _) _) _⟩
            · have HTT := Aside0.mk (show T = false by rw [← HT', decide_eq_false h5])
              clear HT'
              go_wp2_with (go_at_call 41; refine (anyLong_at A2 c2 n2 false HL.out _ (HR2.out _ _)).mono ?_; rintro e w' ⟨rfl, ⟨q4, rfl⟩⟩)
              go_ret
              exact ⟨by rw [HB.out, HL.out, HTT.out]; simp [h5], pw_below_drewN (below_alloc (Below.refl _ _) _) _⟩
          · rw [if_neg h4] at HT'
            have es4 : n4.toList.isEmpty = false := by cases hh : n4.toList with | nil => exact absurd hh h4 | cons _ _ => rfl
            by_cases h7 : 0 < n1.length
            · have h7i : (0 : Int) < (n1.length : Int) := by omega
              have d7 : decide ((0 : Int) < (n1.length : Int)) = true := decide_eq_true h7i
              have d7n : decide (0 < n1.length) = true := decide_eq_true h7
              have hC := HR1.out (.cells #[.string n0, .slice A1 n1.length c1, .slice A2 n2.length c2, .bool v3, .string n4, .string n5, .bool n6, .bool n7, .bool n8, .bool n9] 27) q2
              obtain ⟨ad, rfl, h0⟩ := Kd.at_string hC 0 (Int.le_refl _) h7i
              simp only [Int.toNat_zero, Addr.add_zero'] at h0
              obtain ⟨y, hy⟩ : ∃ y, rdOf ByteArray.empty n1 0 = y := ⟨_, rfl⟩
              rw [hy] at h0 HT'
              rw [d7n, Bool.true_and] at HT'
              clear hy hC
              have h0b : (w.alloc (.cells #[.string n0, .slice (some ad) n1.length c1, .slice A2 n2.length c2, .bool v3, .string n4, .string n5, .bool n6, .bool n7, .bool n8, .bool n9] 27)).cell? ad = some (.string y) := h0
              clear h0
              by_cases h8 : y = n4
              · have b8 : (y.toList == n4.toList) = true := by rw [h8]; simp
                rw [decide_eq_true h8, Bool.true_and] at HT'
                clear h8
                by_cases h9 : n5.size ≤ 64
                · have b9 : decide ((n5.size : Int) ≤ 64) = true := decide_eq_true (by omega)
                  have HTT := Aside0.mk (show T = true by rw [← HT', decide_eq_true h9])
                  clear HT'
                  go_wp2_with (go_at_call 41; refine (anyLong_at A2 c2 n2 false HL.out _ (HR2.out _ _)).mono ?_; rintro e w' ⟨rfl, ⟨q4, rfl⟩⟩)
                  go_quiet (fail)
                  go_wp2
                  go_ret
                  exact ⟨by rw [HB.out, HL.out, HTT.out]; simp, pw_below_drewN (pw_below_drewN (below_alloc (Below.refl _ _) _) _) _⟩
                · have b9 : decide ((n5.size : Int) ≤ 64) = false := decide_eq_false (by omega)
                  have HTT := Aside0.mk (show T = false by rw [← HT', decide_eq_false h9])
                  clear HT'
                  go_wp2_with (go_at_call 41; refine (anyLong_at A2 c2 n2 false HL.out _ (HR2.out _ _)).mono ?_; rintro e w' ⟨rfl, ⟨q4, rfl⟩⟩)
                  go_quiet (fail)
                  go_wp2
                  go_ret
                  exact ⟨by rw [HB.out, HL.out, HTT.out]; simp, pw_below_drewN (pw_below_drewN (below_alloc (Below.refl _ _) _) _) _⟩
              · have b8 : (y.toList == n4.toList) = false := by rw [beq_eq_false_iff_ne]; exact fun e => h8 (toList_inj e)
                have HTT := Aside0.mk (show T = false by rw [← HT', decide_eq_false h8]; rfl)
                clear HT' h8
                go_wp2_with (go_at_call 41; refine (anyLong_at A2 c2 n2 false HL.out _ (HR2.out _ _)).mono ?_; rintro e w' ⟨rfl, ⟨q4, rfl⟩⟩)
                go_quiet (fail)
                go_wp2
                go_ret
                exact ⟨by rw [HB.out, HL.out, HTT.out]; simp, pw_below_drewN (pw_below_drewN (below_alloc (Below.refl _ _) _) _) _⟩
            · have d7 : decide ((0 : Int) < (n1.length : Int)) = false := decide_eq_false (by omega)
              have d7n : decide (0 < n1.length) = false := decide_eq_false h7
              have HTT := Aside0.mk (show T = false by rw [← HT', d7n]; rfl)
              clear HT'
              go_wp2_with (go_at_call 41; refine (anyLong_at A2 c2 n2 false HL.out _ (HR2.out _ _)).mono ?_; rintro e w' ⟨rfl, ⟨q4, rfl⟩⟩)
              go_quiet (fail)
              go_wp2
              go_ret
              exact ⟨by rw [HB.out, HL.out, HTT.out]; simp, pw_below_drewN (pw_below_drewN (below_alloc (Below.refl _ _) _) _) _⟩
theorem right_calls (n : S27) (A1 : Option Addr) (c1 : Nat) (A2 : Option Addr) (c2 : Nat) (b m : Nat) (g : ByteArray → Int) (r : Bool) (hr : rightR n g = r) (w : World) (hm : IMap Try.prog 9 w b m g)
    (hc1 : n.f1.length ≤ c1) (hr1 : Kd.C Kd.string w A1 n.f1.length n.f1) (hc2 : n.f2.length ≤ c2) (hr2 : Kd.C Kd.string w A2 n.f2.length n.f2) :
    Calls Try.prog 35 #[.agg #[.string n.f0, .slice A1 n.f1.length c1, .slice A2 n.f2.length c2, .bool n.f3, .string n.f4, .string n.f5, .bool n.f6, .bool n.f7, .bool n.f8, .bool n.f9], .map (some b)] w fun e w' => e = .returned (.bool r) ∧ Below w.heap.size w w' := by
  rw [← hr]
  unfold rightR
  cases hbad : badHead n g with
  | true =>
    have := right_bad n A1 c1 A2 c2 b m g w hm hbad
    simpa using this
  | false =>
    have := right_good n A1 c1 A2 c2 b m g w hm hbad hc1 hr1 hc2 hr2
    simpa using this
def planGo : (ByteArray → Int) → List S27 → Option (ByteArray → Int)
  | g, [] => some g
  | g, n :: ns => if rightR n g = true then planGo (updI g n.f0 1) ns else none
def goalsR (g : ByteArray → Int) : List ByteArray → List ByteArray → Bool
  | _, [] => true
  | pre, x :: xs => decide (g x = 1) && (!memB pre x) && goalsR g (pre ++ [x]) xs
def planR (ns : List S27) (gs : List ByteArray) : Int := if 256 < ns.length then 7 else if gs.length < 1 then 7 else if 512 < gs.length then 7 else match planGo (fun _ => 0) ns with | none => 7 | some g => if goalsR g [] gs = true then 0 else 7
set_option maxHeartbeats 2000000 in
set_option maxRecDepth 100000 in
theorem check_long (A0 : Option Addr) (c0 : Nat) (l0 : List S27) (A1 : Option Addr) (c1 : Nat) (l1 : List ByteArray) (w : World) (h : 256 < l0.length ∨ l1.length < 1 ∨ 512 < l1.length) :
    Calls Try.prog 29 #[.agg #[.slice A0 l0.length c0, .slice A1 l1.length c1]] w fun e w' => e = .returned (.int .i64 7) ∧ Below w.heap.size w w' := by
  by_cases h1 : 256 < l0.length
  · have e1 : decide ((256 : Int) < (l0.length : Int)) = true := decide_eq_true (by omega)
    go_enter Try.func29, Try.ntmps29
    go_wp2_with fail
    go_ret
    exact ⟨rfl, below_alloc (Below.refl _ _) _⟩
  · have e1 : decide ((256 : Int) < (l0.length : Int)) = false := decide_eq_false (by omega)
    by_cases h2 : l1.length < 1
    · have e2 : decide ((l1.length : Int) < 1) = true := decide_eq_true (by omega)
      go_enter Try.func29, Try.ntmps29
      go_wp2_with fail
      go_ret
      exact ⟨rfl, below_alloc (Below.refl _ _) _⟩
    · have e2 : decide ((l1.length : Int) < 1) = false := decide_eq_false (by omega)
      have e3 : decide ((512 : Int) < (l1.length : Int)) = true := decide_eq_true (by omega)
      go_enter Try.func29, Try.ntmps29
      go_wp2_with fail
      go_ret
      exact ⟨rfl, below_alloc (Below.refl _ _) _⟩
set_option maxHeartbeats 4000000 in
set_option maxRecDepth 100000 in
theorem check_short (A0 : Option Addr) (c0 : Nat) (l0 : List S27) (A1 : Option Addr) (c1 : Nat) (l1 : List ByteArray) (w : World) (h1 : ¬ 256 < l0.length) (h2 : ¬ l1.length < 1) (h3 : ¬ 512 < l1.length)
    (hr0 : Kd.C k27 w A0 l0.length l0) (hc0 : l0.length ≤ c0) (hr1 : Kd.C Kd.string w A1 l1.length l1) (hc1 : l1.length ≤ c1) (hs : ∀ s ∈ l1, s.size ≤ 140737488351232) (r : Int) (hr : planR l0 l1 = r) :
    Calls Try.prog 29 #[.agg #[.slice A0 l0.length c0, .slice A1 l1.length c1]] w fun e w' => e = .returned (.int .i64 r) ∧ Below w.heap.size w w' := by
  have e1 : decide ((256 : Int) < (l0.length : Int)) = false := decide_eq_false (by omega)
  have e2 : decide ((l1.length : Int) < 1) = false := decide_eq_false (by omega)
  have e3 : decide ((512 : Int) < (l1.length : Int)) = false := decide_eq_false (by omega)
  unfold planR at hr
  rw [if_neg h1, if_neg h2, if_neg h3] at hr
  have HR := Aside0.mk hr
  have HR0 := Aside0.mk hr0
  have HR1 := Aside0.mk hr1
  have HS := Aside0.mk hs
  have hl0 : l0.length ≤ 256 := by omega
  have hl1 : l1.length ≤ 512 := by omega
  have hmm := @run_makeMap Try.prog
  clear hr hr0 hr1 hs h1 h2 h3
  go_enter Try.func29, Try.ntmps29
  go_wp2_with fail
  go_loopw [28] (fun vi wr => ∃ (i m : Nat) (g : ByteArray → Int), i ≤ l0.length ∧ m ≤ i ∧ vi = .int .i64 (i : Int) ∧ Aside0 (planGo (fun _ => 0) l0 = planGo g (l0.drop i)) ∧ IMap Try.prog 9 wr (w.heap.size + 1) m g ∧ Below w.heap.size w wr ∧ wr.cell? ⟨w.heap.size, 0, none⟩ = some (.slice A0 l0.length c0) ∧ wr.cell? ⟨w.heap.size, 1, none⟩ = some (.slice A1 l1.length c1)) (fun vi _ => ((l0.length : Int) - intOf vi).toNat)
  case atStart =>
    refine ⟨0, 0, fun _ => 0, Nat.zero_le _, Nat.le_refl _, rfl, ⟨rfl⟩, ?_, below_alloc (below_alloc (Below.refl _ _) _) _, by go_simp, by go_simp⟩
    have := IMap.made Try.prog 9 (w.alloc (.cells #[.slice A0 l0.length c0, .slice A1 l1.length c1] 69))
    simpa using this
  case round =>
    obtain ⟨i, m, g, hi, hmi, rfl, hb, hM, hB, hc0_, hc1_⟩ := hrel
    by_cases hlt : i < l0.length
    · have hw1 : IntKind.i64.wrap ((i : Int) + 1) = ((i + 1 : Nat) : Int) := by rw [IntKind.wrap_i64]; omega
      have qi : (i : Int) < (l0.length : Int) := by omega
      have pi : (0 : Int) ≤ (i : Int) := by omega
      have hC := Kd.C_below HR0.out hB
      obtain ⟨ad, B1, d1, B2, d2, rfl, y0, y1, y2, y3, y4, y5, y6, y7, y8, y9, hd1, hg1, hd2, hg2⟩ := at_T27 hC (i : Int) pi qi
      have he : rd_T27 l0 (i : Int) = l0[i] := by simp [rd_T27, hlt]
      rw [he, Int.toNat_natCast] at y0 y1 y2 y3 y4 y5 y6 y7 y8 y9
      rw [he] at hd1 hg1 hd2 hg2
      clear he hC
      have hb' := hb.out
      rw [List.drop_eq_getElem_cons hlt, planGo] at hb'
      obtain ⟨x, hx⟩ : ∃ x, l0[i] = x := ⟨_, rfl⟩
      rw [hx] at y0 y1 y2 y3 y4 y5 y6 y7 y8 y9 hd1 hg1 hd2 hg2 hb'
      have HG1 := Aside0.mk (fun o => Kd.C_alloc hg1 o)
      have HG2 := Aside0.mk (fun o => Kd.C_alloc hg2 o)
      have HM := Aside0.mk (fun o => hM.alloc o)
      have HB := Aside0.mk hb'
      clear hb hb' hx hg1 hg2 hM
      cases hrt : rightR x g with
      | false =>
        have HRT := Aside0.mk hrt
        have HX := Aside0.mk (show planGo (fun _ => 0) l0 = none by rw [HB.out, hrt]; rfl)
        clear hrt HB
        go_wp2_with (go_at_call 35; refine (right_calls x B1 d1 B2 d2 (w.heap.size + 1) m g false HRT.out _ (HM.out _) hd1 (HG1.out _) hd2 (HG2.out _)).mono ?_; rintro e w2 ⟨rfl, hb2⟩)
        go_ret
        exact ⟨by have h := HR.out; rw [HX.out] at h; exact congrArg (fun z => Ending.returned (Value.int .i64 z)) h, below_step (below_alloc hB _) hb2⟩
      | true =>
        have HRT := Aside0.mk hrt
        have HX := Aside0.mk (show planGo (fun _ => 0) l0 = planGo (updI g x.f0 1) (l0.drop (i + 1)) by rw [HB.out, hrt, if_pos rfl])
        have hsz : x.f0.size ≤ maxLen := by
          have h9 : badHead x g = false := by
            cases h8 : badHead x g with
            | false => rfl
            | true => unfold rightR at hrt; rw [h8] at hrt; simp at hrt
          unfold badHead at h9
          simp only [Bool.or_eq_false_iff, Bool.not_eq_false'] at h9
          have := nameOk_size h9.1.1.1.1
          unfold maxLen; omega
        clear hrt HB
        go_wp2_with (first | (go_at_call 35; refine (right_calls x B1 d1 B2 d2 (w.heap.size + 1) m g true HRT.out _ (HM.out _) hd1 (HG1.out _) hd2 (HG2.out _)).mono ?_; rintro e w2 ⟨rfl, hb2⟩; have z0 : w2.cell? ⟨wr.heap.size, 0, none⟩ = some (.string x.f0) := (hb2.cell (p := ⟨wr.heap.size, 0, none⟩) (by simp)).trans (by go_simp); have HM2 := (HM.out _).below hb2; have HB2 := Aside0.mk (below_step (below_alloc hB _) hb2); have zc0 := (hb2.cell (World.block_lt_of_cell? _ _ (Lib.cell?_alloc_some _ hc0_))).trans (Lib.cell?_alloc_some _ hc0_); have zc1 := (hb2.cell (World.block_lt_of_cell? _ _ (Lib.cell?_alloc_some _ hc1_))).trans (Lib.cell?_alloc_some _ hc1_)) | (at_mapUpdate; refine wpList_put_i _ rfl _ _ _ 74 rfl 9 3 Try.underlying9 Try.underlying74 _ m g rfl HM2 (by unfold maxLen; omega) x.f0 1 rfl rfl hsz ?_; intro w3 hm3 hg3))
        go_roundw
        case rel =>
          have hgr := hg3.grown
          have q0 := World.block_lt_of_cell? _ _ zc0
          refine ⟨i + 1, m + 1, updI g x.f0 1, hlt, by omega, rfl, HX, hm3, HB2.out.grown hgr HB2.out.size (fun k e => by cases e; omega), ?_, ?_⟩
          · exact (hgr.cell_far ⟨w.heap.size, 0, none⟩ q0 (by simp)).trans zc0
          · exact (hgr.cell_far ⟨w.heap.size, 1, none⟩ q0 (by simp)).trans zc1
        case measure => simp [intOf]; omega
    · have hb' := hb.out
      rw [List.drop_eq_nil_of_le (by omega), planGo] at hb'
      have HX := Aside0.mk hb'
      have hn : ¬ (i : Int) < (l0.length : Int) := by omega
      have HM := Aside0.mk (fun (q : Nat) => hM.drewN q)
      have HR1w := Aside0.mk (fun (q : Nat) => Kd.C_drewN (Kd.C_below HR1.out hB) q)
      have HRR := Aside0.mk (show (if goalsR g [] l1 = true then (0 : Int) else 7) = r by have h := HR.out; rw [HX.out] at h; exact h)
      obtain ⟨wo, rfl⟩ : ∃ wo : World, wo = wr := ⟨_, rfl⟩
      clear hb hb' hM HX
      go_wp2_with fail
      go_loopw [43] (fun vi wr => ∃ (i2 q : Nat), i2 ≤ l1.length ∧ vi = .int .i64 (i2 : Int) ∧ Aside0 (goalsR g [] l1 = goalsR g (l1.take i2) (l1.drop i2)) ∧ wr = wo.drewN q) (fun vi _ => ((l1.length : Int) - intOf vi).toNat)
      case atStart => exact ⟨0, 0, Nat.zero_le _, rfl, ⟨rfl⟩, rfl⟩
      case round =>
        obtain ⟨j, q, hj, rfl, hb, rfl⟩ := hrel
        by_cases hjl : j < l1.length
        · have hw1 : IntKind.i64.wrap ((j : Int) + 1) = ((j + 1 : Nat) : Int) := by rw [IntKind.wrap_i64]; omega
          have qi : (j : Int) < (l1.length : Int) := by omega
          have pi : (0 : Int) ≤ (j : Int) := by omega
          have qic : (j : Int) ≤ (l1.length : Int) := by omega
          have qcc : (j : Int) ≤ (c1 : Int) := by omega
          have htk : (l1.take j).length = j := by rw [List.length_take]; omega
          have HC3 := Aside0.mk (fun (q3 : Nat) => by
            have h9 := Kd.C_take (HR1w.out q3) (show j ≤ l1.length by omega)
            rw [htk] at h9
            exact h9)
          obtain ⟨ad, rfl, h0⟩ := Kd.at_string (HR1w.out q) (j : Int) pi qi
          have he : rdOf ByteArray.empty l1 (j : Int) = l1[j] := by simp [rdOf, hjl]
          rw [he, Int.toNat_natCast] at h0
          clear he
          have hxs := HS.out l1[j] (List.getElem_mem hjl)
          have hb' := hb.out
          rw [List.drop_eq_getElem_cons hjl, goalsR] at hb'
          obtain ⟨x, hx⟩ : ∃ x, l1[j] = x := ⟨_, rfl⟩
          have hnext : l1.take (j + 1) = l1.take j ++ [l1[j]] := by rw [List.take_succ_eq_append_getElem hjl]
          rw [hx] at h0 hb' hxs hnext
          have hlk : ∀ q, (Instr.lookup 74 (.map (some (w.heap.size + 1))) (.string x) false).run Try.prog (wo.drewN q) = .ok (.int .i64 (g x)) (wo.drewN q) := fun q =>
            (HM.out q).look Try.underlying9 Try.underlying74 (Try.zeroValue3 _) (by unfold maxLen; omega)
          have HN := Aside0.mk hnext
          have HB := Aside0.mk hb'
          clear hb' hb hnext htk hx hxs
          by_cases hg : g x = 1
          · have eg : ((g x : Int) != 1) = false := by rw [hg]; rfl
            cases hmem : memB (l1.take j) x with
            | true =>
              have HBX := Aside0.mk (show goalsR g [] l1 = false by rw [HB.out, hmem]; simp)
              have HM2 := Aside0.mk hmem
              rw [hg] at hlk
              clear HB hmem hg eg
              go_wp2_with (go_at_call 36; refine (contains_at (some ad) c1 j _ x true HM2.out _ (HC3.out _) (by omega)).mono ?_; rintro e w' ⟨rfl, ⟨q5, rfl⟩⟩)
              go_ret
              exact ⟨by have h := HRR.out; rw [HBX.out] at h; exact congrArg (fun z => Ending.returned (Value.int .i64 z)) h, pw_below_drewN hB _⟩
            | false =>
              have HBX := Aside0.mk (show goalsR g [] l1 = goalsR g (l1.take (j + 1)) (l1.drop (j + 1)) by rw [HB.out, hmem, decide_eq_true hg, HN.out]; simp)
              have HM2 := Aside0.mk hmem
              rw [hg] at hlk
              clear HB hmem hg eg
              go_wp2_with (go_at_call 36; refine (contains_at (some ad) c1 j _ x false HM2.out _ (HC3.out _) (by omega)).mono ?_; rintro e w' ⟨rfl, ⟨q5, rfl⟩⟩)
              go_roundw
              case rel => exact ⟨j + 1, _, hjl, rfl, HBX, rfl⟩
              case measure => simp [intOf]; omega
          · have HBX := Aside0.mk (show goalsR g [] l1 = false by rw [HB.out, decide_eq_false hg]; simp)
            have eg : ((g x : Int) != 1) = true := by simpa using hg
            clear HB hg
            go_wp2_with fail
            go_ret
            exact ⟨by have h := HRR.out; rw [HBX.out] at h; exact congrArg (fun z => Ending.returned (Value.int .i64 z)) h, pw_below_drewN hB _⟩
        · have hb' := hb.out
          rw [List.drop_eq_nil_of_le (by omega), goalsR] at hb'
          have HBX := Aside0.mk hb'
          have hn2 : ¬ (j : Int) < (l1.length : Int) := by omega
          clear hb hb'
          go_wp2_with fail
          go_ret
          exact ⟨by have h := HRR.out; rw [HBX.out] at h; exact congrArg (fun z => Ending.returned (Value.int .i64 z)) h, pw_below_drewN hB _⟩
def resolve_Check.f (l0 : List S27) (l1 : List ByteArray) : Option Int := if (l1.all fun s => decide (s.size ≤ 140737488351232)) = true then some (planR l0 l1) else none
theorem resolve_Check.calls (A0_0 : Option Addr) (c0_0 : Nat) (l0_0 : List S27) (A0_1 : Option Addr) (c0_1 : Nat) (l0_1 : List ByteArray) (r : Int) (w : World) (hr0_0 : Kd.C k27 w A0_0 l0_0.length l0_0) (hc0_0 : l0_0.length ≤ c0_0) (hr0_1 : Kd.C Kd.string w A0_1 l0_1.length l0_1) (hc0_1 : l0_1.length ≤ c0_1) (h : resolve_Check.f l0_0 l0_1 = some r) :
    Calls Try.prog 29 #[.agg #[.slice A0_0 l0_0.length c0_0, .slice A0_1 l0_1.length c0_1]] w fun e w' => e = .returned (.int .i64 r) ∧ Below w.heap.size w w' := by
  unfold resolve_Check.f at h
  split at h
  · rename_i hs
    obtain rfl := Option.some.inj h
    have hs' : ∀ s ∈ l0_1, s.size ≤ 140737488351232 := fun s hm => by
      have := List.all_eq_true.1 hs s hm
      exact of_decide_eq_true this
    by_cases h1 : 256 < l0_0.length
    · rw [show planR l0_0 l0_1 = 7 by unfold planR; rw [if_pos h1]]
      exact check_long A0_0 c0_0 l0_0 A0_1 c0_1 l0_1 w (.inl h1)
    · by_cases h2 : l0_1.length < 1
      · rw [show planR l0_0 l0_1 = 7 by unfold planR; rw [if_neg h1, if_pos h2]]
        exact check_long A0_0 c0_0 l0_0 A0_1 c0_1 l0_1 w (.inr (.inl h2))
      · by_cases h3 : 512 < l0_1.length
        · rw [show planR l0_0 l0_1 = 7 by unfold planR; rw [if_neg h1, if_neg h2, if_pos h3]]
          exact check_long A0_0 c0_0 l0_0 A0_1 c0_1 l0_1 w (.inr (.inr h3))
        · exact check_short A0_0 c0_0 l0_0 A0_1 c0_1 l0_1 w h1 h2 h3 hr0_0 hc0_0 hr0_1 hc0_1 hs' _ rfl
  · cases h

/-! ### modes_alone: function 18 -/
def modes_alone.l0 : Nat → List ByteArray → Int → Int → ByteArray → List ByteArray → List ByteArray → Bool → ByteArray → ByteArray → Bool → Bool → Bool → Bool → List (S27) → List ByteArray → Option (Int)
  | 0, _, _, _, _, _, _, _, _, _, _, _, _, _, _, _ => none
  | k + 1, x11, x12, x13, x152000, x152001, x152002, x152003, x152004, x152005, x152006, x152007, x152008, x152009, x156000, x156001 => if x13 < x12 then (if 0 ≤ x13 then (if x13 < (x11.length : Int) then (if x156000.length < 1256584717458 then (modes_alone.l0 k x11 x12 (wrap64 (x13 + 1)) x152000 x152001 x152002 x152003 x152004 x152005 x152006 x152007 x152008 x152009 (x156000 ++ [(⟨rdOf ByteArray.empty x11 x13, ([] : List ByteArray), ([] : List ByteArray), false, (⟨#[]⟩ : ByteArray), (⟨#[]⟩ : ByteArray), false, false, false, false⟩ : S27)]) x156001) else (none)) else (none)) else (none)) else (if x156000.length < 1256584717458 then ((resolve_Check.f (x156000 ++ [(⟨x152000, x152001, x152002, x152003, x152004, x152005, x152006, x152007, x152008, x152009⟩ : S27)]) x156001).bind fun t163 => (some t163)) else (none))
def modes_alone.f (k : Nat) (a0_0 : ByteArray) (l0_1 : List ByteArray) (l0_2 : List ByteArray) (a0_3 : Bool) (a0_4 : ByteArray) (a0_5 : ByteArray) (a0_6 : Bool) (a0_7 : Bool) (a0_8 : Bool) (a0_9 : Bool) : Option (Int) := modes_alone.l0 k l0_1 (l0_1.length : Int) 0 a0_0 l0_1 l0_2 a0_3 a0_4 a0_5 a0_6 a0_7 a0_8 a0_9 ([] : List (S27)) (([a0_0] : List ByteArray))
theorem modes_alone.mono_l : ∀ k, (∀ y0 y1 y2 y3 y4 y5 y6 y7 y8 y9 y10 y11 y12 y13 y14, LeO (modes_alone.l0 k y0 y1 y2 y3 y4 y5 y6 y7 y8 y9 y10 y11 y12 y13 y14) (modes_alone.l0 (k + 1) y0 y1 y2 y3 y4 y5 y6 y7 y8 y9 y10 y11 y12 y13 y14))
  | 0 => fun _ _ _ _ _ _ _ _ _ _ _ _ _ _ _ r h => by simp [modes_alone.l0] at h
  | k + 1 => by
    have ih0 := modes_alone.mono_l k
    · intro y0 y1 y2 y3 y4 y5 y6 y7 y8 y9 y10 y11 y12 y13 y14
      unfold modes_alone.l0
      repeat' first
      | (with_reducible exact ih0 _ _ _ _ _ _ _ _ _ _ _ _ _ _ _)
      | (with_reducible exact LeO.refl _)
      | (with_reducible exact LeO.none _)
      | (with_reducible refine LeO.ite ?_ ?_)
      | (with_reducible refine LeO.bind ?_ (fun _ => ?_))
      | exact ih0 _ _ _ _ _ _ _ _ _ _ _ _ _ _ _
      | exact LeO.none _
      | refine LeO.ite ?_ ?_
      | refine LeO.bind ?_ (fun _ => ?_)
theorem modes_alone.mono : ∀ a0 a1 a2 a3 a4 a5 a6 a7 a8 a9 k, LeO (modes_alone.f k a0 a1 a2 a3 a4 a5 a6 a7 a8 a9) (modes_alone.f (k + 1) a0 a1 a2 a3 a4 a5 a6 a7 a8 a9) := by
  intro a0 a1 a2 a3 a4 a5 a6 a7 a8 a9 k
  have ih0 := modes_alone.mono_l k
  unfold modes_alone.f
  repeat' first
      | (with_reducible exact ih0 _ _ _ _ _ _ _ _ _ _ _ _ _ _ _)
      | (with_reducible exact LeO.refl _)
      | (with_reducible exact LeO.none _)
      | (with_reducible refine LeO.ite ?_ ?_)
      | (with_reducible refine LeO.bind ?_ (fun _ => ?_))
      | exact ih0 _ _ _ _ _ _ _ _ _ _ _ _ _ _ _
      | exact LeO.none _
      | refine LeO.ite ?_ ?_
      | refine LeO.bind ?_ (fun _ => ?_)
set_option maxHeartbeats 8000000 in
set_option maxRecDepth 100000 in
theorem modes_alone.calls (k : Nat) (a0_0 : ByteArray) (P0_1_ : Nat → Prop) (A0_1 : Option Addr) (c0_1 : Nat) (l0_1 : List ByteArray) (P0_2_ : Nat → Prop) (A0_2 : Option Addr) (c0_2 : Nat) (l0_2 : List ByteArray) (a0_3 : Bool) (a0_4 : ByteArray) (a0_5 : ByteArray) (a0_6 : Bool) (a0_7 : Bool) (a0_8 : Bool) (a0_9 : Bool) (r : Int) (w : World) (hs0_1 : Kd.V Kd.string 9 w w.heap.size (fun k_ => P0_1_ k_) (.slice A0_1 l0_1.length c0_1) l0_1) (hs0_2 : Kd.V Kd.string 9 w w.heap.size (fun k_ => P0_2_ k_) (.slice A0_2 l0_2.length c0_2) l0_2) (h : modes_alone.f k a0_0 l0_1 l0_2 a0_3 a0_4 a0_5 a0_6 a0_7 a0_8 a0_9 = some r) :
    Calls Try.prog 18 #[.agg #[.string a0_0, .slice A0_1 l0_1.length c0_1, .slice A0_2 l0_2.length c0_2, .bool a0_3, .string a0_4, .string a0_5, .bool a0_6, .bool a0_7, .bool a0_8, .bool a0_9]] w fun e w' => e = .returned (.int .i64 r) ∧ Below w.heap.size w w' := by
  have hu27 := Try.underlying27
  have hu69 := Try.underlying69
  have HO0_1 := Aside0.mk (show Kd.V Kd.string 9 w w.heap.size (fun k_ => ((P0_1_ k_ ∨ P0_2_ k_) ∨ w.heap.size ≤ k_)) (.slice A0_1 l0_1.length c0_1) l0_1 from Kd.V_mono hs0_1 (fun k_ hk => .inl (.inl hk)))
  have HO0_2 := Aside0.mk (show Kd.V Kd.string 9 w w.heap.size (fun k_ => ((P0_1_ k_ ∨ P0_2_ k_) ∨ w.heap.size ≤ k_)) (.slice A0_2 l0_2.length c0_2) l0_2 from Kd.V_mono hs0_2 (fun k_ hk => .inl (.inr hk)))
  have HB := Aside0.mk (Below.refl w.heap.size w)
  have H : (modes_alone.l0 k l0_1 (l0_1.length : Int) 0 a0_0 l0_1 l0_2 a0_3 a0_4 a0_5 a0_6 a0_7 a0_8 a0_9 ([] : List (S27)) (([a0_0] : List ByteArray))) = some r := h
  clear h
  obtain ⟨y152, hy152⟩ : ∃ y_ : List ByteArray, y_ = (([a0_0] : List ByteArray)) := ⟨_, rfl⟩
  replace H : (modes_alone.l0 k l0_1 (l0_1.length : Int) 0 a0_0 l0_1 l0_2 a0_3 a0_4 a0_5 a0_6 a0_7 a0_8 a0_9 ([] : List (S27)) y152) = some r := by first | (rw [hy152]; with_reducible exact H) | (have H2_ := (Option.bind_some _ _).symm.trans H; rw [hy152]; with_reducible exact H2_) | (have H2_ := (Option.bind_some _ _).symm.trans H; with_reducible exact H2_) | with_reducible exact H | (rw [hy152]; exact H) | exact H
  have Ny152 := Aside0.mk hy152
  clear hy152
  have H' := Aside0.mk H
  clear H
  go_enter Try.func18, Try.ntmps18
  go_wp2_with (first | ((with_reducible refine gate_dst (N := 1) rfl ?_); refine box_event ?hg (N := 1) ?hd (cs := #[.string a0_0, .slice A0_1 l0_1.length c0_1, .slice A0_2 l0_2.length c0_2, .bool a0_3, .string a0_4, .string a0_5, .bool a0_6, .bool a0_7, .bool a0_8, .bool a0_9]) (t := 27) ?hr ?_; (case hd => rfl); (case hg => rfl); (case hr => first | (go_simp; done) | (go_simp; rfl)); intro gb151 hg w2 hbox hb; have n0_ := Aside0.mk (Kd.V_below (Kd.V_elderB (by (with_reducible repeat (first | apply Kd.V_alloc | apply Kd.V_drewN | apply Kd.V_drew)); exact HO0_1.out) gb151 (Nat.le_of_eq hg.symm)) hb); have n1_ := Aside0.mk (Kd.V_below (Kd.V_elderB (by (with_reducible repeat (first | apply Kd.V_alloc | apply Kd.V_drewN | apply Kd.V_drew)); exact HO0_2.out) gb151 (Nat.le_of_eq hg.symm)) hb); have n2_ := Aside0.mk (below_step (by repeat (first | (with_reducible first | exact HB.out | apply below_alloc | apply pw_below_drewN | apply below_drew1) | exact HB.out)) hb); have n3_ := Aside0.mk (hbox); have n4_ := Aside0.mk ((by rw [hg]; exact (below_size (by repeat (first | (with_reducible first | exact HB.out | apply below_alloc | apply pw_below_drewN | apply below_drew1) | exact HB.out))) : w.heap.size ≤ gb151)); have n5_ := Aside0.mk ((by rw [hg]; exact (below_size (by repeat (first | (with_reducible first | exact HB.out | apply below_alloc | apply pw_below_drewN | apply below_drew1) | exact HB.out))) : w.heap.size ≤ gb151)); clear HO0_1; clear HO0_2; clear HB; have HO0_1 := n0_; have HO0_2 := n1_; have HB := n2_; have BK151 := n3_; have GW151 := n4_; have GE151 := n5_; clear n0_ n1_ n2_ n3_ n4_ n5_; clear hb hbox hg; have hcz3_0 : w2.cell? ⟨gb151, 0, none⟩ = some (.string a0_0) := (blk_cell BK151.out 0).trans rfl; have hcz3_1 : w2.cell? ⟨gb151, 1, none⟩ = some (.slice A0_1 l0_1.length c0_1) := (blk_cell BK151.out 1).trans rfl; have hcz3_2 : w2.cell? ⟨gb151, 2, none⟩ = some (.slice A0_2 l0_2.length c0_2) := (blk_cell BK151.out 2).trans rfl; have hcz3_3 : w2.cell? ⟨gb151, 3, none⟩ = some (.bool a0_3) := (blk_cell BK151.out 3).trans rfl; have hcz3_4 : w2.cell? ⟨gb151, 4, none⟩ = some (.string a0_4) := (blk_cell BK151.out 4).trans rfl; have hcz3_5 : w2.cell? ⟨gb151, 5, none⟩ = some (.string a0_5) := (blk_cell BK151.out 5).trans rfl; have hcz3_6 : w2.cell? ⟨gb151, 6, none⟩ = some (.bool a0_6) := (blk_cell BK151.out 6).trans rfl; have hcz3_7 : w2.cell? ⟨gb151, 7, none⟩ = some (.bool a0_7) := (blk_cell BK151.out 7).trans rfl; have hcz3_8 : w2.cell? ⟨gb151, 8, none⟩ = some (.bool a0_8) := (blk_cell BK151.out 8).trans rfl; have hcz3_9 : w2.cell? ⟨gb151, 9, none⟩ = some (.bool a0_9) := (blk_cell BK151.out 9).trans rfl; have hfz3_0 := blk_frozen BK151.out 0; have hfz3_1 := blk_frozen BK151.out 1; have hfz3_2 := blk_frozen BK151.out 2; have hfz3_3 := blk_frozen BK151.out 3; have hfz3_4 := blk_frozen BK151.out 4; have hfz3_5 := blk_frozen BK151.out 5; have hfz3_6 := blk_frozen BK151.out 6; have hfz3_7 := blk_frozen BK151.out 7; have hfz3_8 := blk_frozen BK151.out 8; have hfz3_9 := blk_frozen BK151.out 9) | ((with_reducible refine gate_dst (N := 8) rfl ?_); refine Kd.R_lit Kd.string _ 9 ?hg (N := 8) ?hd (xs := ([a0_0] : List ByteArray)) (inner := [.string a0_0]) (ok := fun _ => True) (okp := fun _ => True) ?hr ?hp (fun _ hk => hk) trivial (Below.refl _ _) (Nat.le_refl _) (by simp) ?_; (case hd => rfl); (case hg => rfl); (case hr => first | (go_simp; done) | (go_simp; rfl)); (case hp => exact (Reps.one (show Kd.M Kd.string _ _ _ a0_0 [.string a0_0] from rfl) (Reps.none _ _))); intro v153 w4 ho5 hb hg_ hnew_; clear hg_ hnew_; (first | rw [← Ny152.out] at ho5 | (simp only [Int.reduceToNat] at ho5; rw [← Ny152.out] at ho5)); have n0_ := Aside0.mk (Kd.V_elder' (by (with_reducible repeat (first | apply Kd.V_alloc | apply Kd.V_drewN | apply Kd.V_drew)); exact HO0_1.out) (Kd.R_base ho5) hb); have n1_ := Aside0.mk (Kd.V_elder' (by (with_reducible repeat (first | apply Kd.V_alloc | apply Kd.V_drewN | apply Kd.V_drew)); exact HO0_2.out) (Kd.R_base ho5) hb); have n2_ := Aside0.mk (Kd.R_lower (Kd.R_newM (M := fun k_ => (w.heap.size ≤ k_)) ho5 (below_size (by repeat (first | (with_reducible first | exact HB.out | apply below_alloc | apply pw_below_drewN | apply below_drew1 | refine below_set ?_ GE151.out) | exact HB.out))) (fun k_ h_ => h_)) (below_size (by repeat (first | (with_reducible first | exact HB.out | apply below_alloc | apply pw_below_drewN | apply below_drew1 | refine below_set ?_ GE151.out) | exact HB.out)))); have n3_ := Aside0.mk (blk_below (g := gb151) (o := .cells #[.string a0_0, .slice A0_1 l0_1.length c0_1, .slice A0_2 l0_2.length c0_2, .bool a0_3, .string a0_4, .string a0_5, .bool a0_6, .bool a0_7, .bool a0_8, .bool a0_9] 27 (0, 0)) (by (with_reducible repeat (first | refine blk_drewN ?_ _ | refine blk_drew ?_ | refine blk_alloc ?_ _)); exact BK151.out) hb); have n4_ := Aside0.mk (below_step (by repeat (first | (with_reducible first | exact HB.out | apply below_alloc | apply pw_below_drewN | apply below_drew1 | refine below_set ?_ GE151.out) | exact HB.out)) hb); clear HO0_1; clear HO0_2; clear BK151; clear HB; have HO0_1 := n0_; have HO0_2 := n1_; have HO154 := n2_; have BK151 := n3_; have HB := n4_; clear n0_ n1_ n2_ n3_ n4_; clear hb ho5; obtain ⟨Ao6, co6, eo6⟩ := Kd.R_slice HO154.out; subst eo6) | ((with_reducible refine gate_dst (N := 3) rfl ?_); refine box_event ?hg (N := 3) ?hd (cs := #[.slice none 0 0, .slice none 0 0]) (t := 69) ?hr ?_; (case hd => rfl); (case hg => rfl); (case hr => first | (go_simp; done) | (go_simp; rfl)); intro gb155 hg w7 hbox hb; have n0_ := Aside0.mk (Kd.V_below (Kd.V_elderB (by (with_reducible repeat (first | apply Kd.V_alloc | apply Kd.V_drewN | apply Kd.V_drew)); exact HO0_1.out) gb155 (Nat.le_of_eq hg.symm)) hb); have n1_ := Aside0.mk (Kd.V_below (Kd.V_elderB (by (with_reducible repeat (first | apply Kd.V_alloc | apply Kd.V_drewN | apply Kd.V_drew)); exact HO0_2.out) gb155 (Nat.le_of_eq hg.symm)) hb); have n2_ := Aside0.mk (Kd.R_below (by (with_reducible repeat (first | apply Kd.R_alloc | apply Kd.R_drewN | apply Kd.R_drew)); exact HO154.out) hb); have n3_ := Aside0.mk (blk_below (g := gb151) (o := .cells #[.string a0_0, .slice A0_1 l0_1.length c0_1, .slice A0_2 l0_2.length c0_2, .bool a0_3, .string a0_4, .string a0_5, .bool a0_6, .bool a0_7, .bool a0_8, .bool a0_9] 27 (0, 0)) (by (with_reducible repeat (first | refine blk_drewN ?_ _ | refine blk_drew ?_ | refine blk_alloc ?_ _)); exact BK151.out) hb); have n4_ := Aside0.mk (below_step (by repeat (first | (with_reducible first | exact HB.out | apply below_alloc | apply pw_below_drewN | apply below_drew1 | refine below_set ?_ GE151.out) | exact HB.out)) hb); have n5_ := Aside0.mk (hbox); have n6_ := Aside0.mk ((by rw [hg]; exact (below_size (by repeat (first | (with_reducible first | exact HB.out | apply below_alloc | apply pw_below_drewN | apply below_drew1 | refine below_set ?_ GE151.out) | exact HB.out))) : w.heap.size ≤ gb155)); have n7_ := Aside0.mk ((by rw [hg]; exact (below_size (by repeat (first | (with_reducible first | exact HB.out | apply below_alloc | apply pw_below_drewN | apply below_drew1 | refine below_set ?_ GE151.out) | exact HB.out))) : w.heap.size ≤ gb155)); have n8_ := Aside0.mk ((by rw [hg]; exact Nat.ne_of_lt (blk_lt (g := gb151) (o := .cells #[.string a0_0, .slice A0_1 l0_1.length c0_1, .slice A0_2 l0_2.length c0_2, .bool a0_3, .string a0_4, .string a0_5, .bool a0_6, .bool a0_7, .bool a0_8, .bool a0_9] 27 (0, 0)) (by (with_reducible repeat (first | refine blk_drewN ?_ _ | refine blk_drew ?_ | refine blk_alloc ?_ _)); exact BK151.out)) : gb151 ≠ gb155)); have n9_ := Aside0.mk ((by rw [hg]; exact Nat.ne_of_gt (blk_lt (g := gb151) (o := .cells #[.string a0_0, .slice A0_1 l0_1.length c0_1, .slice A0_2 l0_2.length c0_2, .bool a0_3, .string a0_4, .string a0_5, .bool a0_6, .bool a0_7, .bool a0_8, .bool a0_9] 27 (0, 0)) (by (with_reducible repeat (first | refine blk_drewN ?_ _ | refine blk_drew ?_ | refine blk_alloc ?_ _)); exact BK151.out)) : gb155 ≠ gb151)); clear HO0_1; clear HO0_2; clear HO154; clear BK151; clear HB; have HO0_1 := n0_; have HO0_2 := n1_; have HO154 := n2_; have BK151 := n3_; have HB := n4_; have BK155 := n5_; have GW155 := n6_; have GE155 := n7_; have NB151_155 := n8_; have NB155_151 := n9_; clear n0_ n1_ n2_ n3_ n4_ n5_ n6_ n7_ n8_ n9_; clear hb hbox hg; have hnb8 := NB155_151.out; have hnc8 := NB151_155.out; have hcz9_0 : w7.cell? ⟨gb155, 0, none⟩ = some (.slice none 0 0) := (blk_cell BK155.out 0).trans rfl; have hcz9_1 : w7.cell? ⟨gb155, 1, none⟩ = some (.slice none 0 0) := (blk_cell BK155.out 1).trans rfl; have hfz9_0 := blk_frozen BK155.out 0; have hfz9_1 := blk_frozen BK155.out 1; have hcz10_0 : w7.cell? ⟨gb151, 0, none⟩ = some (.string a0_0) := (blk_cell BK151.out 0).trans rfl; have hcz10_1 : w7.cell? ⟨gb151, 1, none⟩ = some (.slice A0_1 l0_1.length c0_1) := (blk_cell BK151.out 1).trans rfl; have hcz10_2 : w7.cell? ⟨gb151, 2, none⟩ = some (.slice A0_2 l0_2.length c0_2) := (blk_cell BK151.out 2).trans rfl; have hcz10_3 : w7.cell? ⟨gb151, 3, none⟩ = some (.bool a0_3) := (blk_cell BK151.out 3).trans rfl; have hcz10_4 : w7.cell? ⟨gb151, 4, none⟩ = some (.string a0_4) := (blk_cell BK151.out 4).trans rfl; have hcz10_5 : w7.cell? ⟨gb151, 5, none⟩ = some (.string a0_5) := (blk_cell BK151.out 5).trans rfl; have hcz10_6 : w7.cell? ⟨gb151, 6, none⟩ = some (.bool a0_6) := (blk_cell BK151.out 6).trans rfl; have hcz10_7 : w7.cell? ⟨gb151, 7, none⟩ = some (.bool a0_7) := (blk_cell BK151.out 7).trans rfl; have hcz10_8 : w7.cell? ⟨gb151, 8, none⟩ = some (.bool a0_8) := (blk_cell BK151.out 8).trans rfl; have hcz10_9 : w7.cell? ⟨gb151, 9, none⟩ = some (.bool a0_9) := (blk_cell BK151.out 9).trans rfl; have hfz10_0 := blk_frozen BK151.out 0; have hfz10_1 := blk_frozen BK151.out 1; have hfz10_2 := blk_frozen BK151.out 2; have hfz10_3 := blk_frozen BK151.out 3; have hfz10_4 := blk_frozen BK151.out 4; have hfz10_5 := blk_frozen BK151.out 5; have hfz10_6 := blk_frozen BK151.out 6; have hfz10_7 := blk_frozen BK151.out 7; have hfz10_8 := blk_frozen BK151.out 8; have hfz10_9 := blk_frozen BK151.out 9))
  go_loopg [13] k (fun kq v13 w' => ∃ (x13_1 : Int) (x156000_1 : List (S27)) (u156000 : Value), v13 = .int .i64 x13_1 ∧ Aside0 (modes_alone.l0 kq l0_1 (l0_1.length : Int) x13_1 a0_0 l0_1 l0_2 a0_3 a0_4 a0_5 a0_6 a0_7 a0_8 a0_9 x156000_1 y152 = some r) ∧ Aside0 (kq ≤ k) ∧ Aside0 (Kd.V Kd.string 9 w' w.heap.size (fun k_ => ((P0_1_ k_ ∨ P0_2_ k_) ∨ w.heap.size ≤ k_) ∧ some k_ ≠ (u156000 : Value).ownBlock ∧ some k_ ≠ ((.slice Ao6 y152.length co6) : Value).ownBlock ∧ k_ ≠ gb151 ∧ k_ ≠ gb155) (.slice A0_1 l0_1.length c0_1) l0_1) ∧ Aside0 (Kd.V Kd.string 9 w' w.heap.size (fun k_ => ((P0_1_ k_ ∨ P0_2_ k_) ∨ w.heap.size ≤ k_) ∧ some k_ ≠ (u156000 : Value).ownBlock ∧ some k_ ≠ ((.slice Ao6 y152.length co6) : Value).ownBlock ∧ k_ ≠ gb151 ∧ k_ ≠ gb155) (.slice A0_1 l0_1.length c0_1) l0_1) ∧ Aside0 (Kd.V Kd.string 9 w' w.heap.size (fun k_ => ((P0_1_ k_ ∨ P0_2_ k_) ∨ w.heap.size ≤ k_) ∧ some k_ ≠ (u156000 : Value).ownBlock ∧ some k_ ≠ ((.slice Ao6 y152.length co6) : Value).ownBlock ∧ k_ ≠ gb151 ∧ k_ ≠ gb155) (.slice A0_2 l0_2.length c0_2) l0_2) ∧ Aside0 (Kd.N k27 27 w' w.heap.size (fun k_ => ((P0_1_ k_ ∨ P0_2_ k_) ∨ w.heap.size ≤ k_) ∧ some k_ ≠ ((.slice Ao6 y152.length co6) : Value).ownBlock ∧ k_ ≠ gb151 ∧ k_ ≠ gb155) u156000 x156000_1) ∧ Aside0 (Kd.R Kd.string 9 w' w.heap.size (fun k_ => (w.heap.size ≤ k_)) (.slice Ao6 y152.length co6) y152) ∧ Aside0 (w'.heap[gb151]? = some (.cells #[.string a0_0, (.slice A0_1 l0_1.length c0_1), (.slice A0_2 l0_2.length c0_2), .bool a0_3, .string a0_4, .string a0_5, .bool a0_6, .bool a0_7, .bool a0_8, .bool a0_9] 27 (0, 0))) ∧ Aside0 (w'.heap[gb155]? = some (.cells #[u156000, (.slice Ao6 y152.length co6)] 69 (0, 0))) ∧ Aside0 (Below w.heap.size w w'))
  case atStart => exact ⟨(0), (([] : List (S27))), (.slice none 0 0), (by first | rfl | (simp; done) | (simp [*]; done)), H', ⟨Nat.le_refl _⟩, ⟨by (with_reducible repeat (first | apply Kd.V_alloc | apply Kd.V_drewN | apply Kd.V_drew)); exact Kd.V_mono (Kd.V_far (p := ⟨gb155, 1, none⟩) (Kd.V_far (p := ⟨gb155, 0, none⟩) (Kd.V_mono HO0_1.out (fun k_ hk => (⟨hk, hk.2⟩ : _ ∧ k_ ≠ gb155))) (fun _ hk => hk.2) (.slice none 0 0)) (fun _ hk => hk.2) (.slice Ao6 y152.length co6)) (fun _ hk => ⟨hk.1.1.1.1, ⟨(by simp [Value.ownBlock]), ⟨hk.1.1.2, ⟨hk.1.1.1.2, hk.1.2⟩⟩⟩⟩)⟩, ⟨by (with_reducible repeat (first | apply Kd.V_alloc | apply Kd.V_drewN | apply Kd.V_drew)); exact Kd.V_mono (Kd.V_far (p := ⟨gb155, 1, none⟩) (Kd.V_far (p := ⟨gb155, 0, none⟩) (Kd.V_mono HO0_1.out (fun k_ hk => (⟨hk, hk.2⟩ : _ ∧ k_ ≠ gb155))) (fun _ hk => hk.2) (.slice none 0 0)) (fun _ hk => hk.2) (.slice Ao6 y152.length co6)) (fun _ hk => ⟨hk.1.1.1.1, ⟨(by simp [Value.ownBlock]), ⟨hk.1.1.2, ⟨hk.1.1.1.2, hk.1.2⟩⟩⟩⟩)⟩, ⟨by (with_reducible repeat (first | apply Kd.V_alloc | apply Kd.V_drewN | apply Kd.V_drew)); exact Kd.V_mono (Kd.V_far (p := ⟨gb155, 1, none⟩) (Kd.V_far (p := ⟨gb155, 0, none⟩) (Kd.V_mono HO0_2.out (fun k_ hk => (⟨hk, hk.2⟩ : _ ∧ k_ ≠ gb155))) (fun _ hk => hk.2) (.slice none 0 0)) (fun _ hk => hk.2) (.slice Ao6 y152.length co6)) (fun _ hk => ⟨hk.1.1.1.1, ⟨(by simp [Value.ownBlock]), ⟨hk.1.1.2, ⟨hk.1.1.1.2, hk.1.2⟩⟩⟩⟩)⟩, ⟨by first | exact Kd.S_nil _ _ _ _ _ | exact Kd.N_nil _ _ _ _ _ | exact Kd.V_nil _ _ _ _ _ | exact Kd.Q_nil _ _ _ _ _ | exact Kd.R_nil _ _ _ _ _⟩, ⟨by (with_reducible repeat (first | apply Kd.R_alloc | apply Kd.R_drewN | apply Kd.R_drew)); exact Kd.R_mono (Kd.R_far (p := ⟨gb155, 1, none⟩) (Kd.R_far (p := ⟨gb155, 0, none⟩) (Kd.R_types HO154.out BK155.out (by decide)) (fun _ hk => hk.2) (.slice none 0 0)) (fun _ hk => hk.2) (.slice Ao6 y152.length co6)) (fun _ hk => hk.1.1)⟩, ⟨by (with_reducible repeat (first | refine blk_drewN ?_ _ | refine blk_drew ?_ | refine blk_alloc ?_ _)); refine blk_far ?_ NB151_155.out _; (with_reducible repeat (first | refine blk_drewN ?_ _ | refine blk_drew ?_ | refine blk_alloc ?_ _)); refine blk_far ?_ NB151_155.out _; (with_reducible repeat (first | refine blk_drewN ?_ _ | refine blk_drew ?_ | refine blk_alloc ?_ _)); exact BK151.out⟩, ⟨by (with_reducible repeat (first | refine blk_drewN ?_ _ | refine blk_drew ?_ | refine blk_alloc ?_ _)); refine blk_put (cs := #[.slice none 0 0, .slice none 0 0]) ?_ 1 _ rfl; (with_reducible repeat (first | refine blk_drewN ?_ _ | refine blk_drew ?_ | refine blk_alloc ?_ _)); refine blk_put (cs := #[.slice none 0 0, .slice none 0 0]) ?_ 0 _ rfl; (with_reducible repeat (first | refine blk_drewN ?_ _ | refine blk_drew ?_ | refine blk_alloc ?_ _)); exact BK155.out⟩, ⟨by repeat (first | (with_reducible first | exact HB.out | apply below_alloc | apply pw_below_drewN | apply below_drew1 | refine below_set ?_ GE151.out | refine below_set ?_ GE155.out) | exact HB.out)⟩⟩
  case round =>
    clear H'
    try clear c1
    try clear p2
    try clear c8
    try clear hcz10_0
    try clear hcz10_1
    try clear hcz10_2
    try clear hcz10_3
    try clear hcz10_4
    try clear hcz10_5
    try clear hcz10_6
    try clear hcz10_7
    try clear hcz10_8
    try clear hcz10_9
    try clear hcz3_0
    try clear hcz3_1
    try clear hcz3_2
    try clear hcz3_3
    try clear hcz3_4
    try clear hcz3_5
    try clear hcz3_6
    try clear hcz3_7
    try clear hcz3_8
    try clear hcz3_9
    try clear hcz9_0
    try clear hcz9_1
    try clear hfz10_0
    try clear hfz10_1
    try clear hfz10_2
    try clear hfz10_3
    try clear hfz10_4
    try clear hfz10_5
    try clear hfz10_6
    try clear hfz10_7
    try clear hfz10_8
    try clear hfz10_9
    try clear hfz3_0
    try clear hfz3_1
    try clear hfz3_2
    try clear hfz3_3
    try clear hfz3_4
    try clear hfz3_5
    try clear hfz3_6
    try clear hfz3_7
    try clear hfz3_8
    try clear hfz3_9
    try clear hfz9_0
    try clear hfz9_1
    obtain ⟨x13_1, x156000_1, u156000, rfl, HA, HK1, HO_11, HO_152001, HO_152002, HO_156000, HO_156001, BK151, BK155, HB⟩ := hrel
    cases gk with
    | zero => exact absurd HA.out (by simp [modes_alone.l0])
    | succ k1 =>
      have H := HA.out
      clear HA
      simp only [modes_alone.l0] at H
      by_cases c11 : x13_1 < (l0_1.length : Int)
      · rw [if_pos c11] at H
        have c11b0 : decide (x13_1 < (l0_1.length : Int)) = true := decide_eq_true c11
        clear c11
        by_cases c12 : 0 ≤ x13_1
        · rw [if_pos c12] at H
          have c12b0 : decide (0 ≤ x13_1) = true := decide_eq_true c12
          clear c12
          by_cases c13 : x13_1 < (l0_1.length : Int)
          · rw [if_pos c13] at H
            have c13b0 : decide (x13_1 < (l0_1.length : Int)) = true := decide_eq_true c13
            clear c13
            by_cases c14 : x156000_1.length < 1256584717458
            · rw [if_pos c14] at H
              have LMc14 := Aside0.mk c14
              clear c14
              obtain ⟨y157, hy157⟩ : ∃ y_ : List (S27), y_ = (x156000_1 ++ [(⟨rdOf ByteArray.empty l0_1 x13_1, ([] : List ByteArray), ([] : List ByteArray), false, (⟨#[]⟩ : ByteArray), (⟨#[]⟩ : ByteArray), false, false, false, false⟩ : S27)]) := ⟨_, rfl⟩
              replace H : (modes_alone.l0 k1 l0_1 (l0_1.length : Int) (wrap64 (x13_1 + 1)) a0_0 l0_1 l0_2 a0_3 a0_4 a0_5 a0_6 a0_7 a0_8 a0_9 y157 y152) = some r := by first | (rw [hy157]; with_reducible exact H) | (have H2_ := (Option.bind_some _ _).symm.trans H; rw [hy157]; with_reducible exact H2_) | (have H2_ := (Option.bind_some _ _).symm.trans H; with_reducible exact H2_) | with_reducible exact H | (rw [hy157]; exact H) | exact H
              have Ny157 := Aside0.mk hy157
              clear hy157
              have H' := Aside0.mk H
              clear H
              have p156 : 0 ≤ (x13_1 : Int) := of_decide_eq_true (by first | (with_reducible assumption) | assumption)
              have q156 : x13_1 < (l0_1.length : Int) := of_decide_eq_true (by first | (with_reducible assumption) | assumption)
              obtain ⟨ad156, e156, hx156_0⟩ := Kd.at_string (Kd.V_reads' HO_11.out).2.2 x13_1 p156 q156
              cases e156
              replace p156 := eq_true p156
              replace q156 := eq_true q156
              have hnb15 := NB155_151.out
              have hnc15 := NB151_155.out
              have hcz16_0 : wr.cell? ⟨gb155, 0, none⟩ = some (u156000) := (blk_cell BK155.out 0).trans rfl
              have hcz16_1 : wr.cell? ⟨gb155, 1, none⟩ = some (.slice Ao6 y152.length co6) := (blk_cell BK155.out 1).trans rfl
              have hfz16_0 := blk_frozen BK155.out 0
              have hfz16_1 := blk_frozen BK155.out 1
              go_wp2_with (first | ((with_reducible refine gate_builtin (b := .append) (xs := #[.tmp 18, .tmp 21]) rfl ?_); at_builtin; refine Kd.N_append k27 (w0 := w) w.heap.size rfl (.tmp 18) (.tmp 21) 67 27 (.agg #[(.string ⟨#[]⟩), (.slice none 0 0), (.slice none 0 0), (.bool false), (.string ⟨#[]⟩), (.string ⟨#[]⟩), (.bool false), (.bool false), (.bool false), (.bool false)]) 112 rfl Try.underlying67 info27 rfl (by decide) (by omega) u156000 x156000_1 (⟨rdOf ByteArray.empty l0_1 x13_1, ([] : List ByteArray), ([] : List ByteArray), false, (⟨#[]⟩ : ByteArray), (⟨#[]⟩ : ByteArray), false, false, false, false⟩ : S27) [.string (rdOf ByteArray.empty l0_1 x13_1), .slice none 0 0, .slice none 0 0, .bool false, .string (⟨#[]⟩ : ByteArray), .string (⟨#[]⟩ : ByteArray), .bool false, .bool false, .bool false, .bool false] (fun k_ => ((P0_1_ k_ ∨ P0_2_ k_) ∨ w.heap.size ≤ k_) ∧ some k_ ≠ (.slice Ao6 y152.length co6 : Value).ownBlock ∧ k_ ≠ gb151 ∧ k_ ≠ gb155) (fun k_ => ((fun k_ => ((P0_1_ k_ ∨ P0_2_ k_) ∨ w.heap.size ≤ k_) ∧ some k_ ≠ (.slice Ao6 y152.length co6 : Value).ownBlock ∧ k_ ≠ gb151 ∧ k_ ≠ gb155)) k_ ∧ some k_ ≠ (u156000 : Value).ownBlock) rfl rfl ?aP (fun _ hk => hk) ?aF ?aO ?aB ?aS ?aL ?_; (case aP => exact (k27_mkF _ _ (⟨rdOf ByteArray.empty l0_1 x13_1, ([] : List ByteArray), ([] : List ByteArray), false, (⟨#[]⟩ : ByteArray), (⟨#[]⟩ : ByteArray), false, false, false, false⟩ : S27) (Nat.le_refl _) (Kd.F_nil _ _ _) (Nat.le_refl _) (Kd.F_nil _ _ _))); (case aB => exact (by repeat (first | (with_reducible first | exact HB.out | apply below_alloc | apply pw_below_drewN | apply below_drew1 | refine below_set ?_ GE151.out | refine below_set ?_ GE155.out) | exact HB.out))); (case aF => exact (fun k_ hk => ⟨(.inr (Nat.le_trans (below_size (by repeat (first | (with_reducible first | exact HB.out | apply below_alloc | apply pw_below_drewN | apply below_drew1 | refine below_set ?_ GE151.out | refine below_set ?_ GE155.out) | exact HB.out))) hk)), Kd.fresh' (Kd.R_lt (by (with_reducible repeat (first | apply Kd.R_alloc | apply Kd.R_drewN | apply Kd.R_drew)); exact HO_156001.out)) k_ hk, Kd.freshB (g := gb151) (o := .cells #[.string a0_0, .slice (some ad156) l0_1.length c0_1, .slice A0_2 l0_2.length c0_2, .bool a0_3, .string a0_4, .string a0_5, .bool a0_6, .bool a0_7, .bool a0_8, .bool a0_9] 27 (0, 0)) (by (with_reducible repeat (first | refine blk_drewN ?_ _ | refine blk_drew ?_ | refine blk_alloc ?_ _)); exact BK151.out) k_ hk, Kd.freshB (g := gb155) (o := .cells #[u156000, .slice Ao6 y152.length co6] 69 (0, 0)) (by (with_reducible repeat (first | refine blk_drewN ?_ _ | refine blk_drew ?_ | refine blk_alloc ?_ _)); exact BK155.out) k_ hk⟩)); (case aO => exact (by (with_reducible repeat (first | apply Kd.N_alloc | apply Kd.N_drewN | apply Kd.N_drew)); exact HO_156000.out)); (case aS => exact (below_size (by repeat (first | (with_reducible first | exact HB.out | apply below_alloc | apply pw_below_drewN | apply below_drew1 | refine below_set ?_ GE151.out | refine below_set ?_ GE155.out) | exact HB.out)))); (case aL => have := LMc14.out; omega); intro v158 w17 ho hb hg hat; rw [← Ny157.out] at ho; have n0_ := Aside0.mk (Kd.V_afterv (ok := (fun k_ => ((P0_1_ k_ ∨ P0_2_ k_) ∨ w.heap.size ≤ k_) ∧ some k_ ≠ (.slice Ao6 y152.length co6 : Value).ownBlock ∧ k_ ≠ gb151 ∧ k_ ≠ gb155)) (by (with_reducible repeat (first | apply Kd.V_alloc | apply Kd.V_drewN | apply Kd.V_drew)); exact Kd.V_mono HO_11.out (fun _ hk => ⟨⟨hk.1, ⟨hk.2.2.1, ⟨hk.2.2.2.1, hk.2.2.2.2⟩⟩⟩, hk.2.1⟩)) hg hat); have n1_ := Aside0.mk (Kd.V_afterv (ok := (fun k_ => ((P0_1_ k_ ∨ P0_2_ k_) ∨ w.heap.size ≤ k_) ∧ some k_ ≠ (.slice Ao6 y152.length co6 : Value).ownBlock ∧ k_ ≠ gb151 ∧ k_ ≠ gb155)) (by (with_reducible repeat (first | apply Kd.V_alloc | apply Kd.V_drewN | apply Kd.V_drew)); exact Kd.V_mono HO_152001.out (fun _ hk => ⟨⟨hk.1, ⟨hk.2.2.1, ⟨hk.2.2.2.1, hk.2.2.2.2⟩⟩⟩, hk.2.1⟩)) hg hat); have n2_ := Aside0.mk (Kd.V_afterv (ok := (fun k_ => ((P0_1_ k_ ∨ P0_2_ k_) ∨ w.heap.size ≤ k_) ∧ some k_ ≠ (.slice Ao6 y152.length co6 : Value).ownBlock ∧ k_ ≠ gb151 ∧ k_ ≠ gb155)) (by (with_reducible repeat (first | apply Kd.V_alloc | apply Kd.V_drewN | apply Kd.V_drew)); exact Kd.V_mono HO_152002.out (fun _ hk => ⟨⟨hk.1, ⟨hk.2.2.1, ⟨hk.2.2.2.1, hk.2.2.2.2⟩⟩⟩, hk.2.1⟩)) hg hat); have n3_ := Aside0.mk (Kd.R_over' (by (with_reducible repeat (first | apply Kd.R_alloc | apply Kd.R_drewN | apply Kd.R_drew)); exact HO_156001.out) (Kd.N_typed (by (with_reducible repeat (first | apply Kd.N_alloc | apply Kd.N_drewN | apply Kd.N_drew)); exact HO_156000.out)) (by decide) hg); have n4_ := Aside0.mk (blk_grown (g := gb151) (o := .cells #[.string a0_0, .slice (some ad156) l0_1.length c0_1, .slice A0_2 l0_2.length c0_2, .bool a0_3, .string a0_4, .string a0_5, .bool a0_6, .bool a0_7, .bool a0_8, .bool a0_9] 27 (0, 0)) (by (with_reducible repeat (first | refine blk_drewN ?_ _ | refine blk_drew ?_ | refine blk_alloc ?_ _)); exact BK151.out) hg (Kd.N_away HO_156000.out (fun _ hk => hk.2.2.1))); have n5_ := Aside0.mk (blk_grown (g := gb155) (o := .cells #[u156000, .slice Ao6 y152.length co6] 69 (0, 0)) (by (with_reducible repeat (first | refine blk_drewN ?_ _ | refine blk_drew ?_ | refine blk_alloc ?_ _)); exact BK155.out) hg (Kd.N_ne HO_156000.out BK155.out (by decide))); have n6_ := Aside0.mk (hb); have n7_ := Aside0.mk (ho); clear HO_11; clear HO_152001; clear HO_152002; clear HO_156001; clear BK151; clear BK155; clear HB; clear HO_156000; have HO_11 := n0_; have HO_152001 := n1_; have HO_152002 := n2_; have HO_156001 := n3_; have BK151 := n4_; have BK155 := n5_; have HB := n6_; have HO159 := n7_; clear n0_ n1_ n2_ n3_ n4_ n5_ n6_ n7_; clear ho hb hg hat; obtain ⟨Ao18, co18, eo18⟩ := Kd.N_slice HO159.out; subst eo18; have hcz19_0 : w17.cell? ⟨gb155, 0, none⟩ = some (u156000) := (blk_cell BK155.out 0).trans rfl; have hcz19_1 : w17.cell? ⟨gb155, 1, none⟩ = some (.slice Ao6 y152.length co6) := (blk_cell BK155.out 1).trans rfl; have hfz19_0 := blk_frozen BK155.out 0; have hfz19_1 := blk_frozen BK155.out 1))
              go_roundg k1
              case measure => have := HK1.out; omega
              case rel => exact ⟨(wrap64 (x13_1 + 1)), (y157), (.slice Ao18 y157.length co18), (by first | rfl | (simp; done) | (simp [*]; done)), H', ⟨by have := HK1.out; omega⟩, ⟨by (with_reducible repeat (first | apply Kd.V_alloc | apply Kd.V_drewN | apply Kd.V_drew)); exact Kd.V_mono (Kd.V_far (p := ⟨gb155, 0, none⟩) (Kd.V_mono HO_11.out (fun k_ hk => (⟨hk, hk.1.2.2.2⟩ : _ ∧ k_ ≠ gb155))) (fun _ hk => hk.2) (.slice Ao18 y157.length co18)) (fun _ hk => ⟨hk.1.1.1, ⟨hk.1.2, ⟨hk.1.1.2.1, ⟨hk.1.1.2.2.1, hk.1.1.2.2.2⟩⟩⟩⟩)⟩, ⟨by (with_reducible repeat (first | apply Kd.V_alloc | apply Kd.V_drewN | apply Kd.V_drew)); exact Kd.V_mono (Kd.V_far (p := ⟨gb155, 0, none⟩) (Kd.V_mono HO_152001.out (fun k_ hk => (⟨hk, hk.1.2.2.2⟩ : _ ∧ k_ ≠ gb155))) (fun _ hk => hk.2) (.slice Ao18 y157.length co18)) (fun _ hk => ⟨hk.1.1.1, ⟨hk.1.2, ⟨hk.1.1.2.1, ⟨hk.1.1.2.2.1, hk.1.1.2.2.2⟩⟩⟩⟩)⟩, ⟨by (with_reducible repeat (first | apply Kd.V_alloc | apply Kd.V_drewN | apply Kd.V_drew)); exact Kd.V_mono (Kd.V_far (p := ⟨gb155, 0, none⟩) (Kd.V_mono HO_152002.out (fun k_ hk => (⟨hk, hk.1.2.2.2⟩ : _ ∧ k_ ≠ gb155))) (fun _ hk => hk.2) (.slice Ao18 y157.length co18)) (fun _ hk => ⟨hk.1.1.1, ⟨hk.1.2, ⟨hk.1.1.2.1, ⟨hk.1.1.2.2.1, hk.1.1.2.2.2⟩⟩⟩⟩)⟩, ⟨by (with_reducible repeat (first | apply Kd.N_alloc | apply Kd.N_drewN | apply Kd.N_drew)); exact Kd.N_mono (Kd.N_far (p := ⟨gb155, 0, none⟩) (Kd.N_mono HO159.out (fun k_ hk => (⟨hk, hk.2.2.2⟩ : _ ∧ k_ ≠ gb155))) (fun _ hk => hk.2) (.slice Ao18 y157.length co18)) (fun _ hk => ⟨hk.1.1, ⟨hk.1.2.1, ⟨hk.1.2.2.1, hk.1.2.2.2⟩⟩⟩)⟩, ⟨by (with_reducible repeat (first | apply Kd.R_alloc | apply Kd.R_drewN | apply Kd.R_drew)); exact Kd.R_mono (Kd.R_far (p := ⟨gb155, 0, none⟩) (Kd.R_types HO_156001.out BK155.out (by decide)) (fun _ hk => hk.2) (.slice Ao18 y157.length co18)) (fun _ hk => hk.1)⟩, ⟨by (with_reducible repeat (first | refine blk_drewN ?_ _ | refine blk_drew ?_ | refine blk_alloc ?_ _)); refine blk_far ?_ NB151_155.out _; (with_reducible repeat (first | refine blk_drewN ?_ _ | refine blk_drew ?_ | refine blk_alloc ?_ _)); exact BK151.out⟩, ⟨by (with_reducible repeat (first | refine blk_drewN ?_ _ | refine blk_drew ?_ | refine blk_alloc ?_ _)); refine blk_put (cs := #[u156000, .slice Ao6 y152.length co6]) ?_ 0 _ rfl; (with_reducible repeat (first | refine blk_drewN ?_ _ | refine blk_drew ?_ | refine blk_alloc ?_ _)); exact BK155.out⟩, ⟨by repeat (first | (with_reducible first | exact HB.out | apply below_alloc | apply pw_below_drewN | apply below_drew1 | refine below_set ?_ GE151.out | refine below_set ?_ GE155.out) | exact HB.out)⟩⟩
            · rw [if_neg c14] at H
              exact absurd H (by simp)
          · rw [if_neg c13] at H
            exact absurd H (by simp)
        · rw [if_neg c12] at H
          exact absurd H (by simp)
      · rw [if_neg c11] at H
        have c11b0 : decide (x13_1 < (l0_1.length : Int)) = false := decide_eq_false c11
        clear c11
        by_cases c20 : x156000_1.length < 1256584717458
        · rw [if_pos c20] at H
          have LMc20 := Aside0.mk c20
          clear c20
          obtain ⟨y160, hy160⟩ : ∃ y_ : List (S27), y_ = (x156000_1 ++ [(⟨a0_0, l0_1, l0_2, a0_3, a0_4, a0_5, a0_6, a0_7, a0_8, a0_9⟩ : S27)]) := ⟨_, rfl⟩
          replace H : ((resolve_Check.f y160 y152).bind fun t163 => (some t163)) = some r := by first | (rw [hy160]; with_reducible exact H) | (have H2_ := (Option.bind_some _ _).symm.trans H; rw [hy160]; with_reducible exact H2_) | (have H2_ := (Option.bind_some _ _).symm.trans H; with_reducible exact H2_) | with_reducible exact H | (rw [hy160]; exact H) | exact H
          have Ny160 := Aside0.mk hy160
          clear hy160
          replace H := Option.bind_eq_some_iff.mp H
          obtain ⟨t163, A210, H⟩ := H
          replace H : (some t163) = some r := H
          have A21 := Aside0.mk A210
          clear A210
          obtain rfl := Option.some.inj H
          have hnb22 := NB155_151.out
          have hnc22 := NB151_155.out
          have hcz23_0 : wr.cell? ⟨gb155, 0, none⟩ = some (u156000) := (blk_cell BK155.out 0).trans rfl
          have hcz23_1 : wr.cell? ⟨gb155, 1, none⟩ = some (.slice Ao6 y152.length co6) := (blk_cell BK155.out 1).trans rfl
          have hfz23_0 := blk_frozen BK155.out 0
          have hfz23_1 := blk_frozen BK155.out 1
          have hcz24_0 : wr.cell? ⟨gb151, 0, none⟩ = some (.string a0_0) := (blk_cell BK151.out 0).trans rfl
          have hcz24_1 : wr.cell? ⟨gb151, 1, none⟩ = some (.slice A0_1 l0_1.length c0_1) := (blk_cell BK151.out 1).trans rfl
          have hcz24_2 : wr.cell? ⟨gb151, 2, none⟩ = some (.slice A0_2 l0_2.length c0_2) := (blk_cell BK151.out 2).trans rfl
          have hcz24_3 : wr.cell? ⟨gb151, 3, none⟩ = some (.bool a0_3) := (blk_cell BK151.out 3).trans rfl
          have hcz24_4 : wr.cell? ⟨gb151, 4, none⟩ = some (.string a0_4) := (blk_cell BK151.out 4).trans rfl
          have hcz24_5 : wr.cell? ⟨gb151, 5, none⟩ = some (.string a0_5) := (blk_cell BK151.out 5).trans rfl
          have hcz24_6 : wr.cell? ⟨gb151, 6, none⟩ = some (.bool a0_6) := (blk_cell BK151.out 6).trans rfl
          have hcz24_7 : wr.cell? ⟨gb151, 7, none⟩ = some (.bool a0_7) := (blk_cell BK151.out 7).trans rfl
          have hcz24_8 : wr.cell? ⟨gb151, 8, none⟩ = some (.bool a0_8) := (blk_cell BK151.out 8).trans rfl
          have hcz24_9 : wr.cell? ⟨gb151, 9, none⟩ = some (.bool a0_9) := (blk_cell BK151.out 9).trans rfl
          have hfz24_0 := blk_frozen BK151.out 0
          have hfz24_1 := blk_frozen BK151.out 1
          have hfz24_2 := blk_frozen BK151.out 2
          have hfz24_3 := blk_frozen BK151.out 3
          have hfz24_4 := blk_frozen BK151.out 4
          have hfz24_5 := blk_frozen BK151.out 5
          have hfz24_6 := blk_frozen BK151.out 6
          have hfz24_7 := blk_frozen BK151.out 7
          have hfz24_8 := blk_frozen BK151.out 8
          have hfz24_9 := blk_frozen BK151.out 9
          go_wp2_with (first | ((with_reducible refine gate_builtin (b := .append) (xs := #[.tmp 26, .tmp 28]) rfl ?_); at_builtin; refine Kd.N_append k27 (w0 := w) w.heap.size rfl (.tmp 26) (.tmp 28) 67 27 (.agg #[(.string ⟨#[]⟩), (.slice none 0 0), (.slice none 0 0), (.bool false), (.string ⟨#[]⟩), (.string ⟨#[]⟩), (.bool false), (.bool false), (.bool false), (.bool false)]) 112 rfl Try.underlying67 info27 rfl (by decide) (by omega) u156000 x156000_1 (⟨a0_0, l0_1, l0_2, a0_3, a0_4, a0_5, a0_6, a0_7, a0_8, a0_9⟩ : S27) [.string a0_0, .slice A0_1 l0_1.length c0_1, .slice A0_2 l0_2.length c0_2, .bool a0_3, .string a0_4, .string a0_5, .bool a0_6, .bool a0_7, .bool a0_8, .bool a0_9] (fun k_ => ((P0_1_ k_ ∨ P0_2_ k_) ∨ w.heap.size ≤ k_) ∧ some k_ ≠ (.slice Ao6 y152.length co6 : Value).ownBlock ∧ k_ ≠ gb151 ∧ k_ ≠ gb155) (fun k_ => ((fun k_ => ((P0_1_ k_ ∨ P0_2_ k_) ∨ w.heap.size ≤ k_) ∧ some k_ ≠ (.slice Ao6 y152.length co6 : Value).ownBlock ∧ k_ ≠ gb151 ∧ k_ ≠ gb155)) k_ ∧ some k_ ≠ (u156000 : Value).ownBlock) rfl rfl ?aP (fun _ hk => hk) ?aF ?aO ?aB ?aS ?aL ?_; (case aP => exact (k27_mkF _ _ (⟨a0_0, l0_1, l0_2, a0_3, a0_4, a0_5, a0_6, a0_7, a0_8, a0_9⟩ : S27) (Kd.V_reads' (Kd.V_mono (ok' := (fun k_ => ((fun k_ => ((P0_1_ k_ ∨ P0_2_ k_) ∨ w.heap.size ≤ k_) ∧ some k_ ≠ (.slice Ao6 y152.length co6 : Value).ownBlock ∧ k_ ≠ gb151 ∧ k_ ≠ gb155)) k_ ∧ some k_ ≠ (u156000 : Value).ownBlock)) (HO_152001.out) (fun k_ hk => ⟨⟨hk.1, ⟨hk.2.2.1, ⟨hk.2.2.2.1, hk.2.2.2.2⟩⟩⟩, hk.2.1⟩))).2.1 (Kd.V_F (Kd.V_mono (ok' := (fun k_ => ((fun k_ => ((P0_1_ k_ ∨ P0_2_ k_) ∨ w.heap.size ≤ k_) ∧ some k_ ≠ (.slice Ao6 y152.length co6 : Value).ownBlock ∧ k_ ≠ gb151 ∧ k_ ≠ gb155)) k_ ∧ some k_ ≠ (u156000 : Value).ownBlock)) (HO_152001.out) (fun k_ hk => ⟨⟨hk.1, ⟨hk.2.2.1, ⟨hk.2.2.2.1, hk.2.2.2.2⟩⟩⟩, hk.2.1⟩))) (Kd.V_reads' (Kd.V_mono (ok' := (fun k_ => ((fun k_ => ((P0_1_ k_ ∨ P0_2_ k_) ∨ w.heap.size ≤ k_) ∧ some k_ ≠ (.slice Ao6 y152.length co6 : Value).ownBlock ∧ k_ ≠ gb151 ∧ k_ ≠ gb155)) k_ ∧ some k_ ≠ (u156000 : Value).ownBlock)) (HO_152002.out) (fun k_ hk => ⟨⟨hk.1, ⟨hk.2.2.1, ⟨hk.2.2.2.1, hk.2.2.2.2⟩⟩⟩, hk.2.1⟩))).2.1 (Kd.V_F (Kd.V_mono (ok' := (fun k_ => ((fun k_ => ((P0_1_ k_ ∨ P0_2_ k_) ∨ w.heap.size ≤ k_) ∧ some k_ ≠ (.slice Ao6 y152.length co6 : Value).ownBlock ∧ k_ ≠ gb151 ∧ k_ ≠ gb155)) k_ ∧ some k_ ≠ (u156000 : Value).ownBlock)) (HO_152002.out) (fun k_ hk => ⟨⟨hk.1, ⟨hk.2.2.1, ⟨hk.2.2.2.1, hk.2.2.2.2⟩⟩⟩, hk.2.1⟩))))); (case aB => exact (by repeat (first | (with_reducible first | exact HB.out | apply below_alloc | apply pw_below_drewN | apply below_drew1 | refine below_set ?_ GE151.out | refine below_set ?_ GE155.out) | exact HB.out))); (case aF => exact (fun k_ hk => ⟨(.inr (Nat.le_trans (below_size (by repeat (first | (with_reducible first | exact HB.out | apply below_alloc | apply pw_below_drewN | apply below_drew1 | refine below_set ?_ GE151.out | refine below_set ?_ GE155.out) | exact HB.out))) hk)), Kd.fresh' (Kd.R_lt (by (with_reducible repeat (first | apply Kd.R_alloc | apply Kd.R_drewN | apply Kd.R_drew)); exact HO_156001.out)) k_ hk, Kd.freshB (g := gb151) (o := .cells #[.string a0_0, .slice A0_1 l0_1.length c0_1, .slice A0_2 l0_2.length c0_2, .bool a0_3, .string a0_4, .string a0_5, .bool a0_6, .bool a0_7, .bool a0_8, .bool a0_9] 27 (0, 0)) (by (with_reducible repeat (first | refine blk_drewN ?_ _ | refine blk_drew ?_ | refine blk_alloc ?_ _)); exact BK151.out) k_ hk, Kd.freshB (g := gb155) (o := .cells #[u156000, .slice Ao6 y152.length co6] 69 (0, 0)) (by (with_reducible repeat (first | refine blk_drewN ?_ _ | refine blk_drew ?_ | refine blk_alloc ?_ _)); exact BK155.out) k_ hk⟩)); (case aO => exact (by (with_reducible repeat (first | apply Kd.N_alloc | apply Kd.N_drewN | apply Kd.N_drew)); exact HO_156000.out)); (case aS => exact (below_size (by repeat (first | (with_reducible first | exact HB.out | apply below_alloc | apply pw_below_drewN | apply below_drew1 | refine below_set ?_ GE151.out | refine below_set ?_ GE155.out) | exact HB.out)))); (case aL => have := LMc20.out; omega); intro v161 w25 ho hb hg hat; rw [← Ny160.out] at ho; have n0_ := Aside0.mk (Kd.V_afterv (ok := (fun k_ => ((P0_1_ k_ ∨ P0_2_ k_) ∨ w.heap.size ≤ k_) ∧ some k_ ≠ (.slice Ao6 y152.length co6 : Value).ownBlock ∧ k_ ≠ gb151 ∧ k_ ≠ gb155)) (by (with_reducible repeat (first | apply Kd.V_alloc | apply Kd.V_drewN | apply Kd.V_drew)); exact Kd.V_mono HO_11.out (fun _ hk => ⟨⟨hk.1, ⟨hk.2.2.1, ⟨hk.2.2.2.1, hk.2.2.2.2⟩⟩⟩, hk.2.1⟩)) hg hat); have n1_ := Aside0.mk (Kd.V_afterv (ok := (fun k_ => ((P0_1_ k_ ∨ P0_2_ k_) ∨ w.heap.size ≤ k_) ∧ some k_ ≠ (.slice Ao6 y152.length co6 : Value).ownBlock ∧ k_ ≠ gb151 ∧ k_ ≠ gb155)) (by (with_reducible repeat (first | apply Kd.V_alloc | apply Kd.V_drewN | apply Kd.V_drew)); exact Kd.V_mono HO_152001.out (fun _ hk => ⟨⟨hk.1, ⟨hk.2.2.1, ⟨hk.2.2.2.1, hk.2.2.2.2⟩⟩⟩, hk.2.1⟩)) hg hat); have n2_ := Aside0.mk (Kd.V_afterv (ok := (fun k_ => ((P0_1_ k_ ∨ P0_2_ k_) ∨ w.heap.size ≤ k_) ∧ some k_ ≠ (.slice Ao6 y152.length co6 : Value).ownBlock ∧ k_ ≠ gb151 ∧ k_ ≠ gb155)) (by (with_reducible repeat (first | apply Kd.V_alloc | apply Kd.V_drewN | apply Kd.V_drew)); exact Kd.V_mono HO_152002.out (fun _ hk => ⟨⟨hk.1, ⟨hk.2.2.1, ⟨hk.2.2.2.1, hk.2.2.2.2⟩⟩⟩, hk.2.1⟩)) hg hat); have n3_ := Aside0.mk (Kd.R_over' (by (with_reducible repeat (first | apply Kd.R_alloc | apply Kd.R_drewN | apply Kd.R_drew)); exact HO_156001.out) (Kd.N_typed (by (with_reducible repeat (first | apply Kd.N_alloc | apply Kd.N_drewN | apply Kd.N_drew)); exact HO_156000.out)) (by decide) hg); have n4_ := Aside0.mk (blk_grown (g := gb151) (o := .cells #[.string a0_0, .slice A0_1 l0_1.length c0_1, .slice A0_2 l0_2.length c0_2, .bool a0_3, .string a0_4, .string a0_5, .bool a0_6, .bool a0_7, .bool a0_8, .bool a0_9] 27 (0, 0)) (by (with_reducible repeat (first | refine blk_drewN ?_ _ | refine blk_drew ?_ | refine blk_alloc ?_ _)); exact BK151.out) hg (Kd.N_away HO_156000.out (fun _ hk => hk.2.2.1))); have n5_ := Aside0.mk (blk_grown (g := gb155) (o := .cells #[u156000, .slice Ao6 y152.length co6] 69 (0, 0)) (by (with_reducible repeat (first | refine blk_drewN ?_ _ | refine blk_drew ?_ | refine blk_alloc ?_ _)); exact BK155.out) hg (Kd.N_ne HO_156000.out BK155.out (by decide))); have n6_ := Aside0.mk (hb); have n7_ := Aside0.mk (ho); clear HO_11; clear HO_152001; clear HO_152002; clear HO_156001; clear BK151; clear BK155; clear HB; clear HO_156000; have HO_11 := n0_; have HO_152001 := n1_; have HO_152002 := n2_; have HO_156001 := n3_; have BK151 := n4_; have BK155 := n5_; have HB := n6_; have HO162 := n7_; clear n0_ n1_ n2_ n3_ n4_ n5_ n6_ n7_; clear ho hb hg hat; obtain ⟨Ao26, co26, eo26⟩ := Kd.N_slice HO162.out; subst eo26; have hcz27_0 : w25.cell? ⟨gb155, 0, none⟩ = some (u156000) := (blk_cell BK155.out 0).trans rfl; have hcz27_1 : w25.cell? ⟨gb155, 1, none⟩ = some (.slice Ao6 y152.length co6) := (blk_cell BK155.out 1).trans rfl; have hfz27_0 := blk_frozen BK155.out 0; have hfz27_1 := blk_frozen BK155.out 1) | ((with_reducible refine gate_callee (f := 29) rfl ?_); refine goesL_ (some 32) rfl rfl Try.func29 (by kernel_rfl) rfl #[.agg #[.slice Ao26 y160.length co26, .slice Ao6 y152.length co6]] rfl (by (try simp only [List.map_toArray, List.map_cons, List.map_nil]); first | done | rfl | (simp only [List.length_drop, List.length_take]; rfl)) ?_; (with_reducible refine (resolve_Check.calls _ _ y160 _ _ y152 t163 _ ?side1 ?side2 ?side3 ?side4 A21.out).mono ?_); (case side1 => refine (Kd.N_reads' (e := 27) (base := w.heap.size) (ok := fun _ => True) (n := y160.length) (c := co26) ?_).2.2; exact (by (with_reducible repeat (first | apply Kd.N_alloc | apply Kd.N_drewN | apply Kd.N_drew)); exact (Kd.N_mono (Kd.N_far (p := ⟨gb155, 0, none⟩) (Kd.N_mono HO162.out (fun k_ hk => (⟨hk, hk.2.2.2⟩ : _ ∧ k_ ≠ gb155))) (fun _ hk => hk.2) (.slice Ao26 y160.length co26)) (fun _ _ => trivial)))); (case side2 => exact (Kd.N_reads' HO162.out).2.1); (case side3 => refine (Kd.R_reads' (e := 9) (base := w.heap.size) (ok := fun k_ => (w.heap.size ≤ k_)) (n := y152.length) (c := co6) ?_).2.2; exact (by (with_reducible repeat (first | apply Kd.R_alloc | apply Kd.R_drewN | apply Kd.R_drew)); exact (Kd.R_mono (Kd.R_far (p := ⟨gb155, 0, none⟩) (Kd.R_types HO_156001.out BK155.out (by decide)) (fun _ hk => hk.2) (.slice Ao26 y160.length co26)) (fun _ h_ => h_.1)))); (case side4 => exact (Kd.R_reads' HO_156001.out).2.1); rintro e w28 ⟨rfl, hb⟩; refine ⟨_, rfl, ?_⟩; have n0_ := Aside0.mk (Kd.V_below (by (with_reducible repeat (first | apply Kd.V_alloc | apply Kd.V_drewN | apply Kd.V_drew)); exact (Kd.V_mono (Kd.V_far (p := ⟨gb155, 0, none⟩) (Kd.V_mono HO_11.out (fun k_ hk => (⟨hk, hk.1.2.2.2⟩ : _ ∧ k_ ≠ gb155))) (fun _ hk => hk.2) (.slice Ao26 y160.length co26)) (fun _ h_ => h_.1))) hb); have n1_ := Aside0.mk (Kd.V_below (by (with_reducible repeat (first | apply Kd.V_alloc | apply Kd.V_drewN | apply Kd.V_drew)); exact (Kd.V_mono (Kd.V_far (p := ⟨gb155, 0, none⟩) (Kd.V_mono HO_152001.out (fun k_ hk => (⟨hk, hk.1.2.2.2⟩ : _ ∧ k_ ≠ gb155))) (fun _ hk => hk.2) (.slice Ao26 y160.length co26)) (fun _ h_ => h_.1))) hb); have n2_ := Aside0.mk (Kd.V_below (by (with_reducible repeat (first | apply Kd.V_alloc | apply Kd.V_drewN | apply Kd.V_drew)); exact (Kd.V_mono (Kd.V_far (p := ⟨gb155, 0, none⟩) (Kd.V_mono HO_152002.out (fun k_ hk => (⟨hk, hk.1.2.2.2⟩ : _ ∧ k_ ≠ gb155))) (fun _ hk => hk.2) (.slice Ao26 y160.length co26)) (fun _ h_ => h_.1))) hb); have n3_ := Aside0.mk (Kd.R_below (by (with_reducible repeat (first | apply Kd.R_alloc | apply Kd.R_drewN | apply Kd.R_drew)); exact (Kd.R_mono (Kd.R_far (p := ⟨gb155, 0, none⟩) (Kd.R_types HO_156001.out BK155.out (by decide)) (fun _ hk => hk.2) (.slice Ao26 y160.length co26)) (fun _ h_ => h_.1))) hb); have n4_ := Aside0.mk (Kd.N_below (by (with_reducible repeat (first | apply Kd.N_alloc | apply Kd.N_drewN | apply Kd.N_drew)); exact (Kd.N_mono (Kd.N_far (p := ⟨gb155, 0, none⟩) (Kd.N_mono HO162.out (fun k_ hk => (⟨hk, hk.2.2.2⟩ : _ ∧ k_ ≠ gb155))) (fun _ hk => hk.2) (.slice Ao26 y160.length co26)) (fun _ h_ => h_.1))) hb); have n5_ := Aside0.mk (blk_below (g := gb151) (o := .cells #[.string a0_0, .slice A0_1 l0_1.length c0_1, .slice A0_2 l0_2.length c0_2, .bool a0_3, .string a0_4, .string a0_5, .bool a0_6, .bool a0_7, .bool a0_8, .bool a0_9] 27 (0, 0)) (by (with_reducible repeat (first | refine blk_drewN ?_ _ | refine blk_drew ?_ | refine blk_alloc ?_ _)); refine blk_far ?_ NB151_155.out _; (with_reducible repeat (first | refine blk_drewN ?_ _ | refine blk_drew ?_ | refine blk_alloc ?_ _)); exact BK151.out) hb); have n6_ := Aside0.mk (blk_below (g := gb155) (o := .cells #[.slice Ao26 y160.length co26, .slice Ao6 y152.length co6] 69 (0, 0)) (by (with_reducible repeat (first | refine blk_drewN ?_ _ | refine blk_drew ?_ | refine blk_alloc ?_ _)); refine blk_put (cs := #[u156000, .slice Ao6 y152.length co6]) ?_ 0 _ rfl; (with_reducible repeat (first | refine blk_drewN ?_ _ | refine blk_drew ?_ | refine blk_alloc ?_ _)); exact BK155.out) hb); have n7_ := Aside0.mk (below_step (by repeat (first | (with_reducible first | exact HB.out | apply below_alloc | apply pw_below_drewN | apply below_drew1 | refine below_set ?_ GE151.out | refine below_set ?_ GE155.out) | exact HB.out)) hb); clear HO_11; clear HO_152001; clear HO_152002; clear HO_156001; clear HO162; clear BK151; clear BK155; clear HB; have HO_11 := n0_; have HO_152001 := n1_; have HO_152002 := n2_; have HO_156001 := n3_; have HO162 := n4_; have BK151 := n5_; have BK155 := n6_; have HB := n7_; clear n0_ n1_ n2_ n3_ n4_ n5_ n6_ n7_; (try clear hb); (try clear hb2); (try clear hk); (try clear hi)))
          go_ret
          exact ⟨by first | rfl | (simp [errW_none, errW_some] <;> rfl) | (simp [*, errW_none, errW_some] <;> rfl), by repeat (first | (with_reducible first | exact HB.out | apply below_alloc | apply pw_below_drewN | apply below_drew1 | refine below_set ?_ GE151.out | refine below_set ?_ GE155.out) | exact HB.out)⟩
        · rw [if_neg c20] at H
          exact absurd H (by simp)

end Go.Proofs.Ytmmjbobicnmilaa.P
