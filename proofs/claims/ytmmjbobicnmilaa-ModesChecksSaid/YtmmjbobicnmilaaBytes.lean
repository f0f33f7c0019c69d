/- The order of texts, and names, in plain Lean. -/
import Derived.Laws.Strings
import Derived.Lib.Bytealg
import Derived.Test.YtmmjbobicnmilaaWMore
set_option linter.unusedVariables false
set_option linter.unusedSimpArgs false
namespace Go.Proofs.Ytmmjbobicnmilaa.Ext
open Go Go.RowKit Go.Proofs.YtmmjbobicnmilaaW.PrintWords
theorem toList_data (s : ByteArray) : s.toList = s.data.toList := ByteArray.toList_eq s
theorem toList_inj {a b : ByteArray} (h : a.toList = b.toList) : a = b := by
  rw [toList_data, toList_data] at h
  cases a; cases b
  simp at h
  rw [h]
theorem bless_irrefl : ∀ a : List UInt8, Op.bytesLess a a = false
  | [] => rfl
  | a :: x => by
    have h : ¬ a < a := fun h => by rw [UInt8.lt_iff_toNat_lt] at h; omega
    simp [Op.bytesLess, h, bless_irrefl x]
theorem bless_trans : ∀ a b c : List UInt8, Op.bytesLess a b = true → Op.bytesLess b c = true → Op.bytesLess a c = true
  | _, [], _, h, _ => by cases ‹List UInt8› <;> simp [Op.bytesLess] at h
  | _, _ :: _, [], _, h => by simp [Op.bytesLess] at h
  | [], _ :: _, _ :: _, _, _ => rfl
  | a :: x, b :: y, c :: z, h1, h2 => by
    simp only [Op.bytesLess, Bool.or_eq_true, Bool.and_eq_true, decide_eq_true_eq, beq_iff_eq] at h1 h2 ⊢
    rcases h1 with h1 | ⟨rfl, h1⟩
    · rcases h2 with h2 | ⟨rfl, h2⟩
      · left
        rw [UInt8.lt_iff_toNat_lt] at *
        omega
      · exact .inl h1
    · rcases h2 with h2 | ⟨rfl, h2⟩
      · exact .inl h2
      · exact .inr ⟨rfl, bless_trans x y z h1 h2⟩
theorem bless_tri : ∀ a b : List UInt8, Op.bytesLess a b = false → Op.bytesLess b a = false → a = b
  | [], [], _, _ => rfl
  | [], _ :: _, h, _ => by simp [Op.bytesLess] at h
  | _ :: _, [], _, h => by simp [Op.bytesLess] at h
  | a :: x, b :: y, h1, h2 => by
    simp only [Op.bytesLess, Bool.or_eq_false_iff, Bool.and_eq_false_iff, decide_eq_false_iff_not, beq_eq_false_iff_ne] at h1 h2
    have e : a = b := by
      have := h1.1; have := h2.1
      rw [UInt8.lt_iff_toNat_lt] at *
      exact UInt8.toNat_inj.mp (by omega)
    subst e
    have h3 := h1.2.resolve_left (fun h => h rfl)
    have h4 := h2.2.resolve_left (fun h => h rfl)
    rw [bless_tri x y h3 h4]
theorem cmp_lt : ∀ a b : List UInt8, Lib.compareBytes a b < 0 ↔ Op.bytesLess a b = true
  | [], [] => by simp [Lib.compareBytes, Op.bytesLess]
  | [], _ :: _ => by simp [Lib.compareBytes, Op.bytesLess]
  | _ :: _, [] => by simp [Lib.compareBytes, Op.bytesLess]
  | a :: x, b :: y => by
    simp only [Lib.compareBytes, Op.bytesLess, Bool.or_eq_true, Bool.and_eq_true, decide_eq_true_eq, beq_iff_eq]
    by_cases h1 : a < b
    · simp [h1]
    · rw [if_neg h1]
      by_cases h2 : b < a
      · rw [if_pos h2]
        have : ¬ a = b := fun e => by subst e; exact h1 h2
        simp [h1, this]
      · rw [if_neg h2, cmp_lt x y]
        have e : a = b := by
          rw [UInt8.lt_iff_toNat_lt] at h1 h2
          exact UInt8.toNat_inj.mp (by omega)
        simp [h1, e]
theorem cmp_eq0 : ∀ a b : List UInt8, Lib.compareBytes a b = 0 ↔ a = b
  | [], [] => by simp [Lib.compareBytes]
  | [], _ :: _ => by simp [Lib.compareBytes]
  | _ :: _, [] => by simp [Lib.compareBytes]
  | a :: x, b :: y => by
    simp only [Lib.compareBytes, List.cons.injEq]
    by_cases h1 : a < b
    · have : ¬ a = b := fun e => by subst e; rw [UInt8.lt_iff_toNat_lt] at h1; omega
      simp [h1, this]
    · rw [if_neg h1]
      by_cases h2 : b < a
      · have : ¬ a = b := fun e => by subst e; exact h1 h2
        simp [h2, this]
      · rw [if_neg h2, cmp_eq0 x y]
        have e : a = b := by
          rw [UInt8.lt_iff_toNat_lt] at h1 h2
          exact UInt8.toNat_inj.mp (by omega)
        simp [e]
/-- One text stands ahead of another. -/
def Less (a b : ByteArray) : Prop := Op.bytesLess a.toList b.toList = true
instance (a b : ByteArray) : Decidable (Less a b) := inferInstanceAs (Decidable (_ = true))
theorem Less.irrefl (a : ByteArray) : ¬ Less a a := by unfold Less; rw [bless_irrefl]; simp
theorem Less.trans {a b c : ByteArray} (h : Less a b) (k : Less b c) : Less a c := bless_trans _ _ _ h k
theorem Less.tri {a b : ByteArray} (h : ¬ Less a b) (k : ¬ Less b a) : a = b :=
  toList_inj (bless_tri _ _ (by simpa [Less] using h) (by simpa [Less] using k))
theorem Less.asymm {a b : ByteArray} (h : Less a b) : ¬ Less b a := fun k => Less.irrefl a (h.trans k)
theorem Less.ne {a b : ByteArray} (h : Less a b) : a ≠ b := fun e => by subst e; exact Less.irrefl a h
/-- The letters of names. -/
def letter (c : Int) : Bool := decide (97 ≤ c ∧ c ≤ 122) || decide (65 ≤ c ∧ c ≤ 90) || decide (48 ≤ c ∧ c ≤ 57) || decide (c = 95) || decide (c = 45) || decide (c = 46) || decide (c = 47) || decide (c = 43)
/-- The first place from i on that holds no letter of names; none: n. -/
def allLetters (s : ByteArray) : Bool := (List.range s.size).all fun i => letter (bt s i)
def nameOk (s : ByteArray) : Bool := decide (0 < s.size) && decide (s.size ≤ 64) && allLetters s
theorem all_from (p : Nat → Bool) (n i : Nat) (hi : i < n) : ((List.range n).all fun j => decide (j < i) || p j) = (p i && ((List.range n).all fun j => decide (j < i + 1) || p j)) := by
  rw [Bool.eq_iff_iff]
  simp only [List.all_eq_true, List.mem_range, Bool.or_eq_true, decide_eq_true_eq, Bool.and_eq_true]
  constructor
  · intro h
    refine ⟨(h i hi).resolve_left (by omega), fun j hj => ?_⟩
    rcases h j hj with h | h
    · exact .inl (by omega)
    · exact .inr h
  · rintro ⟨h0, h⟩ j hj
    rcases h j hj with h | h
    · by_cases e : j = i
      · subst e; exact .inr h0
      · exact .inl (by omega)
    · exact .inr h
theorem all_end (p : Nat → Bool) (n i : Nat) (hi : n ≤ i) : ((List.range n).all fun j => decide (j < i) || p j) = true := by
  simp only [List.all_eq_true, List.mem_range, Bool.or_eq_true, decide_eq_true_eq]
  intro j hj
  exact .inl (by omega)
theorem all_start (p : Nat → Bool) (n : Nat) : ((List.range n).all fun j => decide (j < 0) || p j) = (List.range n).all p := by simp
theorem bt_byte (s : ByteArray) (i : Int) : 0 ≤ bt s i ∧ bt s i ≤ 255 := bt_range s i
theorem find_signs (c : Int) (h0 : 0 ≤ c) (h1 : c ≤ 255) : (0 ≤ Lib.indexByte ([95, 45, 46, 47, 43] : List UInt8) c.toNat.toUInt8) ↔ (c = 95 ∨ c = 45 ∨ c = 46 ∨ c = 47 ∨ c = 43) := by
  obtain ⟨n, rfl⟩ := Int.eq_ofNat_of_zero_le h0
  have hn : n < 256 := by omega
  have : ∀ m : Fin 256, (0 ≤ Lib.indexByte ([95, 45, 46, 47, 43] : List UInt8) ((m.val : Int)).toNat.toUInt8) ↔ ((m.val : Int) = 95 ∨ (m.val : Int) = 45 ∨ (m.val : Int) = 46 ∨ (m.val : Int) = 47 ∨ (m.val : Int) = 43) := by decide +kernel
  exact this ⟨n, hn⟩
end Go.Proofs.Ytmmjbobicnmilaa.Ext
