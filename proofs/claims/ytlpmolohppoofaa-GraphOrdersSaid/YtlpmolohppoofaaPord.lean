/- The order of texts. -/
import Derived.Test.YtlpmolohppoofaaPp0
import Derived.Laws.Strings
import Derived.Lib.Bytealg
set_option linter.unusedVariables false
set_option linter.unusedSimpArgs false
set_option linter.unnecessarySimpa false
set_option linter.deprecated false
namespace Go.Proofs.Ytlpmolohppoofaa.Sl
open Go
theorem toList_data (s : ByteArray) : s.toList = s.data.toList := ByteArray.toList_eq s
theorem toList_inj {a b : ByteArray} (h : a.toList = b.toList) : a = b := by
  rw [toList_data, toList_data] at h
  cases a; cases b
  simp at h
  rw [h]
theorem bless_irrefl : ∀ a : List UInt8, Op.bytesLess a a = false
  | [] => rfl
  | a :: x => by
    have h : ¬ a < a := fun h => by rw [UInt8.lt_iff_toNat_lt] at h; omega
    simp [Op.bytesLess, h, bless_irrefl x]
theorem bless_trans : ∀ a b c : List UInt8, Op.bytesLess a b = true → Op.bytesLess b c = true → Op.bytesLess a c = true
  | _, [], _, h, _ => by cases ‹List UInt8› <;> simp [Op.bytesLess] at h
  | _, _ :: _, [], _, h => by simp [Op.bytesLess] at h
  | [], _ :: _, _ :: _, _, _ => rfl
  | a :: x, b :: y, c :: z, h1, h2 => by
    simp only [Op.bytesLess, Bool.or_eq_true, Bool.and_eq_true, decide_eq_true_eq, beq_iff_eq] at h1 h2 ⊢
    rcases h1 with h1 | ⟨rfl, h1⟩
    · rcases h2 with h2 | ⟨rfl, h2⟩
      · left
        rw [UInt8.lt_iff_toNat_lt] at *
        omega
      · exact .inl h1
    · rcases h2 with h2 | ⟨rfl, h2⟩
      · exact .inl h2
      · exact .inr ⟨rfl, bless_trans x y z h1 h2⟩
theorem bless_tri : ∀ a b : List UInt8, Op.bytesLess a b = false → Op.bytesLess b a = false → a = b
  | [], [], _, _ => rfl
  | [], _ :: _, h, _ => by simp [Op.bytesLess] at h
  | _ :: _, [], _, h => by simp [Op.bytesLess] at h
  | a :: x, b :: y, h1, h2 => by
    simp only [Op.bytesLess, Bool.or_eq_false_iff, Bool.and_eq_false_iff, decide_eq_false_iff_not, beq_eq_false_iff_ne] at h1 h2
    have e : a = b := by
      have := h1.1; have := h2.1
      rw [UInt8.lt_iff_toNat_lt] at *
      exact UInt8.toNat_inj.mp (by omega)
    subst e
    have h3 := h1.2.resolve_left (fun h => h rfl)
    have h4 := h2.2.resolve_left (fun h => h rfl)
    rw [bless_tri x y h3 h4]
theorem cmp_lt : ∀ a b : List UInt8, Lib.compareBytes a b < 0 ↔ Op.bytesLess a b = true
  | [], [] => by simp [Lib.compareBytes, Op.bytesLess]
  | [], _ :: _ => by simp [Lib.compareBytes, Op.bytesLess]
  | _ :: _, [] => by simp [Lib.compareBytes, Op.bytesLess]
  | a :: x, b :: y => by
    simp only [Lib.compareBytes, Op.bytesLess, Bool.or_eq_true, Bool.and_eq_true, decide_eq_true_eq, beq_iff_eq]
    by_cases h1 : a < b
    · simp [h1]
    · rw [if_neg h1]
      by_cases h2 : b < a
      · rw [if_pos h2]
        have : ¬ a = b := fun e => by subst e; exact h1 h2
        simp [h1, this]
      · rw [if_neg h2, cmp_lt x y]
        have e : a = b := by
          rw [UInt8.lt_iff_toNat_lt] at h1 h2
          exact UInt8.toNat_inj.mp (by omega)
        simp [h1, e]
/-- One text stands ahead of another. -/
def Less (a b : ByteArray) : Prop := Op.bytesLess a.toList b.toList = true
instance (a b : ByteArray) : Decidable (Less a b) := inferInstanceAs (Decidable (_ = true))
theorem Less.irrefl (a : ByteArray) : ¬ Less a a := by unfold Less; rw [bless_irrefl]; simp
theorem Less.trans {a b c : ByteArray} (h : Less a b) (k : Less b c) : Less a c := bless_trans _ _ _ h k
theorem Less.tri {a b : ByteArray} (h : ¬ Less a b) (k : ¬ Less b a) : a = b :=
  toList_inj (bless_tri _ _ (by simpa [Less] using h) (by simpa [Less] using k))
theorem Less.asymm {a b : ByteArray} (h : Less a b) : ¬ Less b a := fun k => Less.irrefl a (h.trans k)
theorem Less.ne {a b : ByteArray} (h : Less a b) : a ≠ b := fun e => by subst e; exact Less.irrefl a h
theorem scmp_geq (a b : ByteArray) : scmp .geq a b = !decide (Less a b) := by
  show (!Op.bytesLess a.toList b.toList) = _
  by_cases h : Less a b
  · rw [decide_eq_true h, show Op.bytesLess a.toList b.toList = true from h]
  · rw [decide_eq_false h, show Op.bytesLess a.toList b.toList = false from Bool.eq_false_iff.2 h]
theorem scmp_lss (a b : ByteArray) : scmp .lss a b = decide (Less a b) := by
  show Op.bytesLess a.toList b.toList = _
  by_cases h : Less a b
  · rw [decide_eq_true h]; exact h
  · rw [decide_eq_false h]; exact Bool.eq_false_iff.2 h
theorem cmp_less (a b : ByteArray) : Lib.compareBytes a.data.toList b.data.toList < 0 ↔ Less a b := by
  unfold Less; rw [cmp_lt, toList_data, toList_data]
theorem mid_nat {i j : Nat} (h : i + j < 9223372036854775808) : IntKind.i64.wrap ((IntKind.u64.wrap (IntKind.i64.wrap ((i : Int) + (j : Int)))) / 2 ^ (Int.toNat (1 : Int))) = (((i + j) / 2 : Nat) : Int) := by
  have e1 : IntKind.i64.wrap ((i : Int) + (j : Int)) = ((i + j : Nat) : Int) := by
    simp [IntKind.wrap, IntKind.signed, IntKind.bits]
    split <;> omega
  have e2 : IntKind.u64.wrap ((i + j : Nat) : Int) = ((i + j : Nat) : Int) := by
    simp [IntKind.wrap, IntKind.signed, IntKind.bits]
    omega
  rw [e1, e2]
  have e3 : (((i + j : Nat) : Int)) / 2 ^ (Int.toNat (1 : Int)) = (((i + j) / 2 : Nat) : Int) := by
    simp
  rw [e3]
  simp [IntKind.wrap, IntKind.signed, IntKind.bits]
  split <;> omega
end Go.Proofs.Ytlpmolohppoofaa.Sl
