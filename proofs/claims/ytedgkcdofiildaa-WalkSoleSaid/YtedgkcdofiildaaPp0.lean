/- Plain words for the pure texts: loops by index. -/
import Derived.Test.YtedgkcdofiildaaSm5
set_option linter.unusedVariables false
set_option linter.unusedSimpArgs false
set_option linter.unnecessarySimpa false
set_option linter.deprecated false
namespace Go.Proofs.Ytedgkcdofiildaa.Sl
open Go
@[elab_as_elim] theorem up {n : Nat} {P : Nat → Prop} (j : Nat) (hj : j ≤ n) (h0 : P n) (hs : ∀ j, j < n → P (j + 1) → P j) : P j := by
  obtain ⟨d, rfl⟩ : ∃ d, n = j + d := ⟨n - j, by omega⟩
  induction d generalizing j with
  | zero => exact h0
  | succ d ih =>
    refine hs j (by omega) (ih (j + 1) (by omega) ?_ ?_)
    · rw [show j + 1 + d = j + (d + 1) by omega]; exact h0
    · rw [show j + 1 + d = j + (d + 1) by omega]; exact hs
def memB (l : List ByteArray) (x : ByteArray) : Bool := l.any fun y => decide (y = x)
theorem memB_cons (l : List ByteArray) (y x : ByteArray) : memB (y :: l) x = (decide (y = x) || memB l x) := rfl
theorem memB_iff {l : List ByteArray} {x : ByteArray} : memB l x = true ↔ x ∈ l := by
  unfold memB
  rw [List.any_eq_true]
  exact ⟨fun ⟨y, hy, e⟩ => of_decide_eq_true e ▸ hy, fun h => ⟨x, h, decide_eq_true rfl⟩⟩
theorem memB_app (l k : List ByteArray) (x : ByteArray) : memB (l ++ k) x = (memB l x || memB k x) := by unfold memB; rw [List.any_append]
abbrev LIM : Nat := 140737488351232
theorem lss_nat (a b : Nat) : icmp .lss (a : Int) (b : Int) = decide (a < b) := by simp [icmp]
theorem gtr_nat (a b : Nat) : icmp .gtr (a : Int) (b : Int) = decide (b < a) := by simp [icmp]
theorem eql_nat (a b : Nat) : icmp .eql (a : Int) (b : Int) = decide (a = b) := by
  rw [Bool.eq_iff_iff]; simp [icmp]; omega
theorem leq_nat (a b : Nat) : icmp .leq (a : Int) (b : Int) = decide (a ≤ b) := by simp [icmp]
theorem idx_nat {α : Type} {l : List α} {j : Nat} (h : j < l.length) : idx l (j : Int) = some l[j] := by
  unfold idx
  rw [if_neg (by omega)]
  simp [h]
theorem bidx_nat {s : ByteArray} {j : Nat} (h : j < s.size) : bidx s (j : Int) = some (((s.data.toList[j]'(by simpa using h)).toNat : Nat) : Int) := by
  unfold bidx
  rw [if_neg (by omega)]
  simp [List.getElem?_eq_getElem (show j < s.data.toList.length by simpa using h)]
theorem wrap_nat {j : Nat} (h : j < 9223372036854775807) : IntKind.i64.wrap ((j : Int) + 1) = ((j + 1 : Nat) : Int) := by
  simp [IntKind.wrap, IntKind.signed, IntKind.bits]
  split <;> omega
theorem scmp_eql (a b : ByteArray) : scmp .eql a b = decide (a = b) := rfl
theorem scmp_neq (a b : ByteArray) : scmp .neq a b = !decide (a = b) := rfl
theorem drop_cons {α : Type} {l : List α} {j : Nat} (h : j < l.length) : l.drop j = l[j] :: l.drop (j + 1) := List.drop_eq_getElem_cons h
theorem sub_nat {α : Type} {l : List α} {j : Nat} (h : j ≤ l.length) : sub l 0 (j : Int) = some (l.take j) := by
  unfold sub
  rw [if_pos ⟨by omega, by omega, by omega⟩]
  simp
theorem zero_nat : (0 : Int) = ((0 : Nat) : Int) := rfl
theorem app_one {l : List ByteArray} {x : ByteArray} (h : l.length < LIM / 16) : app 16 l [x] = some (l ++ [x]) := by
  unfold app room
  rw [if_pos (Nat.ble_eq_true_of_le (by simp [LIM] at *; omega))]
theorem gput_some {α : Type} {m : GM α} {s : ByteArray} {x : α} (hm : m.n < 9223372036854775807) (hs : s.size ≤ LIM) : gput m s x = some ⟨m.n + 1, fun t => if t = s then some x else m.g t⟩ := by
  unfold gput
  rw [if_pos ⟨hm, by simp [LIM] at hs; omega⟩]
theorem gget_some {α : Type} {m : GM α} {z : α} {s : ByteArray} (hs : s.size ≤ LIM) : gget m z s = some ((m.g s).getD z) := by
  unfold gget
  rw [if_pos (by simp [LIM] at hs; omega)]
end Go.Proofs.Ytedgkcdofiildaa.Sl
