/- Macros: the document's check; names: the document's way. -/
import Derived.Test.YtlpmolohppoofaaPmac
import Derived.Test.YtlpmolohppoofaaPnamer
set_option linter.unusedVariables false
set_option linter.unusedSimpArgs false
set_option linter.unnecessarySimpa false
set_option linter.deprecated false
namespace Go.Proofs.Ytlpmolohppoofaa.F
open Go Go.RowKit Go.Proofs.Ytlpmolohppoofaa.Sl
def ref05Let (x10 : Int) : Option Bool := (bif icmp .geq x10 (65 : Int) then (bif icmp .leq x10 (90 : Int) then (some (!true)) else (bif icmp .geq x10 (97 : Int) then (bif icmp .leq x10 (122 : Int) then (some (!true)) else (bif icmp .geq x10 (48 : Int) then (bif icmp .leq x10 (57 : Int) then (some (!true)) else (bif icmp .eql x10 (95 : Int) then (some (!true)) else (some (!(icmp .eql x10 (46 : Int)))))) else (bif icmp .eql x10 (95 : Int) then (some (!true)) else (some (!(icmp .eql x10 (46 : Int))))))) else (bif icmp .geq x10 (48 : Int) then (bif icmp .leq x10 (57 : Int) then (some (!true)) else (bif icmp .eql x10 (95 : Int) then (some (!true)) else (some (!(icmp .eql x10 (46 : Int)))))) else (bif icmp .eql x10 (95 : Int) then (some (!true)) else (some (!(icmp .eql x10 (46 : Int)))))))) else (bif icmp .geq x10 (97 : Int) then (bif icmp .leq x10 (122 : Int) then (some (!true)) else (bif icmp .geq x10 (48 : Int) then (bif icmp .leq x10 (57 : Int) then (some (!true)) else (bif icmp .eql x10 (95 : Int) then (some (!true)) else (some (!(icmp .eql x10 (46 : Int)))))) else (bif icmp .eql x10 (95 : Int) then (some (!true)) else (some (!(icmp .eql x10 (46 : Int))))))) else (bif icmp .geq x10 (48 : Int) then (bif icmp .leq x10 (57 : Int) then (some (!true)) else (bif icmp .eql x10 (95 : Int) then (some (!true)) else (some (!(icmp .eql x10 (46 : Int)))))) else (bif icmp .eql x10 (95 : Int) then (some (!true)) else (some (!(icmp .eql x10 (46 : Int))))))))
theorem ref05_all : ∀ n : Fin 256, ref05Let ((UInt8.ofFin n).toNat : Int) = some (!macLet (UInt8.ofFin n)) := by decide +kernel
theorem ref05_v (c : UInt8) : ref05Let (c.toNat : Int) = some (!macLet c) := ref05_all c.toFin
theorem ref05_step (a0 : ByteArray) (s5 : Int) : smithyref05_Name.l0.v a0 s5 = bif icmp .lss s5 (a0.size : Int) then ((bidx a0 s5).bind fun x10 => (ref05Let x10).bind fun s => bif s then (some (Except.error false)) else (smithyref05_Name.l0.v a0 (IntKind.i64.wrap (s5 + (1 : Int))))) else (some (Except.ok ())) := smithyref05_Name.l0.v_eq a0 s5
theorem ref05_loop (s : ByteArray) (hs : s.size ≤ LIM) : ∀ j : Nat, j ≤ s.data.toList.length → smithyref05_Name.l0.v s j = some (bif (s.data.toList.drop j).all macLet then .ok () else .error false) := fun j hj =>
  up j hj (by rw [ref05_step, lss_nat, List.drop_length, decide_eq_false (by simp)]; rfl) (fun j hj ih => by
    have hj' : j < s.size := by simpa using hj
    rw [ref05_step, lss_nat, decide_eq_true hj', cond_true, bidx_nat hj', Option.bind_some, ref05_v, Option.bind_some, wrap_nat (by simp [LIM] at hs; omega), ih, drop_cons hj, List.all_cons]
    cases macLet s.data.toList[j] <;> rfl)
theorem rname_v (s : ByteArray) (hs : s.size ≤ LIM) : smithyref05_Name.v s = some (macName s) := by
  rw [smithyref05_Name.v_eq, show smithyref05_Name.l0.v s (0 : Int) = _ from ref05_loop s hs 0 (Nat.zero_le _), List.drop_zero, show icmp .lss (s.size : Int) (1 : Int) = _ from lss_nat _ 1, show icmp .gtr (s.size : Int) (64 : Int) = _ from gtr_nat _ 64]
  unfold macName
  have g1 : decide (s.size < 1) = !decide (0 < s.size) := by rw [Bool.eq_iff_iff]; simp
  have g2 : decide (64 < s.size) = !decide (s.size ≤ 64) := by rw [Bool.eq_iff_iff]; simp
  rw [g1, g2]
  cases decide (0 < s.size) <;> cases decide (s.size ≤ 64) <;> cases s.data.toList.all macLet <;> rfl
theorem rone_v (m : Macro) (hs : m.Name.size ≤ LIM) : smithyref05_One.v m = some (oneB m) := by
  rw [smithyref05_One.v_eq, rname_v _ hs, Option.bind_some]
  unfold oneB
  cases macName m.Name <;> cases icmp .lss m.Level (0 : Int) <;> cases icmp .gtr m.Level (2 : Int) <;> cases icmp .gtr (m.Value.size : Int) (8192 : Int) <;> rfl
theorem rmac_loop0 (l : List Macro) (hl : l.length ≤ LIM) (hs : ∀ x, x ∈ l → x.Name.size ≤ LIM) : ∀ j : Nat, j ≤ l.length → smithyref05_Check.l0.v l (j : Int) = some (bif decide (macsE (l.drop j) = 0) then .ok () else .error (macsE (l.drop j))) := fun j hj =>
  up j hj (by rw [smithyref05_Check.l0.v_eq, lss_nat, List.drop_length, decide_eq_false (by simp)]; rfl) (fun j hj ih => by
    rw [smithyref05_Check.l0.v_eq, lss_nat, decide_eq_true hj, cond_true, idx_nat hj, Option.bind_some, rone_v _ (hs _ (List.getElem_mem hj)), Option.bind_some, wrap_nat (by simp [LIM] at hl; omega), ih, drop_cons hj, neq_dec]
    by_cases h : oneB l[j] = 0
    · simp only [macsE, decide_eq_true h, Bool.not_true, cond_false, cond_true]
    · simp only [macsE, decide_eq_false h, Bool.not_false, cond_false, cond_true])
theorem rmac_loop1 (l : List Macro) (hl : l.length ≤ LIM) : ∀ j : Nat, j ≤ l.length → 1 ≤ j → smithyref05_Check.l1.v l (j : Int) = some (bif ordB (prevM l j) (l.drop j) then .ok () else .error 5) := fun j hj =>
  up j hj (fun h1 => by
    rw [smithyref05_Check.l1.v_eq, lss_nat, List.drop_length, decide_eq_false (by simp)]
    cases prevM l l.length <;> rfl) (fun j hj ih h1 => by
    have hp : prevM l (j + 1) = some l[j].Name := by unfold prevM; rw [if_neg (Nat.succ_ne_zero j), Nat.add_sub_cancel, List.getElem?_eq_getElem hj]; rfl
    have hj1 : j - 1 < l.length := by omega
    have hq : prevM l j = some l[j - 1].Name := by unfold prevM; rw [if_neg (by omega), List.getElem?_eq_getElem hj1]; rfl
    rw [smithyref05_Check.l1.v_eq, lss_nat, decide_eq_true hj, cond_true, pred1 (by omega) (by omega), idx_nat hj1, Option.bind_some, idx_nat hj, Option.bind_some, scmp_geq, wrap_nat (by simp [LIM] at hl; omega), ih (by omega), drop_cons hj, hp, hq, ordB]
    cases decide (Less l[j - 1].Name l[j].Name) <;> rfl)
theorem rmacCheck_v (l : List Macro) (hl : l.length ≤ LIM) (hs : ∀ x, x ∈ l → x.Name.size ≤ LIM) : smithyref05_Check.v l = some (macE l) := by
  have h1 : smithyref05_Check.l1.v l (1 : Int) = some (bif ordB none l then .ok () else .error 5) := by
    cases l with
    | nil => rw [smithyref05_Check.l1.v_eq]; rfl
    | cons x xs => rw [show smithyref05_Check.l1.v (x :: xs) (1 : Int) = _ from rmac_loop1 (x :: xs) hl 1 (by simp) (Nat.le_refl _)]; rfl
  rw [smithyref05_Check.v_eq, show icmp .gtr (l.length : Int) (256 : Int) = _ from gtr_nat _ 256, show smithyref05_Check.l0.v l (0 : Int) = _ from rmac_loop0 l hl hs 0 (Nat.zero_le _), h1, List.drop_zero]
  unfold macE
  cases decide (256 < l.length)
  · cases decide (macsE l = 0)
    · rfl
    · cases ordB none l <;> rfl
  · rfl
theorem letter03_all : ∀ n : Fin 256, smithyref03_letter.f ((UInt8.ofFin n).toNat : Int) = some (letB (UInt8.ofFin n)) := by decide +kernel
theorem letter03_v (c : UInt8) : smithyref03_letter.f (c.toNat : Int) = some (letB c) := letter03_all c.toFin
theorem is_loop (s : ByteArray) (hs : s.size ≤ LIM) : ∀ j : Nat, j ≤ s.data.toList.length → smithyref03_Is.l0.v s j = some (bif (s.data.toList.drop j).all letB then .ok () else .error false) := fun j hj =>
  up j hj (by rw [smithyref03_Is.l0.v_eq, lss_nat, List.drop_length, decide_eq_false (by simp)]; rfl) (fun j hj ih => by
    have hj' : j < s.size := by simpa using hj
    rw [smithyref03_Is.l0.v_eq, lss_nat, decide_eq_true hj', cond_true, bidx_nat hj', Option.bind_some, letter03_v, Option.bind_some, wrap_nat (by simp [LIM] at hs; omega), ih, drop_cons hj, List.all_cons]
    cases letB s.data.toList[j] <;> rfl)
theorem is_v (s : ByteArray) (hs : s.size ≤ LIM) : smithyref03_Is.v s = some (nameOk s) := by
  rw [smithyref03_Is.v_eq, show smithyref03_Is.l0.v s (0 : Int) = _ from is_loop s hs 0 (Nat.zero_le _), List.drop_zero, show icmp .lss (s.size : Int) (1 : Int) = _ from lss_nat _ 1, show icmp .gtr (s.size : Int) (64 : Int) = _ from gtr_nat _ 64]
  unfold nameOk nameAll
  have g1 : decide (s.size < 1) = !decide (0 < s.size) := by rw [Bool.eq_iff_iff]; simp
  have g2 : decide (64 < s.size) = !decide (s.size ≤ 64) := by rw [Bool.eq_iff_iff]; simp
  rw [g1, g2]
  cases decide (0 < s.size) <;> cases decide (s.size ≤ 64) <;> cases s.data.toList.all letB <;> rfl
end Go.Proofs.Ytlpmolohppoofaa.F
