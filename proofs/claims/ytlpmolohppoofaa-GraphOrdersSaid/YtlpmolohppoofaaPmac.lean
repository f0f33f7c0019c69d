/- Macros: the program's check. -/
import Derived.Test.YtlpmolohppoofaaPnamep
import Derived.Test.YtlpmolohppoofaaPord
import Derived.Laws.RangeAny
set_option linter.unusedVariables false
set_option linter.unusedSimpArgs false
set_option linter.unnecessarySimpa false
set_option linter.deprecated false
namespace Go.Proofs.Ytlpmolohppoofaa.F
open Go Go.RowKit Go.Proofs.Ytlpmolohppoofaa.Sl
/-! ### a macro's name -/
def macLet (c : UInt8) : Bool := !(macro_Name_1.f (c.toNat : Int)).getD true
theorem macLet_all : ∀ n : Fin 256, macro_Name_1.f ((UInt8.ofFin n).toNat : Int) = some (!macLet (UInt8.ofFin n)) := by decide +kernel
theorem macLet_v (c : UInt8) : macro_Name_1.f (c.toNat : Int) = some (!macLet c) := macLet_all c.toFin
theorem macLet_small : ∀ n : Fin 256, macLet (UInt8.ofFin n) = true → (UInt8.ofFin n).toNat < 128 := by decide +kernel
theorem other_big {z : Int} (h : 128 ≤ z) : macro_Name_1.f z = some true := by
  have a1 : icmp .geq z (97 : Int) = true := by unfold icmp; exact decide_eq_true (by omega)
  have a2 : icmp .leq z (122 : Int) = false := by unfold icmp; exact decide_eq_false (by omega)
  have a3 : icmp .geq z (65 : Int) = true := by unfold icmp; exact decide_eq_true (by omega)
  have a4 : icmp .leq z (90 : Int) = false := by unfold icmp; exact decide_eq_false (by omega)
  have a5 : icmp .geq z (48 : Int) = true := by unfold icmp; exact decide_eq_true (by omega)
  have a6 : icmp .leq z (57 : Int) = false := by unfold icmp; exact decide_eq_false (by omega)
  have a7 : icmp .eql z (95 : Int) = false := by unfold icmp; simp; omega
  have a8 : icmp .eql z (46 : Int) = false := by unfold icmp; simp; omega
  unfold macro_Name_1.f
  simp only [a1, a2, a3, a4, a5, a6, a7, a8, cond_true, cond_false, Option.bind_some, Bool.not_false]
theorem index_loop19 (s : ByteArray) : ∀ j : Nat, j ≤ s.data.toList.length → ∃ r, strings_indexFunc.l0.v s (fun z0 => macro_Name_1.f z0) true j = some r ∧ (match r with | .ok _ => (s.data.toList.drop j).all macLet = true | .error i => (0 : Int) ≤ i ∧ (s.data.toList.drop j).all macLet = false) := fun j hj =>
  up j hj ⟨.ok (), by rw [strings_indexFunc.l0.v_eq, decide_eq_false (by simp)]; rfl, by rw [List.drop_length]; rfl⟩ (fun j hj ih => by
    have hj' : j < s.size := by simpa using hj
    have hg : s[j]'hj' = s.data.toList[j] := rfl
    rw [strings_indexFunc.l0.v_eq, decide_eq_true hj', cond_true, drop_cons hj, List.all_cons]
    by_cases hs : (s[j]'hj').toNat < 128
    · rw [decode_ascii s j hj' hs]
      show ∃ r, ((macro_Name_1.f ((s[j]'hj').toNat : Int)).bind fun v6 => bif (v6 == true) then (some (Except.error (j : Int))) else (strings_indexFunc.l0.v s (fun z0 => macro_Name_1.f z0) true (nxPos s j))) = some r ∧ _
      rw [macLet_v, Option.bind_some, hg]
      cases hm : macLet s.data.toList[j] with
      | false => exact ⟨.error (j : Int), rfl, by omega, rfl⟩
      | true =>
        have hn : nxPos s j = j + 1 := by unfold nxPos; rw [decide_eq_true hj', cond_true, decode_ascii s j hj' hs]
        rw [hn, Bool.true_and]
        exact ih
    · have hd := (decode_high s j hj' (by omega)).1
      rw [other_big (by omega), Option.bind_some]
      have hm : macLet s.data.toList[j] = false := by
        cases h : macLet s.data.toList[j] with
        | false => rfl
        | true => exact absurd (macLet_small s.data.toList[j].toFin h) hs
      rw [hm]
      exact ⟨.error (j : Int), rfl, by omega, rfl⟩)
def macName (s : ByteArray) : Bool := decide (0 < s.size) && decide (s.size ≤ 64) && s.data.toList.all macLet
theorem contains19_v (s : ByteArray) : strings_ContainsFunc.v s (fun z0 => macro_Name_1.f z0) = some (!s.data.toList.all macLet) := by
  obtain ⟨r, e, h⟩ := index_loop19 s 0 (Nat.zero_le _)
  rw [List.drop_zero] at h
  rw [strings_ContainsFunc.v_eq, strings_IndexFunc.v_eq, strings_indexFunc.v_eq, show strings_indexFunc.l0.v s (fun z0 => macro_Name_1.f z0) true (0 : Nat) = _ from e, Option.bind_some]
  cases r with
  | ok _ => rw [h]; rfl
  | error i =>
    rw [h.2]
    have e2 : icmp .geq i (0 : Int) = true := by unfold icmp; exact decide_eq_true h.1
    simp [e2]
theorem mname_v (s : ByteArray) : macro_Name.v s = some (macName s) := by
  rw [macro_Name.v_eq, contains19_v, show icmp .gtr (s.size : Int) (0 : Int) = _ from gtr_nat _ 0, show icmp .leq (s.size : Int) (64 : Int) = _ from leq_nat _ 64]
  unfold macName
  cases decide (0 < s.size) <;> cases decide (s.size ≤ 64) <;> simp
/-! ### one macro, and several -/
def oneB (m : Macro) : Int := bif !macName m.Name then 50 else bif (icmp .lss m.Level (0 : Int) || icmp .gtr m.Level (2 : Int)) then 51 else bif icmp .gtr (m.Value.size : Int) (8192 : Int) then 41 else 0
theorem one_v (m : Macro) : macro_one.v m = some (oneB m) := by
  rw [macro_one.v_eq, mname_v, Option.bind_some]
  unfold oneB
  cases macName m.Name <;> cases icmp .lss m.Level (0 : Int) <;> cases icmp .gtr m.Level (2 : Int) <;> cases icmp .gtr (m.Value.size : Int) (8192 : Int) <;> rfl
theorem eql_neq (w : Int) : icmp .eql w (0 : Int) = !icmp .neq w (0 : Int) := by
  unfold icmp; rw [Bool.eq_iff_iff]; simp
theorem neq_dec (w : Int) : icmp .neq w (0 : Int) = !decide (w = 0) := by
  unfold icmp; rw [Bool.eq_iff_iff]; simp
/-- Several macros: the first fault. -/
def macsE : List Macro → Int
  | [] => 0
  | x :: xs => bif decide (oneB x = 0) then macsE xs else oneB x
def ordB : Option ByteArray → List Macro → Bool
  | _, [] => true
  | none, x :: xs => ordB (some x.Name) xs
  | some p, x :: xs => decide (Less p x.Name) && ordB (some x.Name) xs
def macE (l : List Macro) : Int := bif decide (256 < l.length) then 2 else bif decide (macsE l = 0) then (bif ordB none l then 0 else 5) else macsE l
def prevM (l : List Macro) (j : Nat) : Option ByteArray := if j = 0 then none else (l[j - 1]?).map (·.Name)
theorem pred1 {j : Nat} (h0 : 0 < j) (h : j ≤ LIM) : IntKind.i64.wrap ((j : Int) - (1 : Int)) = ((j - 1 : Nat) : Int) := by
  simp only [LIM] at h
  simp [IntKind.wrap, IntKind.signed, IntKind.bits]
  split <;> omega
theorem mac_loop0 (l : List Macro) (hl : l.length ≤ LIM) : ∀ j : Nat, j ≤ l.length → macro_Check.l0.v l (j : Int) = some (bif decide (macsE (l.drop j) = 0) then .ok () else .error (macsE (l.drop j))) := fun j hj =>
  up j hj (by rw [macro_Check.l0.v_eq, lss_nat, List.drop_length, decide_eq_false (by simp)]; rfl) (fun j hj ih => by
    rw [macro_Check.l0.v_eq, lss_nat, decide_eq_true hj, cond_true, idx_nat hj, Option.bind_some, one_v, Option.bind_some, wrap_nat (by simp [LIM] at hl; omega), ih, drop_cons hj, neq_dec]
    by_cases h : oneB l[j] = 0
    · simp only [macsE, decide_eq_true h, Bool.not_true, cond_false, cond_true]
    · simp only [macsE, decide_eq_false h, Bool.not_false, cond_false, cond_true])
theorem byName_v (a b : Macro) : (macro_byName.f a b).bind (fun v24 => some (icmp .geq v24 (0 : Int))) = some (!decide (Less a.Name b.Name)) := by
  show some (icmp .geq (Lib.compareBytes a.Name.data.toList b.Name.data.toList) (0 : Int)) = _
  congr 1
  unfold icmp
  rw [Bool.eq_iff_iff]
  simp only [decide_eq_true_eq, Bool.not_eq_true', decide_eq_false_iff_not, ← cmp_less]
  omega
theorem mac_loop1 (l : List Macro) (hl : l.length ≤ LIM) : ∀ j : Nat, j ≤ l.length → macro_Check.l1.v l (j : Int) = some (bif ordB (prevM l j) (l.drop j) then .ok () else .error 5) := fun j hj =>
  up j hj (by
    rw [macro_Check.l1.v_eq, lss_nat, List.drop_length, decide_eq_false (by simp)]
    cases prevM l l.length <;> rfl) (fun j hj ih => by
    have e0 : icmp .gtr (j : Int) (0 : Int) = decide (0 < j) := gtr_nat j 0
    have hp : prevM l (j + 1) = some l[j].Name := by unfold prevM; rw [if_neg (Nat.succ_ne_zero j), Nat.add_sub_cancel, List.getElem?_eq_getElem hj]; rfl
    rw [macro_Check.l1.v_eq, lss_nat, decide_eq_true hj, cond_true, wrap_nat (by simp [LIM] at hl; omega), ih, drop_cons hj, e0, hp]
    rcases Nat.eq_zero_or_pos j with h0 | h0
    · subst h0; rfl
    · have hj1 : j - 1 < l.length := by omega
      have hq : prevM l j = some l[j - 1].Name := by unfold prevM; rw [if_neg (by omega), List.getElem?_eq_getElem hj1]; rfl
      rw [decide_eq_true h0, cond_true, pred1 h0 (by omega), idx_nat hj1, Option.bind_some, idx_nat hj, Option.bind_some, byName_v, hq, Option.bind_some, ordB]
      cases decide (Less l[j - 1].Name l[j].Name) <;> rfl)
theorem macCheck_v (l : List Macro) (hl : l.length ≤ LIM) : macro_Check.v l = some (macE l) := by
  rw [macro_Check.v_eq, show icmp .gtr (l.length : Int) (256 : Int) = _ from gtr_nat _ 256, show macro_Check.l0.v l (0 : Int) = _ from mac_loop0 l hl 0 (Nat.zero_le _), show macro_Check.l1.v l (0 : Int) = _ from mac_loop1 l hl 0 (Nat.zero_le _), List.drop_zero, show prevM l 0 = none from rfl]
  unfold macE
  cases decide (256 < l.length)
  · cases decide (macsE l = 0)
    · rfl
    · cases ordB none l <;> rfl
  · rfl
end Go.Proofs.Ytlpmolohppoofaa.F
