/- Lists and names: what the printed functions come to. -/
import Derived.Test.YtedgkcdofiildaaVSx0
import Derived.Test.YtedgkcdofiildaaPp0
set_option linter.unusedVariables false
set_option linter.unusedSimpArgs false
set_option linter.unnecessarySimpa false
set_option linter.deprecated false
namespace Go.Proofs.Ytedgkcdofiildaa.F
open Go Go.RowKit Go.Proofs.Ytedgkcdofiildaa.Sl
theorem has_loop (l : List ByteArray) (x : ByteArray) (hl : l.length ≤ LIM) : ∀ j : Nat, j ≤ l.length → smithyref03_Has.l0.v l x j = some (if memB (l.drop j) x = true then .error true else .ok ()) := fun j hj =>
  up j hj (by rw [smithyref03_Has.l0.v_eq, lss_nat]; simp [memB]) (fun j hj ih => by
    rw [smithyref03_Has.l0.v_eq, lss_nat, decide_eq_true hj, cond_true, idx_nat hj, Option.bind_some, wrap_nat (by simp [LIM] at hl; omega), ih, scmp_eql, drop_cons hj]
    rw [memB_cons]
    by_cases h : l[j] = x <;> simp [h])
theorem has_v (l : List ByteArray) (x : ByteArray) (hl : l.length ≤ LIM) : smithyref03_Has.v l x = some (memB l x) := by
  rw [smithyref03_Has.v_eq, zero_nat, has_loop l x hl 0 (Nat.zero_le _)]
  cases h : memB l x <;> simp [h]
theorem index_loop (l : List ByteArray) (x : ByteArray) (hl : l.length ≤ LIM) : ∀ j : Nat, j ≤ l.length → (memB (l.drop j) x = true ∧ ∃ i : Nat, slices_Index_string_string.l0.v l x j = some (.error (i : Int))) ∨ (memB (l.drop j) x = false ∧ slices_Index_string_string.l0.v l x j = some (.ok ())) := fun j hj =>
  up j hj (.inr ⟨by simp [memB], by rw [slices_Index_string_string.l0.v_eq, lss_nat]; simp⟩) (fun j hj ih => by
    rw [slices_Index_string_string.l0.v_eq, lss_nat, decide_eq_true hj, cond_true, idx_nat hj, Option.bind_some, wrap_nat (by simp [LIM] at hl; omega), scmp_eql, drop_cons hj]
    rw [memB_cons]
    by_cases h : x = l[j]
    · exact .inl ⟨by simp [h], j, by rw [decide_eq_true h]; rfl⟩
    · rw [decide_eq_false h, decide_eq_false (fun e => h e.symm)]
      simpa using ih)
theorem contains_v (l : List ByteArray) (x : ByteArray) (hl : l.length ≤ LIM) : slices_Contains_string_string.v l x = some (memB l x) := by
  rw [slices_Contains_string_string.v_eq, slices_Index_string_string.v_eq, zero_nat]
  rcases index_loop l x hl 0 (Nat.zero_le _) with ⟨h, i, e⟩ | ⟨h, e⟩
  · rw [e]; simp only [List.drop_zero] at h; rw [h]; simp [icmp]
  · rw [e]; simp only [List.drop_zero] at h; rw [h]; simp [icmp]
theorem any_loop (l : List ByteArray) (p : ByteArray → Option Bool) (q : ByteArray → Bool) (hq : ∀ z, z ∈ l → p z = some (q z)) (hl : l.length ≤ LIM) : ∀ j : Nat, j ≤ l.length → ((l.drop j).any q = true ∧ ∃ i : Nat, slices_IndexFunc_string_string.l0.v l p j = some (.error (i : Int))) ∨ ((l.drop j).any q = false ∧ slices_IndexFunc_string_string.l0.v l p j = some (.ok ())) := fun j hj =>
  up j hj (.inr ⟨by simp, by rw [slices_IndexFunc_string_string.l0.v_eq, lss_nat]; simp⟩) (fun j hj ih => by
    rw [slices_IndexFunc_string_string.l0.v_eq, lss_nat, decide_eq_true hj, cond_true, idx_nat hj, Option.bind_some, wrap_nat (by simp [LIM] at hl; omega), hq _ (List.getElem_mem hj), Option.bind_some, drop_cons hj, List.any_cons]
    cases h : q l[j]
    · simpa using ih
    · exact .inl ⟨by simp, j, rfl⟩)
theorem any_v (l : List ByteArray) (p : ByteArray → Option Bool) (q : ByteArray → Bool) (hq : ∀ z, z ∈ l → p z = some (q z)) (hl : l.length ≤ LIM) : slices_ContainsFunc_string_string.v l p = some (l.any q) := by
  rw [slices_ContainsFunc_string_string.v_eq, slices_IndexFunc_string_string.v_eq, zero_nat]
  rcases any_loop l p q hq hl 0 (Nat.zero_le _) with ⟨h, i, e⟩ | ⟨h, e⟩
  · rw [e]; simp only [List.drop_zero] at h; rw [h]; simp [icmp]
  · rw [e]; simp only [List.drop_zero] at h; rw [h]; simp [icmp]
/-- A byte of a name. -/
def letB (c : UInt8) : Bool := (names_letter.f (c.toNat : Int)).getD false
theorem letter_all : ∀ n : Fin 256, names_letter.f ((UInt8.ofFin n).toNat : Int) = some (letB (UInt8.ofFin n)) := by decide +kernel
theorem letter_v (c : UInt8) : names_letter.f (c.toNat : Int) = some (letB c) := letter_all c.toFin
def nameAll (s : ByteArray) : Bool := s.data.toList.all letB
def nameOk (s : ByteArray) : Bool := decide (0 < s.size) && decide (s.size ≤ 64) && nameAll s
theorem check_loop (s : ByteArray) (hs : s.size ≤ LIM) : ∀ j : Nat, j ≤ s.data.toList.length → names_Check.l0.v s j = some (if (s.data.toList.drop j).all letB = true then .ok () else .error 3) := fun j hj =>
  up j hj (by rw [names_Check.l0.v_eq, lss_nat, List.drop_length, decide_eq_false (by simp)]; rfl) (fun j hj ih => by
    have hj' : j < s.size := by simpa using hj
    rw [names_Check.l0.v_eq, lss_nat, decide_eq_true hj', cond_true, bidx_nat hj', Option.bind_some, letter_v, Option.bind_some, wrap_nat (by simp [LIM] at hs; omega), ih, drop_cons hj, List.all_cons]
    cases h : letB s.data.toList[j] <;> simp)
theorem check_v (s : ByteArray) (hs : s.size ≤ LIM) : names_Check.v s = some (if nameOk s = true then 0 else 3) := by
  rw [names_Check.v_eq, show names_Check.l0.v s 0 = _ from check_loop s hs 0 (Nat.zero_le _), List.drop_zero]
  unfold nameOk nameAll
  have e1 : icmp .eql (s.size : Int) 0 = decide (s.size = 0) := eql_nat s.size 0
  have e2 : icmp .gtr (s.size : Int) 64 = decide (64 < s.size) := gtr_nat s.size 64
  rw [e1, e2]
  by_cases h0 : s.size = 0
  · simp [h0]
  · by_cases h64 : 64 < s.size
    · simp [h0, h64, show ¬ s.size ≤ 64 by omega]
    · simp [h0, h64, show s.size ≤ 64 by omega, show 0 < s.size by omega]
      cases h : s.data.toList.all letB <;> simp_all
def refLet (x6 : Int) : Option Bool := (bif icmp .geq x6 (97 : Int) then (bif icmp .leq x6 (122 : Int) then (some true) else (bif icmp .geq x6 (65 : Int) then (bif icmp .leq x6 (90 : Int) then (some true) else (bif icmp .geq x6 (48 : Int) then (some (icmp .leq x6 (57 : Int))) else (some false))) else (bif icmp .geq x6 (48 : Int) then (some (icmp .leq x6 (57 : Int))) else (some false)))) else (bif icmp .geq x6 (65 : Int) then (bif icmp .leq x6 (90 : Int) then (some true) else (bif icmp .geq x6 (48 : Int) then (some (icmp .leq x6 (57 : Int))) else (some false))) else (bif icmp .geq x6 (48 : Int) then (some (icmp .leq x6 (57 : Int))) else (some false)))).bind fun s8 => (bif !s8 then (bif icmp .neq x6 (95 : Int) then (bif icmp .neq x6 (45 : Int) then (bif icmp .neq x6 (46 : Int) then (bif icmp .neq x6 (47 : Int) then (some (icmp .neq x6 (43 : Int))) else (some false)) else (some false)) else (some false)) else (some false)) else (some false))
theorem refLet_all : ∀ n : Fin 256, refLet ((UInt8.ofFin n).toNat : Int) = some (!letB (UInt8.ofFin n)) := by decide +kernel
theorem refLet_v (c : UInt8) : refLet (c.toNat : Int) = some (!letB c) := refLet_all c.toFin
theorem refLet_bind {β : Type} (x6 : Int) (f : Bool → Option β) : ((bif icmp .geq x6 (97 : Int) then (bif icmp .leq x6 (122 : Int) then (some true) else (bif icmp .geq x6 (65 : Int) then (bif icmp .leq x6 (90 : Int) then (some true) else (bif icmp .geq x6 (48 : Int) then (some (icmp .leq x6 (57 : Int))) else (some false))) else (bif icmp .geq x6 (48 : Int) then (some (icmp .leq x6 (57 : Int))) else (some false)))) else (bif icmp .geq x6 (65 : Int) then (bif icmp .leq x6 (90 : Int) then (some true) else (bif icmp .geq x6 (48 : Int) then (some (icmp .leq x6 (57 : Int))) else (some false))) else (bif icmp .geq x6 (48 : Int) then (some (icmp .leq x6 (57 : Int))) else (some false)))).bind fun s8 => (bif !s8 then (bif icmp .neq x6 (95 : Int) then (bif icmp .neq x6 (45 : Int) then (bif icmp .neq x6 (46 : Int) then (bif icmp .neq x6 (47 : Int) then (some (icmp .neq x6 (43 : Int))) else (some false)) else (some false)) else (some false)) else (some false)) else (some false)).bind f) = (refLet x6).bind f := by
  unfold refLet
  rw [Option.bind_assoc]
theorem name_loop (s : ByteArray) (hs : s.size ≤ LIM) : ∀ j : Nat, j ≤ s.data.toList.length → smithyref02_Name.l0.v s j = some (if (s.data.toList.drop j).all letB = true then .ok () else .error false) := fun j hj =>
  up j hj (by rw [smithyref02_Name.l0.v_eq, lss_nat, List.drop_length, decide_eq_false (by simp)]; rfl) (fun j hj ih => by
    have hj' : j < s.size := by simpa using hj
    rw [smithyref02_Name.l0.v_eq, lss_nat, decide_eq_true hj', cond_true, bidx_nat hj', Option.bind_some, refLet_bind, refLet_v, Option.bind_some, wrap_nat (by simp [LIM] at hs; omega), ih, drop_cons hj, List.all_cons]
    cases h : letB s.data.toList[j] <;> simp)
theorem name_v (s : ByteArray) (hs : s.size ≤ LIM) : smithyref02_Name.v s = some (nameOk s) := by
  rw [smithyref02_Name.v_eq, show smithyref02_Name.l0.v s 0 = _ from name_loop s hs 0 (Nat.zero_le _), List.drop_zero]
  unfold nameOk nameAll
  cases h : s.data.toList.all letB
  · simp
  · by_cases h0 : 0 < s.size
    · by_cases h64 : s.size ≤ 64
      · have h3 : (s.size : Int) ≤ 64 := by omega
        have h4 : (s.size : Int) > 0 := by omega
        simp [icmp, h0, h64, h3, h4]
      · have h3 : ¬ (s.size : Int) ≤ 64 := by omega
        have h4 : (s.size : Int) > 0 := by omega
        simp [icmp, h0, h64, h3, h4]
    · have h4 : ¬ (s.size : Int) > 0 := by omega
      simp [icmp, h0, h4]
end Go.Proofs.Ytedgkcdofiildaa.F
