/- Lists and names: what the printed functions come to. -/
import Derived.Test.YtlpmolohppoofaaVOx1
import Derived.Test.YtlpmolohppoofaaPnamep
set_option linter.unusedVariables false
set_option linter.unusedSimpArgs false
set_option linter.unnecessarySimpa false
set_option linter.deprecated false
namespace Go.Proofs.Ytlpmolohppoofaa.F
open Go Go.RowKit Go.Proofs.Ytlpmolohppoofaa.Sl
def refLet (x6 : Int) : Option Bool := (bif icmp .geq x6 (97 : Int) then (bif icmp .leq x6 (122 : Int) then (some true) else (bif icmp .geq x6 (65 : Int) then (bif icmp .leq x6 (90 : Int) then (some true) else (bif icmp .geq x6 (48 : Int) then (some (icmp .leq x6 (57 : Int))) else (some false))) else (bif icmp .geq x6 (48 : Int) then (some (icmp .leq x6 (57 : Int))) else (some false)))) else (bif icmp .geq x6 (65 : Int) then (bif icmp .leq x6 (90 : Int) then (some true) else (bif icmp .geq x6 (48 : Int) then (some (icmp .leq x6 (57 : Int))) else (some false))) else (bif icmp .geq x6 (48 : Int) then (some (icmp .leq x6 (57 : Int))) else (some false)))).bind fun s8 => (bif !s8 then (bif icmp .neq x6 (95 : Int) then (bif icmp .neq x6 (45 : Int) then (bif icmp .neq x6 (46 : Int) then (bif icmp .neq x6 (47 : Int) then (some (icmp .neq x6 (43 : Int))) else (some false)) else (some false)) else (some false)) else (some false)) else (some false))
theorem refLet_all : ∀ n : Fin 256, refLet ((UInt8.ofFin n).toNat : Int) = some (!letB (UInt8.ofFin n)) := by decide +kernel
theorem refLet_v (c : UInt8) : refLet (c.toNat : Int) = some (!letB c) := refLet_all c.toFin
theorem refLet_bind {β : Type} (x6 : Int) (f : Bool → Option β) : ((bif icmp .geq x6 (97 : Int) then (bif icmp .leq x6 (122 : Int) then (some true) else (bif icmp .geq x6 (65 : Int) then (bif icmp .leq x6 (90 : Int) then (some true) else (bif icmp .geq x6 (48 : Int) then (some (icmp .leq x6 (57 : Int))) else (some false))) else (bif icmp .geq x6 (48 : Int) then (some (icmp .leq x6 (57 : Int))) else (some false)))) else (bif icmp .geq x6 (65 : Int) then (bif icmp .leq x6 (90 : Int) then (some true) else (bif icmp .geq x6 (48 : Int) then (some (icmp .leq x6 (57 : Int))) else (some false))) else (bif icmp .geq x6 (48 : Int) then (some (icmp .leq x6 (57 : Int))) else (some false)))).bind fun s8 => (bif !s8 then (bif icmp .neq x6 (95 : Int) then (bif icmp .neq x6 (45 : Int) then (bif icmp .neq x6 (46 : Int) then (bif icmp .neq x6 (47 : Int) then (some (icmp .neq x6 (43 : Int))) else (some false)) else (some false)) else (some false)) else (some false)) else (some false)).bind f) = (refLet x6).bind f := by
  unfold refLet
  rw [Option.bind_assoc]
theorem name_loop (s : ByteArray) (hs : s.size ≤ LIM) : ∀ j : Nat, j ≤ s.data.toList.length → smithyref02_Name.l0.v s j = some (if (s.data.toList.drop j).all letB = true then .ok () else .error false) := fun j hj =>
  up j hj (by rw [smithyref02_Name.l0.v_eq, lss_nat, List.drop_length, decide_eq_false (by simp)]; rfl) (fun j hj ih => by
    have hj' : j < s.size := by simpa using hj
    rw [smithyref02_Name.l0.v_eq, lss_nat, decide_eq_true hj', cond_true, bidx_nat hj', Option.bind_some, refLet_bind, refLet_v, Option.bind_some, wrap_nat (by simp [LIM] at hs; omega), ih, drop_cons hj, List.all_cons]
    cases h : letB s.data.toList[j] <;> simp)
theorem name_v (s : ByteArray) (hs : s.size ≤ LIM) : smithyref02_Name.v s = some (nameOk s) := by
  rw [smithyref02_Name.v_eq, show smithyref02_Name.l0.v s 0 = _ from name_loop s hs 0 (Nat.zero_le _), List.drop_zero]
  unfold nameOk nameAll
  cases h : s.data.toList.all letB
  · simp
  · by_cases h0 : 0 < s.size
    · by_cases h64 : s.size ≤ 64
      · have h3 : (s.size : Int) ≤ 64 := by omega
        have h4 : (s.size : Int) > 0 := by omega
        simp [icmp, h0, h64, h3, h4]
      · have h3 : ¬ (s.size : Int) ≤ 64 := by omega
        have h4 : (s.size : Int) > 0 := by omega
        simp [icmp, h0, h64, h3, h4]
    · have h4 : ¬ (s.size : Int) > 0 := by omega
      simp [icmp, h0, h4]
end Go.Proofs.Ytlpmolohppoofaa.F
