/- The document's check of a disk. -/
import Derived.Test.YtaeapobjhgakiaaPdisk
set_option linter.unusedVariables false
set_option linter.unusedSimpArgs false
set_option linter.unnecessarySimpa false
set_option linter.deprecated false
namespace Go.Proofs.Ytaeapobjhgakiaa.F
open Go Go.RowKit Go.Proofs.Ytaeapobjhgakiaa.Sl
theorem rdcheck_loop (d : Disk) (hf : diskFits d) : ∀ j : Nat, j ≤ d.Files.length → smithyref02_Check.l0.v d (j : Int) = some (bif filesB d.Clock (if j = 0 then none else (d.Files[j - 1]?).map (·.Name)) (d.Files.drop j) then .ok () else .error 4) := fun j hj =>
  up j hj (by rw [smithyref02_Check.l0.v_eq, lss_nat, List.drop_length, decide_eq_false (by simp)]; simp [filesB]) (fun j hj ih => by
    have hl := hf.nl
    have hx := hf.n _ (List.getElem_mem hj)
    have e0 : icmp .gtr (j : Int) (0 : Int) = decide (0 < j) := gtr_nat j 0
    have e1 : icmp .gtr (d.Files[j].Text.size : Int) (4096 : Int) = !decide (d.Files[j].Text.size ≤ 4096) := by rw [gtr_not]; congr 1; rw [Bool.eq_iff_iff]; simp only [decide_eq_true_eq]; omega
    rw [smithyref02_Check.l0.v_eq, lss_nat, decide_eq_true hj, cond_true, idx_nat hj, Option.bind_some, name_v _ hx, Option.bind_some, wrap_nat (by simp [LIM] at hl; omega), ih, drop_cons hj, if_neg (Nat.succ_ne_zero j), lss_not, gtr_not d.Files[j].Stamp, e1, e0, Nat.add_sub_cancel, List.getElem?_eq_getElem hj]
    simp only [filesB, Option.map_some]
    cases nameOk d.Files[j].Name with
    | false => rfl
    | true =>
      rcases Nat.eq_zero_or_pos j with h0 | h0
      · subst h0
        cases decide (d.Files[0].Text.size ≤ 4096) <;> cases decide (0 ≤ d.Files[0].Stamp) <;> cases decide (d.Files[0].Stamp ≤ d.Clock) <;> rfl
      · have hj1 : j - 1 < d.Files.length := by omega
        have ew : IntKind.i64.wrap ((j : Int) - (1 : Int)) = ((j - 1 : Nat) : Int) := by
          simp [LIM] at hl
          simp [IntKind.wrap, IntKind.signed, IntKind.bits]
          split <;> omega
        rw [decide_eq_true h0, if_neg (show ¬ j = 0 by omega), ew, idx_nat hj1, List.getElem?_eq_getElem hj1]
        simp only [Option.map_some, Option.bind_some, scmp_geq]
        cases decide (Less d.Files[j - 1].Name d.Files[j].Name) <;> cases decide (d.Files[j].Text.size ≤ 4096) <;> cases decide (0 ≤ d.Files[j].Stamp) <;> cases decide (d.Files[j].Stamp ≤ d.Clock) <;> rfl)
theorem rdcheck_v (d : Disk) (hf : diskFits d) : smithyref02_Check.v d = some (bif diskOk d then 0 else 4) := by
  rw [smithyref02_Check.v_eq, dbounds, Option.bind_some, show smithyref02_Check.l0.v d (0 : Int) = _ from rdcheck_loop d hf 0 (Nat.zero_le _), List.drop_zero, if_pos rfl]
  unfold diskOk
  cases decide (0 ≤ d.Clock) && decide (d.Clock ≤ 1099511627776) && decide (d.Files.length ≤ 256) <;> cases filesB d.Clock none d.Files <;> rfl
end Go.Proofs.Ytaeapobjhgakiaa.F
