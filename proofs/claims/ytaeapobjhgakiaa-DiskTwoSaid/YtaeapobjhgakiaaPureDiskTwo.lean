/- The plain law of DiskTwo. -/
import Derived.Test.YtaeapobjhgakiaaQDiskTwo
import Derived.Test.YtaeapobjhgakiaaPdtwo
set_option linter.unusedVariables false
set_option linter.unusedSimpArgs false
set_option linter.unnecessarySimpa false
set_option linter.deprecated false
namespace Go.Proofs.Ytaeapobjhgakiaa.F
open Go Go.RowKit Go.Proofs.Ytaeapobjhgakiaa.Sl
theorem writeB_zero {d : Disk} {s t : ByteArray} (h : (writeB d s t).2 = 0) : diskOk d = true ∧ nameOk s = true ∧ t.size ≤ 4096 ∧ wcode d s = 0 := by
  unfold writeB at h
  cases h1 : diskOk d with
  | false => rw [h1] at h; cases h
  | true =>
    cases h2 : nameOk s with
    | false => rw [h1, h2] at h; cases h
    | true =>
      by_cases h3 : t.size ≤ 4096
      · by_cases h4 : wcode d s = 0
        · exact ⟨rfl, rfl, h3, h4⟩
        · rw [h1, h2, decide_eq_true h3, decide_eq_false h4] at h
          exact absurd h h4
      · rw [h1, h2, decide_eq_false h3] at h; cases h
theorem writeB_ok {d : Disk} {s t : ByteArray} (h1 : diskOk d = true) (h2 : nameOk s = true) (h3 : t.size ≤ 4096) : writeB d s t = (bif decide (wcode d s = 0) then (newD d s t, 0) else ((⟨(0 : Int), ([] : List File)⟩ : Disk), wcode d s)) := by
  unfold writeB
  rw [h1, h2, decide_eq_true h3]; rfl
theorem ok_fits {d : Disk} (h : DiskOk d) : diskFits d where
  nl := by have := h.l; simp only [LIM]; omega
  n := fun x hx => by
    have := (h.f x hx).1
    unfold nameOk at this
    simp only [Bool.and_eq_true, decide_eq_true_eq] at this
    have := this.1.2
    simp only [LIM]; omega
theorem neq_dec (w : Int) : icmp .neq w (0 : Int) = !decide (w = 0) := by
  unfold icmp; rw [Bool.eq_iff_iff]; simp
theorem eql_self (w : Int) : icmp .eql w w = true := by unfold icmp; simp
end Go.Proofs.Ytaeapobjhgakiaa.F
namespace Go.Proofs.Ytaeapobjhgakiaa.Pure
open Go Go.RowKit Go.Proofs.Ytaeapobjhgakiaa.Sl Go.Proofs.Ytaeapobjhgakiaa.F
theorem DiskTwo : smithylaw02_DiskTwo.Pure := by
  intro x0 x1 x2 h0 h1 h2
  have f0 : diskFits x0 := { nl := by have := h0.2.1; simp only [LIM]; omega, n := fun x hx => (h0.2.2 x hx).1 }
  have n1 : x1.Name.size ≤ LIM := h1.1
  have n2 : x2.Name.size ≤ LIM := h2.1
  refine (smithylaw02_DiskTwo.tends x0 x1 x2).ex ?_
  rw [smithylaw02_DiskTwo.v_eq, scmp_eql, write_v x0 f0 _ _ n1, write_v x0 f0 _ _ n2, speaks02_v]
  by_cases hn : x1.Name = x2.Name
  · rw [decide_eq_true hn]; rfl
  · rw [decide_eq_false hn, cond_false, Option.bind_some, Option.bind_some]
    simp only [neq_dec]
    by_cases c1 : (writeB x0 x1.Name x1.Text).2 = 0
    · by_cases c2 : (writeB x0 x2.Name x2.Text).2 = 0
      · obtain ⟨o, k1, t1, w1⟩ := writeB_zero c1
        obtain ⟨_, k2, t2, w2⟩ := writeB_zero c2
        have od := (diskOk_iff x0).1 o
        have oa := new_ok od k1 t1 w1
        have ob := new_ok od k2 t2 w2
        have e1 : writeB x0 x1.Name x1.Text = (newD x0 x1.Name x1.Text, 0) := by rw [writeB_ok o k1 t1, decide_eq_true w1]; rfl
        have e2 : writeB x0 x2.Name x2.Text = (newD x0 x2.Name x2.Text, 0) := by rw [writeB_ok o k2 t2, decide_eq_true w2]; rfl
        simp only [e1, e2, decide_true, Bool.not_true, cond_false, Option.bind_some]
        rw [write_v _ (ok_fits oa) _ _ n2, write_v _ (ok_fits ob) _ _ n1, writeB_ok ((diskOk_iff _).2 oa) k2 t2, writeB_ok ((diskOk_iff _).2 ob) k1 t1, ← code_same (s := x1.Text) (t := x2.Text) od hn w1 w2]
        by_cases hc : wcode (newD x0 x1.Name x1.Text) x2.Name = 0
        · have hc' : wcode (newD x0 x2.Name x2.Text) x1.Name = 0 := by rw [← code_same (s := x1.Text) (t := x2.Text) od hn w1 w2]; exact hc
          have ou := new_ok oa k2 t2 hc
          have ov := new_ok ob k1 t1 hc'
          have htx : ∀ n, textOf (newD (newD x0 x1.Name x1.Text) x2.Name x2.Text).Files n = textOf (newD (newD x0 x2.Name x2.Text) x1.Name x1.Text).Files n := fun n => by
            unfold newD
            simp only [textOf_lay]
            by_cases p1 : n = x1.Name
            · have p2 : ¬ n = x2.Name := fun e => hn (p1.symm.trans e)
              rw [if_neg p2, if_pos p1, if_pos p1]
            · rw [if_neg p1, if_neg p1]
          have d1 := diffs_none ou.s htx
          have d2 := diffs_none ov.s (fun n => (htx n).symm)
          have hz : compactB (sortB []) = [] := by simp [sortB, compactB, Lib.compact, Lib.compactUpTo]
          simp only [hc, decide_true, cond_true, Bool.not_true, cond_false, Option.bind_some]
          rw [chg_v _ _ (ok_fits ou) (ok_fits ov), (diskOk_iff _).2 ou, (diskOk_iff _).2 ov, d1, d2]
          simp only [Bool.and_self, cond_true, Option.bind_some, List.append_nil, hz]
          rw [show (newD (newD x0 x1.Name x1.Text) x2.Name x2.Text).Clock = (newD (newD x0 x2.Name x2.Text) x1.Name x1.Text).Clock from rfl]
          simp only [eql_self, cond_true, Option.bind_some, show icmp .eql (([] : List ByteArray).length : Int) (0 : Int) = true from rfl]
        · simp only [decide_eq_false hc, cond_false, Bool.not_false, cond_true, Option.bind_some, eql_self]
      · simp only [c1, decide_true, decide_eq_false c2, Bool.not_true, Bool.not_false, cond_false, cond_true, Option.bind_some]
    · simp only [decide_eq_false c1, Bool.not_false, cond_true, Option.bind_some]
end Go.Proofs.Ytaeapobjhgakiaa.Pure
