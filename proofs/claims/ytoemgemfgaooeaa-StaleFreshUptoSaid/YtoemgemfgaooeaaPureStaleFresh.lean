/- The plain law of StaleFresh, for a target of no more than 1048576 needs. -/
import Derived.Test.YtoemgemfgaooeaaQStaleFresh
import Derived.Test.YtoemgemfgaooeaaPfresh
set_option linter.unusedVariables false
set_option linter.unusedSimpArgs false
set_option linter.unnecessarySimpa false
set_option linter.deprecated false
namespace Go.Proofs.Ytoemgemfgaooeaa.F
open Go Go.RowKit Go.Proofs.Ytoemgemfgaooeaa.Sl
theorem fnode_fits {n : Node} (h : okNode n) : nodeFits n := by
  refine ⟨h.1, ?_, h.2.1.2, ?_⟩
  · have := h.2.1.1; simp only [LIM]; omega
  · have := h.2.2.1.1; simp only [LIM]; omega
theorem fdisk_fits {d : Disk} (h : okDisk d) : diskFits d where
  nl := by have := h.2.1; simp only [LIM]; omega
  n := fun x hx => (h.2.2 x hx).1
theorem fresh_loop (c : Law13Case) (hn : c.N.Needs.length ≤ LIM) (hd : diskFits c.D) (hm : c.Made.length ≤ LIM) (b : Bool) : ∀ j : Nat, j ≤ c.N.Needs.length → ∀ q : Bool, smithylaw13_StaleFresh.l0.v c ((fileOf c.D.Files c.N.Target).getD zFile, b) (q, (j : Int)) = some (q && !(c.N.Needs.drop j).any (fun x => badB c.D (memB c.Made) x || newB c.D c.N.Target x)) := fun j hj =>
  up j hj (fun q => by rw [smithylaw13_StaleFresh.l0.v_eq, lss_nat, List.drop_length, decide_eq_false (by simp)]; simp) (fun j hj ih q => by
    rw [smithylaw13_StaleFresh.l0.v_eq, lss_nat, decide_eq_true hj, cond_true, idx_nat hj, Option.bind_some, rfile_v c.D hd, Option.bind_some, has_v _ _ hm, wrap_nat (by simp [LIM] at hn; omega), drop_cons hj, List.any_cons]
    have e : icmp .leq ((fileOf c.D.Files c.N.Needs[j]).getD zFile).Stamp ((fileOf c.D.Files c.N.Target).getD zFile).Stamp = !newB c.D c.N.Target c.N.Needs[j] := by
      unfold newB stampOf icmp
      rw [Bool.eq_iff_iff]; simp
    have eb : badB c.D (memB c.Made) c.N.Needs[j] = (!(fileOf c.D.Files c.N.Needs[j]).isSome || memB c.Made c.N.Needs[j]) := rfl
    rw [eb]
    simp only [e, Option.bind_some]
    cases q with
    | false => simp only [cond_false, Option.bind_some]; rw [ih]; simp
    | true =>
      cases (fileOf c.D.Files c.N.Needs[j]).isSome with
      | false => simp only [cond_true, cond_false, Option.bind_some]; rw [ih]; simp
      | true =>
        cases newB c.D c.N.Target c.N.Needs[j] with
        | true => simp only [cond_true, Bool.not_true, cond_false, Option.bind_some]; rw [ih]; simp
        | false =>
          simp only [cond_true, Bool.not_false, Option.bind_some]
          rw [ih]
          cases memB c.Made c.N.Needs[j] <;> simp)
end Go.Proofs.Ytoemgemfgaooeaa.F
namespace Go.Proofs.Ytoemgemfgaooeaa.Pure
open Go Go.RowKit Go.Proofs.Ytoemgemfgaooeaa.Sl Go.Proofs.Ytoemgemfgaooeaa.F
theorem StaleFresh : smithylaw13_StaleFresh.Pure := by
  intro x0 h0 hb
  obtain ⟨hN, hD, hM⟩ := h0
  have hn := fnode_fits hN
  have hd := fdisk_fits hD
  have hm : x0.Made.length ≤ LIM := by have := hM.1; simp only [LIM]; omega
  have hs : ∀ x, x ∈ x0.Made → x.size ≤ LIM := hM.2
  refine (smithylaw13_StaleFresh.tends x0).ex ?_
  obtain ⟨w, s, e1, e2⟩ := Why_v x0.N hn (by omega) x0.D hd x0.Made hm hs
  rw [smithylaw13_StaleFresh.v_eq, e1, Option.bind_some, Is_v x0.N hn (by omega) x0.D hd x0.Made hm hs, Option.bind_some, small_v]
  by_cases h : fitB x0.N x0.D x0.Made = 0
  · have e3 : isB x0.N x0.D x0.Made = staleB x0.N x0.D (memB x0.Made) := by unfold isB; rw [decide_eq_true h]; rfl
    rw [decide_eq_true h, cond_true] at e2
    simp only [h, e3]
    rw [show icmp .neq (0 : Int) (0 : Int) = false from rfl, rfile_v x0.D hd]
    simp only [cond_false, Option.bind_some]
    have hfr : (bif !x0.N.Phony then some (fileOf x0.D.Files x0.N.Target).isSome else some false) = some (!x0.N.Phony && (fileOf x0.D.Files x0.N.Target).isSome) := by cases x0.N.Phony <;> rfl
    rw [hfr, Option.bind_some]
    have hloop := fresh_loop x0 hn.nl hd hm (fileOf x0.D.Files x0.N.Target).isSome 0 (Nat.zero_le _) (!x0.N.Phony && (fileOf x0.D.Files x0.N.Target).isSome)
    rw [List.drop_zero] at hloop
    rw [show smithylaw13_StaleFresh.l0.v x0 ((fileOf x0.D.Files x0.N.Target).getD zFile, (fileOf x0.D.Files x0.N.Target).isSome) ((!x0.N.Phony && (fileOf x0.D.Files x0.N.Target).isSome), (0 : Int)) = _ from hloop, Option.bind_some, eql_neq, e2]
    have hst : (!x0.N.Phony && (fileOf x0.D.Files x0.N.Target).isSome && !x0.N.Needs.any (fun x => badB x0.D (memB x0.Made) x || newB x0.D x0.N.Target x)) = !staleB x0.N x0.D (memB x0.Made) := by
      unfold staleB
      cases x0.N.Phony <;> cases (fileOf x0.D.Files x0.N.Target).isSome <;> simp
    rw [hst]
    cases staleB x0.N x0.D (memB x0.Made) <;> rfl
  · have e : icmp .neq (fitB x0.N x0.D x0.Made) (0 : Int) = true := by unfold icmp; simp [h]
    simp only [e, cond_true, Option.bind_some]
    have e4 : icmp .eql (fitB x0.N x0.D x0.Made) (fitB x0.N x0.D x0.Made) = true := by unfold icmp; simp
    rw [e4]; rfl
end Go.Proofs.Ytoemgemfgaooeaa.Pure
