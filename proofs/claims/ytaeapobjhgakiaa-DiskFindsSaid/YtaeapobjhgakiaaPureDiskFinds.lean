/- For every disk and every name, disk.Find, disk.Names and disk.Check answer as the reference: no condition beyond what the row reads. -/
import Derived.Test.YtaeapobjhgakiaaZDiskFinds
set_option linter.unusedVariables false
set_option linter.unusedSimpArgs false
namespace Go.Proofs.Ytaeapobjhgakiaa.Pure
open Go Go.RowKit Go.Proofs.Ytaeapobjhgakiaa.P Go.Proofs.Ytaeapobjhgakiaa.Ext Go.Proofs.YtaeapobjhgakiaaW.PrintWords Go.Proofs.YtaeapobjhgakiaaW.PrintLast Go.Proofs.YtaeapobjhgakiaaW.PrintMore
theorem DiskFinds : smithylaw02_DiskFinds.Pure := by
  intro d s hd hn
  have hs : small d.f1 := hd.2.2
  refine Ev.rounds ?_
  simp only [smithylaw02_DiskFinds.f]
  refine Ev.bind (find_ev d.f0 d.f1 s hs hn) ?_
  refine Ev.bind (rfind_ev d.f0 d.f1 s hs hn) ?_
  refine Ev.bind (names_ev d.f0 d.f1 hs) ?_
  refine Ev.bind (rnames_ev d.f0 d.f1 hs) ?_
  refine Ev.bind (check_ev d.f0 d.f1 hs) ?_
  refine Ev.bind (rcheck_ev d.f0 d.f1 hs) ?_
  simp only [if_true, beq_self_eq_true, Bool.and_self]
  refine Ev.bind (texts_ev _ ?_) ?_
  · cases hk : diskOk d.f0 d.f1 with
    | false => simp
    | true => have := ((diskOk_iff _ _).1 hk).2.2.1; simp; omega
  · simp only [if_true]
    exact Ev.bind speaks_ev (Ev.now _)
end Go.Proofs.Ytaeapobjhgakiaa.Pure
