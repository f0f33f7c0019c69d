/- For every disk and every list of names, disk.Newest answers as the reference: no condition beyond what the row reads. -/
import Derived.Test.YtaeapobjhgakiaaZDiskNewest
set_option linter.unusedVariables false
set_option linter.unusedSimpArgs false
namespace Go.Proofs.Ytaeapobjhgakiaa.Pure
open Go Go.RowKit Go.Proofs.Ytaeapobjhgakiaa.P Go.Proofs.Ytaeapobjhgakiaa.Ext Go.Proofs.YtaeapobjhgakiaaW.PrintWords Go.Proofs.YtaeapobjhgakiaaW.PrintLast Go.Proofs.YtaeapobjhgakiaaW.PrintMore
theorem DiskNewest : smithylaw02_DiskNewest.Pure := by
  intro d names hd hn
  have hs : small d.f1 := hd.2.2
  refine Ev.rounds ?_
  simp only [smithylaw02_DiskNewest.f]
  refine Ev.bind (newest_ev d.f0 d.f1 names hs hn.2) ?_
  refine Ev.bind (rnewest_ev d.f0 d.f1 names hs hn.2) ?_
  simp only [if_true]
  exact Ev.bind speaks_ev (Ev.now _)
end Go.Proofs.Ytaeapobjhgakiaa.Pure
