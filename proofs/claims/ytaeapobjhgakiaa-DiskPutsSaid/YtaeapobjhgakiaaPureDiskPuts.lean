/- For every disk and every file, disk.Put answers as the reference: no condition beyond what the row reads. -/
import Derived.Test.YtaeapobjhgakiaaZDiskPuts
set_option linter.unusedVariables false
set_option linter.unusedSimpArgs false
namespace Go.Proofs.Ytaeapobjhgakiaa.Pure
open Go Go.RowKit Go.Proofs.Ytaeapobjhgakiaa.P Go.Proofs.Ytaeapobjhgakiaa.Ext Go.Proofs.YtaeapobjhgakiaaW.PrintWords Go.Proofs.YtaeapobjhgakiaaW.PrintLast Go.Proofs.YtaeapobjhgakiaaW.PrintMore
theorem putR_length (c : Int) (l : List S26) (f : S26) : (putR c l f).2.1.length ≤ 257 := by
  unfold putR laidR
  have := lay_length l f
  cases hd : diskOk c l with
  | false => simp
  | true =>
    obtain ⟨_, _, h2, _⟩ := (diskOk_iff c l).1 hd
    simp only [if_true]
    repeat' split
    all_goals first | (simp; done) | (simp; omega)
theorem DiskPuts : smithylaw02_DiskPuts.Pure := by
  intro d f hd hf
  have hs : small d.f1 := hd.2.2
  refine Ev.rounds ?_
  simp only [smithylaw02_DiskPuts.f]
  refine Ev.bind (put_ev d.f0 d.f1 f hs hf.1) ?_
  refine Ev.bind (rput_ev d.f0 d.f1 f hs hf.1) ?_
  refine Ev.bind (disk_ev _ _ (by have := putR_length d.f0 d.f1 f; omega)) ?_
  simp only [if_true]
  exact Ev.bind speaks_ev (Ev.now _)
end Go.Proofs.Ytaeapobjhgakiaa.Pure
