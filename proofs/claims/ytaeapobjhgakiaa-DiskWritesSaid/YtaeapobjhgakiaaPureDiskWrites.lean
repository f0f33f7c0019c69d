/- For every disk, name and text, disk.Write, disk.Touch and disk.Remove answer as the reference, and the old disk stays: no condition beyond what the row reads. -/
import Derived.Test.YtaeapobjhgakiaaZDiskWrites
set_option linter.unusedVariables false
set_option linter.unusedSimpArgs false
namespace Go.Proofs.Ytaeapobjhgakiaa.Pure
open Go Go.RowKit Go.Proofs.Ytaeapobjhgakiaa.P Go.Proofs.Ytaeapobjhgakiaa.Ext Go.Proofs.YtaeapobjhgakiaaW.PrintWords Go.Proofs.YtaeapobjhgakiaaW.PrintLast Go.Proofs.YtaeapobjhgakiaaW.PrintMore
theorem lens (c : Int) (l : List S26) (s t : ByteArray) : (writeR c l s t).2.1.length ≤ 257 ∧ (touchR c l s).2.1.length ≤ 257 ∧ (removeR c l s).2.1.length ≤ 257 := by
  have hl : ∀ f, (lay l f).length ≤ l.length + 1 := lay_length l
  have hd : (dropf l s).length ≤ l.length := List.length_filter_le _ _
  cases hk : diskOk c l with
  | false => simp [writeR, touchR, removeR, hk]
  | true =>
    obtain ⟨_, _, h2, _⟩ := (diskOk_iff c l).1 hk
    have hw : ∀ t, (writtenR c l s t).2.1.length ≤ 257 := by
      intro t
      have := hl ⟨s, t, c + 1⟩
      unfold writtenR
      repeat' split
      all_goals first | (simp; done) | (simp; omega)
    refine ⟨?_, ?_, ?_⟩
    · unfold writeR
      rw [if_pos hk]
      repeat' split
      all_goals first | (simp; done) | exact hw t
    · unfold touchR
      rw [if_pos hk]
      split
      · exact hw _
      · simp
    · unfold removeR
      rw [if_pos hk]
      repeat' split
      all_goals first | (simp; done) | (simp; omega)
theorem DiskWrites : smithylaw02_DiskWrites.Pure := by
  intro d s t hd hn ht
  have hs : small d.f1 := hd.2.2
  have hlen : d.f1.length < 3518437208883 := by have := hd.2.1; omega
  generalize hc0 : d.f0 = c
  generalize hl0 : d.f1 = l at hs hlen
  obtain ⟨L1, L2, L3⟩ := lens c l s t
  refine Ev.rounds ?_
  simp only [smithylaw02_DiskWrites.f, smithyplain_OwnDisk.f, List.length_nil, Nat.zero_add, if_pos hlen, Option.bind_some, List.nil_append]
  refine Ev.bind (write_ev c l s t hs hn) ?_
  refine Ev.bind (rwrite_ev c l s t hs hn) ?_
  refine Ev.bind (touch_ev c l s hs hn) ?_
  refine Ev.bind (rtouch_ev c l s hs hn) ?_
  refine Ev.bind (remove_ev c l s hs hn) ?_
  refine Ev.bind (rremove_ev c l s hs hn) ?_
  refine Ev.bind (disk_ev _ _ (by omega)) ?_
  simp only [if_true]
  refine Ev.bind (disk_ev _ _ (by omega)) ?_
  simp only [if_true]
  refine Ev.bind (disk_ev _ _ (by omega)) ?_
  simp only [if_true]
  refine Ev.bind (disk_ev c l (by omega)) ?_
  simp only [if_true]
  exact Ev.bind speaks_ev (Ev.now _)
end Go.Proofs.Ytaeapobjhgakiaa.Pure
