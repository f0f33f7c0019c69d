/- For every disk, name and text, what disk.Write leaves is as the statement says: no condition beyond what the row reads. -/
import Derived.Test.YtaeapobjhgakiaaZDiskKeeps
set_option linter.unusedVariables false
set_option linter.unusedSimpArgs false
namespace Go.Proofs.Ytaeapobjhgakiaa.Pure
open Go Go.RowKit Go.Proofs.Ytaeapobjhgakiaa.P Go.Proofs.Ytaeapobjhgakiaa.Ext Go.Proofs.YtaeapobjhgakiaaW.PrintWords Go.Proofs.YtaeapobjhgakiaaW.PrintLast Go.Proofs.YtaeapobjhgakiaaW.PrintMore
theorem DiskKeeps : smithylaw02_DiskKeeps.Pure := by
  intro d s t hd hn ht
  have hs : small d.f1 := hd.2.2
  generalize hc0 : d.f0 = c
  generalize hl0 : d.f1 = l at hs
  refine Ev.rounds ?_
  simp only [smithylaw02_DiskKeeps.f]
  refine Ev.bind (write_ev c l s t hs hn) ?_
  rcases write_cases c l s t with ⟨e, he, hw⟩ | ⟨hdk, hnm, htt, hf, hc, hw⟩
  · rw [hw]
    simp only [if_neg he, if_true, List.length_nil, Int.ofNat_zero, Int.natCast_zero]
    exact Ev.bind speaks_ev (Ev.now _)
  · obtain ⟨A, B, hA, hB, hlay, hdrop, hmem, sm, sr, hlen⟩ := lay_cut c l s t hdk hnm htt hf
    obtain ⟨h0, h1, h2, h3, h4⟩ := (diskOk_iff c l).1 hdk
    have hww : wrap64 (c + 1) = c + 1 := by unfold wrap64; omega
    have hwf : (Lit.int .i64 (c + 1)).wf = true := hww ▸ wrap64_wf (c + 1)
    have hkf : ok26 ⟨s, t, c + 1⟩ := ⟨hn, ht, hwf⟩
    have smr : small (A ++ B) := fun y hy => hs y (hmem y hy).1
    have smm : small (A ++ ⟨s, t, c + 1⟩ :: B) := by
      intro y hy
      rcases List.mem_append.1 hy with h | h
      · exact smr y (List.mem_append_left _ h)
      · rcases List.mem_cons.1 h with rfl | h
        · exact hkf
        · exact smr y (List.mem_append_right _ h)
    have hmok : diskOk (c + 1) (A ++ ⟨s, t, c + 1⟩ :: B) = true := by
      refine (diskOk_iff _ _).2 ⟨by omega, by omega, by simp; omega, ?_, sm⟩
      intro x hx
      rcases List.mem_append.1 hx with h | h
      · exact fileOk_up (hmem x (List.mem_append_left _ h)).2
      · rcases List.mem_cons.1 h with rfl | h
        · exact ⟨hnm, htt, by show 0 ≤ c + 1; omega, by show c + 1 ≤ c + 1; omega⟩
        · exact fileOk_up (hmem x (List.mem_append_right _ h)).2
    have hrok : diskOk (c + 1) (A ++ B) = true := (diskOk_iff _ _).2 ⟨by omega, by omega, by simp; omega, fun x hx => fileOk_up (hmem x hx).2, sr⟩
    have hfind : findR (c + 1) (A ++ ⟨s, t, c + 1⟩ :: B) s = (s, t, c + 1, 0) := by
      unfold findR
      rw [if_pos hmok, if_pos hnm, find_there s A B ⟨s, t, c + 1⟩ rfl hA]
    have hfind2 : findR (c + 1) (A ++ B) s = (⟨#[]⟩, ⟨#[]⟩, 0, 21) := by
      unfold findR
      rw [if_pos hrok, if_pos hnm, find_not s A B hA hB]
    have hrem : removeR (c + 1) (A ++ ⟨s, t, c + 1⟩ :: B) s = (c + 1, A ++ B, 0) := by
      unfold removeR
      rw [if_pos hmok, if_pos hnm, if_pos (has_there s A B ⟨s, t, c + 1⟩ rfl), dropf_there s A B ⟨s, t, c + 1⟩ rfl hA hB]
    have hput : putR (c + 1) (A ++ B) ⟨s, t, c + 1⟩ = (c + 1, A ++ ⟨s, t, c + 1⟩ :: B, 0) := by
      unfold putR laidR
      rw [if_pos hrok, if_pos (show nameOk s = true from hnm), if_neg (show ¬ t.size > 4096 by omega), if_neg (show ¬ (c + 1 < 0 ∨ c + 1 > c + 1) by omega), lay_not A B ⟨s, t, c + 1⟩ hA hB,
        if_neg (show ¬ has (A ++ B) s = true by rw [has_not s A B hA hB]; decide), if_neg (show ¬ (A ++ B).length = 256 by simp; omega)]
    have ho1 : dropf (A ++ ⟨s, t, c + 1⟩ :: B) s = dropf l s := by rw [dropf_there s A B ⟨s, t, c + 1⟩ rfl hA hB, hdrop]
    have ho2 : dropf (A ++ B) s = dropf l s := by rw [dropf_not s A B hA hB, hdrop]
    have hlm : (A ++ (⟨s, t, c + 1⟩ : S26) :: B).length ≤ 256 := by simp; omega
    have hlr : (A ++ B).length ≤ 256 := by simp; omega
    rw [hw, hlay]
    generalize hm : A ++ (⟨s, t, c + 1⟩ : S26) :: B = m at *
    generalize hr : A ++ B = r at *
    simp only [if_true, hww]
    refine Ev.bind (find_ev (c + 1) m s smm hn) ?_
    rw [hfind]
    simp only [if_true]
    refine Ev.bind (rcheck_ev (c + 1) m smm) ?_
    rw [if_pos hmok]
    simp only [if_true]
    refine Ev.bind (others_ev s (c + 1) c m l (by omega) (by omega) ho1) ?_
    refine Ev.step (fun _ => rfl) ?_
    simp only [smithylaw02_DiskKeeps.j0, Bool.not_true, Bool.false_eq_true, if_false]
    refine Ev.bind (remove_ev (c + 1) m s smm hn) ?_
    rw [hrem]
    refine Ev.bind (find_ev (c + 1) r s smr hn) ?_
    rw [hfind2]
    simp only [if_true]
    refine Ev.bind (rcheck_ev (c + 1) r smr) ?_
    rw [if_pos hrok]
    simp only [if_true]
    refine Ev.bind (others_ev s (c + 1) c r l (by omega) (by omega) ho2) ?_
    refine Ev.step (fun _ => rfl) ?_
    simp only [smithylaw02_DiskKeeps.j1, Bool.not_true, Bool.false_eq_true, if_false]
    refine Ev.bind (put_ev (c + 1) r ⟨s, t, c + 1⟩ smr hn) ?_
    rw [hput]
    simp only [if_true]
    refine Ev.bind (disk_ev (c + 1) m (by omega)) ?_
    simp only [if_true]
    exact Ev.bind speaks_ev (Ev.now _)
end Go.Proofs.Ytaeapobjhgakiaa.Pure
