/- The plain law of StaleMore, for a target of no more than 1048576 needs. -/
import Derived.Test.YtoemgemfgaooeaaQStaleMore
import Derived.Test.YtoemgemfgaooeaaPfresh
import Derived.Test.YtoemgemfgaooeaaPdwrite
set_option linter.unusedVariables false
set_option linter.unusedSimpArgs false
set_option linter.unnecessarySimpa false
set_option linter.deprecated false
namespace Go.Proofs.Ytoemgemfgaooeaa.F
open Go Go.RowKit Go.Proofs.Ytoemgemfgaooeaa.Sl
theorem mnode_fits {n : Node} (h : okNode n) : nodeFits n := by
  refine ⟨h.1, ?_, h.2.1.2, ?_⟩
  · have := h.2.1.1; simp only [LIM]; omega
  · have := h.2.2.1.1; simp only [LIM]; omega
theorem mdisk_fits {d : Disk} (h : okDisk d) : diskFits d where
  nl := by have := h.2.1; simp only [LIM]; omega
  n := fun x hx => (h.2.2 x hx).1
theorem staleB_more {n n' : Node} {d : Disk} {q q' : ByteArray → Bool} (hp : n'.Phony = n.Phony) (ht : n'.Target = n.Target) (hs : ∀ x, x ∈ n.Needs → x ∈ n'.Needs) (hq : ∀ x, q x = true → q' x = true) (h : staleB n d q = true) : staleB n' d q' = true := by
  unfold staleB at h ⊢
  rw [hp, ht]
  simp only [Bool.or_eq_true] at h ⊢
  rcases h with h | h
  · exact .inl h
  · refine .inr ?_
    obtain ⟨x, hx, hb⟩ := List.any_eq_true.1 h
    refine List.any_eq_true.2 ⟨x, hs x hx, ?_⟩
    simp only [Bool.or_eq_true] at hb ⊢
    rcases hb with hb | hb
    · refine .inl ?_
      unfold badB at hb ⊢
      simp only [Bool.or_eq_true] at hb ⊢
      exact hb.imp id (hq x)
    · exact .inr hb
end Go.Proofs.Ytoemgemfgaooeaa.F
namespace Go.Proofs.Ytoemgemfgaooeaa.Pure
open Go Go.RowKit Go.Proofs.Ytoemgemfgaooeaa.Sl Go.Proofs.Ytoemgemfgaooeaa.F
theorem StaleMore : smithylaw13_StaleMore.Pure := by
  intro x0 x1 h0 h1 hb
  obtain ⟨hN, hD, hM⟩ := h0
  have hn := mnode_fits hN
  have hd := mdisk_fits hD
  have hml := hM.1
  have hm : x0.Made.length ≤ LIM := by simp only [LIM]; omega
  have hs : ∀ x, x ∈ x0.Made → x.size ≤ LIM := hM.2
  have hx1 : x1.size ≤ LIM := h1
  refine (smithylaw13_StaleMore.tends x0 x1).ex ?_
  rw [smithylaw13_StaleMore.v_eq, Is_v x0.N hn (by omega) x0.D hd x0.Made hm hs, Option.bind_some, small_v]
  have hsel : (bif icmp .neq (fitB x0.N x0.D x0.Made) (0 : Int) then some true else some (!isB x0.N x0.D x0.Made)) = some (!(decide (fitB x0.N x0.D x0.Made = 0) && staleB x0.N x0.D (memB x0.Made))) := by
    unfold isB
    by_cases h : fitB x0.N x0.D x0.Made = 0
    · rw [show icmp .neq (fitB x0.N x0.D x0.Made) (0 : Int) = false from by rw [h]; rfl, decide_eq_true h]; rfl
    · rw [show icmp .neq (fitB x0.N x0.D x0.Made) (0 : Int) = true from by unfold icmp; simp [h], decide_eq_false h]; rfl
  simp only [hsel, Option.bind_some]
  cases hfs : (decide (fitB x0.N x0.D x0.Made = 0) && staleB x0.N x0.D (memB x0.Made)) with
  | false => rfl
  | true =>
    simp only [Bool.and_eq_true, decide_eq_true_eq] at hfs
    obtain ⟨hfit, hst⟩ := hfs
    obtain ⟨hnb, hdb, hlb⟩ := fitB_zero hfit
    have hdk := (diskOk_iff x0.D).1 hdb
    simp only [Bool.not_true, cond_false]
    -- another need
    rw [app_one (by simp [LIM]; omega), Option.bind_some]
    have hn2 : nodeFits ({ x0.N with Needs := x0.N.Needs ++ [x1] } : F.Node) := by
      refine ⟨hn.t, by show (x0.N.Needs ++ [x1]).length ≤ LIM; simp [LIM]; omega, fun x hx => ?_, hn.rl⟩
      have hx' : x ∈ x0.N.Needs ++ [x1] := hx
      rcases List.mem_append.1 hx' with hx' | hx'
      · exact hn.ns x hx'
      · rw [List.mem_singleton.1 hx']; exact hx1
    rw [Is_v _ hn2 (by show (x0.N.Needs ++ [x1]).length ≤ 1048577; simp; omega) x0.D hd x0.Made hm hs, Option.bind_some, node_v _ hn2, Option.bind_some]
    have hA : (bif icmp .eql (bif nodeB ({ x0.N with Needs := x0.N.Needs ++ [x1] } : F.Node) then (0 : Int) else 7) (0 : Int) then (bif icmp .neq (fitB ({ x0.N with Needs := x0.N.Needs ++ [x1] } : F.Node) x0.D x0.Made) (0 : Int) then some true else some (!isB ({ x0.N with Needs := x0.N.Needs ++ [x1] } : F.Node) x0.D x0.Made)) else some false) = some false := by
      cases hnb2 : nodeB ({ x0.N with Needs := x0.N.Needs ++ [x1] } : F.Node) with
      | false => rfl
      | true =>
        have hf2 : fitB ({ x0.N with Needs := x0.N.Needs ++ [x1] } : F.Node) x0.D x0.Made = 0 := by unfold fitB; rw [hnb2, hdb, hlb]; rfl
        have hi2 : isB ({ x0.N with Needs := x0.N.Needs ++ [x1] } : F.Node) x0.D x0.Made = true := by
          unfold isB
          rw [decide_eq_true hf2, cond_true]
          exact staleB_more (n := x0.N) rfl rfl (fun x hx => List.mem_append_left _ hx) (fun x h => h) hst
        rw [hf2, hi2]; rfl
    simp only [hA, Option.bind_some, cond_false]
    -- another one made
    rw [app_all (by simp only [List.length_cons, List.length_nil]; omega), Option.bind_some]
    have hs2 : ∀ x, x ∈ x0.Made ++ [x1] → x.size ≤ LIM := fun x hx => by
      rcases List.mem_append.1 hx with hx | hx
      · exact hs x hx
      · rw [List.mem_singleton.1 hx]; exact hx1
    have hm2 : (x0.Made ++ [x1]).length ≤ LIM := by simp [LIM]; omega
    rw [Is_v x0.N hn (by omega) x0.D hd _ hm2 hs2, Option.bind_some]
    have hB : (bif icmp .eql (fitB x0.N x0.D (x0.Made ++ [x1])) (0 : Int) then some (!isB x0.N x0.D (x0.Made ++ [x1])) else some false) = some false := by
      by_cases h : fitB x0.N x0.D (x0.Made ++ [x1]) = 0
      · have hi2 : isB x0.N x0.D (x0.Made ++ [x1]) = true := by
          unfold isB
          rw [decide_eq_true h, cond_true]
          exact staleB_more rfl rfl (fun x hx => hx) (fun x hx => by rw [memB_app, hx]; rfl) hst
        rw [h, hi2]; rfl
      · rw [show icmp .eql (fitB x0.N x0.D (x0.Made ++ [x1])) (0 : Int) = false from by unfold icmp; simp [h]]; rfl
    simp only [hB, Option.bind_some, cond_false]
    -- a need that is written anew
    rw [has_v _ _ hn.nl, Option.bind_some]
    cases hin : memB x0.N.Needs x1 with
    | false => rfl
    | true =>
      simp only [Bool.not_true, cond_false]
      have hmem := memB_iff.1 hin
      have hnm := (nodeB_needs hnb).2.2.1 x1 hmem
      obtain ⟨D, h, e1, e2⟩ := rwrite_v x0.D hd hdk x1 (⟨#[]⟩ : ByteArray) hx1 hnm (Nat.zero_le _)
      rw [e1, Option.bind_some]
      by_cases hh : h = 0
      · obtain ⟨rfl, hDk⟩ := e2 hh
        rw [show icmp .neq h (0 : Int) = false from by rw [hh]; rfl]
        simp only [cond_false]
        have hDf : diskFits (⟨x0.D.Clock + 1, layR ⟨x1, (⟨#[]⟩ : ByteArray), x0.D.Clock + 1⟩ x0.D.Files⟩ : F.Disk) := by
          refine ⟨by have := hDk.l; simp [LIM] at *; omega, fun x hx => ?_⟩
          have := (hDk.f x hx).1
          unfold nameOk at this
          simp only [Bool.and_eq_true, decide_eq_true_eq] at this
          have := this.1.2
          simp only [LIM]; omega
        rw [Is_v x0.N hn (by omega) _ hDf x0.Made hm hs, Option.bind_some]
        have hf2 : fitB x0.N (⟨x0.D.Clock + 1, layR ⟨x1, (⟨#[]⟩ : ByteArray), x0.D.Clock + 1⟩ x0.D.Files⟩ : F.Disk) x0.Made = 0 := by
          unfold fitB; rw [hnb, (diskOk_iff _).2 hDk, hlb]; rfl
        have hi2 : isB x0.N (⟨x0.D.Clock + 1, layR ⟨x1, (⟨#[]⟩ : ByteArray), x0.D.Clock + 1⟩ x0.D.Files⟩ : F.Disk) x0.Made = true ∨ x1 = x0.N.Target := by
          by_cases hxt : x1 = x0.N.Target
          · exact .inr hxt
          · refine .inl ?_
            unfold isB
            rw [decide_eq_true hf2, cond_true]
            unfold staleB
            have hto : fileOf (layR ⟨x1, (⟨#[]⟩ : ByteArray), x0.D.Clock + 1⟩ x0.D.Files) x0.N.Target = fileOf x0.D.Files x0.N.Target := fileOf_lay_other ⟨x1, (⟨#[]⟩ : ByteArray), x0.D.Clock + 1⟩ (fun e => hxt e.symm) _
            show (x0.N.Phony || !(fileOf (layR ⟨x1, (⟨#[]⟩ : ByteArray), x0.D.Clock + 1⟩ x0.D.Files) x0.N.Target).isSome || _) = true
            rw [hto]
            cases hts : fileOf x0.D.Files x0.N.Target with
            | none => simp
            | some t =>
              have hnew : newB (⟨x0.D.Clock + 1, layR ⟨x1, (⟨#[]⟩ : ByteArray), x0.D.Clock + 1⟩ x0.D.Files⟩ : F.Disk) x0.N.Target x1 = true := by
                unfold newB stampOf
                show decide (((fileOf (layR ⟨x1, (⟨#[]⟩ : ByteArray), x0.D.Clock + 1⟩ x0.D.Files) x0.N.Target).getD zFile).Stamp < ((fileOf (layR ⟨x1, (⟨#[]⟩ : ByteArray), x0.D.Clock + 1⟩ x0.D.Files) x1).getD zFile).Stamp) = true
                rw [hto, hts, show fileOf (layR ⟨x1, (⟨#[]⟩ : ByteArray), x0.D.Clock + 1⟩ x0.D.Files) x1 = some ⟨x1, (⟨#[]⟩ : ByteArray), x0.D.Clock + 1⟩ from fileOf_lay_self ⟨x1, (⟨#[]⟩ : ByteArray), x0.D.Clock + 1⟩ _]
                have := (hdk.f t (fileOf_name hts).1).2.2.2
                exact decide_eq_true (by show t.Stamp < x0.D.Clock + 1; omega)
              have : x0.N.Needs.any (fun x => badB (⟨x0.D.Clock + 1, layR ⟨x1, (⟨#[]⟩ : ByteArray), x0.D.Clock + 1⟩ x0.D.Files⟩ : F.Disk) (memB x0.Made) x || newB (⟨x0.D.Clock + 1, layR ⟨x1, (⟨#[]⟩ : ByteArray), x0.D.Clock + 1⟩ x0.D.Files⟩ : F.Disk) x0.N.Target x) = true := List.any_eq_true.2 ⟨x1, hmem, by rw [hnew]; simp⟩
              rw [this]; simp
        rw [hf2, show icmp .eql (0 : Int) (0 : Int) = true from rfl, cond_true]
        rcases hi2 with hi2 | hi2
        · rw [hi2]; rfl
        · rw [scmp_eql, decide_eq_true hi2]
          cases isB x0.N (⟨x0.D.Clock + 1, layR ⟨x1, (⟨#[]⟩ : ByteArray), x0.D.Clock + 1⟩ x0.D.Files⟩ : F.Disk) x0.Made <;> rfl
      · rw [show icmp .neq h (0 : Int) = true from by unfold icmp; simp [hh]]; rfl
end Go.Proofs.Ytoemgemfgaooeaa.Pure
