/- For every options, modes.Check, Stops and Names answer as the reference: no condition beyond what the row reads. -/
import Derived.Test.YtmmjbobicnmilaaZModesChecks
set_option linter.unusedVariables false
set_option linter.unusedSimpArgs false
namespace Go.Proofs.Ytmmjbobicnmilaa.Pure
open Go Go.RowKit Go.Proofs.Ytmmjbobicnmilaa.P Go.Proofs.Ytmmjbobicnmilaa.Ext Go.Proofs.YtmmjbobicnmilaaW.PrintWords Go.Proofs.YtmmjbobicnmilaaW.PrintLast Go.Proofs.YtmmjbobicnmilaaW.PrintMore
theorem small19_at : smithylaw19_small.f 40 = some true := by
  unfold smithylaw19_small.f
  decide +kernel
theorem small19_ev : Ev (fun k => smithylaw19_small.f k) true := ⟨40, fun k hk => at_rounds (fun k => smithylaw19_small.mono k) hk small19_at⟩
def addL (x : ByteArray) (l : List Bool) (i : Nat) : ByteArray := if rdOf false l (i : Int) = true then x ++ ((⟨#[110, 116, 113, 107, 105, 115]⟩ : ByteArray).extract i (i + 1)) else x
def namesR (l : List Bool) : Nat → Nat → ByteArray → ByteArray
  | 0, _, x => x
  | n + 1, i, x => namesR l n (i + 1) (addL x l i)
theorem addL_size (x : ByteArray) (l : List Bool) (i : Nat) (h : x.size ≤ i) : (addL x l i).size ≤ i + 1 := by
  unfold addL
  split
  · rw [ByteArray.size_append, ByteArray.size_extract]; omega
  · omega
theorem ext_size (i : Nat) : ((⟨#[110, 116, 113, 107, 105, 115]⟩ : ByteArray).extract i (i + 1)).size ≤ 1 := by rw [ByteArray.size_extract]; omega
theorem mnames_loop (l : List Bool) (hl : l.length = 6) : ∀ (n i : Nat) (x : ByteArray), i + n = 6 → x.size ≤ i → Ev (fun k => modes_Names.l0 k x l (l.length : Int) (i : Int)) (namesR l n i x, 0)
  | 0, i, x, hn, hx => by
    refine Ev.step (fun _ => rfl) ?_
    simp only [modes_Names.l0, if_neg (show ¬ (i : Int) < (l.length : Int) by omega), namesR]
    exact Ev.now _
  | n + 1, i, x, hn, hx => by
    have hw : wrap64 ((i : Int) + 1) = ((i + 1 : Nat) : Int) := by unfold wrap64; omega
    have he := ext_size i
    have ih := mnames_loop l hl n (i + 1) (addL x l i) (by omega) (addL_size x l i hx)
    refine Ev.step (fun _ => rfl) ?_
    simp only [modes_Names.l0, if_pos (show (i : Int) < (l.length : Int) by omega), if_pos (show (0 : Int) ≤ (i : Int) by omega), hw, Int.toNat_natCast, namesR]
    by_cases h : rdOf false l (i : Int) = true
    · unfold addL at ih ⊢
      simp only [if_pos h] at ih ⊢
      simp only [if_pos (show (i : Int) ≤ ((i + 1 : Nat) : Int) by omega), if_pos (show ((i + 1 : Nat) : Int) ≤ 6 by omega), if_pos (show x.size + ((⟨#[110, 116, 113, 107, 105, 115]⟩ : ByteArray).extract i (i + 1)).size ≤ 9223372036854775807 by omega)]
      exact ih
    · unfold addL at ih ⊢
      simp only [if_neg h] at ih ⊢
      exact ih
theorem rnames_loop (l : List Bool) (hl : l.length = 6) : ∀ (n i : Nat) (x : ByteArray), i + n = 6 → x.size ≤ i → Ev (fun k => smithyref19_Names.l0 k x l (i : Int)) (namesR l n i x, 0)
  | 0, i, x, hn, hx => by
    refine Ev.step (fun _ => rfl) ?_
    simp only [smithyref19_Names.l0, if_neg (show ¬ (i : Int) < (l.length : Int) by omega), namesR]
    exact Ev.now _
  | n + 1, i, x, hn, hx => by
    have hw : wrap64 ((i : Int) + 1) = ((i + 1 : Nat) : Int) := by unfold wrap64; omega
    have he := ext_size i
    have ih := rnames_loop l hl n (i + 1) (addL x l i) (by omega) (addL_size x l i hx)
    refine Ev.step (fun _ => rfl) ?_
    simp only [smithyref19_Names.l0, if_pos (show (i : Int) < (l.length : Int) by omega), if_pos (show (0 : Int) ≤ (i : Int) by omega), hw, Int.toNat_natCast, namesR]
    by_cases h : rdOf false l (i : Int) = true
    · unfold addL at ih ⊢
      simp only [if_pos h] at ih ⊢
      simp only [if_pos (show (i : Int) ≤ ((i + 1 : Nat) : Int) by omega), if_pos (show ((i + 1 : Nat) : Int) ≤ 6 by omega), if_pos (show x.size + ((⟨#[110, 116, 113, 107, 105, 115]⟩ : ByteArray).extract i (i + 1)).size ≤ 9223372036854775807 by omega)]
      exact ih
    · unfold addL at ih ⊢
      simp only [if_neg h] at ih ⊢
      exact ih
theorem ModesChecks : smithylaw19_ModesChecks.Pure := by
  intro o ho
  have h7 : o.f7.length ≤ 140737488351232 := by have := ho.2.2.2.2.2.2.2.1.1; omega
  have h8 : o.f8.length ≤ 140737488351232 := by have := ho.2.2.2.2.2.2.2.2.1.1; omega
  have hs : ∀ y ∈ o.f8, y.f0.size ≤ 140737488351232 := fun y hy => (ho.2.2.2.2.2.2.2.2.1.2 y hy).1
  have h9 : o.f9.length ≤ 140737488351232 := by have := ho.2.2.2.2.2.2.2.2.2.1; omega
  have hm := mopt_ev o.f0 o.f1 o.f2 o.f3 o.f4 o.f5 o.f6 o.f7 o.f8 o.f9 h7 h9
  have hr := ropt_ev o.f0 o.f1 o.f2 o.f3 o.f4 o.f5 o.f6 o.f7 o.f8 o.f9 h7 h8 hs h9
  obtain ⟨E, hE⟩ : ∃ E, optR o.f0 o.f1 o.f2 o.f6 o.f7 o.f8 o.f9 = E := ⟨_, rfl⟩
  rw [hE] at hm hr
  have e1 : Ev (fun k => modes_Stops.f k o.f0 o.f1 o.f2 o.f3 o.f4 o.f5 o.f6 o.f7 o.f8 o.f9) (if E = 0 then (!o.f3, 0) else (false, E)) := by
    simp only [modes_Stops.f]
    refine Ev.bind hm ?_
    by_cases h : E = 0
    · simp only [if_pos h]; exact Ev.now _
    · simp only [if_neg h]; exact Ev.now _
  have e2 : Ev (fun k => smithyref19_Stops.f k o.f0 o.f1 o.f2 o.f3 o.f4 o.f5 o.f6 o.f7 o.f8 o.f9) (if E = 0 then (!o.f3, 0) else (false, E)) := by
    simp only [smithyref19_Stops.f]
    refine Ev.bind hr ?_
    by_cases h : E = 0
    · simp only [if_pos h]; exact Ev.now _
    · simp only [if_neg h]; exact Ev.now _
  have e3 : Ev (fun k => modes_Names.f k o.f0 o.f1 o.f2 o.f3 o.f4 o.f5 o.f6 o.f7 o.f8 o.f9) (if E = 0 then (namesR [o.f0, o.f1, o.f2, o.f3, o.f4, o.f5] 6 0 ⟨#[]⟩, 0) else (⟨#[]⟩, E)) := by
    simp only [modes_Names.f]
    refine Ev.bind hm ?_
    by_cases h : E = 0
    · simp only [if_pos h, Option.bind_some]; exact mnames_loop [o.f0, o.f1, o.f2, o.f3, o.f4, o.f5] rfl 6 0 ⟨#[]⟩ rfl (Nat.le_refl _)
    · simp only [if_neg h]; exact Ev.now _
  have e4 : Ev (fun k => smithyref19_Names.f k o.f0 o.f1 o.f2 o.f3 o.f4 o.f5 o.f6 o.f7 o.f8 o.f9) (if E = 0 then (namesR [o.f0, o.f1, o.f2, o.f3, o.f4, o.f5] 6 0 ⟨#[]⟩, 0) else (⟨#[]⟩, E)) := by
    simp only [smithyref19_Names.f]
    refine Ev.bind hr ?_
    by_cases h : E = 0
    · simp only [if_pos h]; exact rnames_loop [o.f0, o.f1, o.f2, o.f3, o.f4, o.f5] rfl 6 0 ⟨#[]⟩ rfl (Nat.le_refl _)
    · simp only [if_neg h]; exact Ev.now _
  refine Ev.rounds ?_
  simp only [smithylaw19_ModesChecks.f]
  refine Ev.bind e1 ?_
  refine Ev.bind e2 ?_
  refine Ev.bind e3 ?_
  refine Ev.bind e4 ?_
  refine Ev.bind hm ?_
  refine Ev.bind hr ?_
  simp only [beq_self_eq_true, if_true]
  exact Ev.bind small19_ev (Ev.now _)
end Go.Proofs.Ytmmjbobicnmilaa.Pure
