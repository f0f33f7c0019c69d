-- written by mp.py (wip/tools), a program of this session, over the kit's print
import Derived.Test.YtodogppelokapaaPMacroLastx0
import Derived.Test.YtodogppelokapaaPMacroLastx1
import Derived.Test.YtodogppelokapaaPMacroLastx4
import Derived.Test.YtodogppelokapaaPMacroLastx5
namespace Go.Proofs.Ytodogppelokapaa.P
open Go.RowKit Go.Proofs.YtodogppelokapaaW.PrintWords Go.Proofs.YtodogppelokapaaW.PrintLast Go.Proofs.YtodogppelokapaaW.PrintMore
attribute [local go_sem] max2_int min2_int max_two min_two max_three min_three max_four min_four   -- for this text's walks alone
set_option linter.unusedVariables false
set_option linter.unusedSimpArgs false

attribute [local go_sem high] eqA30
/-! ### smithylaw05_MacroLast: function 7 -/
mutual
def smithylaw05_MacroLast.j0 : Nat → List (S30) → List (S30) → Int → List (S30) → Int → Bool → ByteArray → ByteArray → Int → ByteArray → ByteArray → Int → Option (Bool)
  | 0, _, _, _, _, _, _, _, _, _, _, _, _ => none
  | k + 1, x0, x7, x8, x9, x10, x38, x165000, x165001, x165002, x166000, x166001, x166002 => if x38 = true then (if ((x8 != 0) == (x10 != 0)) = true then ((smithylaw05_small.f k).bind fun t180 => (some t180)) else (some false)) else (if x165000.toList = x166000.toList then ((macro_Look.f k x7 x166000).bind fun bt183 => ((macro_Look.f k x0 x166000).bind fun bt189 => (if x165002 = x166002 then (smithylaw05_MacroLast.j1 k bt183.2.2.2.1 (decide (bt189.2.2.1 ≤ x166002)) x165000 x165001 x165002 x166000 x166001 x166002 bt183.1 bt183.2.1 bt183.2.2.1) else (smithylaw05_MacroLast.j1 k bt183.2.2.2.1 false x165000 x165001 x165002 x166000 x166001 x166002 bt183.1 bt183.2.1 bt183.2.2.1)))) else ((smithyplain_Macros.f k x7 x9).bind fun t181 => (if t181 = true then ((smithylaw05_small.f k).bind fun t182 => (some t182)) else (some false))))
def smithylaw05_MacroLast.j1 : Nat → Bool → Bool → ByteArray → ByteArray → Int → ByteArray → ByteArray → Int → ByteArray → ByteArray → Int → Option (Bool)
  | 0, _, _, _, _, _, _, _, _, _, _, _ => none
  | k + 1, x12, x85, x165000, x165001, x165002, x166000, x166001, x166002, x189000, x189001, x189002 => if x85 = true then (if x12 = true then (if (x189000.toList == x166000.toList && (x189001.toList == x166001.toList && (x189002 == x166002))) = true then ((smithylaw05_small.f k).bind fun t195 => (some t195)) else (some false)) else (some false)) else (if x12 = true then (if x189002 ≥ x166002 then (if x189002 ≥ x165002 then ((smithylaw05_small.f k).bind fun t196 => (some t196)) else (some false)) else (some false)) else (some false))
end
def smithylaw05_MacroLast.f (k : Nat) (l0 : List (S30)) (a1_0 : ByteArray) (a1_1 : ByteArray) (a1_2 : Int) (a2_0 : ByteArray) (a2_1 : ByteArray) (a2_2 : Int) : Option (Bool) := (macro_All.f k l0 (([(⟨a1_0, a1_1, a1_2⟩ : S30), (⟨a2_0, a2_1, a2_2⟩ : S30)] : List (S30)))).bind fun bt169 => ((macro_All.f k l0 (([(⟨a2_0, a2_1, a2_2⟩ : S30), (⟨a1_0, a1_1, a1_2⟩ : S30)] : List (S30)))).bind fun bt176 => (if bt169.2 = 0 then (smithylaw05_MacroLast.j0 k l0 bt169.1 bt169.2 bt176.1 bt176.2 (bt176.2 != 0) a1_0 a1_1 a1_2 a2_0 a2_1 a2_2) else (smithylaw05_MacroLast.j0 k l0 bt169.1 bt169.2 bt176.1 bt176.2 true a1_0 a1_1 a1_2 a2_0 a2_1 a2_2)))
theorem smithylaw05_MacroLast.mono_l : ∀ k, (∀ y0 y1 y2 y3 y4 y5 y6 y7 y8 y9 y10 y11, LeO (smithylaw05_MacroLast.j0 k y0 y1 y2 y3 y4 y5 y6 y7 y8 y9 y10 y11) (smithylaw05_MacroLast.j0 (k + 1) y0 y1 y2 y3 y4 y5 y6 y7 y8 y9 y10 y11)) ∧ (∀ y0 y1 y2 y3 y4 y5 y6 y7 y8 y9 y10, LeO (smithylaw05_MacroLast.j1 k y0 y1 y2 y3 y4 y5 y6 y7 y8 y9 y10) (smithylaw05_MacroLast.j1 (k + 1) y0 y1 y2 y3 y4 y5 y6 y7 y8 y9 y10))
  | 0 => ⟨fun _ _ _ _ _ _ _ _ _ _ _ _ r h => by simp [smithylaw05_MacroLast.j0] at h, fun _ _ _ _ _ _ _ _ _ _ _ r h => by simp [smithylaw05_MacroLast.j1] at h⟩
  | k + 1 => by
    obtain ⟨ih0, ih1⟩ := smithylaw05_MacroLast.mono_l k
    refine ⟨?_, ?_⟩
    · intro y0 y1 y2 y3 y4 y5 y6 y7 y8 y9 y10 y11
      unfold smithylaw05_MacroLast.j0
      repeat' first
      | (with_reducible exact ih0 _ _ _ _ _ _ _ _ _ _ _ _)
      | (with_reducible exact ih1 _ _ _ _ _ _ _ _ _ _ _)
      | (with_reducible exact macro_All.mono _ _ _)
      | (with_reducible exact macro_Look.mono _ _ _)
      | (with_reducible exact smithylaw05_small.mono _)
      | (with_reducible exact smithyplain_Macros.mono _ _ _)
      | (with_reducible exact LeO.refl _)
      | (with_reducible exact LeO.none _)
      | (with_reducible refine LeO.ite ?_ ?_)
      | (with_reducible refine LeO.bind ?_ (fun _ => ?_))
      | exact ih0 _ _ _ _ _ _ _ _ _ _ _ _
      | exact ih1 _ _ _ _ _ _ _ _ _ _ _
      | exact macro_All.mono _ _ _
      | exact macro_Look.mono _ _ _
      | exact smithylaw05_small.mono _
      | exact smithyplain_Macros.mono _ _ _
      | exact LeO.none _
      | refine LeO.ite ?_ ?_
      | refine LeO.bind ?_ (fun _ => ?_)
    · intro y0 y1 y2 y3 y4 y5 y6 y7 y8 y9 y10
      unfold smithylaw05_MacroLast.j1
      repeat' first
      | (with_reducible exact ih0 _ _ _ _ _ _ _ _ _ _ _ _)
      | (with_reducible exact ih1 _ _ _ _ _ _ _ _ _ _ _)
      | (with_reducible exact macro_All.mono _ _ _)
      | (with_reducible exact macro_Look.mono _ _ _)
      | (with_reducible exact smithylaw05_small.mono _)
      | (with_reducible exact smithyplain_Macros.mono _ _ _)
      | (with_reducible exact LeO.refl _)
      | (with_reducible exact LeO.none _)
      | (with_reducible refine LeO.ite ?_ ?_)
      | (with_reducible refine LeO.bind ?_ (fun _ => ?_))
      | exact ih0 _ _ _ _ _ _ _ _ _ _ _ _
      | exact ih1 _ _ _ _ _ _ _ _ _ _ _
      | exact macro_All.mono _ _ _
      | exact macro_Look.mono _ _ _
      | exact smithylaw05_small.mono _
      | exact smithyplain_Macros.mono _ _ _
      | exact LeO.none _
      | refine LeO.ite ?_ ?_
      | refine LeO.bind ?_ (fun _ => ?_)
theorem smithylaw05_MacroLast.mono : ∀ a0 a1 a2 a3 a4 a5 a6 k, LeO (smithylaw05_MacroLast.f k a0 a1 a2 a3 a4 a5 a6) (smithylaw05_MacroLast.f (k + 1) a0 a1 a2 a3 a4 a5 a6) := by
  intro a0 a1 a2 a3 a4 a5 a6 k
  obtain ⟨ih0, ih1⟩ := smithylaw05_MacroLast.mono_l k
  unfold smithylaw05_MacroLast.f
  repeat' first
      | (with_reducible exact ih0 _ _ _ _ _ _ _ _ _ _ _ _)
      | (with_reducible exact ih1 _ _ _ _ _ _ _ _ _ _ _)
      | (with_reducible exact macro_All.mono _ _ _)
      | (with_reducible exact macro_Look.mono _ _ _)
      | (with_reducible exact smithylaw05_small.mono _)
      | (with_reducible exact smithyplain_Macros.mono _ _ _)
      | (with_reducible exact LeO.refl _)
      | (with_reducible exact LeO.none _)
      | (with_reducible refine LeO.ite ?_ ?_)
      | (with_reducible refine LeO.bind ?_ (fun _ => ?_))
      | exact ih0 _ _ _ _ _ _ _ _ _ _ _ _
      | exact ih1 _ _ _ _ _ _ _ _ _ _ _
      | exact macro_All.mono _ _ _
      | exact macro_Look.mono _ _ _
      | exact smithylaw05_small.mono _
      | exact smithyplain_Macros.mono _ _ _
      | exact LeO.none _
      | refine LeO.ite ?_ ?_
      | refine LeO.bind ?_ (fun _ => ?_)
set_option maxHeartbeats 8000000 in
set_option maxRecDepth 100000 in
theorem smithylaw05_MacroLast.calls (k : Nat) (A0 : Option Addr) (c0 : Nat) (l0 : List (S30)) (a1_0 : ByteArray) (a1_1 : ByteArray) (a1_2 : Int) (a2_0 : ByteArray) (a2_1 : ByteArray) (a2_2 : Int) (r : Bool) (w : World) (hr0 : Kd.C k30 w A0 l0.length l0) (hc0 : l0.length ≤ c0) (h : smithylaw05_MacroLast.f k l0 a1_0 a1_1 a1_2 a2_0 a2_1 a2_2 = some r) :
    Calls Try.prog 7 #[.slice A0 l0.length c0, .agg #[.string a1_0, .string a1_1, .int .i64 a1_2], .agg #[.string a2_0, .string a2_1, .int .i64 a2_2]] w fun e w' => e = .returned (.bool r) ∧ Below w.heap.size w w' := by
  have hu30 := Try.underlying30
  have HR0 := Aside0.mk hr0
  have HC0 := Aside0.mk hc0
  clear hr0 hc0
  have HB := Aside0.mk (Below.refl w.heap.size w)
  have H : ((macro_All.f k l0 (([(⟨a1_0, a1_1, a1_2⟩ : S30), (⟨a2_0, a2_1, a2_2⟩ : S30)] : List (S30)))).bind fun bt169 => ((macro_All.f k l0 (([(⟨a2_0, a2_1, a2_2⟩ : S30), (⟨a1_0, a1_1, a1_2⟩ : S30)] : List (S30)))).bind fun bt176 => (if bt169.2 = 0 then (smithylaw05_MacroLast.j0 k l0 bt169.1 bt169.2 bt176.1 bt176.2 (bt176.2 != 0) a1_0 a1_1 a1_2 a2_0 a2_1 a2_2) else (smithylaw05_MacroLast.j0 k l0 bt169.1 bt169.2 bt176.1 bt176.2 true a1_0 a1_1 a1_2 a2_0 a2_1 a2_2)))) = some r := h
  clear h
  obtain ⟨y166, hy166⟩ : ∃ y_ : List (S30), y_ = (([(⟨a1_0, a1_1, a1_2⟩ : S30), (⟨a2_0, a2_1, a2_2⟩ : S30)] : List (S30))) := ⟨_, rfl⟩
  replace H : ((macro_All.f k l0 y166).bind fun bt169 => ((macro_All.f k l0 (([(⟨a2_0, a2_1, a2_2⟩ : S30), (⟨a1_0, a1_1, a1_2⟩ : S30)] : List (S30)))).bind fun bt176 => (if bt169.2 = 0 then (smithylaw05_MacroLast.j0 k l0 bt169.1 bt169.2 bt176.1 bt176.2 (bt176.2 != 0) a1_0 a1_1 a1_2 a2_0 a2_1 a2_2) else (smithylaw05_MacroLast.j0 k l0 bt169.1 bt169.2 bt176.1 bt176.2 true a1_0 a1_1 a1_2 a2_0 a2_1 a2_2)))) = some r := by first | (rw [hy166]; with_reducible exact H) | (have H2_ := (Option.bind_some _ _).symm.trans H; rw [hy166]; with_reducible exact H2_) | (have H2_ := (Option.bind_some _ _).symm.trans H; with_reducible exact H2_) | with_reducible exact H | (rw [hy166]; exact H) | exact H
  have Ny166 := Aside0.mk hy166
  clear hy166
  replace H := Option.bind_eq_some_iff.mp H
  obtain ⟨⟨t169, t170⟩, A40, H⟩ := H
  replace H : ((macro_All.f k l0 (([(⟨a2_0, a2_1, a2_2⟩ : S30), (⟨a1_0, a1_1, a1_2⟩ : S30)] : List (S30)))).bind fun bt176 => (if t170 = 0 then (smithylaw05_MacroLast.j0 k l0 t169 t170 bt176.1 bt176.2 (bt176.2 != 0) a1_0 a1_1 a1_2 a2_0 a2_1 a2_2) else (smithylaw05_MacroLast.j0 k l0 t169 t170 bt176.1 bt176.2 true a1_0 a1_1 a1_2 a2_0 a2_1 a2_2))) = some r := H
  have A4 := Aside0.mk A40
  clear A40
  obtain ⟨y173, hy173⟩ : ∃ y_ : List (S30), y_ = (([(⟨a2_0, a2_1, a2_2⟩ : S30), (⟨a1_0, a1_1, a1_2⟩ : S30)] : List (S30))) := ⟨_, rfl⟩
  replace H : ((macro_All.f k l0 y173).bind fun bt176 => (if t170 = 0 then (smithylaw05_MacroLast.j0 k l0 t169 t170 bt176.1 bt176.2 (bt176.2 != 0) a1_0 a1_1 a1_2 a2_0 a2_1 a2_2) else (smithylaw05_MacroLast.j0 k l0 t169 t170 bt176.1 bt176.2 true a1_0 a1_1 a1_2 a2_0 a2_1 a2_2))) = some r := by first | (rw [hy173]; with_reducible exact H) | (have H2_ := (Option.bind_some _ _).symm.trans H; rw [hy173]; with_reducible exact H2_) | (have H2_ := (Option.bind_some _ _).symm.trans H; with_reducible exact H2_) | with_reducible exact H | (rw [hy173]; exact H) | exact H
  have Ny173 := Aside0.mk hy173
  clear hy173
  replace H := Option.bind_eq_some_iff.mp H
  obtain ⟨⟨t176, t177⟩, A50, H⟩ := H
  replace H : (if t170 = 0 then (smithylaw05_MacroLast.j0 k l0 t169 t170 t176 t177 (t177 != 0) a1_0 a1_1 a1_2 a2_0 a2_1 a2_2) else (smithylaw05_MacroLast.j0 k l0 t169 t170 t176 t177 true a1_0 a1_1 a1_2 a2_0 a2_1 a2_2)) = some r := H
  have A5 := Aside0.mk A50
  clear A50
  have HC6 := Aside0.mk H
  clear H
  go_enter Try.func7, Try.ntmps7
  go_upto_region 3 with (first | ((with_reducible refine gate_dst (N := 4) rfl ?_); refine box_event ?hg (N := 4) ?hd (cs := #[.string a1_0, .string a1_1, .int .i64 a1_2]) (t := 30) ?hr ?_; (case hd => rfl); (case hg => rfl); (case hr => first | (go_simp; done) | (go_simp; rfl)); intro gb164 hg w7 hbox hb; have n0_ := Aside0.mk (below_step (by repeat (first | (with_reducible first | exact HB.out | apply below_alloc | apply pw_below_drewN | apply below_drew1) | exact HB.out)) hb); have n1_ := Aside0.mk (hbox); have n2_ := Aside0.mk ((by rw [hg]; exact (below_size (by repeat (first | (with_reducible first | exact HB.out | apply below_alloc | apply pw_below_drewN | apply below_drew1) | exact HB.out))) : w.heap.size ≤ gb164)); have n3_ := Aside0.mk ((by rw [hg]; exact (below_size (by repeat (first | (with_reducible first | exact HB.out | apply below_alloc | apply pw_below_drewN | apply below_drew1) | exact HB.out))) : w.heap.size ≤ gb164)); clear HB; have HB := n0_; have BK164 := n1_; have GW164 := n2_; have GE164 := n3_; clear n0_ n1_ n2_ n3_; clear hb hbox hg) | ((with_reducible refine gate_dst (N := 5) rfl ?_); refine box_event ?hg (N := 5) ?hd (cs := #[.string a2_0, .string a2_1, .int .i64 a2_2]) (t := 30) ?hr ?_; (case hd => rfl); (case hg => rfl); (case hr => first | (go_simp; done) | (go_simp; rfl)); intro gb165 hg w8 hbox hb; have n0_ := Aside0.mk (blk_below (g := gb164) (o := .cells #[.string a1_0, .string a1_1, .int .i64 a1_2] 30 (0, 0)) (by (with_reducible repeat (first | refine blk_drewN ?_ _ | refine blk_drew ?_ | refine blk_alloc ?_ _)); exact BK164.out) hb); have n1_ := Aside0.mk (below_step (by repeat (first | (with_reducible first | exact HB.out | apply below_alloc | apply pw_below_drewN | apply below_drew1 | refine below_set ?_ GE164.out) | exact HB.out)) hb); have n2_ := Aside0.mk (hbox); have n3_ := Aside0.mk ((by rw [hg]; exact (below_size (by repeat (first | (with_reducible first | exact HB.out | apply below_alloc | apply pw_below_drewN | apply below_drew1 | refine below_set ?_ GE164.out) | exact HB.out))) : w.heap.size ≤ gb165)); have n4_ := Aside0.mk ((by rw [hg]; exact (below_size (by repeat (first | (with_reducible first | exact HB.out | apply below_alloc | apply pw_below_drewN | apply below_drew1 | refine below_set ?_ GE164.out) | exact HB.out))) : w.heap.size ≤ gb165)); have n5_ := Aside0.mk ((by rw [hg]; exact Nat.ne_of_lt (blk_lt (g := gb164) (o := .cells #[.string a1_0, .string a1_1, .int .i64 a1_2] 30 (0, 0)) (by (with_reducible repeat (first | refine blk_drewN ?_ _ | refine blk_drew ?_ | refine blk_alloc ?_ _)); exact BK164.out)) : gb164 ≠ gb165)); have n6_ := Aside0.mk ((by rw [hg]; exact Nat.ne_of_gt (blk_lt (g := gb164) (o := .cells #[.string a1_0, .string a1_1, .int .i64 a1_2] 30 (0, 0)) (by (with_reducible repeat (first | refine blk_drewN ?_ _ | refine blk_drew ?_ | refine blk_alloc ?_ _)); exact BK164.out)) : gb165 ≠ gb164)); clear BK164; clear HB; have BK164 := n0_; have HB := n1_; have BK165 := n2_; have GW165 := n3_; have GE165 := n4_; have NB164_165 := n5_; have NB165_164 := n6_; clear n0_ n1_ n2_ n3_ n4_ n5_ n6_; clear hb hbox hg; have hnb9 := NB164_165.out; have hnc9 := NB165_164.out; have hcz10_0 : w8.cell? ⟨gb164, 0, none⟩ = some (.string a1_0) := (blk_cell BK164.out 0).trans rfl; have hcz10_1 : w8.cell? ⟨gb164, 1, none⟩ = some (.string a1_1) := (blk_cell BK164.out 1).trans rfl; have hcz10_2 : w8.cell? ⟨gb164, 2, none⟩ = some (.int .i64 a1_2) := (blk_cell BK164.out 2).trans rfl; have hfz10_0 := blk_frozen BK164.out 0; have hfz10_1 := blk_frozen BK164.out 1; have hfz10_2 := blk_frozen BK164.out 2; have hcz11_0 : w8.cell? ⟨gb165, 0, none⟩ = some (.string a2_0) := (blk_cell BK165.out 0).trans rfl; have hcz11_1 : w8.cell? ⟨gb165, 1, none⟩ = some (.string a2_1) := (blk_cell BK165.out 1).trans rfl; have hcz11_2 : w8.cell? ⟨gb165, 2, none⟩ = some (.int .i64 a2_2) := (blk_cell BK165.out 2).trans rfl; have hfz11_0 := blk_frozen BK165.out 0; have hfz11_1 := blk_frozen BK165.out 1; have hfz11_2 := blk_frozen BK165.out 2) | ((with_reducible refine gate_dst (N := 21) rfl ?_); refine Kd.R_lit k30 _ 30 ?hg (N := 21) ?hd (xs := ([(⟨a1_0, a1_1, a1_2⟩ : S30), (⟨a2_0, a2_1, a2_2⟩ : S30)] : List (S30))) (inner := [.string a1_0, .string a1_1, .int .i64 a1_2, .string a2_0, .string a2_1, .int .i64 a2_2]) (ok := fun _ => True) (okp := fun _ => True) ?hr ?hp (fun _ hk => hk) trivial (Below.refl _ _) (Nat.le_refl _) (by simp) ?_; (case hd => rfl); (case hg => rfl); (case hr => first | (go_simp; done) | (go_simp; rfl)); (case hp => exact (Reps.c3 (show Kd.M k30 _ _ _ (⟨a1_0, a1_1, a1_2⟩ : S30) [.string a1_0, .string a1_1, .int .i64 a1_2] from (k30_mkM _ _ _ (⟨a1_0, a1_1, a1_2⟩ : S30) )) (Reps.c3 (show Kd.M k30 _ _ _ (⟨a2_0, a2_1, a2_2⟩ : S30) [.string a2_0, .string a2_1, .int .i64 a2_2] from (k30_mkM _ _ _ (⟨a2_0, a2_1, a2_2⟩ : S30) )) (Reps.none _ _)))); intro v167 w12 ho13 hb hg_ hnew_; clear hg_ hnew_; (first | rw [← Ny166.out] at ho13 | (simp only [Int.reduceToNat] at ho13; rw [← Ny166.out] at ho13)); have n0_ := Aside0.mk (Kd.R_lower (Kd.R_newB (Kd.R_newB ho13 (g := gb164) (o := .cells #[.string a1_0, .string a1_1, .int .i64 a1_2] 30 (0, 0)) (by (with_reducible repeat (first | refine blk_drewN ?_ _ | refine blk_drew ?_ | refine blk_alloc ?_ _)); exact BK164.out)) (g := gb165) (o := .cells #[.string a2_0, .string a2_1, .int .i64 a2_2] 30 (0, 0)) (by (with_reducible repeat (first | refine blk_drewN ?_ _ | refine blk_drew ?_ | refine blk_alloc ?_ _)); exact BK165.out)) (below_size (by repeat (first | (with_reducible first | exact HB.out | apply below_alloc | apply pw_below_drewN | apply below_drew1 | refine below_set ?_ GE164.out | refine below_set ?_ GE165.out) | exact HB.out)))); have n1_ := Aside0.mk (blk_below (g := gb164) (o := .cells #[.string a1_0, .string a1_1, .int .i64 a1_2] 30 (0, 0)) (by (with_reducible repeat (first | refine blk_drewN ?_ _ | refine blk_drew ?_ | refine blk_alloc ?_ _)); exact BK164.out) hb); have n2_ := Aside0.mk (blk_below (g := gb165) (o := .cells #[.string a2_0, .string a2_1, .int .i64 a2_2] 30 (0, 0)) (by (with_reducible repeat (first | refine blk_drewN ?_ _ | refine blk_drew ?_ | refine blk_alloc ?_ _)); exact BK165.out) hb); have n3_ := Aside0.mk (below_step (by repeat (first | (with_reducible first | exact HB.out | apply below_alloc | apply pw_below_drewN | apply below_drew1 | refine below_set ?_ GE164.out | refine below_set ?_ GE165.out) | exact HB.out)) hb); clear BK164; clear BK165; clear HB; have HO168 := n0_; have BK164 := n1_; have BK165 := n2_; have HB := n3_; clear n0_ n1_ n2_ n3_; clear hb ho13; obtain ⟨Ao14, co14, eo14⟩ := Kd.R_slice HO168.out; subst eo14) | ((with_reducible refine gate_callee (f := 19) rfl ?_); refine goesL_ (some 22) rfl rfl Try.func19 (by kernel_rfl) rfl #[.slice A0 l0.length c0, .slice Ao14 y166.length co14] rfl (by (try simp only [List.map_toArray, List.map_cons, List.map_nil]); first | done | rfl | (simp only [List.length_drop, List.length_take]; rfl)) ?_; (with_reducible refine (macro_All.calls k _ _ l0 _ _ y166 t169 t170 _ ?side1 ?side2 ?side3 ?side4 A4.out).mono ?_); (case side1 => repeat (first | exact (Kd.C_below HR0.out HB.out) | (with_reducible refine Kd.C_alloc ?_ _) | (with_reducible refine Kd.C_drewN ?_ _) | (with_reducible refine Kd.C_drew ?_))); (case side2 => exact HC0.out); (case side3 => repeat (first | exact (Kd.R_reads' HO168.out).2.2 | (with_reducible refine Kd.C_alloc ?_ _) | (with_reducible refine Kd.C_drewN ?_ _) | (with_reducible refine Kd.C_drew ?_))); (case side4 => exact (Kd.R_reads' HO168.out).2.1); rintro e w15 ⟨v171, rfl, ho0, hb⟩; refine ⟨_, rfl, ?_⟩; have n0_ := Aside0.mk (Kd.R_elder' (by (with_reducible repeat (first | apply Kd.R_alloc | apply Kd.R_drewN | apply Kd.R_drew)); exact HO168.out) (Kd.R_base ho0) hb); have n1_ := Aside0.mk (Kd.R_lower (Kd.R_newB (Kd.R_newB (Kd.R_new' ho0 (Kd.R_lt (by (with_reducible repeat (first | apply Kd.R_alloc | apply Kd.R_drewN | apply Kd.R_drew)); exact HO168.out))) (g := gb164) (o := .cells #[.string a1_0, .string a1_1, .int .i64 a1_2] 30 (0, 0)) (by (with_reducible repeat (first | refine blk_drewN ?_ _ | refine blk_drew ?_ | refine blk_alloc ?_ _)); exact BK164.out)) (g := gb165) (o := .cells #[.string a2_0, .string a2_1, .int .i64 a2_2] 30 (0, 0)) (by (with_reducible repeat (first | refine blk_drewN ?_ _ | refine blk_drew ?_ | refine blk_alloc ?_ _)); exact BK165.out)) (below_size (by repeat (first | (with_reducible first | exact HB.out | apply below_alloc | apply pw_below_drewN | apply below_drew1 | refine below_set ?_ GE164.out | refine below_set ?_ GE165.out) | exact HB.out)))); have n2_ := Aside0.mk (blk_below (g := gb164) (o := .cells #[.string a1_0, .string a1_1, .int .i64 a1_2] 30 (0, 0)) (by (with_reducible repeat (first | refine blk_drewN ?_ _ | refine blk_drew ?_ | refine blk_alloc ?_ _)); exact BK164.out) hb); have n3_ := Aside0.mk (blk_below (g := gb165) (o := .cells #[.string a2_0, .string a2_1, .int .i64 a2_2] 30 (0, 0)) (by (with_reducible repeat (first | refine blk_drewN ?_ _ | refine blk_drew ?_ | refine blk_alloc ?_ _)); exact BK165.out) hb); have n4_ := Aside0.mk (below_step (by repeat (first | (with_reducible first | exact HB.out | apply below_alloc | apply pw_below_drewN | apply below_drew1 | refine below_set ?_ GE164.out | refine below_set ?_ GE165.out) | exact HB.out)) hb); clear HO168; clear BK164; clear BK165; clear HB; have HO168 := n0_; have HO172 := n1_; have BK164 := n2_; have BK165 := n3_; have HB := n4_; clear n0_ n1_ n2_ n3_ n4_; (try clear hb); (try clear hb2); (try clear hk); (try clear hi); (try clear ho0); have hcz16_0 : w15.cell? ⟨gb165, 0, none⟩ = some (.string a2_0) := (blk_cell BK165.out 0).trans rfl; have hcz16_1 : w15.cell? ⟨gb165, 1, none⟩ = some (.string a2_1) := (blk_cell BK165.out 1).trans rfl; have hcz16_2 : w15.cell? ⟨gb165, 2, none⟩ = some (.int .i64 a2_2) := (blk_cell BK165.out 2).trans rfl; have hfz16_0 := blk_frozen BK165.out 0; have hfz16_1 := blk_frozen BK165.out 1; have hfz16_2 := blk_frozen BK165.out 2; have hcz17_0 : w15.cell? ⟨gb164, 0, none⟩ = some (.string a1_0) := (blk_cell BK164.out 0).trans rfl; have hcz17_1 : w15.cell? ⟨gb164, 1, none⟩ = some (.string a1_1) := (blk_cell BK164.out 1).trans rfl; have hcz17_2 : w15.cell? ⟨gb164, 2, none⟩ = some (.int .i64 a1_2) := (blk_cell BK164.out 2).trans rfl; have hfz17_0 := blk_frozen BK164.out 0; have hfz17_1 := blk_frozen BK164.out 1; have hfz17_2 := blk_frozen BK164.out 2) | ((with_reducible refine gate_dst (N := 29) rfl ?_); refine Kd.R_lit k30 _ 30 ?hg (N := 29) ?hd (xs := ([(⟨a2_0, a2_1, a2_2⟩ : S30), (⟨a1_0, a1_1, a1_2⟩ : S30)] : List (S30))) (inner := [.string a2_0, .string a2_1, .int .i64 a2_2, .string a1_0, .string a1_1, .int .i64 a1_2]) (ok := fun _ => True) (okp := fun _ => True) ?hr ?hp (fun _ hk => hk) trivial (Below.refl _ _) (Nat.le_refl _) (by simp) ?_; (case hd => rfl); (case hg => rfl); (case hr => first | (go_simp; done) | (go_simp; rfl)); (case hp => exact (Reps.c3 (show Kd.M k30 _ _ _ (⟨a2_0, a2_1, a2_2⟩ : S30) [.string a2_0, .string a2_1, .int .i64 a2_2] from (k30_mkM _ _ _ (⟨a2_0, a2_1, a2_2⟩ : S30) )) (Reps.c3 (show Kd.M k30 _ _ _ (⟨a1_0, a1_1, a1_2⟩ : S30) [.string a1_0, .string a1_1, .int .i64 a1_2] from (k30_mkM _ _ _ (⟨a1_0, a1_1, a1_2⟩ : S30) )) (Reps.none _ _)))); intro v174 w18 ho19 hb hg_ hnew_; clear hg_ hnew_; (first | rw [← Ny173.out] at ho19 | (simp only [Int.reduceToNat] at ho19; rw [← Ny173.out] at ho19)); have n0_ := Aside0.mk (Kd.R_elder' (by (with_reducible repeat (first | apply Kd.R_alloc | apply Kd.R_drewN | apply Kd.R_drew)); exact HO168.out) (Kd.R_base ho19) hb); have n1_ := Aside0.mk (Kd.R_elder' (by (with_reducible repeat (first | apply Kd.R_alloc | apply Kd.R_drewN | apply Kd.R_drew)); exact HO172.out) (Kd.R_base ho19) hb); have n2_ := Aside0.mk (Kd.R_lower (Kd.R_newB (Kd.R_newB (Kd.R_new' (Kd.R_new' ho19 (Kd.R_lt (by (with_reducible repeat (first | apply Kd.R_alloc | apply Kd.R_drewN | apply Kd.R_drew)); exact HO168.out))) (Kd.R_lt (by (with_reducible repeat (first | apply Kd.R_alloc | apply Kd.R_drewN | apply Kd.R_drew)); exact HO172.out))) (g := gb164) (o := .cells #[.string a1_0, .string a1_1, .int .i64 a1_2] 30 (0, 0)) (by (with_reducible repeat (first | refine blk_drewN ?_ _ | refine blk_drew ?_ | refine blk_alloc ?_ _)); exact BK164.out)) (g := gb165) (o := .cells #[.string a2_0, .string a2_1, .int .i64 a2_2] 30 (0, 0)) (by (with_reducible repeat (first | refine blk_drewN ?_ _ | refine blk_drew ?_ | refine blk_alloc ?_ _)); exact BK165.out)) (below_size (by repeat (first | (with_reducible first | exact HB.out | apply below_alloc | apply pw_below_drewN | apply below_drew1 | refine below_set ?_ GE164.out | refine below_set ?_ GE165.out) | exact HB.out)))); have n3_ := Aside0.mk (blk_below (g := gb164) (o := .cells #[.string a1_0, .string a1_1, .int .i64 a1_2] 30 (0, 0)) (by (with_reducible repeat (first | refine blk_drewN ?_ _ | refine blk_drew ?_ | refine blk_alloc ?_ _)); exact BK164.out) hb); have n4_ := Aside0.mk (blk_below (g := gb165) (o := .cells #[.string a2_0, .string a2_1, .int .i64 a2_2] 30 (0, 0)) (by (with_reducible repeat (first | refine blk_drewN ?_ _ | refine blk_drew ?_ | refine blk_alloc ?_ _)); exact BK165.out) hb); have n5_ := Aside0.mk (below_step (by repeat (first | (with_reducible first | exact HB.out | apply below_alloc | apply pw_below_drewN | apply below_drew1 | refine below_set ?_ GE164.out | refine below_set ?_ GE165.out) | exact HB.out)) hb); clear HO168; clear HO172; clear BK164; clear BK165; clear HB; have HO168 := n0_; have HO172 := n1_; have HO175 := n2_; have BK164 := n3_; have BK165 := n4_; have HB := n5_; clear n0_ n1_ n2_ n3_ n4_ n5_; clear hb ho19; obtain ⟨Ao20, co20, eo20⟩ := Kd.R_slice HO175.out; subst eo20) | ((with_reducible refine gate_callee (f := 19) rfl ?_); refine goesL_ (some 30) rfl rfl Try.func19 (by kernel_rfl) rfl #[.slice A0 l0.length c0, .slice Ao20 y173.length co20] rfl (by (try simp only [List.map_toArray, List.map_cons, List.map_nil]); first | done | rfl | (simp only [List.length_drop, List.length_take]; rfl)) ?_; (with_reducible refine (macro_All.calls k _ _ l0 _ _ y173 t176 t177 _ ?side1 ?side2 ?side3 ?side4 A5.out).mono ?_); (case side1 => repeat (first | exact (Kd.C_below HR0.out HB.out) | (with_reducible refine Kd.C_alloc ?_ _) | (with_reducible refine Kd.C_drewN ?_ _) | (with_reducible refine Kd.C_drew ?_))); (case side2 => exact HC0.out); (case side3 => repeat (first | exact (Kd.R_reads' HO175.out).2.2 | (with_reducible refine Kd.C_alloc ?_ _) | (with_reducible refine Kd.C_drewN ?_ _) | (with_reducible refine Kd.C_drew ?_))); (case side4 => exact (Kd.R_reads' HO175.out).2.1); rintro e w21 ⟨v178, rfl, ho0, hb⟩; refine ⟨_, rfl, ?_⟩; have n0_ := Aside0.mk (Kd.R_elder' (by (with_reducible repeat (first | apply Kd.R_alloc | apply Kd.R_drewN | apply Kd.R_drew)); exact HO168.out) (Kd.R_base ho0) hb); have n1_ := Aside0.mk (Kd.R_elder' (by (with_reducible repeat (first | apply Kd.R_alloc | apply Kd.R_drewN | apply Kd.R_drew)); exact HO172.out) (Kd.R_base ho0) hb); have n2_ := Aside0.mk (Kd.R_elder' (by (with_reducible repeat (first | apply Kd.R_alloc | apply Kd.R_drewN | apply Kd.R_drew)); exact HO175.out) (Kd.R_base ho0) hb); have n3_ := Aside0.mk (Kd.R_lower (Kd.R_newB (Kd.R_newB (Kd.R_new' (Kd.R_new' (Kd.R_new' ho0 (Kd.R_lt (by (with_reducible repeat (first | apply Kd.R_alloc | apply Kd.R_drewN | apply Kd.R_drew)); exact HO168.out))) (Kd.R_lt (by (with_reducible repeat (first | apply Kd.R_alloc | apply Kd.R_drewN | apply Kd.R_drew)); exact HO172.out))) (Kd.R_lt (by (with_reducible repeat (first | apply Kd.R_alloc | apply Kd.R_drewN | apply Kd.R_drew)); exact HO175.out))) (g := gb164) (o := .cells #[.string a1_0, .string a1_1, .int .i64 a1_2] 30 (0, 0)) (by (with_reducible repeat (first | refine blk_drewN ?_ _ | refine blk_drew ?_ | refine blk_alloc ?_ _)); exact BK164.out)) (g := gb165) (o := .cells #[.string a2_0, .string a2_1, .int .i64 a2_2] 30 (0, 0)) (by (with_reducible repeat (first | refine blk_drewN ?_ _ | refine blk_drew ?_ | refine blk_alloc ?_ _)); exact BK165.out)) (below_size (by repeat (first | (with_reducible first | exact HB.out | apply below_alloc | apply pw_below_drewN | apply below_drew1 | refine below_set ?_ GE164.out | refine below_set ?_ GE165.out) | exact HB.out)))); have n4_ := Aside0.mk (blk_below (g := gb164) (o := .cells #[.string a1_0, .string a1_1, .int .i64 a1_2] 30 (0, 0)) (by (with_reducible repeat (first | refine blk_drewN ?_ _ | refine blk_drew ?_ | refine blk_alloc ?_ _)); exact BK164.out) hb); have n5_ := Aside0.mk (blk_below (g := gb165) (o := .cells #[.string a2_0, .string a2_1, .int .i64 a2_2] 30 (0, 0)) (by (with_reducible repeat (first | refine blk_drewN ?_ _ | refine blk_drew ?_ | refine blk_alloc ?_ _)); exact BK165.out) hb); have n6_ := Aside0.mk (below_step (by repeat (first | (with_reducible first | exact HB.out | apply below_alloc | apply pw_below_drewN | apply below_drew1 | refine below_set ?_ GE164.out | refine below_set ?_ GE165.out) | exact HB.out)) hb); clear HO168; clear HO172; clear HO175; clear BK164; clear BK165; clear HB; have HO168 := n0_; have HO172 := n1_; have HO175 := n2_; have HO179 := n3_; have BK164 := n4_; have BK165 := n5_; have HB := n6_; clear n0_ n1_ n2_ n3_ n4_ n5_ n6_; (try clear hb); (try clear hb2); (try clear hk); (try clear hi); (try clear ho0)))
  (try simp only [Act.put, List.setIfInBounds_toArray, List.set_cons_zero, List.set_cons_succ])
  go_cut [38] (fun v38 wc => ∃ (kq : Nat) (x38_5 : Bool), v38 = .bool x38_5 ∧ Aside0 (smithylaw05_MacroLast.j0 kq l0 t169 t170 t176 t177 x38_5 a1_0 a1_1 a1_2 a2_0 a2_1 a2_2 = some r) ∧ Aside0 (kq ≤ k) ∧ Aside0 (Kd.R k30 30 wc w.heap.size (fun k_ => some k_ ≠ (v178 : Value).ownBlock ∧ k_ ≠ gb164 ∧ k_ ≠ gb165) v171 t169) ∧ Aside0 (Kd.R k30 30 wc w.heap.size (fun k_ => some k_ ≠ (v171 : Value).ownBlock ∧ k_ ≠ gb164 ∧ k_ ≠ gb165) v178 t176) ∧ Aside0 (wc.heap[gb164]? = some (.cells #[.string a1_0, .string a1_1, .int .i64 a1_2] 30 (0, 0))) ∧ Aside0 (wc.heap[gb165]? = some (.cells #[.string a2_0, .string a2_1, .int .i64 a2_2] 30 (0, 0))) ∧ Aside0 (Below w.heap.size w wc))
  case first =>
    have H := HC6.out
    clear HC6
    by_cases c22 : t170 = 0
    · rw [if_pos c22] at H
      have c22b0 : (t170 == 0) = true := beq_iff_eq.mpr c22
      have c22b1 : (t170 != 0) = false := bne_eq_false_iff_eq.mpr c22
      clear c22
      (first | rw [c22b0] | (simp only [i64_w, i32_w]; rw [c22b0]) | skip)
      have H' := Aside0.mk H
      clear H
      go_wp2
      go_meet
      case rel => exact ⟨_, ((t177 != 0)), (by first | rfl | (simp; done) | (simp [*]; done)), H', ⟨by first | omega | exact Nat.le_refl _⟩, ⟨by (with_reducible repeat (first | apply Kd.R_alloc | apply Kd.R_drewN | apply Kd.R_drew)); exact Kd.R_mono HO172.out (fun _ hk => ⟨hk.2, ⟨hk.1.1.1.2, hk.1.1.2⟩⟩)⟩, ⟨by (with_reducible repeat (first | apply Kd.R_alloc | apply Kd.R_drewN | apply Kd.R_drew)); exact Kd.R_mono HO179.out (fun _ hk => ⟨hk.1.1.1.2, ⟨hk.1.2, hk.2⟩⟩)⟩, ⟨by (with_reducible repeat (first | refine blk_drewN ?_ _ | refine blk_drew ?_ | refine blk_alloc ?_ _)); exact BK164.out⟩, ⟨by (with_reducible repeat (first | refine blk_drewN ?_ _ | refine blk_drew ?_ | refine blk_alloc ?_ _)); exact BK165.out⟩, ⟨by repeat (first | (with_reducible first | exact HB.out | apply below_alloc | apply pw_below_drewN | apply below_drew1 | refine below_set ?_ GE164.out | refine below_set ?_ GE165.out) | exact HB.out)⟩⟩
    · rw [if_neg c22] at H
      have c22b0 : (t170 == 0) = false := beq_eq_false_iff_ne.mpr c22
      have c22b1 : (t170 != 0) = true := bne_iff_ne.mpr c22
      (first | rw [c22b0] | (simp only [i64_w, i32_w]; rw [c22b0]) | skip)
      have H' := Aside0.mk H
      clear H
      go_wp2
      go_meet
      case rel => exact ⟨_, (true), (by first | rfl | (simp; done) | (simp [*]; done)), H', ⟨by first | omega | exact Nat.le_refl _⟩, ⟨by (with_reducible repeat (first | apply Kd.R_alloc | apply Kd.R_drewN | apply Kd.R_drew)); exact Kd.R_mono HO172.out (fun _ hk => ⟨hk.2, ⟨hk.1.1.1.2, hk.1.1.2⟩⟩)⟩, ⟨by (with_reducible repeat (first | apply Kd.R_alloc | apply Kd.R_drewN | apply Kd.R_drew)); exact Kd.R_mono HO179.out (fun _ hk => ⟨hk.1.1.1.2, ⟨hk.1.2, hk.2⟩⟩)⟩, ⟨by (with_reducible repeat (first | refine blk_drewN ?_ _ | refine blk_drew ?_ | refine blk_alloc ?_ _)); exact BK164.out⟩, ⟨by (with_reducible repeat (first | refine blk_drewN ?_ _ | refine blk_drew ?_ | refine blk_alloc ?_ _)); exact BK165.out⟩, ⟨by repeat (first | (with_reducible first | exact HB.out | apply below_alloc | apply pw_below_drewN | apply below_drew1 | refine below_set ?_ GE164.out | refine below_set ?_ GE165.out) | exact HB.out)⟩⟩
  case rest =>
    clear HC6
    try clear c1
    try clear c2
    try clear p2
    try clear c3
    try clear c7
    try clear c9
    try clear c19
    try clear c22
    try clear c22b0
    try clear c22b1
    try clear hcz10_0
    try clear hcz10_1
    try clear hcz10_2
    try clear hcz11_0
    try clear hcz11_1
    try clear hcz11_2
    try clear hcz16_0
    try clear hcz16_1
    try clear hcz16_2
    try clear hcz17_0
    try clear hcz17_1
    try clear hcz17_2
    try clear hfz10_0
    try clear hfz10_1
    try clear hfz10_2
    try clear hfz11_0
    try clear hfz11_1
    try clear hfz11_2
    try clear hfz16_0
    try clear hfz16_1
    try clear hfz16_2
    try clear hfz17_0
    try clear hfz17_1
    try clear hfz17_2
    obtain ⟨kq, x38_5, rfl, HA, HJ5, HO_7, HO_9, BK164, BK165, HB⟩ := hcut
    cases kq with
    | zero => exact absurd HA.out (by simp [smithylaw05_MacroLast.j0])
    | succ kj5 =>
      have H := HA.out
      clear HA
      simp only [smithylaw05_MacroLast.j0] at H
      by_cases c23 : x38_5 = true
      · subst c23
        have H1 : (if ((t170 != 0) == (t177 != 0)) = true then ((smithylaw05_small.f kj5).bind fun t180 => (some t180)) else (some false)) = some r := by rw [if_pos rfl] at H; exact H
        clear H
        have H := H1
        clear H1
        by_cases c24 : ((t170 != 0) == (t177 != 0)) = true
        · rw [if_pos c24] at H
          have c24b0 : ((t170 != 0) == (t177 != 0)) = true := c24
          (try (have c24b1 : decide ((t170 != 0) = (t177 != 0)) = true := by simpa using c24))
          (try (have c24b2 : ((t170 != 0) == (t177 != 0)) = true := by simpa using c24))
          clear c24
          replace H := Option.bind_eq_some_iff.mp H
          obtain ⟨t180, A250, H⟩ := H
          replace H : (some t180) = some r := H
          have A25 := Aside0.mk A250
          clear A250
          obtain rfl := Option.some.inj H
          go_wp2_with (first | (go_at_call 14; (with_reducible refine (smithylaw05_small.calls kj5  t180 _ A25.out).mono ?_); rintro e w26 ⟨rfl, hb⟩; have n0_ := Aside0.mk (Kd.R_below (by (with_reducible repeat (first | apply Kd.R_alloc | apply Kd.R_drewN | apply Kd.R_drew)); exact HO_7.out) hb); have n1_ := Aside0.mk (Kd.R_below (by (with_reducible repeat (first | apply Kd.R_alloc | apply Kd.R_drewN | apply Kd.R_drew)); exact HO_9.out) hb); have n2_ := Aside0.mk (blk_below (g := gb164) (o := .cells #[.string a1_0, .string a1_1, .int .i64 a1_2] 30 (0, 0)) (by (with_reducible repeat (first | refine blk_drewN ?_ _ | refine blk_drew ?_ | refine blk_alloc ?_ _)); exact BK164.out) hb); have n3_ := Aside0.mk (blk_below (g := gb165) (o := .cells #[.string a2_0, .string a2_1, .int .i64 a2_2] 30 (0, 0)) (by (with_reducible repeat (first | refine blk_drewN ?_ _ | refine blk_drew ?_ | refine blk_alloc ?_ _)); exact BK165.out) hb); have n4_ := Aside0.mk (below_step (by repeat (first | (with_reducible first | exact HB.out | apply below_alloc | apply pw_below_drewN | apply below_drew1 | refine below_set ?_ GE164.out | refine below_set ?_ GE165.out) | exact HB.out)) hb); clear HO_7; clear HO_9; clear BK164; clear BK165; clear HB; have HO_7 := n0_; have HO_9 := n1_; have BK164 := n2_; have BK165 := n3_; have HB := n4_; clear n0_ n1_ n2_ n3_ n4_; (try clear hb); (try clear hb2); (try clear hk); (try clear hi)))
          go_ret
          exact ⟨by first | rfl | (simp [errW_none, errW_some] <;> rfl) | (simp [*, errW_none, errW_some] <;> rfl), by repeat (first | (with_reducible first | exact HB.out | apply below_alloc | apply pw_below_drewN | apply below_drew1 | refine below_set ?_ GE164.out | refine below_set ?_ GE165.out) | exact HB.out)⟩
        · rw [if_neg c24] at H
          have c24b0 : ((t170 != 0) == (t177 != 0)) = false := by simpa using c24
          (try (have c24b1 : decide ((t170 != 0) = (t177 != 0)) = false := by simpa using c24))
          (try (have c24b2 : ((t170 != 0) == (t177 != 0)) = false := by simpa using c24))
          (try (have c24b3 : ¬ ((t170 != 0) = (t177 != 0)) := by simpa using c24))
          clear c24
          obtain rfl := Option.some.inj H
          go_wp2
          go_ret
          exact ⟨by first | rfl | (simp [errW_none, errW_some] <;> rfl) | (simp [*, errW_none, errW_some] <;> rfl), by repeat (first | (with_reducible first | exact HB.out | apply below_alloc | apply pw_below_drewN | apply below_drew1 | refine below_set ?_ GE164.out | refine below_set ?_ GE165.out) | exact HB.out)⟩
      · replace c23 := Bool.eq_false_iff.mpr c23
        subst c23
        have H1 : (if a1_0.toList = a2_0.toList then ((macro_Look.f kj5 t169 a2_0).bind fun bt183 => ((macro_Look.f kj5 l0 a2_0).bind fun bt189 => (if a1_2 = a2_2 then (smithylaw05_MacroLast.j1 kj5 bt183.2.2.2.1 (decide (bt189.2.2.1 ≤ a2_2)) a1_0 a1_1 a1_2 a2_0 a2_1 a2_2 bt183.1 bt183.2.1 bt183.2.2.1) else (smithylaw05_MacroLast.j1 kj5 bt183.2.2.2.1 false a1_0 a1_1 a1_2 a2_0 a2_1 a2_2 bt183.1 bt183.2.1 bt183.2.2.1)))) else ((smithyplain_Macros.f kj5 t169 t176).bind fun t181 => (if t181 = true then ((smithylaw05_small.f kj5).bind fun t182 => (some t182)) else (some false)))) = some r := by rw [if_neg (show ¬ (false = true) by decide)] at H; exact H
        clear H
        have H := H1
        clear H1
        by_cases c27 : a1_0.toList = a2_0.toList
        · rw [if_pos c27] at H
          have c27b0 : (a1_0.toList == a2_0.toList) = true := beq_iff_eq.mpr c27
          have c27b1 : (a1_0.toList != a2_0.toList) = false := bne_eq_false_iff_eq.mpr c27
          clear c27
          replace H := Option.bind_eq_some_iff.mp H
          obtain ⟨⟨t183, t184, t185, t186, t187⟩, A280, H⟩ := H
          replace H : ((macro_Look.f kj5 l0 a2_0).bind fun bt189 => (if a1_2 = a2_2 then (smithylaw05_MacroLast.j1 kj5 t186 (decide (bt189.2.2.1 ≤ a2_2)) a1_0 a1_1 a1_2 a2_0 a2_1 a2_2 t183 t184 t185) else (smithylaw05_MacroLast.j1 kj5 t186 false a1_0 a1_1 a1_2 a2_0 a2_1 a2_2 t183 t184 t185))) = some r := H
          have A28 := Aside0.mk A280
          clear A280
          replace H := Option.bind_eq_some_iff.mp H
          obtain ⟨⟨t189, t190, t191, t192, t193⟩, A290, H⟩ := H
          replace H : (if a1_2 = a2_2 then (smithylaw05_MacroLast.j1 kj5 t186 (decide (t191 ≤ a2_2)) a1_0 a1_1 a1_2 a2_0 a2_1 a2_2 t183 t184 t185) else (smithylaw05_MacroLast.j1 kj5 t186 false a1_0 a1_1 a1_2 a2_0 a2_1 a2_2 t183 t184 t185)) = some r := H
          have A29 := Aside0.mk A290
          clear A290
          have HC30 := Aside0.mk H
          clear H
          have hnb31 := NB164_165.out
          have hnc31 := NB165_164.out
          have hcz32_0 : wc.cell? ⟨gb164, 0, none⟩ = some (.string a1_0) := (blk_cell BK164.out 0).trans rfl
          have hcz32_1 : wc.cell? ⟨gb164, 1, none⟩ = some (.string a1_1) := (blk_cell BK164.out 1).trans rfl
          have hcz32_2 : wc.cell? ⟨gb164, 2, none⟩ = some (.int .i64 a1_2) := (blk_cell BK164.out 2).trans rfl
          have hfz32_0 := blk_frozen BK164.out 0
          have hfz32_1 := blk_frozen BK164.out 1
          have hfz32_2 := blk_frozen BK164.out 2
          have hcz33_0 : wc.cell? ⟨gb165, 0, none⟩ = some (.string a2_0) := (blk_cell BK165.out 0).trans rfl
          have hcz33_1 : wc.cell? ⟨gb165, 1, none⟩ = some (.string a2_1) := (blk_cell BK165.out 1).trans rfl
          have hcz33_2 : wc.cell? ⟨gb165, 2, none⟩ = some (.int .i64 a2_2) := (blk_cell BK165.out 2).trans rfl
          have hfz33_0 := blk_frozen BK165.out 0
          have hfz33_1 := blk_frozen BK165.out 1
          have hfz33_2 := blk_frozen BK165.out 2
          obtain ⟨Ao34, co34, eo34⟩ := Kd.R_slice HO_7.out
          subst eo34
          go_upto_region 9 with (first | ((with_reducible refine gate_callee (f := 21) rfl ?_); refine goesL_ (some 62) rfl rfl Try.func21 (by kernel_rfl) rfl #[.slice Ao34 t169.length co34, .string a2_0] rfl (by (try simp only [List.map_toArray, List.map_cons, List.map_nil]); first | done | rfl | (simp only [List.length_drop, List.length_take]; rfl)) ?_; (with_reducible refine (macro_Look.calls kj5 _ _ t169 a2_0 t183 t184 t185 t186 t187 _ ?side1 ?side2 A28.out).mono ?_); (case side1 => repeat (first | exact (Kd.R_reads' HO_7.out).2.2 | (with_reducible refine Kd.C_alloc ?_ _) | (with_reducible refine Kd.C_drewN ?_ _) | (with_reducible refine Kd.C_drew ?_))); (case side2 => exact (Kd.R_reads' HO_7.out).2.1); rintro e w35 ⟨rfl, hb⟩; refine ⟨_, rfl, ?_⟩; have n0_ := Aside0.mk (Kd.R_below (by (with_reducible repeat (first | apply Kd.R_alloc | apply Kd.R_drewN | apply Kd.R_drew)); exact HO_7.out) hb); have n1_ := Aside0.mk (Kd.R_below (by (with_reducible repeat (first | apply Kd.R_alloc | apply Kd.R_drewN | apply Kd.R_drew)); exact HO_9.out) hb); have n2_ := Aside0.mk (blk_below (g := gb164) (o := .cells #[.string a1_0, .string a1_1, .int .i64 a1_2] 30 (0, 0)) (by (with_reducible repeat (first | refine blk_drewN ?_ _ | refine blk_drew ?_ | refine blk_alloc ?_ _)); exact BK164.out) hb); have n3_ := Aside0.mk (blk_below (g := gb165) (o := .cells #[.string a2_0, .string a2_1, .int .i64 a2_2] 30 (0, 0)) (by (with_reducible repeat (first | refine blk_drewN ?_ _ | refine blk_drew ?_ | refine blk_alloc ?_ _)); exact BK165.out) hb); have n4_ := Aside0.mk (below_step (by repeat (first | (with_reducible first | exact HB.out | apply below_alloc | apply pw_below_drewN | apply below_drew1 | refine below_set ?_ GE164.out | refine below_set ?_ GE165.out) | exact HB.out)) hb); clear HO_7; clear HO_9; clear BK164; clear BK165; clear HB; have HO_7 := n0_; have HO_9 := n1_; have BK164 := n2_; have BK165 := n3_; have HB := n4_; clear n0_ n1_ n2_ n3_ n4_; (try clear hb); (try clear hb2); (try clear hk); (try clear hi)) | ((with_reducible refine gate_dst (N := 11) rfl ?_); refine box_event ?hg (N := 11) ?hd (cs := #[.string (⟨#[]⟩ : ByteArray), .string (⟨#[]⟩ : ByteArray), .int .i64 0]) (t := 30) ?hr ?_; (case hd => rfl); (case hg => rfl); (case hr => first | (go_simp; done) | (go_simp; rfl)); intro gb188 hg w36 hbox hb; have n0_ := Aside0.mk (Kd.R_below (Kd.R_elderB (by (with_reducible repeat (first | apply Kd.R_alloc | apply Kd.R_drewN | apply Kd.R_drew)); exact HO_7.out) gb188 (Nat.le_of_eq hg.symm)) hb); have n1_ := Aside0.mk (Kd.R_below (Kd.R_elderB (by (with_reducible repeat (first | apply Kd.R_alloc | apply Kd.R_drewN | apply Kd.R_drew)); exact HO_9.out) gb188 (Nat.le_of_eq hg.symm)) hb); have n2_ := Aside0.mk (blk_below (g := gb164) (o := .cells #[.string a1_0, .string a1_1, .int .i64 a1_2] 30 (0, 0)) (by (with_reducible repeat (first | refine blk_drewN ?_ _ | refine blk_drew ?_ | refine blk_alloc ?_ _)); exact BK164.out) hb); have n3_ := Aside0.mk (blk_below (g := gb165) (o := .cells #[.string a2_0, .string a2_1, .int .i64 a2_2] 30 (0, 0)) (by (with_reducible repeat (first | refine blk_drewN ?_ _ | refine blk_drew ?_ | refine blk_alloc ?_ _)); exact BK165.out) hb); have n4_ := Aside0.mk (below_step (by repeat (first | (with_reducible first | exact HB.out | apply below_alloc | apply pw_below_drewN | apply below_drew1 | refine below_set ?_ GE164.out | refine below_set ?_ GE165.out) | exact HB.out)) hb); have n5_ := Aside0.mk (hbox); have n6_ := Aside0.mk ((by rw [hg]; exact (below_size (by repeat (first | (with_reducible first | exact HB.out | apply below_alloc | apply pw_below_drewN | apply below_drew1 | refine below_set ?_ GE164.out | refine below_set ?_ GE165.out) | exact HB.out))) : w.heap.size ≤ gb188)); have n7_ := Aside0.mk ((by rw [hg]; exact (below_size (by repeat (first | (with_reducible first | exact HB.out | apply below_alloc | apply pw_below_drewN | apply below_drew1 | refine below_set ?_ GE164.out | refine below_set ?_ GE165.out) | exact HB.out))) : w.heap.size ≤ gb188)); have n8_ := Aside0.mk ((by rw [hg]; exact Nat.ne_of_lt (blk_lt (g := gb164) (o := .cells #[.string a1_0, .string a1_1, .int .i64 a1_2] 30 (0, 0)) (by (with_reducible repeat (first | refine blk_drewN ?_ _ | refine blk_drew ?_ | refine blk_alloc ?_ _)); exact BK164.out)) : gb164 ≠ gb188)); have n9_ := Aside0.mk ((by rw [hg]; exact Nat.ne_of_gt (blk_lt (g := gb164) (o := .cells #[.string a1_0, .string a1_1, .int .i64 a1_2] 30 (0, 0)) (by (with_reducible repeat (first | refine blk_drewN ?_ _ | refine blk_drew ?_ | refine blk_alloc ?_ _)); exact BK164.out)) : gb188 ≠ gb164)); have n10_ := Aside0.mk ((by rw [hg]; exact Nat.ne_of_lt (blk_lt (g := gb165) (o := .cells #[.string a2_0, .string a2_1, .int .i64 a2_2] 30 (0, 0)) (by (with_reducible repeat (first | refine blk_drewN ?_ _ | refine blk_drew ?_ | refine blk_alloc ?_ _)); exact BK165.out)) : gb165 ≠ gb188)); have n11_ := Aside0.mk ((by rw [hg]; exact Nat.ne_of_gt (blk_lt (g := gb165) (o := .cells #[.string a2_0, .string a2_1, .int .i64 a2_2] 30 (0, 0)) (by (with_reducible repeat (first | refine blk_drewN ?_ _ | refine blk_drew ?_ | refine blk_alloc ?_ _)); exact BK165.out)) : gb188 ≠ gb165)); clear HO_7; clear HO_9; clear BK164; clear BK165; clear HB; have HO_7 := n0_; have HO_9 := n1_; have BK164 := n2_; have BK165 := n3_; have HB := n4_; have BK188 := n5_; have GW188 := n6_; have GE188 := n7_; have NB164_188 := n8_; have NB188_164 := n9_; have NB165_188 := n10_; have NB188_165 := n11_; clear n0_ n1_ n2_ n3_ n4_ n5_ n6_ n7_ n8_ n9_ n10_ n11_; clear hb hbox hg; have hnb37 := NB188_164.out; have hnc37 := NB164_188.out; have hnb38 := NB188_165.out; have hnc38 := NB165_188.out; have hcz39_0 : w36.cell? ⟨gb188, 0, none⟩ = some (.string (⟨#[]⟩ : ByteArray)) := (blk_cell BK188.out 0).trans rfl; have hcz39_1 : w36.cell? ⟨gb188, 1, none⟩ = some (.string (⟨#[]⟩ : ByteArray)) := (blk_cell BK188.out 1).trans rfl; have hcz39_2 : w36.cell? ⟨gb188, 2, none⟩ = some (.int .i64 0) := (blk_cell BK188.out 2).trans rfl; have hfz39_0 := blk_frozen BK188.out 0; have hfz39_1 := blk_frozen BK188.out 1; have hfz39_2 := blk_frozen BK188.out 2; have hcz40_0 : w36.cell? ⟨gb165, 0, none⟩ = some (.string a2_0) := (blk_cell BK165.out 0).trans rfl; have hcz40_1 : w36.cell? ⟨gb165, 1, none⟩ = some (.string a2_1) := (blk_cell BK165.out 1).trans rfl; have hcz40_2 : w36.cell? ⟨gb165, 2, none⟩ = some (.int .i64 a2_2) := (blk_cell BK165.out 2).trans rfl; have hfz40_0 := blk_frozen BK165.out 0; have hfz40_1 := blk_frozen BK165.out 1; have hfz40_2 := blk_frozen BK165.out 2) | ((with_reducible refine gate_callee (f := 21) rfl ?_); refine goesL_ (some 70) rfl rfl Try.func21 (by kernel_rfl) rfl #[.slice A0 l0.length c0, .string a2_0] rfl (by (try simp only [List.map_toArray, List.map_cons, List.map_nil]); first | done | rfl | (simp only [List.length_drop, List.length_take]; rfl)) ?_; (with_reducible refine (macro_Look.calls kj5 _ _ l0 a2_0 t189 t190 t191 t192 t193 _ ?side1 ?side2 A29.out).mono ?_); (case side1 => exact Kd.C_below HR0.out (by repeat (first | (with_reducible first | exact HB.out | apply below_alloc | apply pw_below_drewN | apply below_drew1 | refine below_set ?_ GE164.out | refine below_set ?_ GE165.out | refine below_set ?_ GE188.out) | exact HB.out))); (case side2 => exact HC0.out); rintro e w41 ⟨rfl, hb⟩; refine ⟨_, rfl, ?_⟩; have n0_ := Aside0.mk (Kd.R_below (by (with_reducible repeat (first | apply Kd.R_alloc | apply Kd.R_drewN | apply Kd.R_drew)); exact (Kd.R_mono (Kd.R_far (p := ⟨gb188, 2, none⟩) (Kd.R_far (p := ⟨gb188, 1, none⟩) (Kd.R_far (p := ⟨gb188, 0, none⟩) (Kd.R_mono HO_7.out (fun k_ hk => (⟨hk, hk.2⟩ : _ ∧ k_ ≠ gb188))) (fun _ hk => hk.2) (.string t183)) (fun _ hk => hk.2) (.string t184)) (fun _ hk => hk.2) (.int .i64 t185)) (fun _ h_ => h_.1))) hb); have n1_ := Aside0.mk (Kd.R_below (by (with_reducible repeat (first | apply Kd.R_alloc | apply Kd.R_drewN | apply Kd.R_drew)); exact (Kd.R_mono (Kd.R_far (p := ⟨gb188, 2, none⟩) (Kd.R_far (p := ⟨gb188, 1, none⟩) (Kd.R_far (p := ⟨gb188, 0, none⟩) (Kd.R_mono HO_9.out (fun k_ hk => (⟨hk, hk.2⟩ : _ ∧ k_ ≠ gb188))) (fun _ hk => hk.2) (.string t183)) (fun _ hk => hk.2) (.string t184)) (fun _ hk => hk.2) (.int .i64 t185)) (fun _ h_ => h_.1))) hb); have n2_ := Aside0.mk (blk_below (g := gb164) (o := .cells #[.string a1_0, .string a1_1, .int .i64 a1_2] 30 (0, 0)) (by (with_reducible repeat (first | refine blk_drewN ?_ _ | refine blk_drew ?_ | refine blk_alloc ?_ _)); refine blk_far ?_ NB164_188.out _; (with_reducible repeat (first | refine blk_drewN ?_ _ | refine blk_drew ?_ | refine blk_alloc ?_ _)); refine blk_far ?_ NB164_188.out _; (with_reducible repeat (first | refine blk_drewN ?_ _ | refine blk_drew ?_ | refine blk_alloc ?_ _)); refine blk_far ?_ NB164_188.out _; (with_reducible repeat (first | refine blk_drewN ?_ _ | refine blk_drew ?_ | refine blk_alloc ?_ _)); exact BK164.out) hb); have n3_ := Aside0.mk (blk_below (g := gb165) (o := .cells #[.string a2_0, .string a2_1, .int .i64 a2_2] 30 (0, 0)) (by (with_reducible repeat (first | refine blk_drewN ?_ _ | refine blk_drew ?_ | refine blk_alloc ?_ _)); refine blk_far ?_ NB165_188.out _; (with_reducible repeat (first | refine blk_drewN ?_ _ | refine blk_drew ?_ | refine blk_alloc ?_ _)); refine blk_far ?_ NB165_188.out _; (with_reducible repeat (first | refine blk_drewN ?_ _ | refine blk_drew ?_ | refine blk_alloc ?_ _)); refine blk_far ?_ NB165_188.out _; (with_reducible repeat (first | refine blk_drewN ?_ _ | refine blk_drew ?_ | refine blk_alloc ?_ _)); exact BK165.out) hb); have n4_ := Aside0.mk (blk_below (g := gb188) (o := .cells #[.string t183, .string t184, .int .i64 t185] 30 (0, 0)) (by (with_reducible repeat (first | refine blk_drewN ?_ _ | refine blk_drew ?_ | refine blk_alloc ?_ _)); refine blk_put (cs := #[.string t183, .string t184, .int .i64 0]) ?_ 2 _ rfl; (with_reducible repeat (first | refine blk_drewN ?_ _ | refine blk_drew ?_ | refine blk_alloc ?_ _)); refine blk_put (cs := #[.string t183, .string (⟨#[]⟩ : ByteArray), .int .i64 0]) ?_ 1 _ rfl; (with_reducible repeat (first | refine blk_drewN ?_ _ | refine blk_drew ?_ | refine blk_alloc ?_ _)); refine blk_put (cs := #[.string (⟨#[]⟩ : ByteArray), .string (⟨#[]⟩ : ByteArray), .int .i64 0]) ?_ 0 _ rfl; (with_reducible repeat (first | refine blk_drewN ?_ _ | refine blk_drew ?_ | refine blk_alloc ?_ _)); exact BK188.out) hb); have n5_ := Aside0.mk (below_step (by repeat (first | (with_reducible first | exact HB.out | apply below_alloc | apply pw_below_drewN | apply below_drew1 | refine below_set ?_ GE164.out | refine below_set ?_ GE165.out | refine below_set ?_ GE188.out) | exact HB.out)) hb); clear HO_7; clear HO_9; clear BK164; clear BK165; clear BK188; clear HB; have HO_7 := n0_; have HO_9 := n1_; have BK164 := n2_; have BK165 := n3_; have BK188 := n4_; have HB := n5_; clear n0_ n1_ n2_ n3_ n4_ n5_; (try clear hb); (try clear hb2); (try clear hk); (try clear hi)) | ((with_reducible refine gate_dst (N := 14) rfl ?_); refine box_event ?hg (N := 14) ?hd (cs := #[.string (⟨#[]⟩ : ByteArray), .string (⟨#[]⟩ : ByteArray), .int .i64 0]) (t := 30) ?hr ?_; (case hd => rfl); (case hg => rfl); (case hr => first | (go_simp; done) | (go_simp; rfl)); intro gb194 hg w42 hbox hb; have n0_ := Aside0.mk (Kd.R_below (Kd.R_elderB (by (with_reducible repeat (first | apply Kd.R_alloc | apply Kd.R_drewN | apply Kd.R_drew)); exact HO_7.out) gb194 (Nat.le_of_eq hg.symm)) hb); have n1_ := Aside0.mk (Kd.R_below (Kd.R_elderB (by (with_reducible repeat (first | apply Kd.R_alloc | apply Kd.R_drewN | apply Kd.R_drew)); exact HO_9.out) gb194 (Nat.le_of_eq hg.symm)) hb); have n2_ := Aside0.mk (blk_below (g := gb164) (o := .cells #[.string a1_0, .string a1_1, .int .i64 a1_2] 30 (0, 0)) (by (with_reducible repeat (first | refine blk_drewN ?_ _ | refine blk_drew ?_ | refine blk_alloc ?_ _)); exact BK164.out) hb); have n3_ := Aside0.mk (blk_below (g := gb165) (o := .cells #[.string a2_0, .string a2_1, .int .i64 a2_2] 30 (0, 0)) (by (with_reducible repeat (first | refine blk_drewN ?_ _ | refine blk_drew ?_ | refine blk_alloc ?_ _)); exact BK165.out) hb); have n4_ := Aside0.mk (blk_below (g := gb188) (o := .cells #[.string t183, .string t184, .int .i64 t185] 30 (0, 0)) (by (with_reducible repeat (first | refine blk_drewN ?_ _ | refine blk_drew ?_ | refine blk_alloc ?_ _)); exact BK188.out) hb); have n5_ := Aside0.mk (below_step (by repeat (first | (with_reducible first | exact HB.out | apply below_alloc | apply pw_below_drewN | apply below_drew1 | refine below_set ?_ GE164.out | refine below_set ?_ GE165.out | refine below_set ?_ GE188.out) | exact HB.out)) hb); have n6_ := Aside0.mk (hbox); have n7_ := Aside0.mk ((by rw [hg]; exact (below_size (by repeat (first | (with_reducible first | exact HB.out | apply below_alloc | apply pw_below_drewN | apply below_drew1 | refine below_set ?_ GE164.out | refine below_set ?_ GE165.out | refine below_set ?_ GE188.out) | exact HB.out))) : w.heap.size ≤ gb194)); have n8_ := Aside0.mk ((by rw [hg]; exact (below_size (by repeat (first | (with_reducible first | exact HB.out | apply below_alloc | apply pw_below_drewN | apply below_drew1 | refine below_set ?_ GE164.out | refine below_set ?_ GE165.out | refine below_set ?_ GE188.out) | exact HB.out))) : w.heap.size ≤ gb194)); have n9_ := Aside0.mk ((by rw [hg]; exact Nat.ne_of_lt (blk_lt (g := gb164) (o := .cells #[.string a1_0, .string a1_1, .int .i64 a1_2] 30 (0, 0)) (by (with_reducible repeat (first | refine blk_drewN ?_ _ | refine blk_drew ?_ | refine blk_alloc ?_ _)); exact BK164.out)) : gb164 ≠ gb194)); have n10_ := Aside0.mk ((by rw [hg]; exact Nat.ne_of_gt (blk_lt (g := gb164) (o := .cells #[.string a1_0, .string a1_1, .int .i64 a1_2] 30 (0, 0)) (by (with_reducible repeat (first | refine blk_drewN ?_ _ | refine blk_drew ?_ | refine blk_alloc ?_ _)); exact BK164.out)) : gb194 ≠ gb164)); have n11_ := Aside0.mk ((by rw [hg]; exact Nat.ne_of_lt (blk_lt (g := gb165) (o := .cells #[.string a2_0, .string a2_1, .int .i64 a2_2] 30 (0, 0)) (by (with_reducible repeat (first | refine blk_drewN ?_ _ | refine blk_drew ?_ | refine blk_alloc ?_ _)); exact BK165.out)) : gb165 ≠ gb194)); have n12_ := Aside0.mk ((by rw [hg]; exact Nat.ne_of_gt (blk_lt (g := gb165) (o := .cells #[.string a2_0, .string a2_1, .int .i64 a2_2] 30 (0, 0)) (by (with_reducible repeat (first | refine blk_drewN ?_ _ | refine blk_drew ?_ | refine blk_alloc ?_ _)); exact BK165.out)) : gb194 ≠ gb165)); have n13_ := Aside0.mk ((by rw [hg]; exact Nat.ne_of_lt (blk_lt (g := gb188) (o := .cells #[.string t183, .string t184, .int .i64 t185] 30 (0, 0)) (by (with_reducible repeat (first | refine blk_drewN ?_ _ | refine blk_drew ?_ | refine blk_alloc ?_ _)); exact BK188.out)) : gb188 ≠ gb194)); have n14_ := Aside0.mk ((by rw [hg]; exact Nat.ne_of_gt (blk_lt (g := gb188) (o := .cells #[.string t183, .string t184, .int .i64 t185] 30 (0, 0)) (by (with_reducible repeat (first | refine blk_drewN ?_ _ | refine blk_drew ?_ | refine blk_alloc ?_ _)); exact BK188.out)) : gb194 ≠ gb188)); clear HO_7; clear HO_9; clear BK164; clear BK165; clear BK188; clear HB; have HO_7 := n0_; have HO_9 := n1_; have BK164 := n2_; have BK165 := n3_; have BK188 := n4_; have HB := n5_; have BK194 := n6_; have GW194 := n7_; have GE194 := n8_; have NB164_194 := n9_; have NB194_164 := n10_; have NB165_194 := n11_; have NB194_165 := n12_; have NB188_194 := n13_; have NB194_188 := n14_; clear n0_ n1_ n2_ n3_ n4_ n5_ n6_ n7_ n8_ n9_ n10_ n11_ n12_ n13_ n14_; clear hb hbox hg; have hnb43 := NB194_164.out; have hnc43 := NB164_194.out; have hnb44 := NB194_165.out; have hnc44 := NB165_194.out; have hnb45 := NB194_188.out; have hnc45 := NB188_194.out; have hcz46_0 : w42.cell? ⟨gb194, 0, none⟩ = some (.string (⟨#[]⟩ : ByteArray)) := (blk_cell BK194.out 0).trans rfl; have hcz46_1 : w42.cell? ⟨gb194, 1, none⟩ = some (.string (⟨#[]⟩ : ByteArray)) := (blk_cell BK194.out 1).trans rfl; have hcz46_2 : w42.cell? ⟨gb194, 2, none⟩ = some (.int .i64 0) := (blk_cell BK194.out 2).trans rfl; have hfz46_0 := blk_frozen BK194.out 0; have hfz46_1 := blk_frozen BK194.out 1; have hfz46_2 := blk_frozen BK194.out 2))
          (try simp only [Act.put, List.setIfInBounds_toArray, List.set_cons_zero, List.set_cons_succ])
          go_cut [85] (fun v85 wc => ∃ (kq : Nat) (x85_29 : Bool), v85 = .bool x85_29 ∧ Aside0 (smithylaw05_MacroLast.j1 kq t186 x85_29 a1_0 a1_1 a1_2 a2_0 a2_1 a2_2 t183 t184 t185 = some r) ∧ Aside0 (kq ≤ kj5) ∧ Aside0 (wc.heap[gb164]? = some (.cells #[.string a1_0, .string a1_1, .int .i64 a1_2] 30 (0, 0))) ∧ Aside0 (wc.heap[gb165]? = some (.cells #[.string a2_0, .string a2_1, .int .i64 a2_2] 30 (0, 0))) ∧ Aside0 (wc.heap[gb188]? = some (.cells #[.string t183, .string t184, .int .i64 t185] 30 (0, 0))) ∧ Aside0 (wc.heap[gb194]? = some (.cells #[.string t189, .string t190, .int .i64 t191] 30 (0, 0))) ∧ Aside0 (Below w.heap.size w wc))
          case first =>
            have H := HC30.out
            clear HC30
            by_cases c47 : a1_2 = a2_2
            · rw [if_pos c47] at H
              have c47b0 : (a1_2 == a2_2) = true := beq_iff_eq.mpr c47
              have c47b1 : (a1_2 != a2_2) = false := bne_eq_false_iff_eq.mpr c47
              clear c47
              (first | rw [c47b0] | (simp only [i64_w, i32_w]; rw [c47b0]) | skip)
              have H' := Aside0.mk H
              clear H
              have hnb48 := NB164_165.out
              have hnc48 := NB165_164.out
              have hnb49 := NB164_188.out
              have hnc49 := NB188_164.out
              have hnb50 := NB164_194.out
              have hnc50 := NB194_164.out
              have hcz51_0 : w42.cell? ⟨gb164, 0, none⟩ = some (.string a1_0) := (blk_cell BK164.out 0).trans rfl
              have hcz51_1 : w42.cell? ⟨gb164, 1, none⟩ = some (.string a1_1) := (blk_cell BK164.out 1).trans rfl
              have hcz51_2 : w42.cell? ⟨gb164, 2, none⟩ = some (.int .i64 a1_2) := (blk_cell BK164.out 2).trans rfl
              have hfz51_0 := blk_frozen BK164.out 0
              have hfz51_1 := blk_frozen BK164.out 1
              have hfz51_2 := blk_frozen BK164.out 2
              have hnb52 := NB165_188.out
              have hnc52 := NB188_165.out
              have hnb53 := NB165_194.out
              have hnc53 := NB194_165.out
              have hcz54_0 : w42.cell? ⟨gb165, 0, none⟩ = some (.string a2_0) := (blk_cell BK165.out 0).trans rfl
              have hcz54_1 : w42.cell? ⟨gb165, 1, none⟩ = some (.string a2_1) := (blk_cell BK165.out 1).trans rfl
              have hcz54_2 : w42.cell? ⟨gb165, 2, none⟩ = some (.int .i64 a2_2) := (blk_cell BK165.out 2).trans rfl
              have hfz54_0 := blk_frozen BK165.out 0
              have hfz54_1 := blk_frozen BK165.out 1
              have hfz54_2 := blk_frozen BK165.out 2
              have hnb55 := NB194_188.out
              have hnc55 := NB188_194.out
              have hcz56_0 : w42.cell? ⟨gb194, 0, none⟩ = some (.string (⟨#[]⟩ : ByteArray)) := (blk_cell BK194.out 0).trans rfl
              have hcz56_1 : w42.cell? ⟨gb194, 1, none⟩ = some (.string (⟨#[]⟩ : ByteArray)) := (blk_cell BK194.out 1).trans rfl
              have hcz56_2 : w42.cell? ⟨gb194, 2, none⟩ = some (.int .i64 0) := (blk_cell BK194.out 2).trans rfl
              have hfz56_0 := blk_frozen BK194.out 0
              have hfz56_1 := blk_frozen BK194.out 1
              have hfz56_2 := blk_frozen BK194.out 2
              go_wp2
              go_meet
              case rel => exact ⟨_, (decide (t191 ≤ a2_2)), (by first | rfl | (simp; done) | (simp [*]; done)), H', ⟨by have := HJ5.out; first | omega | exact Nat.le_refl _⟩, ⟨by (with_reducible repeat (first | refine blk_drewN ?_ _ | refine blk_drew ?_ | refine blk_alloc ?_ _)); refine blk_far ?_ NB164_194.out _; (with_reducible repeat (first | refine blk_drewN ?_ _ | refine blk_drew ?_ | refine blk_alloc ?_ _)); refine blk_far ?_ NB164_194.out _; (with_reducible repeat (first | refine blk_drewN ?_ _ | refine blk_drew ?_ | refine blk_alloc ?_ _)); refine blk_far ?_ NB164_194.out _; (with_reducible repeat (first | refine blk_drewN ?_ _ | refine blk_drew ?_ | refine blk_alloc ?_ _)); exact BK164.out⟩, ⟨by (with_reducible repeat (first | refine blk_drewN ?_ _ | refine blk_drew ?_ | refine blk_alloc ?_ _)); refine blk_far ?_ NB165_194.out _; (with_reducible repeat (first | refine blk_drewN ?_ _ | refine blk_drew ?_ | refine blk_alloc ?_ _)); refine blk_far ?_ NB165_194.out _; (with_reducible repeat (first | refine blk_drewN ?_ _ | refine blk_drew ?_ | refine blk_alloc ?_ _)); refine blk_far ?_ NB165_194.out _; (with_reducible repeat (first | refine blk_drewN ?_ _ | refine blk_drew ?_ | refine blk_alloc ?_ _)); exact BK165.out⟩, ⟨by (with_reducible repeat (first | refine blk_drewN ?_ _ | refine blk_drew ?_ | refine blk_alloc ?_ _)); refine blk_far ?_ NB188_194.out _; (with_reducible repeat (first | refine blk_drewN ?_ _ | refine blk_drew ?_ | refine blk_alloc ?_ _)); refine blk_far ?_ NB188_194.out _; (with_reducible repeat (first | refine blk_drewN ?_ _ | refine blk_drew ?_ | refine blk_alloc ?_ _)); refine blk_far ?_ NB188_194.out _; (with_reducible repeat (first | refine blk_drewN ?_ _ | refine blk_drew ?_ | refine blk_alloc ?_ _)); exact BK188.out⟩, ⟨by (with_reducible repeat (first | refine blk_drewN ?_ _ | refine blk_drew ?_ | refine blk_alloc ?_ _)); refine blk_put (cs := #[.string t189, .string t190, .int .i64 0]) ?_ 2 _ rfl; (with_reducible repeat (first | refine blk_drewN ?_ _ | refine blk_drew ?_ | refine blk_alloc ?_ _)); refine blk_put (cs := #[.string t189, .string (⟨#[]⟩ : ByteArray), .int .i64 0]) ?_ 1 _ rfl; (with_reducible repeat (first | refine blk_drewN ?_ _ | refine blk_drew ?_ | refine blk_alloc ?_ _)); refine blk_put (cs := #[.string (⟨#[]⟩ : ByteArray), .string (⟨#[]⟩ : ByteArray), .int .i64 0]) ?_ 0 _ rfl; (with_reducible repeat (first | refine blk_drewN ?_ _ | refine blk_drew ?_ | refine blk_alloc ?_ _)); exact BK194.out⟩, ⟨by repeat (first | (with_reducible first | exact HB.out | apply below_alloc | apply pw_below_drewN | apply below_drew1 | refine below_set ?_ GE164.out | refine below_set ?_ GE165.out | refine below_set ?_ GE188.out | refine below_set ?_ GE194.out) | exact HB.out)⟩⟩
            · rw [if_neg c47] at H
              have c47b0 : (a1_2 == a2_2) = false := beq_eq_false_iff_ne.mpr c47
              have c47b1 : (a1_2 != a2_2) = true := bne_iff_ne.mpr c47
              (first | rw [c47b0] | (simp only [i64_w, i32_w]; rw [c47b0]) | skip)
              have H' := Aside0.mk H
              clear H
              have hnb57 := NB164_165.out
              have hnc57 := NB165_164.out
              have hnb58 := NB164_188.out
              have hnc58 := NB188_164.out
              have hnb59 := NB164_194.out
              have hnc59 := NB194_164.out
              have hcz60_0 : w42.cell? ⟨gb164, 0, none⟩ = some (.string a1_0) := (blk_cell BK164.out 0).trans rfl
              have hcz60_1 : w42.cell? ⟨gb164, 1, none⟩ = some (.string a1_1) := (blk_cell BK164.out 1).trans rfl
              have hcz60_2 : w42.cell? ⟨gb164, 2, none⟩ = some (.int .i64 a1_2) := (blk_cell BK164.out 2).trans rfl
              have hfz60_0 := blk_frozen BK164.out 0
              have hfz60_1 := blk_frozen BK164.out 1
              have hfz60_2 := blk_frozen BK164.out 2
              have hnb61 := NB165_188.out
              have hnc61 := NB188_165.out
              have hnb62 := NB165_194.out
              have hnc62 := NB194_165.out
              have hcz63_0 : w42.cell? ⟨gb165, 0, none⟩ = some (.string a2_0) := (blk_cell BK165.out 0).trans rfl
              have hcz63_1 : w42.cell? ⟨gb165, 1, none⟩ = some (.string a2_1) := (blk_cell BK165.out 1).trans rfl
              have hcz63_2 : w42.cell? ⟨gb165, 2, none⟩ = some (.int .i64 a2_2) := (blk_cell BK165.out 2).trans rfl
              have hfz63_0 := blk_frozen BK165.out 0
              have hfz63_1 := blk_frozen BK165.out 1
              have hfz63_2 := blk_frozen BK165.out 2
              go_wp2
              go_meet
              case rel => exact ⟨_, (false), (by first | rfl | (simp; done) | (simp [*]; done)), H', ⟨by have := HJ5.out; first | omega | exact Nat.le_refl _⟩, ⟨by (with_reducible repeat (first | refine blk_drewN ?_ _ | refine blk_drew ?_ | refine blk_alloc ?_ _)); refine blk_far ?_ NB164_194.out _; (with_reducible repeat (first | refine blk_drewN ?_ _ | refine blk_drew ?_ | refine blk_alloc ?_ _)); refine blk_far ?_ NB164_194.out _; (with_reducible repeat (first | refine blk_drewN ?_ _ | refine blk_drew ?_ | refine blk_alloc ?_ _)); refine blk_far ?_ NB164_194.out _; (with_reducible repeat (first | refine blk_drewN ?_ _ | refine blk_drew ?_ | refine blk_alloc ?_ _)); exact BK164.out⟩, ⟨by (with_reducible repeat (first | refine blk_drewN ?_ _ | refine blk_drew ?_ | refine blk_alloc ?_ _)); refine blk_far ?_ NB165_194.out _; (with_reducible repeat (first | refine blk_drewN ?_ _ | refine blk_drew ?_ | refine blk_alloc ?_ _)); refine blk_far ?_ NB165_194.out _; (with_reducible repeat (first | refine blk_drewN ?_ _ | refine blk_drew ?_ | refine blk_alloc ?_ _)); refine blk_far ?_ NB165_194.out _; (with_reducible repeat (first | refine blk_drewN ?_ _ | refine blk_drew ?_ | refine blk_alloc ?_ _)); exact BK165.out⟩, ⟨by (with_reducible repeat (first | refine blk_drewN ?_ _ | refine blk_drew ?_ | refine blk_alloc ?_ _)); refine blk_far ?_ NB188_194.out _; (with_reducible repeat (first | refine blk_drewN ?_ _ | refine blk_drew ?_ | refine blk_alloc ?_ _)); refine blk_far ?_ NB188_194.out _; (with_reducible repeat (first | refine blk_drewN ?_ _ | refine blk_drew ?_ | refine blk_alloc ?_ _)); refine blk_far ?_ NB188_194.out _; (with_reducible repeat (first | refine blk_drewN ?_ _ | refine blk_drew ?_ | refine blk_alloc ?_ _)); exact BK188.out⟩, ⟨by (with_reducible repeat (first | refine blk_drewN ?_ _ | refine blk_drew ?_ | refine blk_alloc ?_ _)); refine blk_put (cs := #[.string t189, .string t190, .int .i64 0]) ?_ 2 _ rfl; (with_reducible repeat (first | refine blk_drewN ?_ _ | refine blk_drew ?_ | refine blk_alloc ?_ _)); refine blk_put (cs := #[.string t189, .string (⟨#[]⟩ : ByteArray), .int .i64 0]) ?_ 1 _ rfl; (with_reducible repeat (first | refine blk_drewN ?_ _ | refine blk_drew ?_ | refine blk_alloc ?_ _)); refine blk_put (cs := #[.string (⟨#[]⟩ : ByteArray), .string (⟨#[]⟩ : ByteArray), .int .i64 0]) ?_ 0 _ rfl; (with_reducible repeat (first | refine blk_drewN ?_ _ | refine blk_drew ?_ | refine blk_alloc ?_ _)); exact BK194.out⟩, ⟨by repeat (first | (with_reducible first | exact HB.out | apply below_alloc | apply pw_below_drewN | apply below_drew1 | refine below_set ?_ GE164.out | refine below_set ?_ GE165.out | refine below_set ?_ GE188.out | refine below_set ?_ GE194.out) | exact HB.out)⟩⟩
          case rest =>
            clear HC30
            try clear c1
            try clear c2
            try clear p2
            try clear c3
            try clear c4
            try clear c5
            try clear c6
            try clear c7
            try clear c9
            try clear c19
            try clear c21
            try clear c22
            try clear c22b0
            try clear c22b1
            try clear c23
            try clear c24
            try clear c24b0
            try clear c24b1
            try clear c24b2
            try clear c27
            try clear c27b0
            try clear c27b1
            try clear c31
            try clear c37
            try clear c38
            try clear c43
            try clear c44
            try clear c45
            try clear c47
            try clear c47b0
            try clear c47b1
            try clear c48
            try clear c49
            try clear c50
            try clear c52
            try clear c53
            try clear c55
            try clear c57
            try clear c58
            try clear c59
            try clear c61
            try clear c62
            try clear hcz10_0
            try clear hcz10_1
            try clear hcz10_2
            try clear hcz11_0
            try clear hcz11_1
            try clear hcz11_2
            try clear hcz16_0
            try clear hcz16_1
            try clear hcz16_2
            try clear hcz17_0
            try clear hcz17_1
            try clear hcz17_2
            try clear hcz32_0
            try clear hcz32_1
            try clear hcz32_2
            try clear hcz33_0
            try clear hcz33_1
            try clear hcz33_2
            try clear hcz39_0
            try clear hcz39_1
            try clear hcz39_2
            try clear hcz40_0
            try clear hcz40_1
            try clear hcz40_2
            try clear hcz46_0
            try clear hcz46_1
            try clear hcz46_2
            try clear hcz51_0
            try clear hcz51_1
            try clear hcz51_2
            try clear hcz54_0
            try clear hcz54_1
            try clear hcz54_2
            try clear hcz56_0
            try clear hcz56_1
            try clear hcz56_2
            try clear hcz60_0
            try clear hcz60_1
            try clear hcz60_2
            try clear hcz63_0
            try clear hcz63_1
            try clear hcz63_2
            try clear hfz10_0
            try clear hfz10_1
            try clear hfz10_2
            try clear hfz11_0
            try clear hfz11_1
            try clear hfz11_2
            try clear hfz16_0
            try clear hfz16_1
            try clear hfz16_2
            try clear hfz17_0
            try clear hfz17_1
            try clear hfz17_2
            try clear hfz32_0
            try clear hfz32_1
            try clear hfz32_2
            try clear hfz33_0
            try clear hfz33_1
            try clear hfz33_2
            try clear hfz39_0
            try clear hfz39_1
            try clear hfz39_2
            try clear hfz40_0
            try clear hfz40_1
            try clear hfz40_2
            try clear hfz46_0
            try clear hfz46_1
            try clear hfz46_2
            try clear hfz51_0
            try clear hfz51_1
            try clear hfz51_2
            try clear hfz54_0
            try clear hfz54_1
            try clear hfz54_2
            try clear hfz56_0
            try clear hfz56_1
            try clear hfz56_2
            try clear hfz60_0
            try clear hfz60_1
            try clear hfz60_2
            try clear hfz63_0
            try clear hfz63_1
            try clear hfz63_2
            try clear p2
            obtain ⟨kq, x85_29, rfl, HA, HJ29, BK164, BK165, BK188, BK194, HB⟩ := hcut
            cases kq with
            | zero => exact absurd HA.out (by simp [smithylaw05_MacroLast.j1])
            | succ kj29 =>
              have H := HA.out
              clear HA
              simp only [smithylaw05_MacroLast.j1] at H
              by_cases c64 : x85_29 = true
              · subst c64
                have H1 : (if t186 = true then (if (t183.toList == a2_0.toList && (t184.toList == a2_1.toList && (t185 == a2_2))) = true then ((smithylaw05_small.f kj29).bind fun t195 => (some t195)) else (some false)) else (some false)) = some r := by rw [if_pos rfl] at H; exact H
                clear H
                have H := H1
                clear H1
                by_cases c65 : t186 = true
                · subst c65
                  have H1 : (if (t183.toList == a2_0.toList && (t184.toList == a2_1.toList && (t185 == a2_2))) = true then ((smithylaw05_small.f kj29).bind fun t195 => (some t195)) else (some false)) = some r := by rw [if_pos rfl] at H; exact H
                  clear H
                  have H := H1
                  clear H1
                  by_cases c66 : (t183.toList == a2_0.toList && (t184.toList == a2_1.toList && (t185 == a2_2))) = true
                  · rw [if_pos c66] at H
                    have c66b0 : (t183.toList == a2_0.toList && (t184.toList == a2_1.toList && (t185 == a2_2))) = true := c66
                    (try (have c66b1 : decide (t183.toList = a2_0.toList && (t184.toList == a2_1.toList && (t185 == a2_2))) = true := by simpa using c66))
                    (try (have c66b2 : (t183.toList == a2_0.toList && (t184.toList == a2_1.toList && (t185 == a2_2))) = true := by simpa using c66))
                    clear c66
                    replace H := Option.bind_eq_some_iff.mp H
                    obtain ⟨t195, A670, H⟩ := H
                    replace H : (some t195) = some r := H
                    have A67 := Aside0.mk A670
                    clear A670
                    obtain rfl := Option.some.inj H
                    have hnb68 := NB188_164.out
                    have hnc68 := NB164_188.out
                    have hnb69 := NB188_165.out
                    have hnc69 := NB165_188.out
                    have hnb70 := NB188_194.out
                    have hnc70 := NB194_188.out
                    have hcz71_0 : wc.cell? ⟨gb188, 0, none⟩ = some (.string t183) := (blk_cell BK188.out 0).trans rfl
                    have hcz71_1 : wc.cell? ⟨gb188, 1, none⟩ = some (.string t184) := (blk_cell BK188.out 1).trans rfl
                    have hcz71_2 : wc.cell? ⟨gb188, 2, none⟩ = some (.int .i64 t185) := (blk_cell BK188.out 2).trans rfl
                    have hfz71_0 := blk_frozen BK188.out 0
                    have hfz71_1 := blk_frozen BK188.out 1
                    have hfz71_2 := blk_frozen BK188.out 2
                    have hnb72 := NB165_164.out
                    have hnc72 := NB164_165.out
                    have hnb73 := NB165_194.out
                    have hnc73 := NB194_165.out
                    have hcz74_0 : wc.cell? ⟨gb165, 0, none⟩ = some (.string a2_0) := (blk_cell BK165.out 0).trans rfl
                    have hcz74_1 : wc.cell? ⟨gb165, 1, none⟩ = some (.string a2_1) := (blk_cell BK165.out 1).trans rfl
                    have hcz74_2 : wc.cell? ⟨gb165, 2, none⟩ = some (.int .i64 a2_2) := (blk_cell BK165.out 2).trans rfl
                    have hfz74_0 := blk_frozen BK165.out 0
                    have hfz74_1 := blk_frozen BK165.out 1
                    have hfz74_2 := blk_frozen BK165.out 2
                    go_wp2_with (first | (go_at_call 14; (with_reducible refine (smithylaw05_small.calls kj29  t195 _ A67.out).mono ?_); rintro e w75 ⟨rfl, hb⟩; have n0_ := Aside0.mk (blk_below (g := gb164) (o := .cells #[.string a1_0, .string a1_1, .int .i64 a1_2] 30 (0, 0)) (by (with_reducible repeat (first | refine blk_drewN ?_ _ | refine blk_drew ?_ | refine blk_alloc ?_ _)); exact BK164.out) hb); have n1_ := Aside0.mk (blk_below (g := gb165) (o := .cells #[.string a2_0, .string a2_1, .int .i64 a2_2] 30 (0, 0)) (by (with_reducible repeat (first | refine blk_drewN ?_ _ | refine blk_drew ?_ | refine blk_alloc ?_ _)); exact BK165.out) hb); have n2_ := Aside0.mk (blk_below (g := gb188) (o := .cells #[.string t183, .string t184, .int .i64 t185] 30 (0, 0)) (by (with_reducible repeat (first | refine blk_drewN ?_ _ | refine blk_drew ?_ | refine blk_alloc ?_ _)); exact BK188.out) hb); have n3_ := Aside0.mk (blk_below (g := gb194) (o := .cells #[.string t189, .string t190, .int .i64 t191] 30 (0, 0)) (by (with_reducible repeat (first | refine blk_drewN ?_ _ | refine blk_drew ?_ | refine blk_alloc ?_ _)); exact BK194.out) hb); have n4_ := Aside0.mk (below_step (by repeat (first | (with_reducible first | exact HB.out | apply below_alloc | apply pw_below_drewN | apply below_drew1 | refine below_set ?_ GE164.out | refine below_set ?_ GE165.out | refine below_set ?_ GE188.out | refine below_set ?_ GE194.out) | exact HB.out)) hb); clear BK164; clear BK165; clear BK188; clear BK194; clear HB; have BK164 := n0_; have BK165 := n1_; have BK188 := n2_; have BK194 := n3_; have HB := n4_; clear n0_ n1_ n2_ n3_ n4_; (try clear hb); (try clear hb2); (try clear hk); (try clear hi)))
                    go_ret
                    exact ⟨by first | rfl | (simp [errW_none, errW_some] <;> rfl) | (simp [*, errW_none, errW_some] <;> rfl), by repeat (first | (with_reducible first | exact HB.out | apply below_alloc | apply pw_below_drewN | apply below_drew1 | refine below_set ?_ GE164.out | refine below_set ?_ GE165.out | refine below_set ?_ GE188.out | refine below_set ?_ GE194.out) | exact HB.out)⟩
                  · rw [if_neg c66] at H
                    have c66b0 : (t183.toList == a2_0.toList && (t184.toList == a2_1.toList && (t185 == a2_2))) = false := by simpa using c66
                    (try (have c66b1 : decide (t183.toList = a2_0.toList && (t184.toList == a2_1.toList && (t185 == a2_2))) = false := by simpa using c66))
                    (try (have c66b2 : (t183.toList == a2_0.toList && (t184.toList == a2_1.toList && (t185 == a2_2))) = false := by simpa using c66))
                    (try (have c66b3 : ¬ (t183.toList = a2_0.toList && (t184.toList == a2_1.toList && (t185 == a2_2))) := by simpa using c66))
                    clear c66
                    obtain rfl := Option.some.inj H
                    have hnb76 := NB188_164.out
                    have hnc76 := NB164_188.out
                    have hnb77 := NB188_165.out
                    have hnc77 := NB165_188.out
                    have hnb78 := NB188_194.out
                    have hnc78 := NB194_188.out
                    have hcz79_0 : wc.cell? ⟨gb188, 0, none⟩ = some (.string t183) := (blk_cell BK188.out 0).trans rfl
                    have hcz79_1 : wc.cell? ⟨gb188, 1, none⟩ = some (.string t184) := (blk_cell BK188.out 1).trans rfl
                    have hcz79_2 : wc.cell? ⟨gb188, 2, none⟩ = some (.int .i64 t185) := (blk_cell BK188.out 2).trans rfl
                    have hfz79_0 := blk_frozen BK188.out 0
                    have hfz79_1 := blk_frozen BK188.out 1
                    have hfz79_2 := blk_frozen BK188.out 2
                    have hnb80 := NB165_164.out
                    have hnc80 := NB164_165.out
                    have hnb81 := NB165_194.out
                    have hnc81 := NB194_165.out
                    have hcz82_0 : wc.cell? ⟨gb165, 0, none⟩ = some (.string a2_0) := (blk_cell BK165.out 0).trans rfl
                    have hcz82_1 : wc.cell? ⟨gb165, 1, none⟩ = some (.string a2_1) := (blk_cell BK165.out 1).trans rfl
                    have hcz82_2 : wc.cell? ⟨gb165, 2, none⟩ = some (.int .i64 a2_2) := (blk_cell BK165.out 2).trans rfl
                    have hfz82_0 := blk_frozen BK165.out 0
                    have hfz82_1 := blk_frozen BK165.out 1
                    have hfz82_2 := blk_frozen BK165.out 2
                    go_wp2
                    go_ret
                    exact ⟨by first | rfl | (simp [errW_none, errW_some] <;> rfl) | (simp [*, errW_none, errW_some] <;> rfl), by repeat (first | (with_reducible first | exact HB.out | apply below_alloc | apply pw_below_drewN | apply below_drew1 | refine below_set ?_ GE164.out | refine below_set ?_ GE165.out | refine below_set ?_ GE188.out | refine below_set ?_ GE194.out) | exact HB.out)⟩
                · replace c65 := Bool.eq_false_iff.mpr c65
                  subst c65
                  have H1 : (some false) = some r := by rw [if_neg (show ¬ (false = true) by decide)] at H; exact H
                  clear H
                  have H := H1
                  clear H1
                  obtain rfl := Option.some.inj H
                  go_wp2
                  go_ret
                  exact ⟨by first | rfl | (simp [errW_none, errW_some] <;> rfl) | (simp [*, errW_none, errW_some] <;> rfl), by repeat (first | (with_reducible first | exact HB.out | apply below_alloc | apply pw_below_drewN | apply below_drew1 | refine below_set ?_ GE164.out | refine below_set ?_ GE165.out | refine below_set ?_ GE188.out | refine below_set ?_ GE194.out) | exact HB.out)⟩
              · replace c64 := Bool.eq_false_iff.mpr c64
                subst c64
                have H1 : (if t186 = true then (if t185 ≥ a2_2 then (if t185 ≥ a1_2 then ((smithylaw05_small.f kj29).bind fun t196 => (some t196)) else (some false)) else (some false)) else (some false)) = some r := by rw [if_neg (show ¬ (false = true) by decide)] at H; exact H
                clear H
                have H := H1
                clear H1
                by_cases c83 : t186 = true
                · subst c83
                  have H1 : (if t185 ≥ a2_2 then (if t185 ≥ a1_2 then ((smithylaw05_small.f kj29).bind fun t196 => (some t196)) else (some false)) else (some false)) = some r := by rw [if_pos rfl] at H; exact H
                  clear H
                  have H := H1
                  clear H1
                  by_cases c84 : t185 ≥ a2_2
                  · rw [if_pos c84] at H
                    have c84b0 : decide (a2_2 ≤ t185) = true := decide_eq_true c84
                    clear c84
                    by_cases c85 : t185 ≥ a1_2
                    · rw [if_pos c85] at H
                      have c85b0 : decide (a1_2 ≤ t185) = true := decide_eq_true c85
                      clear c85
                      replace H := Option.bind_eq_some_iff.mp H
                      obtain ⟨t196, A860, H⟩ := H
                      replace H : (some t196) = some r := H
                      have A86 := Aside0.mk A860
                      clear A860
                      obtain rfl := Option.some.inj H
                      have hnb87 := NB188_164.out
                      have hnc87 := NB164_188.out
                      have hnb88 := NB188_165.out
                      have hnc88 := NB165_188.out
                      have hnb89 := NB188_194.out
                      have hnc89 := NB194_188.out
                      have hcz90_0 : wc.cell? ⟨gb188, 0, none⟩ = some (.string t183) := (blk_cell BK188.out 0).trans rfl
                      have hcz90_1 : wc.cell? ⟨gb188, 1, none⟩ = some (.string t184) := (blk_cell BK188.out 1).trans rfl
                      have hcz90_2 : wc.cell? ⟨gb188, 2, none⟩ = some (.int .i64 t185) := (blk_cell BK188.out 2).trans rfl
                      have hfz90_0 := blk_frozen BK188.out 0
                      have hfz90_1 := blk_frozen BK188.out 1
                      have hfz90_2 := blk_frozen BK188.out 2
                      have hnb91 := NB165_164.out
                      have hnc91 := NB164_165.out
                      have hnb92 := NB165_194.out
                      have hnc92 := NB194_165.out
                      have hcz93_0 : wc.cell? ⟨gb165, 0, none⟩ = some (.string a2_0) := (blk_cell BK165.out 0).trans rfl
                      have hcz93_1 : wc.cell? ⟨gb165, 1, none⟩ = some (.string a2_1) := (blk_cell BK165.out 1).trans rfl
                      have hcz93_2 : wc.cell? ⟨gb165, 2, none⟩ = some (.int .i64 a2_2) := (blk_cell BK165.out 2).trans rfl
                      have hfz93_0 := blk_frozen BK165.out 0
                      have hfz93_1 := blk_frozen BK165.out 1
                      have hfz93_2 := blk_frozen BK165.out 2
                      have hnb94 := NB164_194.out
                      have hnc94 := NB194_164.out
                      have hcz95_0 : wc.cell? ⟨gb164, 0, none⟩ = some (.string a1_0) := (blk_cell BK164.out 0).trans rfl
                      have hcz95_1 : wc.cell? ⟨gb164, 1, none⟩ = some (.string a1_1) := (blk_cell BK164.out 1).trans rfl
                      have hcz95_2 : wc.cell? ⟨gb164, 2, none⟩ = some (.int .i64 a1_2) := (blk_cell BK164.out 2).trans rfl
                      have hfz95_0 := blk_frozen BK164.out 0
                      have hfz95_1 := blk_frozen BK164.out 1
                      have hfz95_2 := blk_frozen BK164.out 2
                      go_wp2_with (first | (go_at_call 14; (with_reducible refine (smithylaw05_small.calls kj29  t196 _ A86.out).mono ?_); rintro e w96 ⟨rfl, hb⟩; have n0_ := Aside0.mk (blk_below (g := gb164) (o := .cells #[.string a1_0, .string a1_1, .int .i64 a1_2] 30 (0, 0)) (by (with_reducible repeat (first | refine blk_drewN ?_ _ | refine blk_drew ?_ | refine blk_alloc ?_ _)); exact BK164.out) hb); have n1_ := Aside0.mk (blk_below (g := gb165) (o := .cells #[.string a2_0, .string a2_1, .int .i64 a2_2] 30 (0, 0)) (by (with_reducible repeat (first | refine blk_drewN ?_ _ | refine blk_drew ?_ | refine blk_alloc ?_ _)); exact BK165.out) hb); have n2_ := Aside0.mk (blk_below (g := gb188) (o := .cells #[.string t183, .string t184, .int .i64 t185] 30 (0, 0)) (by (with_reducible repeat (first | refine blk_drewN ?_ _ | refine blk_drew ?_ | refine blk_alloc ?_ _)); exact BK188.out) hb); have n3_ := Aside0.mk (blk_below (g := gb194) (o := .cells #[.string t189, .string t190, .int .i64 t191] 30 (0, 0)) (by (with_reducible repeat (first | refine blk_drewN ?_ _ | refine blk_drew ?_ | refine blk_alloc ?_ _)); exact BK194.out) hb); have n4_ := Aside0.mk (below_step (by repeat (first | (with_reducible first | exact HB.out | apply below_alloc | apply pw_below_drewN | apply below_drew1 | refine below_set ?_ GE164.out | refine below_set ?_ GE165.out | refine below_set ?_ GE188.out | refine below_set ?_ GE194.out) | exact HB.out)) hb); clear BK164; clear BK165; clear BK188; clear BK194; clear HB; have BK164 := n0_; have BK165 := n1_; have BK188 := n2_; have BK194 := n3_; have HB := n4_; clear n0_ n1_ n2_ n3_ n4_; (try clear hb); (try clear hb2); (try clear hk); (try clear hi)))
                      go_ret
                      exact ⟨by first | rfl | (simp [errW_none, errW_some] <;> rfl) | (simp [*, errW_none, errW_some] <;> rfl), by repeat (first | (with_reducible first | exact HB.out | apply below_alloc | apply pw_below_drewN | apply below_drew1 | refine below_set ?_ GE164.out | refine below_set ?_ GE165.out | refine below_set ?_ GE188.out | refine below_set ?_ GE194.out) | exact HB.out)⟩
                    · rw [if_neg c85] at H
                      have c85b0 : decide (a1_2 ≤ t185) = false := decide_eq_false c85
                      clear c85
                      obtain rfl := Option.some.inj H
                      have hnb97 := NB188_164.out
                      have hnc97 := NB164_188.out
                      have hnb98 := NB188_165.out
                      have hnc98 := NB165_188.out
                      have hnb99 := NB188_194.out
                      have hnc99 := NB194_188.out
                      have hcz100_0 : wc.cell? ⟨gb188, 0, none⟩ = some (.string t183) := (blk_cell BK188.out 0).trans rfl
                      have hcz100_1 : wc.cell? ⟨gb188, 1, none⟩ = some (.string t184) := (blk_cell BK188.out 1).trans rfl
                      have hcz100_2 : wc.cell? ⟨gb188, 2, none⟩ = some (.int .i64 t185) := (blk_cell BK188.out 2).trans rfl
                      have hfz100_0 := blk_frozen BK188.out 0
                      have hfz100_1 := blk_frozen BK188.out 1
                      have hfz100_2 := blk_frozen BK188.out 2
                      have hnb101 := NB165_164.out
                      have hnc101 := NB164_165.out
                      have hnb102 := NB165_194.out
                      have hnc102 := NB194_165.out
                      have hcz103_0 : wc.cell? ⟨gb165, 0, none⟩ = some (.string a2_0) := (blk_cell BK165.out 0).trans rfl
                      have hcz103_1 : wc.cell? ⟨gb165, 1, none⟩ = some (.string a2_1) := (blk_cell BK165.out 1).trans rfl
                      have hcz103_2 : wc.cell? ⟨gb165, 2, none⟩ = some (.int .i64 a2_2) := (blk_cell BK165.out 2).trans rfl
                      have hfz103_0 := blk_frozen BK165.out 0
                      have hfz103_1 := blk_frozen BK165.out 1
                      have hfz103_2 := blk_frozen BK165.out 2
                      have hnb104 := NB164_194.out
                      have hnc104 := NB194_164.out
                      have hcz105_0 : wc.cell? ⟨gb164, 0, none⟩ = some (.string a1_0) := (blk_cell BK164.out 0).trans rfl
                      have hcz105_1 : wc.cell? ⟨gb164, 1, none⟩ = some (.string a1_1) := (blk_cell BK164.out 1).trans rfl
                      have hcz105_2 : wc.cell? ⟨gb164, 2, none⟩ = some (.int .i64 a1_2) := (blk_cell BK164.out 2).trans rfl
                      have hfz105_0 := blk_frozen BK164.out 0
                      have hfz105_1 := blk_frozen BK164.out 1
                      have hfz105_2 := blk_frozen BK164.out 2
                      go_wp2
                      go_ret
                      exact ⟨by first | rfl | (simp [errW_none, errW_some] <;> rfl) | (simp [*, errW_none, errW_some] <;> rfl), by repeat (first | (with_reducible first | exact HB.out | apply below_alloc | apply pw_below_drewN | apply below_drew1 | refine below_set ?_ GE164.out | refine below_set ?_ GE165.out | refine below_set ?_ GE188.out | refine below_set ?_ GE194.out) | exact HB.out)⟩
                  · rw [if_neg c84] at H
                    have c84b0 : decide (a2_2 ≤ t185) = false := decide_eq_false c84
                    clear c84
                    obtain rfl := Option.some.inj H
                    have hnb106 := NB188_164.out
                    have hnc106 := NB164_188.out
                    have hnb107 := NB188_165.out
                    have hnc107 := NB165_188.out
                    have hnb108 := NB188_194.out
                    have hnc108 := NB194_188.out
                    have hcz109_0 : wc.cell? ⟨gb188, 0, none⟩ = some (.string t183) := (blk_cell BK188.out 0).trans rfl
                    have hcz109_1 : wc.cell? ⟨gb188, 1, none⟩ = some (.string t184) := (blk_cell BK188.out 1).trans rfl
                    have hcz109_2 : wc.cell? ⟨gb188, 2, none⟩ = some (.int .i64 t185) := (blk_cell BK188.out 2).trans rfl
                    have hfz109_0 := blk_frozen BK188.out 0
                    have hfz109_1 := blk_frozen BK188.out 1
                    have hfz109_2 := blk_frozen BK188.out 2
                    have hnb110 := NB165_164.out
                    have hnc110 := NB164_165.out
                    have hnb111 := NB165_194.out
                    have hnc111 := NB194_165.out
                    have hcz112_0 : wc.cell? ⟨gb165, 0, none⟩ = some (.string a2_0) := (blk_cell BK165.out 0).trans rfl
                    have hcz112_1 : wc.cell? ⟨gb165, 1, none⟩ = some (.string a2_1) := (blk_cell BK165.out 1).trans rfl
                    have hcz112_2 : wc.cell? ⟨gb165, 2, none⟩ = some (.int .i64 a2_2) := (blk_cell BK165.out 2).trans rfl
                    have hfz112_0 := blk_frozen BK165.out 0
                    have hfz112_1 := blk_frozen BK165.out 1
                    have hfz112_2 := blk_frozen BK165.out 2
                    go_wp2
                    go_ret
                    exact ⟨by first | rfl | (simp [errW_none, errW_some] <;> rfl) | (simp [*, errW_none, errW_some] <;> rfl), by repeat (first | (with_reducible first | exact HB.out | apply below_alloc | apply pw_below_drewN | apply below_drew1 | refine below_set ?_ GE164.out | refine below_set ?_ GE165.out | refine below_set ?_ GE188.out | refine below_set ?_ GE194.out) | exact HB.out)⟩
                · replace c83 := Bool.eq_false_iff.mpr c83
                  subst c83
                  have H1 : (some false) = some r := by rw [if_neg (show ¬ (false = true) by decide)] at H; exact H
                  clear H
                  have H := H1
                  clear H1
                  obtain rfl := Option.some.inj H
                  go_wp2
                  go_ret
                  exact ⟨by first | rfl | (simp [errW_none, errW_some] <;> rfl) | (simp [*, errW_none, errW_some] <;> rfl), by repeat (first | (with_reducible first | exact HB.out | apply below_alloc | apply pw_below_drewN | apply below_drew1 | refine below_set ?_ GE164.out | refine below_set ?_ GE165.out | refine below_set ?_ GE188.out | refine below_set ?_ GE194.out) | exact HB.out)⟩
        · rw [if_neg c27] at H
          have c27b0 : (a1_0.toList == a2_0.toList) = false := beq_eq_false_iff_ne.mpr c27
          have c27b1 : (a1_0.toList != a2_0.toList) = true := bne_iff_ne.mpr c27
          replace H := Option.bind_eq_some_iff.mp H
          obtain ⟨t181, A1130, H⟩ := H
          replace H : (if t181 = true then ((smithylaw05_small.f kj5).bind fun t182 => (some t182)) else (some false)) = some r := H
          have A113 := Aside0.mk A1130
          clear A1130
          by_cases c114 : t181 = true
          · subst c114
            have H1 : ((smithylaw05_small.f kj5).bind fun t182 => (some t182)) = some r := by rw [if_pos rfl] at H; exact H
            clear H
            have H := H1
            clear H1
            replace H := Option.bind_eq_some_iff.mp H
            obtain ⟨t182, A1150, H⟩ := H
            replace H : (some t182) = some r := H
            have A115 := Aside0.mk A1150
            clear A1150
            obtain rfl := Option.some.inj H
            have hnb116 := NB164_165.out
            have hnc116 := NB165_164.out
            have hcz117_0 : wc.cell? ⟨gb164, 0, none⟩ = some (.string a1_0) := (blk_cell BK164.out 0).trans rfl
            have hcz117_1 : wc.cell? ⟨gb164, 1, none⟩ = some (.string a1_1) := (blk_cell BK164.out 1).trans rfl
            have hcz117_2 : wc.cell? ⟨gb164, 2, none⟩ = some (.int .i64 a1_2) := (blk_cell BK164.out 2).trans rfl
            have hfz117_0 := blk_frozen BK164.out 0
            have hfz117_1 := blk_frozen BK164.out 1
            have hfz117_2 := blk_frozen BK164.out 2
            have hcz118_0 : wc.cell? ⟨gb165, 0, none⟩ = some (.string a2_0) := (blk_cell BK165.out 0).trans rfl
            have hcz118_1 : wc.cell? ⟨gb165, 1, none⟩ = some (.string a2_1) := (blk_cell BK165.out 1).trans rfl
            have hcz118_2 : wc.cell? ⟨gb165, 2, none⟩ = some (.int .i64 a2_2) := (blk_cell BK165.out 2).trans rfl
            have hfz118_0 := blk_frozen BK165.out 0
            have hfz118_1 := blk_frozen BK165.out 1
            have hfz118_2 := blk_frozen BK165.out 2
            obtain ⟨Ao119, co119, eo119⟩ := Kd.R_slice HO_7.out
            subst eo119
            obtain ⟨Ao120, co120, eo120⟩ := Kd.R_slice HO_9.out
            subst eo120
            go_wp2_with (first | ((with_reducible refine gate_callee (f := 18) rfl ?_); refine goesL_ (some 54) rfl rfl Try.func18 (by kernel_rfl) rfl #[.slice Ao119 t169.length co119, .slice Ao120 t176.length co120] rfl (by (try simp only [List.map_toArray, List.map_cons, List.map_nil]); first | done | rfl | (simp only [List.length_drop, List.length_take]; rfl)) ?_; (with_reducible refine (smithyplain_Macros.calls kj5 _ _ t169 _ _ t176 true _ ?side1 ?side2 ?side3 ?side4 A113.out).mono ?_); (case side1 => repeat (first | exact (Kd.R_reads' HO_7.out).2.2 | (with_reducible refine Kd.C_alloc ?_ _) | (with_reducible refine Kd.C_drewN ?_ _) | (with_reducible refine Kd.C_drew ?_))); (case side2 => exact (Kd.R_reads' HO_7.out).2.1); (case side3 => repeat (first | exact (Kd.R_reads' HO_9.out).2.2 | (with_reducible refine Kd.C_alloc ?_ _) | (with_reducible refine Kd.C_drewN ?_ _) | (with_reducible refine Kd.C_drew ?_))); (case side4 => exact (Kd.R_reads' HO_9.out).2.1); rintro e w' ⟨rfl, ⟨nd, rfl⟩⟩; refine ⟨_, rfl, ?_⟩) | (go_at_call 14; (with_reducible refine (smithylaw05_small.calls kj5  t182 _ A115.out).mono ?_); rintro e w121 ⟨rfl, hb⟩; have n0_ := Aside0.mk (Kd.R_below (by (with_reducible repeat (first | apply Kd.R_alloc | apply Kd.R_drewN | apply Kd.R_drew)); exact HO_7.out) hb); have n1_ := Aside0.mk (Kd.R_below (by (with_reducible repeat (first | apply Kd.R_alloc | apply Kd.R_drewN | apply Kd.R_drew)); exact HO_9.out) hb); have n2_ := Aside0.mk (blk_below (g := gb164) (o := .cells #[.string a1_0, .string a1_1, .int .i64 a1_2] 30 (0, 0)) (by (with_reducible repeat (first | refine blk_drewN ?_ _ | refine blk_drew ?_ | refine blk_alloc ?_ _)); exact BK164.out) hb); have n3_ := Aside0.mk (blk_below (g := gb165) (o := .cells #[.string a2_0, .string a2_1, .int .i64 a2_2] 30 (0, 0)) (by (with_reducible repeat (first | refine blk_drewN ?_ _ | refine blk_drew ?_ | refine blk_alloc ?_ _)); exact BK165.out) hb); have n4_ := Aside0.mk (below_step (by repeat (first | (with_reducible first | exact HB.out | apply below_alloc | apply pw_below_drewN | apply below_drew1 | refine below_set ?_ GE164.out | refine below_set ?_ GE165.out) | exact HB.out)) hb); clear HO_7; clear HO_9; clear BK164; clear BK165; clear HB; have HO_7 := n0_; have HO_9 := n1_; have BK164 := n2_; have BK165 := n3_; have HB := n4_; clear n0_ n1_ n2_ n3_ n4_; (try clear hb); (try clear hb2); (try clear hk); (try clear hi)))
            go_ret
            exact ⟨by first | rfl | (simp [errW_none, errW_some] <;> rfl) | (simp [*, errW_none, errW_some] <;> rfl), by repeat (first | (with_reducible first | exact HB.out | apply below_alloc | apply pw_below_drewN | apply below_drew1 | refine below_set ?_ GE164.out | refine below_set ?_ GE165.out) | exact HB.out)⟩
          · replace c114 := Bool.eq_false_iff.mpr c114
            subst c114
            have H1 : (some false) = some r := by rw [if_neg (show ¬ (false = true) by decide)] at H; exact H
            clear H
            have H := H1
            clear H1
            obtain rfl := Option.some.inj H
            have hnb122 := NB164_165.out
            have hnc122 := NB165_164.out
            have hcz123_0 : wc.cell? ⟨gb164, 0, none⟩ = some (.string a1_0) := (blk_cell BK164.out 0).trans rfl
            have hcz123_1 : wc.cell? ⟨gb164, 1, none⟩ = some (.string a1_1) := (blk_cell BK164.out 1).trans rfl
            have hcz123_2 : wc.cell? ⟨gb164, 2, none⟩ = some (.int .i64 a1_2) := (blk_cell BK164.out 2).trans rfl
            have hfz123_0 := blk_frozen BK164.out 0
            have hfz123_1 := blk_frozen BK164.out 1
            have hfz123_2 := blk_frozen BK164.out 2
            have hcz124_0 : wc.cell? ⟨gb165, 0, none⟩ = some (.string a2_0) := (blk_cell BK165.out 0).trans rfl
            have hcz124_1 : wc.cell? ⟨gb165, 1, none⟩ = some (.string a2_1) := (blk_cell BK165.out 1).trans rfl
            have hcz124_2 : wc.cell? ⟨gb165, 2, none⟩ = some (.int .i64 a2_2) := (blk_cell BK165.out 2).trans rfl
            have hfz124_0 := blk_frozen BK165.out 0
            have hfz124_1 := blk_frozen BK165.out 1
            have hfz124_2 := blk_frozen BK165.out 2
            obtain ⟨Ao125, co125, eo125⟩ := Kd.R_slice HO_7.out
            subst eo125
            obtain ⟨Ao126, co126, eo126⟩ := Kd.R_slice HO_9.out
            subst eo126
            go_wp2_with (first | ((with_reducible refine gate_callee (f := 18) rfl ?_); refine goesL_ (some 54) rfl rfl Try.func18 (by kernel_rfl) rfl #[.slice Ao125 t169.length co125, .slice Ao126 t176.length co126] rfl (by (try simp only [List.map_toArray, List.map_cons, List.map_nil]); first | done | rfl | (simp only [List.length_drop, List.length_take]; rfl)) ?_; (with_reducible refine (smithyplain_Macros.calls kj5 _ _ t169 _ _ t176 false _ ?side1 ?side2 ?side3 ?side4 A113.out).mono ?_); (case side1 => repeat (first | exact (Kd.R_reads' HO_7.out).2.2 | (with_reducible refine Kd.C_alloc ?_ _) | (with_reducible refine Kd.C_drewN ?_ _) | (with_reducible refine Kd.C_drew ?_))); (case side2 => exact (Kd.R_reads' HO_7.out).2.1); (case side3 => repeat (first | exact (Kd.R_reads' HO_9.out).2.2 | (with_reducible refine Kd.C_alloc ?_ _) | (with_reducible refine Kd.C_drewN ?_ _) | (with_reducible refine Kd.C_drew ?_))); (case side4 => exact (Kd.R_reads' HO_9.out).2.1); rintro e w' ⟨rfl, ⟨nd, rfl⟩⟩; refine ⟨_, rfl, ?_⟩))
            go_ret
            exact ⟨by first | rfl | (simp [errW_none, errW_some] <;> rfl) | (simp [*, errW_none, errW_some] <;> rfl), by repeat (first | (with_reducible first | exact HB.out | apply below_alloc | apply pw_below_drewN | apply below_drew1 | refine below_set ?_ GE164.out | refine below_set ?_ GE165.out) | exact HB.out)⟩

end Go.Proofs.Ytodogppelokapaa.P
