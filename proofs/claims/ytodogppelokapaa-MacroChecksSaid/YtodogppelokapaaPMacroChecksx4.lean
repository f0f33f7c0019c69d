-- written by mp.py (wip/tools), a program of this session, over the kit's print
import Derived.Test.YtodogppelokapaaPMacroChecksx0
import Derived.Test.YtodogppelokapaaPMacroChecksx1
import Derived.Test.YtodogppelokapaaPMacroChecksx3
namespace Go.Proofs.Ytodogppelokapaa.P
open Go.RowKit Go.Proofs.YtodogppelokapaaW.PrintWords Go.Proofs.YtodogppelokapaaW.PrintLast Go.Proofs.YtodogppelokapaaW.PrintMore
attribute [local go_sem] max2_int min2_int max_two min_two max_three min_three max_four min_four   -- for this text's walks alone
set_option linter.unusedVariables false
set_option linter.unusedSimpArgs false

/-! ### smithyref05_Check: function 11 -/
mutual
def smithyref05_Check.l0 : Nat → List (S30) → List (S30) → Int → Int → Option (Int)
  | 0, _, _, _, _ => none
  | k + 1, x0, x10, x11, x12 => if x12 < x11 then (if 0 ≤ x12 then (if x12 < (x10.length : Int) then ((smithyref05_One.f k ((rd_T30 x10 x12).f0) ((rd_T30 x10 x12).f1) ((rd_T30 x10 x12).f2)).bind fun t116 => (if t116 = 0 then (smithyref05_Check.l0 k x0 x10 x11 (wrap64 (x12 + 1))) else (some t116))) else (none)) else (none)) else (smithyref05_Check.l1 k x0 1)
def smithyref05_Check.l1 : Nat → List (S30) → Int → Option (Int)
  | 0, _, _ => none
  | k + 1, x0, x6 => if x6 < (x0.length : Int) then (if 0 ≤ (wrap64 (x6 - 1)) then (if (wrap64 (x6 - 1)) < (x0.length : Int) then (if 0 ≤ x6 then (if ((Op.bytesLess (((rd_T30 x0 (wrap64 (x6 - 1))).f0).toList) (((rd_T30 x0 x6).f0).toList)) = true) then (smithyref05_Check.l1 k x0 (wrap64 (x6 + 1))) else (some 5)) else (none)) else (none)) else (none)) else (some 0)
end
def smithyref05_Check.f (k : Nat) (l0 : List (S30)) : Option (Int) := if (l0.length : Int) > 256 then (some 2) else (smithyref05_Check.l0 k l0 l0 (l0.length : Int) 0)
theorem smithyref05_Check.mono_l : ∀ k, (∀ y0 y1 y2 y3, LeO (smithyref05_Check.l0 k y0 y1 y2 y3) (smithyref05_Check.l0 (k + 1) y0 y1 y2 y3)) ∧ (∀ y0 y1, LeO (smithyref05_Check.l1 k y0 y1) (smithyref05_Check.l1 (k + 1) y0 y1))
  | 0 => ⟨fun _ _ _ _ r h => by simp [smithyref05_Check.l0] at h, fun _ _ r h => by simp [smithyref05_Check.l1] at h⟩
  | k + 1 => by
    obtain ⟨ih0, ih1⟩ := smithyref05_Check.mono_l k
    refine ⟨?_, ?_⟩
    · intro y0 y1 y2 y3
      unfold smithyref05_Check.l0
      repeat' first
      | (with_reducible exact ih0 _ _ _ _)
      | (with_reducible exact ih1 _ _)
      | (with_reducible exact smithyref05_One.mono _ _ _ _)
      | (with_reducible exact LeO.refl _)
      | (with_reducible exact LeO.none _)
      | (with_reducible refine LeO.ite ?_ ?_)
      | (with_reducible refine LeO.bind ?_ (fun _ => ?_))
      | exact ih0 _ _ _ _
      | exact ih1 _ _
      | exact smithyref05_One.mono _ _ _ _
      | exact LeO.none _
      | refine LeO.ite ?_ ?_
      | refine LeO.bind ?_ (fun _ => ?_)
    · intro y0 y1
      unfold smithyref05_Check.l1
      repeat' first
      | (with_reducible exact ih0 _ _ _ _)
      | (with_reducible exact ih1 _ _)
      | (with_reducible exact smithyref05_One.mono _ _ _ _)
      | (with_reducible exact LeO.refl _)
      | (with_reducible exact LeO.none _)
      | (with_reducible refine LeO.ite ?_ ?_)
      | (with_reducible refine LeO.bind ?_ (fun _ => ?_))
      | exact ih0 _ _ _ _
      | exact ih1 _ _
      | exact smithyref05_One.mono _ _ _ _
      | exact LeO.none _
      | refine LeO.ite ?_ ?_
      | refine LeO.bind ?_ (fun _ => ?_)
theorem smithyref05_Check.mono : ∀ a0 k, LeO (smithyref05_Check.f k a0) (smithyref05_Check.f (k + 1) a0) := by
  intro a0 k
  obtain ⟨ih0, ih1⟩ := smithyref05_Check.mono_l k
  unfold smithyref05_Check.f
  repeat' first
      | (with_reducible exact ih0 _ _ _ _)
      | (with_reducible exact ih1 _ _)
      | (with_reducible exact smithyref05_One.mono _ _ _ _)
      | (with_reducible exact LeO.refl _)
      | (with_reducible exact LeO.none _)
      | (with_reducible refine LeO.ite ?_ ?_)
      | (with_reducible refine LeO.bind ?_ (fun _ => ?_))
      | exact ih0 _ _ _ _
      | exact ih1 _ _
      | exact smithyref05_One.mono _ _ _ _
      | exact LeO.none _
      | refine LeO.ite ?_ ?_
      | refine LeO.bind ?_ (fun _ => ?_)
set_option maxHeartbeats 8000000 in
set_option maxRecDepth 100000 in
theorem smithyref05_Check.calls (k : Nat) (A0 : Option Addr) (c0 : Nat) (l0 : List (S30)) (r : Int) (w : World) (hr0 : Kd.C k30 w A0 l0.length l0) (hc0 : l0.length ≤ c0) (h : smithyref05_Check.f k l0 = some r) :
    Calls Try.prog 11 #[.slice A0 l0.length c0] w fun e w' => e = .returned (.int .i64 r) ∧ Below w.heap.size w w' := by
  have hu30 := Try.underlying30
  have HR0 := Aside0.mk hr0
  have HC0 := Aside0.mk hc0
  clear hr0 hc0
  have HB := Aside0.mk (Below.refl w.heap.size w)
  have H : (if (l0.length : Int) > 256 then (some 2) else (smithyref05_Check.l0 k l0 l0 (l0.length : Int) 0)) = some r := h
  clear h
  by_cases c2 : (l0.length : Int) > 256
  · rw [if_pos c2] at H
    have c2b0 : decide (256 < (l0.length : Int)) = true := decide_eq_true c2
    have c2b1 : decide (256 < l0.length) = true := decide_eq_true (by omega)
    clear c2
    obtain rfl := Option.some.inj H
    go_enter Try.func11, Try.ntmps11
    go_wp2
    repeat (go_quiet (fail); try go_wp2)
    go_ret
    exact ⟨by first | rfl | (simp [errW_none, errW_some] <;> rfl) | (simp [*, errW_none, errW_some] <;> rfl), by repeat (first | (with_reducible first | exact HB.out | apply below_alloc | apply pw_below_drewN | apply below_drew1) | exact HB.out)⟩
  · rw [if_neg c2] at H
    have c2b0 : decide (256 < (l0.length : Int)) = false := decide_eq_false c2
    have c2b1 : decide (256 < l0.length) = false := decide_eq_false (by omega)
    clear c2
    have H' := Aside0.mk H
    clear H
    go_enter Try.func11, Try.ntmps11
    go_wp2
    repeat (go_quiet (fail); try go_wp2)
    go_loopg [12] k (fun kq v12 w' => ∃ (x12_1 : Int), v12 = .int .i64 x12_1 ∧ Aside0 (smithyref05_Check.l0 kq l0 l0 (l0.length : Int) x12_1 = some r) ∧ Aside0 (kq ≤ k) ∧ Aside0 (Below w.heap.size w w'))
    case atStart => exact ⟨(0), (by first | rfl | (simp; done) | (simp [*]; done)), H', ⟨Nat.le_refl _⟩, ⟨by repeat (first | (with_reducible first | exact HB.out | apply below_alloc | apply pw_below_drewN | apply below_drew1) | exact HB.out)⟩⟩
    case round =>
      clear H'
      try clear c1
      try clear c2
      try clear c2b0
      try clear c2b1
      try clear p2
      obtain ⟨x12_1, rfl, HA, HK1, HB⟩ := hrel
      cases gk with
      | zero => exact absurd HA.out (by simp [smithyref05_Check.l0])
      | succ k1 =>
        have H := HA.out
        clear HA
        simp only [smithyref05_Check.l0] at H
        by_cases c3 : x12_1 < (l0.length : Int)
        · rw [if_pos c3] at H
          have c3b0 : decide (x12_1 < (l0.length : Int)) = true := decide_eq_true c3
          clear c3
          by_cases c4 : 0 ≤ x12_1
          · rw [if_pos c4] at H
            have c4b0 : decide (0 ≤ x12_1) = true := decide_eq_true c4
            clear c4
            by_cases c5 : x12_1 < (l0.length : Int)
            · rw [if_pos c5] at H
              have c5b0 : decide (x12_1 < (l0.length : Int)) = true := decide_eq_true c5
              clear c5
              replace H := Option.bind_eq_some_iff.mp H
              obtain ⟨t116, A60, H⟩ := H
              replace H : (if t116 = 0 then (smithyref05_Check.l0 k1 l0 l0 (l0.length : Int) (wrap64 (x12_1 + 1))) else (some t116)) = some r := H
              have A6 := Aside0.mk A60
              clear A60
              by_cases c7 : t116 = 0
              · rw [if_pos c7] at H
                have c7b0 : (t116 == 0) = true := beq_iff_eq.mpr c7
                have c7b1 : (t116 != 0) = false := bne_eq_false_iff_eq.mpr c7
                clear c7
                have H' := Aside0.mk H
                clear H
                have p114 : 0 ≤ (x12_1 : Int) := of_decide_eq_true (by first | (with_reducible assumption) | assumption)
                have q114 : x12_1 < (l0.length : Int) := of_decide_eq_true (by first | (with_reducible assumption) | assumption)
                obtain ⟨ad114, e114, hx114_0, hx114_1, hx114_2⟩ := at_T30 HR0.out x12_1 p114 q114
                cases e114
                replace hx114_0 := (HB.out.cell (World.block_lt_of_cell? w _ hx114_0)).trans hx114_0
                replace hx114_1 := (HB.out.cell (World.block_lt_of_cell? w _ hx114_1)).trans hx114_1
                replace hx114_2 := (HB.out.cell (World.block_lt_of_cell? w _ hx114_2)).trans hx114_2
                replace p114 := eq_true p114
                replace q114 := eq_true q114
                go_wp2_with (first | ((with_reducible refine gate_dst (N := 4) rfl ?_); refine box_event ?hg (N := 4) ?hd (cs := #[.string (⟨#[]⟩ : ByteArray), .string (⟨#[]⟩ : ByteArray), .int .i64 0]) (t := 30) ?hr ?_; (case hd => rfl); (case hg => rfl); (case hr => first | (go_simp; done) | (go_simp; rfl)); intro gb115 hg w8 hbox hb; have n0_ := Aside0.mk (below_step (by repeat (first | (with_reducible first | exact HB.out | apply below_alloc | apply pw_below_drewN | apply below_drew1) | exact HB.out)) hb); have n1_ := Aside0.mk (hbox); have n2_ := Aside0.mk ((by rw [hg]; exact (below_size (by repeat (first | (with_reducible first | exact HB.out | apply below_alloc | apply pw_below_drewN | apply below_drew1) | exact HB.out))) : w.heap.size ≤ gb115)); have n3_ := Aside0.mk ((by rw [hg]; exact (below_size (by repeat (first | (with_reducible first | exact HB.out | apply below_alloc | apply pw_below_drewN | apply below_drew1) | exact HB.out))) : w.heap.size ≤ gb115)); clear HB; have HB := n0_; have BK115 := n1_; have GW115 := n2_; have GE115 := n3_; clear n0_ n1_ n2_ n3_; clear hb hbox hg; have hcz9_0 : w8.cell? ⟨gb115, 0, none⟩ = some (.string (⟨#[]⟩ : ByteArray)) := (blk_cell BK115.out 0).trans rfl; have hcz9_1 : w8.cell? ⟨gb115, 1, none⟩ = some (.string (⟨#[]⟩ : ByteArray)) := (blk_cell BK115.out 1).trans rfl; have hcz9_2 : w8.cell? ⟨gb115, 2, none⟩ = some (.int .i64 0) := (blk_cell BK115.out 2).trans rfl; have hfz9_0 := blk_frozen BK115.out 0; have hfz9_1 := blk_frozen BK115.out 1; have hfz9_2 := blk_frozen BK115.out 2) | (go_at_call 30; (with_reducible refine (smithyref05_One.calls k1 ((rd_T30 l0 x12_1).f0) ((rd_T30 l0 x12_1).f1) ((rd_T30 l0 x12_1).f2) t116 _ A6.out).mono ?_); rintro e w10 ⟨rfl, hb⟩; have n0_ := Aside0.mk (blk_below (g := gb115) (o := .cells #[.string ((rd_T30 l0 x12_1).f0), .string ((rd_T30 l0 x12_1).f1), .int .i64 ((rd_T30 l0 x12_1).f2)] 30 (0, 0)) (by (with_reducible repeat (first | refine blk_drewN ?_ _ | refine blk_drew ?_ | refine blk_alloc ?_ _)); refine blk_put (cs := #[.string ((rd_T30 l0 x12_1).f0), .string ((rd_T30 l0 x12_1).f1), .int .i64 0]) ?_ 2 _ rfl; (with_reducible repeat (first | refine blk_drewN ?_ _ | refine blk_drew ?_ | refine blk_alloc ?_ _)); refine blk_put (cs := #[.string ((rd_T30 l0 x12_1).f0), .string (⟨#[]⟩ : ByteArray), .int .i64 0]) ?_ 1 _ rfl; (with_reducible repeat (first | refine blk_drewN ?_ _ | refine blk_drew ?_ | refine blk_alloc ?_ _)); refine blk_put (cs := #[.string (⟨#[]⟩ : ByteArray), .string (⟨#[]⟩ : ByteArray), .int .i64 0]) ?_ 0 _ rfl; (with_reducible repeat (first | refine blk_drewN ?_ _ | refine blk_drew ?_ | refine blk_alloc ?_ _)); exact BK115.out) hb); have n1_ := Aside0.mk (below_step (by repeat (first | (with_reducible first | exact HB.out | apply below_alloc | apply pw_below_drewN | apply below_drew1 | refine below_set ?_ GE115.out) | exact HB.out)) hb); clear BK115; clear HB; have BK115 := n0_; have HB := n1_; clear n0_ n1_; (try clear hb); (try clear hb2); (try clear hk); (try clear hi)))
                repeat (go_quiet (first | ((with_reducible refine gate_dst (N := 4) rfl ?_); refine box_event ?hg (N := 4) ?hd (cs := #[.string (⟨#[]⟩ : ByteArray), .string (⟨#[]⟩ : ByteArray), .int .i64 0]) (t := 30) ?hr ?_; (case hd => rfl); (case hg => rfl); (case hr => first | (go_simp; done) | (go_simp; rfl)); intro gb115 hg w8 hbox hb; have n0_ := Aside0.mk (below_step (by repeat (first | (with_reducible first | exact HB.out | apply below_alloc | apply pw_below_drewN | apply below_drew1) | exact HB.out)) hb); have n1_ := Aside0.mk (hbox); have n2_ := Aside0.mk ((by rw [hg]; exact (below_size (by repeat (first | (with_reducible first | exact HB.out | apply below_alloc | apply pw_below_drewN | apply below_drew1) | exact HB.out))) : w.heap.size ≤ gb115)); have n3_ := Aside0.mk ((by rw [hg]; exact (below_size (by repeat (first | (with_reducible first | exact HB.out | apply below_alloc | apply pw_below_drewN | apply below_drew1) | exact HB.out))) : w.heap.size ≤ gb115)); clear HB; have HB := n0_; have BK115 := n1_; have GW115 := n2_; have GE115 := n3_; clear n0_ n1_ n2_ n3_; clear hb hbox hg; have hcz9_0 : w8.cell? ⟨gb115, 0, none⟩ = some (.string (⟨#[]⟩ : ByteArray)) := (blk_cell BK115.out 0).trans rfl; have hcz9_1 : w8.cell? ⟨gb115, 1, none⟩ = some (.string (⟨#[]⟩ : ByteArray)) := (blk_cell BK115.out 1).trans rfl; have hcz9_2 : w8.cell? ⟨gb115, 2, none⟩ = some (.int .i64 0) := (blk_cell BK115.out 2).trans rfl; have hfz9_0 := blk_frozen BK115.out 0; have hfz9_1 := blk_frozen BK115.out 1; have hfz9_2 := blk_frozen BK115.out 2) | (go_at_call 30; (with_reducible refine (smithyref05_One.calls k1 ((rd_T30 l0 x12_1).f0) ((rd_T30 l0 x12_1).f1) ((rd_T30 l0 x12_1).f2) t116 _ A6.out).mono ?_); rintro e w10 ⟨rfl, hb⟩; have n0_ := Aside0.mk (blk_below (g := gb115) (o := .cells #[.string ((rd_T30 l0 x12_1).f0), .string ((rd_T30 l0 x12_1).f1), .int .i64 ((rd_T30 l0 x12_1).f2)] 30 (0, 0)) (by (with_reducible repeat (first | refine blk_drewN ?_ _ | refine blk_drew ?_ | refine blk_alloc ?_ _)); refine blk_put (cs := #[.string ((rd_T30 l0 x12_1).f0), .string ((rd_T30 l0 x12_1).f1), .int .i64 0]) ?_ 2 _ rfl; (with_reducible repeat (first | refine blk_drewN ?_ _ | refine blk_drew ?_ | refine blk_alloc ?_ _)); refine blk_put (cs := #[.string ((rd_T30 l0 x12_1).f0), .string (⟨#[]⟩ : ByteArray), .int .i64 0]) ?_ 1 _ rfl; (with_reducible repeat (first | refine blk_drewN ?_ _ | refine blk_drew ?_ | refine blk_alloc ?_ _)); refine blk_put (cs := #[.string (⟨#[]⟩ : ByteArray), .string (⟨#[]⟩ : ByteArray), .int .i64 0]) ?_ 0 _ rfl; (with_reducible repeat (first | refine blk_drewN ?_ _ | refine blk_drew ?_ | refine blk_alloc ?_ _)); exact BK115.out) hb); have n1_ := Aside0.mk (below_step (by repeat (first | (with_reducible first | exact HB.out | apply below_alloc | apply pw_below_drewN | apply below_drew1 | refine below_set ?_ GE115.out) | exact HB.out)) hb); clear BK115; clear HB; have BK115 := n0_; have HB := n1_; clear n0_ n1_; (try clear hb); (try clear hb2); (try clear hk); (try clear hi))); try go_wp2_with (first | ((with_reducible refine gate_dst (N := 4) rfl ?_); refine box_event ?hg (N := 4) ?hd (cs := #[.string (⟨#[]⟩ : ByteArray), .string (⟨#[]⟩ : ByteArray), .int .i64 0]) (t := 30) ?hr ?_; (case hd => rfl); (case hg => rfl); (case hr => first | (go_simp; done) | (go_simp; rfl)); intro gb115 hg w8 hbox hb; have n0_ := Aside0.mk (below_step (by repeat (first | (with_reducible first | exact HB.out | apply below_alloc | apply pw_below_drewN | apply below_drew1) | exact HB.out)) hb); have n1_ := Aside0.mk (hbox); have n2_ := Aside0.mk ((by rw [hg]; exact (below_size (by repeat (first | (with_reducible first | exact HB.out | apply below_alloc | apply pw_below_drewN | apply below_drew1) | exact HB.out))) : w.heap.size ≤ gb115)); have n3_ := Aside0.mk ((by rw [hg]; exact (below_size (by repeat (first | (with_reducible first | exact HB.out | apply below_alloc | apply pw_below_drewN | apply below_drew1) | exact HB.out))) : w.heap.size ≤ gb115)); clear HB; have HB := n0_; have BK115 := n1_; have GW115 := n2_; have GE115 := n3_; clear n0_ n1_ n2_ n3_; clear hb hbox hg; have hcz9_0 : w8.cell? ⟨gb115, 0, none⟩ = some (.string (⟨#[]⟩ : ByteArray)) := (blk_cell BK115.out 0).trans rfl; have hcz9_1 : w8.cell? ⟨gb115, 1, none⟩ = some (.string (⟨#[]⟩ : ByteArray)) := (blk_cell BK115.out 1).trans rfl; have hcz9_2 : w8.cell? ⟨gb115, 2, none⟩ = some (.int .i64 0) := (blk_cell BK115.out 2).trans rfl; have hfz9_0 := blk_frozen BK115.out 0; have hfz9_1 := blk_frozen BK115.out 1; have hfz9_2 := blk_frozen BK115.out 2) | (go_at_call 30; (with_reducible refine (smithyref05_One.calls k1 ((rd_T30 l0 x12_1).f0) ((rd_T30 l0 x12_1).f1) ((rd_T30 l0 x12_1).f2) t116 _ A6.out).mono ?_); rintro e w10 ⟨rfl, hb⟩; have n0_ := Aside0.mk (blk_below (g := gb115) (o := .cells #[.string ((rd_T30 l0 x12_1).f0), .string ((rd_T30 l0 x12_1).f1), .int .i64 ((rd_T30 l0 x12_1).f2)] 30 (0, 0)) (by (with_reducible repeat (first | refine blk_drewN ?_ _ | refine blk_drew ?_ | refine blk_alloc ?_ _)); refine blk_put (cs := #[.string ((rd_T30 l0 x12_1).f0), .string ((rd_T30 l0 x12_1).f1), .int .i64 0]) ?_ 2 _ rfl; (with_reducible repeat (first | refine blk_drewN ?_ _ | refine blk_drew ?_ | refine blk_alloc ?_ _)); refine blk_put (cs := #[.string ((rd_T30 l0 x12_1).f0), .string (⟨#[]⟩ : ByteArray), .int .i64 0]) ?_ 1 _ rfl; (with_reducible repeat (first | refine blk_drewN ?_ _ | refine blk_drew ?_ | refine blk_alloc ?_ _)); refine blk_put (cs := #[.string (⟨#[]⟩ : ByteArray), .string (⟨#[]⟩ : ByteArray), .int .i64 0]) ?_ 0 _ rfl; (with_reducible repeat (first | refine blk_drewN ?_ _ | refine blk_drew ?_ | refine blk_alloc ?_ _)); exact BK115.out) hb); have n1_ := Aside0.mk (below_step (by repeat (first | (with_reducible first | exact HB.out | apply below_alloc | apply pw_below_drewN | apply below_drew1 | refine below_set ?_ GE115.out) | exact HB.out)) hb); clear BK115; clear HB; have BK115 := n0_; have HB := n1_; clear n0_ n1_; (try clear hb); (try clear hb2); (try clear hk); (try clear hi))))
                go_roundg k1
                case measure => have := HK1.out; omega
                case rel => exact ⟨(wrap64 (x12_1 + 1)), (by first | rfl | (simp; done) | (simp [*]; done)), H', ⟨by have := HK1.out; omega⟩, ⟨by repeat (first | (with_reducible first | exact HB.out | apply below_alloc | apply pw_below_drewN | apply below_drew1 | refine below_set ?_ GE115.out) | exact HB.out)⟩⟩
              · rw [if_neg c7] at H
                have c7b0 : (t116 == 0) = false := beq_eq_false_iff_ne.mpr c7
                have c7b1 : (t116 != 0) = true := bne_iff_ne.mpr c7
                obtain rfl := Option.some.inj H
                have p114 : 0 ≤ (x12_1 : Int) := of_decide_eq_true (by first | (with_reducible assumption) | assumption)
                have q114 : x12_1 < (l0.length : Int) := of_decide_eq_true (by first | (with_reducible assumption) | assumption)
                obtain ⟨ad114, e114, hx114_0, hx114_1, hx114_2⟩ := at_T30 HR0.out x12_1 p114 q114
                cases e114
                replace hx114_0 := (HB.out.cell (World.block_lt_of_cell? w _ hx114_0)).trans hx114_0
                replace hx114_1 := (HB.out.cell (World.block_lt_of_cell? w _ hx114_1)).trans hx114_1
                replace hx114_2 := (HB.out.cell (World.block_lt_of_cell? w _ hx114_2)).trans hx114_2
                replace p114 := eq_true p114
                replace q114 := eq_true q114
                go_wp2_with (first | ((with_reducible refine gate_dst (N := 4) rfl ?_); refine box_event ?hg (N := 4) ?hd (cs := #[.string (⟨#[]⟩ : ByteArray), .string (⟨#[]⟩ : ByteArray), .int .i64 0]) (t := 30) ?hr ?_; (case hd => rfl); (case hg => rfl); (case hr => first | (go_simp; done) | (go_simp; rfl)); intro gb115 hg w11 hbox hb; have n0_ := Aside0.mk (below_step (by repeat (first | (with_reducible first | exact HB.out | apply below_alloc | apply pw_below_drewN | apply below_drew1) | exact HB.out)) hb); have n1_ := Aside0.mk (hbox); have n2_ := Aside0.mk ((by rw [hg]; exact (below_size (by repeat (first | (with_reducible first | exact HB.out | apply below_alloc | apply pw_below_drewN | apply below_drew1) | exact HB.out))) : w.heap.size ≤ gb115)); have n3_ := Aside0.mk ((by rw [hg]; exact (below_size (by repeat (first | (with_reducible first | exact HB.out | apply below_alloc | apply pw_below_drewN | apply below_drew1) | exact HB.out))) : w.heap.size ≤ gb115)); clear HB; have HB := n0_; have BK115 := n1_; have GW115 := n2_; have GE115 := n3_; clear n0_ n1_ n2_ n3_; clear hb hbox hg; have hcz12_0 : w11.cell? ⟨gb115, 0, none⟩ = some (.string (⟨#[]⟩ : ByteArray)) := (blk_cell BK115.out 0).trans rfl; have hcz12_1 : w11.cell? ⟨gb115, 1, none⟩ = some (.string (⟨#[]⟩ : ByteArray)) := (blk_cell BK115.out 1).trans rfl; have hcz12_2 : w11.cell? ⟨gb115, 2, none⟩ = some (.int .i64 0) := (blk_cell BK115.out 2).trans rfl; have hfz12_0 := blk_frozen BK115.out 0; have hfz12_1 := blk_frozen BK115.out 1; have hfz12_2 := blk_frozen BK115.out 2) | (go_at_call 30; (with_reducible refine (smithyref05_One.calls k1 ((rd_T30 l0 x12_1).f0) ((rd_T30 l0 x12_1).f1) ((rd_T30 l0 x12_1).f2) t116 _ A6.out).mono ?_); rintro e w13 ⟨rfl, hb⟩; have n0_ := Aside0.mk (blk_below (g := gb115) (o := .cells #[.string ((rd_T30 l0 x12_1).f0), .string ((rd_T30 l0 x12_1).f1), .int .i64 ((rd_T30 l0 x12_1).f2)] 30 (0, 0)) (by (with_reducible repeat (first | refine blk_drewN ?_ _ | refine blk_drew ?_ | refine blk_alloc ?_ _)); refine blk_put (cs := #[.string ((rd_T30 l0 x12_1).f0), .string ((rd_T30 l0 x12_1).f1), .int .i64 0]) ?_ 2 _ rfl; (with_reducible repeat (first | refine blk_drewN ?_ _ | refine blk_drew ?_ | refine blk_alloc ?_ _)); refine blk_put (cs := #[.string ((rd_T30 l0 x12_1).f0), .string (⟨#[]⟩ : ByteArray), .int .i64 0]) ?_ 1 _ rfl; (with_reducible repeat (first | refine blk_drewN ?_ _ | refine blk_drew ?_ | refine blk_alloc ?_ _)); refine blk_put (cs := #[.string (⟨#[]⟩ : ByteArray), .string (⟨#[]⟩ : ByteArray), .int .i64 0]) ?_ 0 _ rfl; (with_reducible repeat (first | refine blk_drewN ?_ _ | refine blk_drew ?_ | refine blk_alloc ?_ _)); exact BK115.out) hb); have n1_ := Aside0.mk (below_step (by repeat (first | (with_reducible first | exact HB.out | apply below_alloc | apply pw_below_drewN | apply below_drew1 | refine below_set ?_ GE115.out) | exact HB.out)) hb); clear BK115; clear HB; have BK115 := n0_; have HB := n1_; clear n0_ n1_; (try clear hb); (try clear hb2); (try clear hk); (try clear hi)))
                repeat (go_quiet (first | ((with_reducible refine gate_dst (N := 4) rfl ?_); refine box_event ?hg (N := 4) ?hd (cs := #[.string (⟨#[]⟩ : ByteArray), .string (⟨#[]⟩ : ByteArray), .int .i64 0]) (t := 30) ?hr ?_; (case hd => rfl); (case hg => rfl); (case hr => first | (go_simp; done) | (go_simp; rfl)); intro gb115 hg w11 hbox hb; have n0_ := Aside0.mk (below_step (by repeat (first | (with_reducible first | exact HB.out | apply below_alloc | apply pw_below_drewN | apply below_drew1) | exact HB.out)) hb); have n1_ := Aside0.mk (hbox); have n2_ := Aside0.mk ((by rw [hg]; exact (below_size (by repeat (first | (with_reducible first | exact HB.out | apply below_alloc | apply pw_below_drewN | apply below_drew1) | exact HB.out))) : w.heap.size ≤ gb115)); have n3_ := Aside0.mk ((by rw [hg]; exact (below_size (by repeat (first | (with_reducible first | exact HB.out | apply below_alloc | apply pw_below_drewN | apply below_drew1) | exact HB.out))) : w.heap.size ≤ gb115)); clear HB; have HB := n0_; have BK115 := n1_; have GW115 := n2_; have GE115 := n3_; clear n0_ n1_ n2_ n3_; clear hb hbox hg; have hcz12_0 : w11.cell? ⟨gb115, 0, none⟩ = some (.string (⟨#[]⟩ : ByteArray)) := (blk_cell BK115.out 0).trans rfl; have hcz12_1 : w11.cell? ⟨gb115, 1, none⟩ = some (.string (⟨#[]⟩ : ByteArray)) := (blk_cell BK115.out 1).trans rfl; have hcz12_2 : w11.cell? ⟨gb115, 2, none⟩ = some (.int .i64 0) := (blk_cell BK115.out 2).trans rfl; have hfz12_0 := blk_frozen BK115.out 0; have hfz12_1 := blk_frozen BK115.out 1; have hfz12_2 := blk_frozen BK115.out 2) | (go_at_call 30; (with_reducible refine (smithyref05_One.calls k1 ((rd_T30 l0 x12_1).f0) ((rd_T30 l0 x12_1).f1) ((rd_T30 l0 x12_1).f2) t116 _ A6.out).mono ?_); rintro e w13 ⟨rfl, hb⟩; have n0_ := Aside0.mk (blk_below (g := gb115) (o := .cells #[.string ((rd_T30 l0 x12_1).f0), .string ((rd_T30 l0 x12_1).f1), .int .i64 ((rd_T30 l0 x12_1).f2)] 30 (0, 0)) (by (with_reducible repeat (first | refine blk_drewN ?_ _ | refine blk_drew ?_ | refine blk_alloc ?_ _)); refine blk_put (cs := #[.string ((rd_T30 l0 x12_1).f0), .string ((rd_T30 l0 x12_1).f1), .int .i64 0]) ?_ 2 _ rfl; (with_reducible repeat (first | refine blk_drewN ?_ _ | refine blk_drew ?_ | refine blk_alloc ?_ _)); refine blk_put (cs := #[.string ((rd_T30 l0 x12_1).f0), .string (⟨#[]⟩ : ByteArray), .int .i64 0]) ?_ 1 _ rfl; (with_reducible repeat (first | refine blk_drewN ?_ _ | refine blk_drew ?_ | refine blk_alloc ?_ _)); refine blk_put (cs := #[.string (⟨#[]⟩ : ByteArray), .string (⟨#[]⟩ : ByteArray), .int .i64 0]) ?_ 0 _ rfl; (with_reducible repeat (first | refine blk_drewN ?_ _ | refine blk_drew ?_ | refine blk_alloc ?_ _)); exact BK115.out) hb); have n1_ := Aside0.mk (below_step (by repeat (first | (with_reducible first | exact HB.out | apply below_alloc | apply pw_below_drewN | apply below_drew1 | refine below_set ?_ GE115.out) | exact HB.out)) hb); clear BK115; clear HB; have BK115 := n0_; have HB := n1_; clear n0_ n1_; (try clear hb); (try clear hb2); (try clear hk); (try clear hi))); try go_wp2_with (first | ((with_reducible refine gate_dst (N := 4) rfl ?_); refine box_event ?hg (N := 4) ?hd (cs := #[.string (⟨#[]⟩ : ByteArray), .string (⟨#[]⟩ : ByteArray), .int .i64 0]) (t := 30) ?hr ?_; (case hd => rfl); (case hg => rfl); (case hr => first | (go_simp; done) | (go_simp; rfl)); intro gb115 hg w11 hbox hb; have n0_ := Aside0.mk (below_step (by repeat (first | (with_reducible first | exact HB.out | apply below_alloc | apply pw_below_drewN | apply below_drew1) | exact HB.out)) hb); have n1_ := Aside0.mk (hbox); have n2_ := Aside0.mk ((by rw [hg]; exact (below_size (by repeat (first | (with_reducible first | exact HB.out | apply below_alloc | apply pw_below_drewN | apply below_drew1) | exact HB.out))) : w.heap.size ≤ gb115)); have n3_ := Aside0.mk ((by rw [hg]; exact (below_size (by repeat (first | (with_reducible first | exact HB.out | apply below_alloc | apply pw_below_drewN | apply below_drew1) | exact HB.out))) : w.heap.size ≤ gb115)); clear HB; have HB := n0_; have BK115 := n1_; have GW115 := n2_; have GE115 := n3_; clear n0_ n1_ n2_ n3_; clear hb hbox hg; have hcz12_0 : w11.cell? ⟨gb115, 0, none⟩ = some (.string (⟨#[]⟩ : ByteArray)) := (blk_cell BK115.out 0).trans rfl; have hcz12_1 : w11.cell? ⟨gb115, 1, none⟩ = some (.string (⟨#[]⟩ : ByteArray)) := (blk_cell BK115.out 1).trans rfl; have hcz12_2 : w11.cell? ⟨gb115, 2, none⟩ = some (.int .i64 0) := (blk_cell BK115.out 2).trans rfl; have hfz12_0 := blk_frozen BK115.out 0; have hfz12_1 := blk_frozen BK115.out 1; have hfz12_2 := blk_frozen BK115.out 2) | (go_at_call 30; (with_reducible refine (smithyref05_One.calls k1 ((rd_T30 l0 x12_1).f0) ((rd_T30 l0 x12_1).f1) ((rd_T30 l0 x12_1).f2) t116 _ A6.out).mono ?_); rintro e w13 ⟨rfl, hb⟩; have n0_ := Aside0.mk (blk_below (g := gb115) (o := .cells #[.string ((rd_T30 l0 x12_1).f0), .string ((rd_T30 l0 x12_1).f1), .int .i64 ((rd_T30 l0 x12_1).f2)] 30 (0, 0)) (by (with_reducible repeat (first | refine blk_drewN ?_ _ | refine blk_drew ?_ | refine blk_alloc ?_ _)); refine blk_put (cs := #[.string ((rd_T30 l0 x12_1).f0), .string ((rd_T30 l0 x12_1).f1), .int .i64 0]) ?_ 2 _ rfl; (with_reducible repeat (first | refine blk_drewN ?_ _ | refine blk_drew ?_ | refine blk_alloc ?_ _)); refine blk_put (cs := #[.string ((rd_T30 l0 x12_1).f0), .string (⟨#[]⟩ : ByteArray), .int .i64 0]) ?_ 1 _ rfl; (with_reducible repeat (first | refine blk_drewN ?_ _ | refine blk_drew ?_ | refine blk_alloc ?_ _)); refine blk_put (cs := #[.string (⟨#[]⟩ : ByteArray), .string (⟨#[]⟩ : ByteArray), .int .i64 0]) ?_ 0 _ rfl; (with_reducible repeat (first | refine blk_drewN ?_ _ | refine blk_drew ?_ | refine blk_alloc ?_ _)); exact BK115.out) hb); have n1_ := Aside0.mk (below_step (by repeat (first | (with_reducible first | exact HB.out | apply below_alloc | apply pw_below_drewN | apply below_drew1 | refine below_set ?_ GE115.out) | exact HB.out)) hb); clear BK115; clear HB; have BK115 := n0_; have HB := n1_; clear n0_ n1_; (try clear hb); (try clear hb2); (try clear hk); (try clear hi))))
                go_ret
                exact ⟨by first | rfl | (simp [errW_none, errW_some] <;> rfl) | (simp [*, errW_none, errW_some] <;> rfl), by repeat (first | (with_reducible first | exact HB.out | apply below_alloc | apply pw_below_drewN | apply below_drew1 | refine below_set ?_ GE115.out) | exact HB.out)⟩
            · rw [if_neg c5] at H
              exact absurd H (by simp)
          · rw [if_neg c4] at H
            exact absurd H (by simp)
        · rw [if_neg c3] at H
          have c3b0 : decide (x12_1 < (l0.length : Int)) = false := decide_eq_false c3
          clear c3
          have H' := Aside0.mk H
          clear H
          go_wp2
          repeat (go_quiet (fail); try go_wp2)
          go_loopg [6] k1 (fun kq v6 w' => ∃ (x6_2 : Int), v6 = .int .i64 x6_2 ∧ Aside0 (smithyref05_Check.l1 kq l0 x6_2 = some r) ∧ Aside0 (kq ≤ k1) ∧ Aside0 (Below w.heap.size w w'))
          case atStart => exact ⟨(1), (by first | rfl | (simp; done) | (simp [*]; done)), H', ⟨Nat.le_refl _⟩, ⟨by repeat (first | (with_reducible first | exact HB.out | apply below_alloc | apply pw_below_drewN | apply below_drew1) | exact HB.out)⟩⟩
          case round =>
            clear H'
            try clear c1
            try clear p1
            try clear q1
            try clear hx1
            try clear c2
            try clear c2b0
            try clear c2b1
            try clear p2
            try clear c3
            try clear c3b0
            try clear c4
            try clear c4b0
            try clear c5
            try clear c5b0
            try clear p6
            try clear c7
            try clear c7b0
            try clear c7b1
            try clear c11
            try clear p11
            try clear q11
            try clear hx11
            try clear hcz12_0
            try clear hcz12_1
            try clear hcz12_2
            try clear hcz9_0
            try clear hcz9_1
            try clear hcz9_2
            try clear hfz12_0
            try clear hfz12_1
            try clear hfz12_2
            try clear hfz9_0
            try clear hfz9_1
            try clear hfz9_2
            try clear hx114_0
            try clear hx114_1
            try clear hx114_2
            try clear p114
            try clear p2
            try clear q114
            obtain ⟨x6_2, rfl, HA, HK2, HB⟩ := hrel
            cases gk with
            | zero => exact absurd HA.out (by simp [smithyref05_Check.l1])
            | succ k2 =>
              have H := HA.out
              clear HA
              simp only [smithyref05_Check.l1] at H
              by_cases c14 : x6_2 < (l0.length : Int)
              · rw [if_pos c14] at H
                have c14b0 : decide (x6_2 < (l0.length : Int)) = true := decide_eq_true c14
                clear c14
                obtain ⟨ji15, hji15⟩ : ∃ j_ : Int, (wrap64 (x6_2 - 1)) = j_ := ⟨_, rfl⟩
                replace H : (if 0 ≤ (ji15) then (if (ji15) < (l0.length : Int) then (if 0 ≤ x6_2 then (if ((Op.bytesLess (((rd_T30 l0 (ji15)).f0).toList) (((rd_T30 l0 x6_2).f0).toList)) = true) then (smithyref05_Check.l1 k2 l0 (wrap64 (x6_2 + 1))) else (some 5)) else (none)) else (none)) else (none)) = some r := by first | (rw [hji15] at H; exact H) | (simp only [hji15] at H ⊢; exact H)
                have hji15w : (IntKind.i64.wrap (x6_2 - 1)) = ji15 := (i64_w _).trans hji15
                by_cases c16 : 0 ≤ (ji15)
                · rw [if_pos c16] at H
                  have c16b0 : decide (0 ≤ (ji15)) = true := decide_eq_true c16
                  clear c16
                  by_cases c17 : (ji15) < (l0.length : Int)
                  · rw [if_pos c17] at H
                    have c17b0 : decide ((ji15) < (l0.length : Int)) = true := decide_eq_true c17
                    clear c17
                    by_cases c18 : 0 ≤ x6_2
                    · rw [if_pos c18] at H
                      have c18b0 : decide (0 ≤ x6_2) = true := decide_eq_true c18
                      clear c18
                      by_cases c19 : ((Op.bytesLess (((rd_T30 l0 (ji15)).f0).toList) (((rd_T30 l0 x6_2).f0).toList)) = true)
                      · rw [if_pos c19] at H
                        have c19b0 : (Op.bytesLess (((rd_T30 l0 (ji15)).f0).toList) (((rd_T30 l0 x6_2).f0).toList)) = true := c19
                        clear c19
                        have H' := Aside0.mk H
                        clear H
                        have p117 : 0 ≤ ((ji15) : Int) := of_decide_eq_true (by first | (with_reducible assumption) | assumption)
                        have q117 : (ji15) < (l0.length : Int) := of_decide_eq_true (by first | (with_reducible assumption) | assumption)
                        obtain ⟨ad117, e117, hx117_0, hx117_1, hx117_2⟩ := at_T30 HR0.out (ji15) p117 q117
                        cases e117
                        replace hx117_0 := (HB.out.cell (World.block_lt_of_cell? w _ hx117_0)).trans hx117_0
                        replace hx117_1 := (HB.out.cell (World.block_lt_of_cell? w _ hx117_1)).trans hx117_1
                        replace hx117_2 := (HB.out.cell (World.block_lt_of_cell? w _ hx117_2)).trans hx117_2
                        replace p117 := eq_true p117
                        replace q117 := eq_true q117
                        have p118 : 0 ≤ (x6_2 : Int) := of_decide_eq_true (by first | (with_reducible assumption) | assumption)
                        have q118 : x6_2 < (l0.length : Int) := of_decide_eq_true (by first | (with_reducible assumption) | assumption)
                        obtain ⟨ad118, e118, hx118_0, hx118_1, hx118_2⟩ := at_T30 HR0.out x6_2 p118 q118
                        obtain rfl : ad117 = ad118 := (by injection e118)
                        replace hx118_0 := (HB.out.cell (World.block_lt_of_cell? w _ hx118_0)).trans hx118_0
                        replace hx118_1 := (HB.out.cell (World.block_lt_of_cell? w _ hx118_1)).trans hx118_1
                        replace hx118_2 := (HB.out.cell (World.block_lt_of_cell? w _ hx118_2)).trans hx118_2
                        replace p118 := eq_true p118
                        replace q118 := eq_true q118
                        go_wp2
                        repeat (go_quiet (fail); try go_wp2)
                        go_roundg k2
                        case measure => have := HK1.out; have := HK2.out; omega
                        case rel => exact ⟨(wrap64 (x6_2 + 1)), (by first | rfl | (simp; done) | (simp [*]; done)), H', ⟨by have := HK1.out; have := HK2.out; omega⟩, ⟨by repeat (first | (with_reducible first | exact HB.out | apply below_alloc | apply pw_below_drewN | apply below_drew1) | exact HB.out)⟩⟩
                      · rw [if_neg c19] at H
                        have c19b0 : (Op.bytesLess (((rd_T30 l0 (ji15)).f0).toList) (((rd_T30 l0 x6_2).f0).toList)) = false := by simpa using c19
                        clear c19
                        obtain rfl := Option.some.inj H
                        have p117 : 0 ≤ ((ji15) : Int) := of_decide_eq_true (by first | (with_reducible assumption) | assumption)
                        have q117 : (ji15) < (l0.length : Int) := of_decide_eq_true (by first | (with_reducible assumption) | assumption)
                        obtain ⟨ad117, e117, hx117_0, hx117_1, hx117_2⟩ := at_T30 HR0.out (ji15) p117 q117
                        cases e117
                        replace hx117_0 := (HB.out.cell (World.block_lt_of_cell? w _ hx117_0)).trans hx117_0
                        replace hx117_1 := (HB.out.cell (World.block_lt_of_cell? w _ hx117_1)).trans hx117_1
                        replace hx117_2 := (HB.out.cell (World.block_lt_of_cell? w _ hx117_2)).trans hx117_2
                        replace p117 := eq_true p117
                        replace q117 := eq_true q117
                        have p118 : 0 ≤ (x6_2 : Int) := of_decide_eq_true (by first | (with_reducible assumption) | assumption)
                        have q118 : x6_2 < (l0.length : Int) := of_decide_eq_true (by first | (with_reducible assumption) | assumption)
                        obtain ⟨ad118, e118, hx118_0, hx118_1, hx118_2⟩ := at_T30 HR0.out x6_2 p118 q118
                        obtain rfl : ad117 = ad118 := (by injection e118)
                        replace hx118_0 := (HB.out.cell (World.block_lt_of_cell? w _ hx118_0)).trans hx118_0
                        replace hx118_1 := (HB.out.cell (World.block_lt_of_cell? w _ hx118_1)).trans hx118_1
                        replace hx118_2 := (HB.out.cell (World.block_lt_of_cell? w _ hx118_2)).trans hx118_2
                        replace p118 := eq_true p118
                        replace q118 := eq_true q118
                        go_wp2
                        repeat (go_quiet (fail); try go_wp2)
                        go_ret
                        exact ⟨by first | rfl | (simp [errW_none, errW_some] <;> rfl) | (simp only [← hji15]; first | rfl | (simp [errW_none, errW_some] <;> rfl)) | (simp [*, errW_none, errW_some] <;> rfl), by repeat (first | (with_reducible first | exact HB.out | apply below_alloc | apply pw_below_drewN | apply below_drew1) | exact HB.out)⟩
                    · rw [if_neg c18] at H
                      exact absurd H (by simp)
                  · rw [if_neg c17] at H
                    exact absurd H (by simp)
                · rw [if_neg c16] at H
                  exact absurd H (by simp)
              · rw [if_neg c14] at H
                have c14b0 : decide (x6_2 < (l0.length : Int)) = false := decide_eq_false c14
                clear c14
                obtain rfl := Option.some.inj H
                go_wp2
                repeat (go_quiet (fail); try go_wp2)
                go_ret
                exact ⟨by first | rfl | (simp [errW_none, errW_some] <;> rfl) | (simp [*, errW_none, errW_some] <;> rfl), by repeat (first | (with_reducible first | exact HB.out | apply below_alloc | apply pw_below_drewN | apply below_drew1) | exact HB.out)⟩

/-! ### api_Macro_33: function 33 -/
open Go.Proofs.Ytodogppelokapaa.Ext
theorem infoE30 : (Try.prog.info? 30).map (fun i => (i.zero, i.size, i.bytes)) = some (some (.agg #[.string ByteArray.empty, .string ByteArray.empty, .int .i64 0]), 3, 40) := by kernel_rfl

set_option maxHeartbeats 400000 in
set_option maxRecDepth 100000 in
theorem clone30 (A : Option Addr) (c : Nat) (l : List S30) (w : World) (hr : Kd.C k30 w A l.length l) (hl : l.length * 40 ≤ 140737488355328) :
    Calls Try.prog 33 #[.slice A l.length c] w fun e w' => ∃ v, e = .returned v ∧ Kd.R k30 30 w' w.heap.size (fun _ => True) v l ∧ Below w.heap.size w w' := by
  cases A with
  | none =>
    obtain rfl : l = [] := by
      cases l with
      | nil => rfl
      | cons x xs => obtain ⟨ad, h, _⟩ := hr.2.2 (by simp); cases h
    have q22 : ∀ (w : World) (a : Option Addr) (n c n' c' : Nat), (binOp .eql 22 (.slice a n c) (.slice none n' c')).run Try.prog w = .ok (.bool a.isNone) w := fun w a n c n' c' => Lib.run_eql_slice_nil w _ _ a n c n' c' Try.underlying22
    go_enter Try.func33, Try.ntmps33
    go_wp2
    go_ret
    exact ⟨_, rfl, Kd.R_nil _ _ _ _ _, Below.refl _ _⟩
  | some ad =>
    have q22 : ∀ (w : World) (a : Option Addr) (n c n' c' : Nat), (binOp .eql 22 (.slice a n c) (.slice none n' c')).run Try.prog w = .ok (.bool a.isNone) w := fun w a n c n' c' => Lib.run_eql_slice_nil w _ _ a n c n' c' Try.underlying22
    have HR := Aside0.mk hr
    clear hr
    go_enter Try.func33, Try.ntmps33
    go_wp2_with (at_builtin; (refine Kd.R_append_rows (w0 := w) (Rr := k30.K w) k30 w.heap.size rfl (.tmp 5) (.tmp 6) 22 30 _ 40 rfl Try.underlying22 infoE30 rfl (by decide) (by decide) (.slice (some ⟨w.heap.size, 0, none⟩) 0 0) [] l (some ad) l.length c (fun _ => True) (fun _ => False) rfl rfl ?HO ?HR ?hKM ?hokp ?hfresh ?HB ?hbase ?hl ?_); (case HO => exact ⟨fun _ _ => trivial, [], World.ownsRow_made w #[] 0 (Nat.le_refl _) (Nat.zero_le _) (by simp), Reps.none _ _⟩); (case HR => exact ReadsRow.imp_ HR.out (below_alloc (Below.refl _ _) _) (fun _ _ h => h)); (case hKM => intro x cs h; rw [k30_open h]; exact k30_mkM _ _ _ _); (case hokp => exact fun _ h => h.elim); (case hfresh => exact fun _ _ => trivial); (case HB => exact below_alloc (Below.refl _ _) _); (case hbase => simp); (case hl => simpa using hl); intro v1 w1 hR1 hB1 _ _; rw [List.nil_append] at hR1)
    go_ret
    exact ⟨_, rfl, hR1, hB1⟩

def api_Macro_33.f (l0 : List S30) : Option (List S30) := if l0.length < 3518437208883 then some l0 else none
theorem api_Macro_33.calls (A0 : Option Addr) (c0 : Nat) (l0 : List S30) (r : List S30) (w : World) (hr0 : Kd.C k30 w A0 l0.length l0) (hc0 : l0.length ≤ c0) (h : api_Macro_33.f l0 = some r) :
    Calls Try.prog 33 #[.slice A0 l0.length c0] w fun e w' => ∃ v0_ : Value, e = .returned (v0_) ∧ Kd.R k30 30 w' w.heap.size (fun _ => True) v0_ r ∧ Below w.heap.size w w' := by
  unfold api_Macro_33.f at h
  split at h
  · obtain rfl := Option.some.inj h
    exact clone30 A0 c0 l0 w hr0 (by omega)
  · cases h

/-! ### api_Macro_47: function 47 -/
open Go.Proofs.Ytodogppelokapaa.Ext
def mcmp (s : ByteArray) (x : S30) : Int := Lib.compareBytes x.f0.data.toList s.data.toList
def mAt (l : List S30) (s : ByteArray) : Int := bend (mcmp s) (rd_T30 l) l.length
def mThere (l : List S30) (s : ByteArray) : Bool := decide (mAt l s < l.length) && mcmp s (rd_T30 l (mAt l s)) == 0
theorem bn (x : S30) (s t1 : ByteArray) (t2 : Int) (w : World) :
    Calls Try.prog 29 #[.agg #[.string x.f0, .string x.f1, .int .i64 x.f2], .agg #[.string s, .string t1, .int .i64 t2]] w fun e w' => e = .returned (.int .i64 (mcmp s x)) ∧ Below w.heap.size w w' :=
  macro_byName.calls x.f0 x.f1 x.f2 s t1 t2 (mcmp s x) w rfl
set_option maxHeartbeats 8000000 in
set_option maxRecDepth 100000 in
theorem bsf (A : Option Addr) (c : Nat) (l : List S30) (s t1 : ByteArray) (t2 : Int) (w : World) (hr : Kd.C k30 w A l.length l) (hc : l.length ≤ c) (hl : (l.length : Int) ≤ 9223372036854775807) :
    Calls Try.prog 47 #[.slice A l.length c, .agg #[.string s, .string t1, .int .i64 t2], .func (.func 29) #[] #[]] w fun e w' => e = .returned (.tuple #[.int .i64 (mAt l s), .bool (mThere l s)]) ∧ Below w.heap.size w w' := by
  have hN : (w.alloc (.cells #[.string s, .string t1, .int .i64 t2] 30)).heap[w.heap.size]? = some (.cells #[.string s, .string t1, .int .i64 t2] 30) := heap_alloc_new w _
  have q0 : (w.alloc (.cells #[.string s, .string t1, .int .i64 t2] 30)).cell? ⟨w.heap.size, 0, none⟩ = some (.string s) := (fun (W : World) (h : W.heap[w.heap.size]? = some (.cells #[.string s, .string t1, .int .i64 t2] 30)) => (by simp [World.cell?, h] : W.cell? ⟨w.heap.size, 0, none⟩ = some (.string s))) _ hN
  have q1 : (w.alloc (.cells #[.string s, .string t1, .int .i64 t2] 30)).cell? ⟨w.heap.size, 1, none⟩ = some (.string t1) := (fun (W : World) (h : W.heap[w.heap.size]? = some (.cells #[.string s, .string t1, .int .i64 t2] 30)) => (by simp [World.cell?, h] : W.cell? ⟨w.heap.size, 1, none⟩ = some (.string t1))) _ hN
  have q2 : (w.alloc (.cells #[.string s, .string t1, .int .i64 t2] 30)).cell? ⟨w.heap.size, 2, none⟩ = some (.int .i64 t2) := (fun (W : World) (h : W.heap[w.heap.size]? = some (.cells #[.string s, .string t1, .int .i64 t2] 30)) => (by simp [World.cell?, h] : W.cell? ⟨w.heap.size, 2, none⟩ = some (.int .i64 t2))) _ hN
  have hBW : Below w.heap.size w (w.alloc (.cells #[.string s, .string t1, .int .i64 t2] 30)) := (Below.refl _ _).alloc (Nat.le_refl _) _
  have hrW : Kd.C k30 (w.alloc (.cells #[.string s, .string t1, .int .i64 t2] 30)) A l.length l := Kd.C_alloc hr _
  clear hN
  go_enter Try.func47, Try.ntmps47
  go_wp2_with fail
  go_loopw [9, 10] (fun vi vj wr => ∃ i j : Int, 0 ≤ i ∧ i ≤ j ∧ j ≤ l.length ∧ vi = .int .i64 i ∧ vj = .int .i64 j ∧ (∃ d : Nat, j - i ≤ d ∧ bsearch (mcmp s) (rd_T30 l) d i j = mAt l s) ∧ Below (w.alloc (.cells #[.string s, .string t1, .int .i64 t2] 30)).heap.size (w.alloc (.cells #[.string s, .string t1, .int .i64 t2] 30)) wr) (fun vi vj _ => (intOf vj - intOf vi).toNat)
  case atStart => exact ⟨0, l.length, by omega, by omega, by omega, rfl, rfl, ⟨l.length, by omega, rfl⟩, Below.refl _ _⟩
  case round =>
    obtain ⟨i, j, hi, hij, hj, rfl, rfl, hb, hB⟩ := hrel
    by_cases hlt : i < j
    · have hw2 := wrap_half i j hi hij (by omega)
      obtain ⟨m, hm⟩ : ∃ m : Int, (i + j) / 2 = m := ⟨_, rfl⟩
      rw [hm] at hw2
      have p : 0 ≤ m := by omega
      have q : m < (l.length : Int) := by omega
      obtain ⟨ad, rfl, h0, h1, h2⟩ := at_T30 hrW m p q
      obtain ⟨d, hd, hb⟩ := hb
      obtain ⟨d, rfl⟩ : ∃ d', d = d' + 1 := ⟨d - 1, by omega⟩
      simp only [bsearch] at hb
      rw [if_pos hlt, hm] at hb
      have im : i ≤ m := by omega
      have mj : m < j := by omega
      have hd2 : j - (m + 1) ≤ d := by omega
      have hd3 : m - i ≤ d := by omega
      clear hm hd
      replace h0 := (hB.cell (World.block_lt_of_cell? _ _ h0)).trans h0
      replace h1 := (hB.cell (World.block_lt_of_cell? _ _ h1)).trans h1
      replace h2 := (hB.cell (World.block_lt_of_cell? _ _ h2)).trans h2
      have t0_ := (hB.cell (World.block_lt_of_cell? _ _ q0)).trans q0
      have t1_ := (hB.cell (World.block_lt_of_cell? _ _ q1)).trans q1
      have t2_ := (hB.cell (World.block_lt_of_cell? _ _ q2)).trans q2
      by_cases hneg : mcmp s (rd_T30 l m) < 0
      · rw [if_pos hneg] at hb
        have Hb := Lib.hid hb
        clear hb
        have hneg' : decide (mcmp s (rd_T30 l m) < 0) = true := decide_eq_true hneg
        clear hneg
        go_wp2_with fail
        go_region_held3 (fun w' => w'.cell? (ad.add (m.toNat * 3)) = some (.string (rd_T30 l m).f0) ∧ w'.cell? ⟨(ad.add (m.toNat * 3)).block, (ad.add (m.toNat * 3)).off + 1, none⟩ = some (.string (rd_T30 l m).f1) ∧ w'.cell? ⟨(ad.add (m.toNat * 3)).block, (ad.add (m.toNat * 3)).off + 2, none⟩ = some (.int .i64 (rd_T30 l m).f2) ∧ w'.cell? ⟨w.heap.size, 0, none⟩ = some (.string s) ∧ w'.cell? ⟨w.heap.size, 1, none⟩ = some (.string t1) ∧ w'.cell? ⟨w.heap.size, 2, none⟩ = some (.int .i64 t2)) (first | go_keep | (go_split_ands; refine ⟨?_, ?_, ?_, ?_, ?_, ?_⟩ <;> (refine (hb1.cell (World.block_lt_of_cell? _ _ (by assumption))).trans ?_; assumption))) (first | (go_at_call 29; refine (bn (rd_T30 l m) s t1 t2 _).mono ?_; rintro e w' ⟨rfl, hb1⟩))
        all_goals go_wp2_with fail
        all_goals go_roundw
        all_goals first | exact ⟨m + 1, j, by omega, by omega, by omega, rfl, rfl, ⟨d, hd2, Hb.out⟩, (below_step hB.drew hb1)⟩ | (simp [intOf]; omega)
      · rw [if_neg hneg] at hb
        have Hb := Lib.hid hb
        clear hb
        have hneg' : decide (mcmp s (rd_T30 l m) < 0) = false := decide_eq_false hneg
        clear hneg
        go_wp2_with fail
        go_region_held3 (fun w' => w'.cell? (ad.add (m.toNat * 3)) = some (.string (rd_T30 l m).f0) ∧ w'.cell? ⟨(ad.add (m.toNat * 3)).block, (ad.add (m.toNat * 3)).off + 1, none⟩ = some (.string (rd_T30 l m).f1) ∧ w'.cell? ⟨(ad.add (m.toNat * 3)).block, (ad.add (m.toNat * 3)).off + 2, none⟩ = some (.int .i64 (rd_T30 l m).f2) ∧ w'.cell? ⟨w.heap.size, 0, none⟩ = some (.string s) ∧ w'.cell? ⟨w.heap.size, 1, none⟩ = some (.string t1) ∧ w'.cell? ⟨w.heap.size, 2, none⟩ = some (.int .i64 t2)) (first | go_keep | (go_split_ands; refine ⟨?_, ?_, ?_, ?_, ?_, ?_⟩ <;> (refine (hb1.cell (World.block_lt_of_cell? _ _ (by assumption))).trans ?_; assumption))) (first | (go_at_call 29; refine (bn (rd_T30 l m) s t1 t2 _).mono ?_; rintro e w' ⟨rfl, hb1⟩))
        all_goals go_wp2_with fail
        all_goals go_roundw
        all_goals first | exact ⟨i, m, by omega, by omega, by omega, rfl, rfl, ⟨d, hd3, Hb.out⟩, (below_step hB.drew hb1)⟩ | (simp [intOf]; omega)
    · obtain ⟨d, hd, hb⟩ := hb
      rw [bsearch_end _ _ _ _ _ hlt] at hb
      have Hb := Lib.hid hb
      clear hb
      by_cases hn : i < (l.length : Int)
      · obtain ⟨ad, rfl, h0, h1, h2⟩ := at_T30 hrW i hi hn
        replace h0 := (hB.cell (World.block_lt_of_cell? _ _ h0)).trans h0
        replace h1 := (hB.cell (World.block_lt_of_cell? _ _ h1)).trans h1
        replace h2 := (hB.cell (World.block_lt_of_cell? _ _ h2)).trans h2
        have t0_ := (hB.cell (World.block_lt_of_cell? _ _ q0)).trans q0
        have t1_ := (hB.cell (World.block_lt_of_cell? _ _ q1)).trans q1
        have t2_ := (hB.cell (World.block_lt_of_cell? _ _ q2)).trans q2
        go_wp2_with fail
        go_region_held3 (fun w' => w'.cell? (ad.add (i.toNat * 3)) = some (.string (rd_T30 l i).f0) ∧ w'.cell? ⟨(ad.add (i.toNat * 3)).block, (ad.add (i.toNat * 3)).off + 1, none⟩ = some (.string (rd_T30 l i).f1) ∧ w'.cell? ⟨(ad.add (i.toNat * 3)).block, (ad.add (i.toNat * 3)).off + 2, none⟩ = some (.int .i64 (rd_T30 l i).f2) ∧ w'.cell? ⟨w.heap.size, 0, none⟩ = some (.string s) ∧ w'.cell? ⟨w.heap.size, 1, none⟩ = some (.string t1) ∧ w'.cell? ⟨w.heap.size, 2, none⟩ = some (.int .i64 t2)) (first | go_keep | (go_split_ands; refine ⟨?_, ?_, ?_, ?_, ?_, ?_⟩ <;> (refine (hb1.cell (World.block_lt_of_cell? _ _ (by assumption))).trans ?_; assumption))) (first | (go_at_call 29; refine (bn (rd_T30 l i) s t1 t2 _).mono ?_; rintro e w' ⟨rfl, hb1⟩))
        all_goals go_wp2_with fail
        all_goals go_ret2
        all_goals exact ⟨ret2_eq Hb.out (by rw [Hb.out] at hn ⊢; unfold mThere; rw [decide_eq_true hn]; rfl), below_step hBW (below_step hB.drew hb1)⟩
      · have t0_ := (hB.cell (World.block_lt_of_cell? _ _ q0)).trans q0
        have hg : decide (i < (l.length : Int)) = false := decide_eq_false hn
        have hg2 : (i < (l.length : Int)) = False := eq_false hn
        go_wp2_with fail
        go_region
        all_goals go_wp2_with fail
        all_goals go_ret2
        all_goals exact ⟨ret2_eq Hb.out (by rw [Hb.out] at hn; unfold mThere; rw [decide_eq_false (Int.not_lt.mpr hn)]; rfl), by first | exact below_step hBW hB | exact below_step hBW hB.drew⟩

def api_Macro_47.f (l0 : List S30) (a1_0 : ByteArray) (a1_1 : ByteArray) (a1_2 : Int) : Option (Int × Bool) := some (mAt l0 a1_0, mThere l0 a1_0)
theorem api_Macro_47.calls (A0 : Option Addr) (c0 : Nat) (l0 : List S30) (a1_0 : ByteArray) (a1_1 : ByteArray) (a1_2 : Int) (r1 : Int) (r2 : Bool) (w : World) (hr0 : Kd.C k30 w A0 l0.length l0) (hc0 : l0.length ≤ c0) (h : api_Macro_47.f l0 a1_0 a1_1 a1_2 = some (r1, r2)) :
    Calls Try.prog 47 #[.slice A0 l0.length c0, .agg #[.string a1_0, .string a1_1, .int .i64 a1_2], .func (.func 29) #[] #[]] w fun e w' => e = .returned (.tuple #[.int .i64 r1, .bool r2]) ∧ Below w.heap.size w w' := by
  have h' := Option.some.inj h
  rw [Prod.mk.injEq] at h'
  obtain ⟨rfl, rfl⟩ := h'
  have hl : (l0.length : Int) ≤ 9223372036854775807 := by have := hr0.2.1; omega
  exact bsf A0 c0 l0 a1_0 a1_1 a1_2 w hr0 hc0 hl

/-! ### macro_find: function 34 -/
def macro_find.f (l0 : List (S30)) (a1 : ByteArray) : Option (Int × Bool) := (api_Macro_47.f l0 a1 (⟨#[]⟩ : ByteArray) 0).bind fun bt119 => (some (bt119.1, bt119.2))
set_option maxHeartbeats 8000000 in
set_option maxRecDepth 100000 in
theorem macro_find.calls (A0 : Option Addr) (c0 : Nat) (l0 : List (S30)) (a1 : ByteArray) (r1 : Int) (r2 : Bool) (w : World) (hr0 : Kd.C k30 w A0 l0.length l0) (hc0 : l0.length ≤ c0) (h : macro_find.f l0 a1 = some (r1, r2)) :
    Calls Try.prog 34 #[.slice A0 l0.length c0, .string a1] w fun e w' => e = .returned (.tuple #[.int .i64 r1, .bool r2]) ∧ Below w.heap.size w w' := by
  have hu30 := Try.underlying30
  have HR0 := Aside0.mk hr0
  have HC0 := Aside0.mk hc0
  clear hr0 hc0
  have HB := Aside0.mk (Below.refl w.heap.size w)
  have H : ((api_Macro_47.f l0 a1 (⟨#[]⟩ : ByteArray) 0).bind fun bt119 => (some (bt119.1, bt119.2))) = some (r1, r2) := h
  clear h
  replace H := Option.bind_eq_some_iff.mp H
  obtain ⟨⟨t119, t120⟩, A30, H⟩ := H
  replace H : (some (t119, t120)) = some (r1, r2) := H
  have A3 := Aside0.mk A30
  clear A30
  simp only [Option.some.injEq, Prod.mk.injEq] at H
  obtain ⟨rfl, rfl⟩ := H
  go_enter Try.func34, Try.ntmps34
  go_wp2_with (first | ((with_reducible refine gate_callee (f := 47) rfl ?_); refine goesL_ (some 9) rfl rfl Try.func47 (by kernel_rfl) rfl #[.slice A0 l0.length c0, .agg #[.string a1, .string (⟨#[]⟩ : ByteArray), .int .i64 0], .func (.func 29) #[] #[]] rfl (by (try simp only [List.map_toArray, List.map_cons, List.map_nil]); first | done | rfl | (simp only [List.length_drop, List.length_take]; rfl)) ?_; (with_reducible refine (api_Macro_47.calls _ _ l0 a1 (⟨#[]⟩ : ByteArray) 0 t119 t120 _ ?side1 ?side2 A3.out).mono ?_); (case side1 => repeat (first | exact HR0.out | (with_reducible refine Kd.C_alloc ?_ _) | (with_reducible refine Kd.C_drewN ?_ _) | (with_reducible refine Kd.C_drew ?_))); (case side2 => exact HC0.out); rintro e w4 ⟨rfl, hb⟩; refine ⟨_, rfl, ?_⟩; have n0_ := Aside0.mk (below_step (by repeat (first | (with_reducible first | exact HB.out | apply below_alloc | apply pw_below_drewN | apply below_drew1) | exact HB.out)) hb); clear HB; have HB := n0_; clear n0_; (try clear hb); (try clear hb2); (try clear hk); (try clear hi)))
  go_ret2
  exact ⟨by first | rfl | (simp [errW_none, errW_some] <;> rfl) | (simp [*, errW_none, errW_some] <;> rfl), by repeat (first | (with_reducible first | exact HB.out | apply below_alloc | apply pw_below_drewN | apply below_drew1) | exact HB.out)⟩

/-! ### api_Macro_35: function 35 -/
open Go.Proofs.Ytodogppelokapaa.Ext
theorem sizeE30 : (Try.prog.info? 30).map (·.size) = some 3 := by kernel_rfl
set_option maxHeartbeats 1000000 in
set_option maxRecDepth 100000 in
theorem insert_shift30 (g n c i vb vc : Nat) (cur Y YC : List Value) (w : World) (hi : i < n) (hroom : n + 1 ≤ c) (hc63 : c ≤ 9223372036854775807) (hvb : vb ≠ g) (hsz : cur.length = c * 3) (hY : Y.length = 3)
    (hg : w.heap[g]? = some (.cells cur.toArray 30 (0, 0))) (hv : w.heap[vb]? = some (.cells YC.toArray 30 (0, 0))) (hYC : YC.take 3 = Y)
    (h1 : ∀ u ∈ (cur.drop (i * 3)).take ((n - i) * 3), u.oneCell' = true) (h1Y : ∀ u ∈ Y, u.oneCell' = true) :
    Calls Try.prog 35 #[.slice (some ⟨g, 0, none⟩) n c, .int .i64 i, .slice (some ⟨vb, 0, none⟩) 1 vc] w fun e w' =>
      e = .returned (.slice (some ⟨g, 0, none⟩) (n + 1) c) ∧ w'.heap[g]? = some (.cells (splice (splice cur ((i + 1) * 3) ((cur.drop (i * 3)).take ((n - i) * 3))) (i * 3) Y).toArray 30 (0, 0)) ∧ w.grownBy w' (some g) := by
  have hYC' := hYC
  have hz2 : ¬ ((i : Int) = (n : Int)) := by omega
  have hsh : w.shape? g = some (30, cur.length) := by simp [World.shape?, hg]
  have hshv : w.shape? vb = some (30, YC.length) := by simp [World.shape?, hv]
  have hov : ∀ lb cb, (callFunc 48 #[.slice (some ⟨vb, 0, none⟩) 1 vc, .slice (some ⟨g, (i + 1) * 3, none⟩) lb cb]).run Try.prog w = .ok (.value (.bool false)) w := fun lb cb => by
    rw [run_callFunc_extern Try.func48 (by kernel_rfl) (by kernel_rfl) (by kernel_rfl) (e := Extern.SlicesOverlaps.overlaps #[22, 22] #[4]) (by kernel_rfl),
      Lib.run_overlaps_apart w 22 4 30 Try.underlying22 3 Try.sizeOf30 ⟨vb, 0, none⟩ ⟨g, (i + 1) * 3, none⟩ 1 vc lb cb hvb 30 30 YC.length cur.length hshv hsh (by omega) (by simp [World.frozen?, hv]) (by simp [World.frozen?, hv])]
    rfl
  have hcs : ((cur.drop (i * 3)).take ((n - i) * 3)).length = (n - i) * 3 := by rw [List.length_take, List.length_drop, hsz]; omega
  have hmin : Nat.min (n + 1 - i) (n - i) = n - i := by simp only [Nat.min_def]; split <;> omega
  have hmin2 : Nat.min 1 (n + 1 - i) = 1 := by simp only [Nat.min_def]; split <;> omega
  have hw1 : IntKind.i64.wrap ((i : Int) + 1) = (i : Int) + 1 := by rw [IntKind.wrap_i64]; omega
  have hb1 : (0 : Int) ≤ (i : Int) + 1 := by omega
  have htn : ((i : Int) + 1).toNat = i + 1 := by omega
  have hb2 : ¬ (c = i + 1) := by omega
  have hb4 : ¬ (c = i) := by omega
  have hb3 : (i : Int) ≤ (n : Int) + 1 := by omega
  have hin : i ≤ n := by omega
  obtain ⟨cs1, hcs1⟩ : ∃ x, (cur.drop (i * 3)).take ((n - i) * 3) = x := ⟨_, rfl⟩
  rw [hcs1] at hcs ⊢
  have hsrc : ∀ j v, cs1[j]? = some v → w.cell? ((⟨g, i * 3, none⟩ : Addr).add j) = some v := by
    intro j v hj
    rw [← hcs1, List.getElem?_take] at hj
    split at hj
    · rw [List.getElem?_drop] at hj
      rw [Addr.add_lit]
      simp [World.cell?, hg, hj]
    · cases hj
  have h1c : ∀ v ∈ cs1, v.oneCell' = true := fun v hv => h1 v (by rw [hcs1]; exact hv)
  have hfit : (i + 1) * 3 + cs1.length ≤ cur.length := by omega
  obtain ⟨cur2, hcur2⟩ : ∃ x, splice cur ((i + 1) * 3) cs1 = x := ⟨_, rfl⟩
  have hlen2 : cur2.length = cur.length := by rw [← hcur2]; exact length_splice _ _ _ hfit
  have HC := Lib.hid hcs1
  have HH := Lib.hid hcur2
  have HG := Lib.hid hg
  have HV := Lib.hid hv
  have HS := Lib.hid hsz
  have HL := Lib.hid hlen2
  have HN := Lib.hid hcs
  have HY := Lib.hid hY
  clear hcs1 hcur2 hg hv hsz hlen2 hsh hshv hcs hY
  have HYC := Lib.hid hYC
  clear hYC hYC'
  go_enter Try.func35, Try.ntmps35
  go_wp2_with (simp only [hov])
  go_region_law ((refine step_copy_K w.drew rfl (.tmp 73) (.tmp 76) 22 22 rfl 30 Try.underlying22 3 sizeE30 g ((i + 1) * 3) (n - i) (c - (i + 1)) ⟨g, i * 3, none⟩ (n + 1 - i) (c - i) ?d1 ?d2 cur 30 HG.out cs1 (n - i) hmin HN.out hsrc hfit h1c ?_); (case d1 => simp [Act.eval, Act.put]); (case d2 => simp [Act.eval, Act.put]))
  obtain ⟨W1, hW1⟩ : ∃ W1, w.drew.setRow g (splice cur ((i + 1) * 3) cs1).toArray = W1 := ⟨_, rfl⟩
  have hg1 : W1.heap[g]? = some (.cells cur2.toArray 30 (0, 0)) := by rw [← hW1, ← HH.out]; exact setRow_heap w.drew g _ _ 30 _ HG.out
  have hv1 : W1.heap[vb]? = some (.cells YC.toArray 30 (0, 0)) := by rw [← hW1, setRow_other w.drew g vb _ hvb]; exact HV.out
  have hB1 : w.grownBy W1 (some g) := by rw [← hW1]; exact grown_setRow (grown_drew (grown_refl _ _)) _
  rw [hW1]
  clear hW1
  have hsrcY : ∀ j v, Y[j]? = some v → W1.cell? ((⟨vb, 0, none⟩ : Addr).add j) = some v := by
    intro j v hj
    rw [Addr.add_lit]
    have hj' : YC[j]? = some v := by
      rw [← HYC.out, List.getElem?_take] at hj
      split at hj
      · exact hj
      · cases hj
    simp [World.cell?, hv1, hj']
  have HG1 := Lib.hid hg1
  clear hg1 hv1
  go_wp2_with (with_reducible refine wpList_copy_K W1 rfl (.tmp 80) (.tmp 81) 22 22 rfl 30 Try.underlying22 3 sizeE30 g (i * 3) (n + 1 - i) (c - i) ⟨vb, 0, none⟩ 1 vc rfl rfl cur2 30 HG1.out Y 1 hmin2 HY.out hsrcY ?hfit2 h1Y ?_; (case hfit2 => rw [HL.out, HY.out, HS.out]; omega))


  go_ret
  exact ⟨rfl, by rw [HH.out]; exact setRow_heap W1 g _ _ 30 _ HG1.out, grown_setRow hB1 _⟩

set_option maxHeartbeats 1000000 in
set_option maxRecDepth 100000 in
theorem insert_grow30 (g n c i vb vc : Nat) (cur Y YC : List Value) (w : World) (hi : i < n) (hnc : n ≤ c) (hroom : c < n + 1) (hc63 : c ≤ 9223372036854775807) (hbig : (n + 1) * 40 ≤ 140737488355328) (hvb : vb ≠ g) (hsz : cur.length = c * 3) (hY : Y.length = 3)
    (hg : w.heap[g]? = some (.cells cur.toArray 30 (0, 0))) (hv : w.heap[vb]? = some (.cells YC.toArray 30 (0, 0))) (hYC : YC.take 3 = Y)
    (h1 : ∀ u ∈ (cur.drop (i * 3)).take ((n - i) * 3), u.oneCell' = true) (h1Y : ∀ u ∈ Y, u.oneCell' = true) :
    Calls Try.prog 35 #[.slice (some ⟨g, 0, none⟩) n c, .int .i64 i, .slice (some ⟨vb, 0, none⟩) 1 vc] w fun e w' =>
      ∃ G ROW, e = .returned (.slice (some ⟨w.heap.size, 0, none⟩) (n + 1) G) ∧ n + 1 ≤ G ∧ G ≤ maxLen ∧ ROW.length = G * 3 ∧ ROW.take (i * 3) = cur.take (i * 3) ∧ w'.heap[w.heap.size]? = some (.cells (splice (splice ROW (i * 3) Y) ((i + 1) * 3) ((cur.drop (i * 3)).take ((n - i) * 3))).toArray 30 (0, 0)) ∧ Below w.heap.size w w' := by
  have hYC' := hYC
  have hz2 : ¬ ((i : Int) = (n : Int)) := by omega
  have hz3 : (c : Int) < (n : Int) + 1 := by omega
  obtain ⟨i0, hi0, hzz⟩ := Option.map_eq_some_iff.1 infoE30
  simp only [Prod.mk.injEq] at hzz
  obtain ⟨hz0, hzs, hzb⟩ := hzz
  have hgw : g < w.heap.size := (Array.getElem?_eq_some_iff.1 hg).1
  have hvw : vb < w.heap.size := (Array.getElem?_eq_some_iff.1 hv).1
  have hkk : (n : Int) + 1 - (i : Int) = ((n + 1 - i : Nat) : Int) := by omega
  have hik : i + (n + 1 - i) = n + 1 := by omega
  have htl : (cur.take (i * 3)).length = i * 3 := by rw [List.length_take]; omega
  have hold : (Builtin.firstCells i0.size i (.slice (some ⟨g, 0, none⟩) i c)).run Try.prog w.drew = .ok (cur.take (i * 3)).toArray w.drew := by
    have hl := run_loadCells_list (P := Try.prog) w.drew ⟨g, 0, none⟩ (cur.take (i * 3)) (fun j v hj => by
      rw [Addr.add_lit]
      rw [List.getElem?_take] at hj
      split at hj
      · simp only [World.cell?]
        have hgd : w.drew.heap[g]? = some (.cells cur.toArray 30 (0, 0)) := hg
        simp [hgd, hj]
      · cases hj)
    rw [htl] at hl
    rw [hzs]
    simp [Builtin.firstCells, hl]
  have hrz : ∀ ty, (Builtin.append_ #[22, 3] ty #[.slice (some ⟨g, 0, none⟩) i c, .int .i64 ((n : Int) + 1 - (i : Int))]).run Try.prog w =
      .ok (.slice (some ⟨w.heap.size, 0, none⟩) (n + 1) (grownCap w (n + 1) c 30)) (w.drew.alloc (.cells ((cur.take (i * 3)).toArray ++ Builtin.zeroCells (Value.agg #[.string ByteArray.empty, .string ByteArray.empty, .int .i64 0]).cells (n + 1 - i) ++ Builtin.zeroCells (Value.agg #[.string ByteArray.empty, .string ByteArray.empty, .int .i64 0]).cells (grownCap w (n + 1) c 30 - (n + 1))) 30)) := fun ty => by
    have h := Lib.run_append_grow_zeros w 22 3 ty 30 i0 _ .i64 .i64 Try.underlying22 Try.underlying3 hi0 hz0 (some ⟨g, 0, none⟩) i c (cur.take (i * 3)) hold (n + 1 - i) (by omega) (by omega) (by omega) (by omega) (by rw [hzb]; omega) (by rw [hzb, hik]; exact growslice_fits hroom hbig)
    rw [hik] at h
    rw [hkk]
    exact h
  obtain ⟨G, hG⟩ : ∃ G, G = grownCap w (n + 1) c 30 := ⟨_, rfl⟩
  rw [← hG] at hrz
  have hGn : n + 1 ≤ G := by rw [hG]; exact grownCap_ge w _ _ _
  have hGm : G ≤ maxLen := by rw [hG]; exact grownCap_le_maxLen w (n + 1) c 30 (by unfold maxLen; omega)
  have hG63 : G ≤ 9223372036854775807 := by unfold maxLen at hGm; omega
  obtain ⟨ROW, hROW⟩ : ∃ ROW : List Value, ROW.toArray = (cur.take (i * 3)).toArray ++ Builtin.zeroCells (Value.agg #[.string ByteArray.empty, .string ByteArray.empty, .int .i64 0]).cells (n + 1 - i) ++ Builtin.zeroCells (Value.agg #[.string ByteArray.empty, .string ByteArray.empty, .int .i64 0]).cells (G - (n + 1)) := ⟨_, Array.toArray_toList⟩
  rw [← hROW] at hrz
  have hz3c : ∀ m, (Builtin.zeroCells (Value.agg #[.string ByteArray.empty, .string ByteArray.empty, .int .i64 0]).cells m).size = m * 3 := fun m => by simp [Builtin.zeroCells, Value.cells]
  have hRl : ROW.length = G * 3 := by
    have := congrArg Array.size hROW
    rw [Array.size_append, Array.size_append, hz3c, hz3c] at this
    simp only [List.size_toArray, htl] at this
    omega
  have hRt : ROW.take (i * 3) = cur.take (i * 3) := by
    have := congrArg Array.toList hROW
    simp only [Array.toList_append, List.append_assoc] at this
    rw [this, List.take_append_of_le_length (by rw [htl]; exact Nat.le_refl _)]
    exact List.take_of_length_le (by rw [htl]; exact Nat.le_refl _)
  clear hROW hold
  obtain ⟨W1, hW1⟩ : ∃ W1, w.drew.alloc (.cells ROW.toArray 30) = W1 := ⟨_, rfl⟩
  have hB1 : Below w.heap.size w W1 := by rw [← hW1]; exact below_alloc (below_drew (Below.refl _ _)) _
  have hg1 : W1.heap[g]? = some (.cells cur.toArray 30 (0, 0)) := by rw [hB1.block g hgw]; exact hg
  have hv1 : W1.heap[vb]? = some (.cells YC.toArray 30 (0, 0)) := by rw [hB1.block vb hvw]; exact hv
  have hN1 : W1.heap[w.heap.size]? = some (.cells ROW.toArray 30 (0, 0)) := by rw [← hW1]; exact heap_alloc_new w.drew _
  rw [hW1] at hrz
  clear hW1
  have hcs : ((cur.drop (i * 3)).take ((n - i) * 3)).length = (n - i) * 3 := by rw [List.length_take, List.length_drop, hsz]; omega
  have hmin : Nat.min (n - i) (n - i) = n - i := by simp only [Nat.min_def]; split <;> omega
  have hmin2 : Nat.min 1 (n + 1 - i) = 1 := by simp only [Nat.min_def]; split <;> omega
  have hw1 : IntKind.i64.wrap ((i : Int) + 1) = (i : Int) + 1 := by rw [IntKind.wrap_i64]; omega
  have hb1 : (0 : Int) ≤ (i : Int) + 1 := by omega
  have htn : ((i : Int) + 1).toNat = i + 1 := by omega
  have hb2 : ¬ (G = i + 1) := by omega
  have hb4 : ¬ (G = i) := by omega
  have hb5 : ¬ (c = i) := by omega
  have hb3 : (i : Int) ≤ (n : Int) := by omega
  have hin : i ≤ n := by omega
  have hic : i ≤ c := by omega
  obtain ⟨cs1, hcs1⟩ : ∃ x, (cur.drop (i * 3)).take ((n - i) * 3) = x := ⟨_, rfl⟩
  rw [hcs1] at hcs
  have hsrcY : ∀ j v, Y[j]? = some v → W1.cell? ((⟨vb, 0, none⟩ : Addr).add j) = some v := by
    intro j v hj
    rw [Addr.add_lit]
    have hj' : YC[j]? = some v := by
      rw [← hYC', List.getElem?_take] at hj
      split at hj
      · exact hj
      · cases hj
    simp [World.cell?, hv1, hj']
  have h1c : ∀ v ∈ cs1, v.oneCell' = true := fun v hv => h1 v (by rw [hcs1]; exact hv)
  have hfitY : i * 3 + Y.length ≤ ROW.length := by omega
  have hfit1 : (i + 1) * 3 + cs1.length ≤ (splice ROW (i * 3) Y).length := by rw [length_splice _ _ _ hfitY]; omega
  obtain ⟨W2, hW2⟩ : ∃ W2, W1.setRow w.heap.size (splice ROW (i * 3) Y).toArray = W2 := ⟨_, rfl⟩
  have hN2 : W2.heap[w.heap.size]? = some (.cells (splice ROW (i * 3) Y).toArray 30 (0, 0)) := by rw [← hW2]; exact setRow_heap W1 _ _ _ 30 _ hN1
  have hg2 : W2.heap[g]? = some (.cells cur.toArray 30 (0, 0)) := by rw [← hW2, setRow_other W1 _ g _ (by omega)]; exact hg1
  have hB2 : Below w.heap.size w W2 := by rw [← hW2]; exact below_setRow hB1 (Nat.le_refl _) _
  have hsrc : ∀ j v, cs1[j]? = some v → W2.drew.cell? ((⟨g, i * 3, none⟩ : Addr).add j) = some v := by
    intro j v hj
    rw [← hcs1, List.getElem?_take] at hj
    split at hj
    · rw [List.getElem?_drop] at hj
      rw [Addr.add_lit]
      have hgd : W2.drew.heap[g]? = some (.cells cur.toArray 30 (0, 0)) := hg2
      simp [World.cell?, hgd, hj]
    · cases hj
  obtain ⟨cur2, hcur2⟩ : ∃ x, splice ROW (i * 3) Y = x := ⟨_, rfl⟩
  rw [hcur2] at hW2 hN2 hfit1
  have HN1 := Lib.hid hN1
  have HN2 := Lib.hid hN2
  have HC := Lib.hid hcs1
  have HU := Lib.hid hcur2
  have HL := Lib.hid hcs
  have HY := Lib.hid hY
  have HG := Lib.hid hG
  have HT := Lib.hid hRt
  have HR := Lib.hid hRl
  have HW := Lib.hid hW2
  clear hN1 hN2 hcs1 hcur2 hcs hY hG hRt hRl hW2 hi0 hz0 hzs hzb hg hv hg1 hv1 hg2 hsz hkk hik htl hYC hYC'
  go_enter Try.func35, Try.ntmps35
  go_wp2_with (first | (at_builtin; refine Lib.wpList_append_run _ rfl _ _ _ _ rfl _ _ rfl rfl _ _ (hrz _) ?_) | (with_reducible refine wpList_copy_K W1 rfl (.tmp 43) (.tmp 44) 22 22 rfl 30 Try.underlying22 3 sizeE30 w.heap.size (i * 3) (n + 1 - i) (G - i) ⟨vb, 0, none⟩ 1 vc rfl rfl ROW 30 HN1.out Y 1 hmin2 HY.out hsrcY hfitY h1Y ?_; rw [HU.out, HW.out]))
  go_region_law ((refine step_copy_K W2.drew rfl (.tmp 50) (.tmp 53) 22 22 rfl 30 Try.underlying22 3 sizeE30 w.heap.size ((i + 1) * 3) (n - i) (G - (i + 1)) ⟨g, i * 3, none⟩ (n - i) (c - i) ?d1 ?d2 cur2 30 HN2.out cs1 (n - i) hmin HL.out hsrc hfit1 h1c ?_); (case d1 => simp [Act.eval, Act.put]); (case d2 => simp [Act.eval, Act.put]))
  have hB3 : Below w.heap.size w (W2.drew.setRow w.heap.size (splice cur2 ((i + 1) * 3) cs1).toArray) := below_setRow (below_drew hB2) (Nat.le_refl _) _
  have hN3 : (W2.drew.setRow w.heap.size (splice cur2 ((i + 1) * 3) cs1).toArray).heap[w.heap.size]? = some (.cells (splice cur2 ((i + 1) * 3) cs1).toArray 30 (0, 0)) := setRow_heap W2.drew _ _ _ 30 _ HN2.out
  obtain ⟨W3, hW3⟩ : ∃ W3, W2.drew.setRow w.heap.size (splice cur2 ((i + 1) * 3) cs1).toArray = W3 := ⟨_, rfl⟩
  rw [hW3] at hB3 hN3 ⊢
  clear hW3
  have HN3 := Lib.hid hN3
  clear hN3
  go_wp2
  go_ret
  exact ⟨G, ROW, rfl, hGn, hGm, HR.out, HT.out, by rw [HU.out, HC.out]; exact HN3.out, hB3⟩

def enc30 (x : S30) : List Value := [.string x.f0, .string x.f1, .int .i64 x.f2]
theorem R30_open {w : World} {base : Nat} {ok : Nat → Prop} {v : Value} {l : List S30} (h : Kd.R k30 30 w base ok v l) : w.ownsRow base 30 3 v l.length (l.flatMap enc30) := by
  obtain ⟨_, inner, ho, hr⟩ := h
  rw [← reps_flat enc30 3 (fun _ => rfl) (fun p c h => k30_openM h) l inner hr]
  exact ho
theorem R30_mk {w : World} {base : Nat} {v : Value} {l : List S30} (h : w.ownsRow base 30 3 v l.length (l.flatMap enc30)) : Kd.R k30 30 w base (fun _ => True) v l :=
  ⟨fun _ _ => trivial, _, h, reps_of_flat enc30 3 (fun _ => rfl) (fun p => k30_mkM _ _ _ p) l⟩
theorem one30 (l : List S30) : ∀ u ∈ l.flatMap enc30, u.oneCell' = true := by
  intro u hu
  obtain ⟨x, _, hx⟩ := List.mem_flatMap.1 hu
  simp only [enc30, List.mem_cons, List.not_mem_nil, or_false] at hx
  rcases hx with rfl | rfl | rfl <;> rfl

set_option maxHeartbeats 1000000 in
set_option maxRecDepth 100000 in
theorem insert_end30 (v : Value) (l : List S30) (y : S30) (vb vc base : Nat) (w0 w : World) (hB : Below base w0 w) (hbase : base ≤ w.heap.size) (hR : Kd.R k30 30 w base (fun _ => True) v l)
    (hC : Kd.C k30 w (some ⟨vb, 0, none⟩) 1 [y]) (hl : (l.length + 1) * 40 ≤ 140737488355328) :
    Calls Try.prog 35 #[v, .int .i64 l.length, .slice (some ⟨vb, 0, none⟩) 1 vc] w fun e w' =>
      ∃ v', e = .returned v' ∧ Kd.R k30 30 w' base (fun _ => True) v' (l ++ [y]) ∧ Below base w0 w' ∧ w.grownBy w' v.ownBlock ∧ (v'.ownBlock = v.ownBlock ∨ ∃ b, v'.ownBlock = some b ∧ w.heap.size ≤ b) := by
  obtain ⟨A, c, rfl, hlc, hr⟩ := Kd.R_reads hR
  have HR := Aside0.mk hR
  have HC := Aside0.mk hC
  have hm : (l.length : Int) ≤ 9223372036854775807 := by omega
  have hcm : c ≤ 9223372036854775807 := by
    obtain ⟨_, inner, ho, _⟩ := hR
    rcases ho.2 with ⟨h, _⟩ | ⟨g, cap, cur, h, _, _, _, h2, _⟩
    · simp only [Value.slice.injEq] at h
      omega
    · simp only [Value.slice.injEq] at h
      rw [h.2.2]
      exact h2
  clear hR hC hr
  go_enter Try.func35, Try.ntmps35
  go_wp2_with (at_builtin; refine Kd.R_append_rows (w0 := w0) (Rr := k30.K w) k30 base rfl (.tmp 23) (.tmp 24) 22 30 _ 40 rfl Try.underlying22 infoE30 rfl (by decide) (by decide) (.slice A l.length c) l [y] (some ⟨vb, 0, none⟩) 1 vc (fun _ => True) (fun _ => False) rfl rfl HR.out HC.out ?hKM ?hokp ?hfresh hB hbase hl ?_; (case hKM => intro x cs h; rw [k30_open h]; exact k30_mkM _ _ _ _); (case hokp => exact fun _ h => h.elim); (case hfresh => exact fun _ _ => trivial); intro v1 w1 hR1 hB1 hG1 hO1; have HG1 := Aside0.mk hG1; have HO1 := Aside0.mk hO1; clear hG1 hO1)
  all_goals
    go_ret
    exact ⟨_, rfl, hR1, hB1, by first | exact HG1.out | (cases A <;> exact HG1.out), by first | exact HO1.out | (cases A <;> exact HO1.out)⟩

theorem insert30 (v : Value) (l : List S30) (y : S30) (u : Value) (base : Nat) (i : Int) (w0 w : World) (h0 : 0 ≤ i) (hi : i ≤ l.length) (hB : Below base w0 w) (hbase : base ≤ w.heap.size) (hR : Kd.R k30 30 w base (fun _ => True) v l)
    (hu : Kd.R k30 30 w base (fun _ => True) u [y]) (hne : u.ownBlock ≠ v.ownBlock) (hl : (l.length + 1) * 40 ≤ 140737488355328) :
    Calls Try.prog 35 #[v, .int .i64 i, u] w fun e w' =>
      ∃ v', e = .returned v' ∧ Kd.R k30 30 w' base (fun _ => True) v' (l.take i.toNat ++ y :: l.drop i.toNat) ∧ Below base w0 w' ∧ w.grownBy w' v.ownBlock ∧ (v'.ownBlock = v.ownBlock ∨ ∃ b, v'.ownBlock = some b ∧ w.heap.size ≤ b) := by
  obtain ⟨k, rfl⟩ := Int.eq_ofNat_of_zero_le h0
  rw [Int.toNat_natCast]
  have hou := R30_open hu
  rcases hou.2 with ⟨_, h⟩ | ⟨vb, vc, YC, rfl, _, hv0, _, _, _, hYt⟩
  · simp at h
  have hv : w.heap[vb]? = some (.cells YC.toList.toArray 30 (0, 0)) := hv0
  have hYC : YC.toList.take 3 = enc30 y := by simpa using hYt
  have hyc : Kd.C k30 w (some ⟨vb, 0, none⟩) 1 [y] := by
    obtain ⟨A, c, he, _, hr⟩ := Kd.R_reads hu
    simp only [Value.slice.injEq] at he
    rw [← he.1] at hr
    exact hr
  by_cases he : k = l.length
  · subst he
    rw [List.take_length, List.drop_length]
    exact insert_end30 v l y vb vc base w0 w hB hbase hR hyc hl
  · have hk : k < l.length := by omega
    have ho := R30_open hR
    rcases ho.2 with ⟨_, h⟩ | ⟨g, cap, cur, rfl, hbg, hg, hn, hc, hsz, ht⟩
    · omega
    · have hvb : vb ≠ g := fun e => hne (by rw [e]; rfl)
      have hgt : base ≤ g := hbg
      have htl : cur.toList.take (l.length * 3) = l.flatMap enc30 := ht
      have hcl : cur.toList.length = cap * 3 := by simpa using hsz
      have hC : (cur.toList.drop (k * 3)).take ((l.length - k) * 3) = (l.drop k).flatMap enc30 := by
        rw [List.take_drop, ← Nat.add_mul, show k + (l.length - k) = l.length by omega, htl, flat_drop enc30 3 (fun _ => rfl)]
      have hX : cur.toList.take (k * 3) = (l.take k).flatMap enc30 := by
        rw [← flat_take enc30 3 (fun _ => rfl), ← htl, List.take_take, show min (k * 3) (l.length * 3) = k * 3 by omega]
      have hg' : w.heap[g]? = some (.cells cur.toList.toArray 30 (0, 0)) := hg
      have hCl : ((l.drop k).flatMap enc30).length = (l.length - k) * 3 := by rw [flat_length enc30 3 (fun _ => rfl), List.length_drop]
      have hout : (l.take k).flatMap enc30 ++ (enc30 y ++ (l.drop k).flatMap enc30) = (l.take k ++ y :: l.drop k).flatMap enc30 := by simp
      have hlen : (l.take k ++ y :: l.drop k).length = l.length + 1 := by simp; omega
      have h1y : ∀ u ∈ enc30 y, u.oneCell' = true := fun u hu => one30 [y] u (by simpa using hu)
      by_cases hr : l.length + 1 ≤ cap
      · refine (insert_shift30 g l.length cap k vb vc cur.toList (enc30 y) YC.toList w hk hr (by unfold maxLen at hc; omega) hvb hcl rfl hg' hv hYC (by rw [hC]; exact one30 _) h1y).mono ?_
        rintro e w' ⟨rfl, hw, hb⟩
        refine ⟨_, rfl, R30_mk ?_, hB.grown hb hbase (fun k e => by cases e; exact hgt), hb, .inl rfl⟩
        rw [hC] at hw
        refine ⟨by rw [flat_length enc30 3 (fun _ => rfl)], .inr ⟨g, cap, _, by rw [hlen], hbg, hw, by omega, hc, ?_, ?_⟩⟩
        · rw [List.size_toArray, length_splice _ _ _ (by rw [length_splice _ _ _ (by rw [hCl]; omega)]; simp [enc30]; omega), length_splice _ _ _ (by rw [hCl]; omega), hcl]
        · rw [hlen, ← hout]
          exact (insert_cells cur.toList _ (enc30 y) _ l.length k hk (by omega) hX rfl hCl).1
      · refine (insert_grow30 g l.length cap k vb vc cur.toList (enc30 y) YC.toList w hk hn (by omega) (by unfold maxLen at hc; omega) hl hvb hcl rfl hg' hv hYC (by rw [hC]; exact one30 _) h1y).mono ?_
        rintro e w' ⟨G, ROW, rfl, hG, hGm, hRl, hRt, hw, hb⟩
        refine ⟨_, rfl, R30_mk ?_, below_then hB hbase hb, grown_of_below hb _, .inr ⟨_, rfl, Nat.le_refl _⟩⟩
        rw [hC] at hw
        refine ⟨by rw [flat_length enc30 3 (fun _ => rfl)], .inr ⟨w.heap.size, G, _, by rw [hlen], hbase, hw, by omega, hGm, ?_, ?_⟩⟩
        · rw [List.size_toArray, length_splice _ _ _ (by rw [length_splice _ _ _ (by simp [enc30]; omega), hCl]; omega), length_splice _ _ _ (by simp [enc30]; omega), hRl]
        · rw [hlen, ← hout]
          exact (insert_cells ROW _ (enc30 y) _ l.length k hk (by omega) (hRt.trans hX) rfl hCl).2

def insertF30 (l0 : List S30) (a1 : Int) : List S30 → Option (List S30)
  | [y] => if 0 ≤ a1 then (if a1 ≤ (l0.length : Int) then (if l0.length < 3518437208882 then some (l0.take a1.toNat ++ y :: l0.drop a1.toNat) else none) else none) else none
  | _ => none
def api_Macro_35.f (l0 : List S30) (a1 : Int) (l2 : List S30) : Option (List S30) := insertF30 l0 a1 l2
theorem api_Macro_35.calls (P0_ : Nat → Prop) (u9000_ : Value) (l0 : List S30) (a1 : Int) (P2_ : Nat → Prop) (u9001_ : Value) (l2 : List S30) (r : List S30) (w0 w : World) (hB : Below w0.heap.size w0 w) (ho0 : Kd.R k30 30 w w0.heap.size P0_ u9000_ l0) (hp0_2 : ∀ k_, P0_ k_ → ¬ P2_ k_) (ho2 : Kd.R k30 30 w w0.heap.size P2_ u9001_ l2) (hp2_0 : ∀ k_, P2_ k_ → ¬ P0_ k_) (h : api_Macro_35.f l0 a1 l2 = some r) :
    Calls Try.prog 35 #[u9000_, .int .i64 a1, u9001_] w fun e w' => ∃ v0_ : Value, e = .returned (v0_) ∧ Kd.R k30 30 w' w0.heap.size (fun k_ => ((P0_ k_ ∨ P2_ k_) ∨ w.heap.size ≤ k_)) v0_ r ∧ Below w0.heap.size w0 w' ∧ Kept w w' (fun k_ => P0_ k_ ∨ P2_ k_) := by
  unfold api_Macro_35.f at h
  match l2, ho2, h with
  | [y], ho2, h =>
    simp only [insertF30] at h
    split at h
    · rename_i h0
      split at h
      · rename_i hi
        split at h
        · rename_i hl
          obtain rfl := Option.some.inj h
          have hne : u9001_.ownBlock ≠ u9000_.ownBlock := by
            intro e
            cases hq : u9001_.ownBlock with
            | none =>
              have := (R30_open ho2).2
              rcases this with ⟨_, h⟩ | ⟨g, _, _, rfl, _⟩
              · simp at h
              · simp [Value.ownBlock] at hq
            | some b => exact hp0_2 b (ho0.1 b (e ▸ hq)) (ho2.1 b hq)
          refine (insert30 u9000_ l0 y u9001_ w0.heap.size a1 w0 w h0 hi hB hB.size (Kd.R_mono ho0 (fun _ _ => trivial)) (Kd.R_mono ho2 (fun _ _ => trivial)) hne (by omega)).mono ?_
          rintro e w' ⟨v', rfl, hR, hb, hg, ho⟩
          refine ⟨v', rfl, ⟨fun k hk => ?_, (R30_mk (R30_open hR)).2.imp_ (fun p c h => by rw [k30_openM h]; exact k30_mkM _ _ _ p)⟩, hb, Kept.of_grown hg (Kept.refl _ _) (fun k hk => .inl (.inl (ho0.1 k hk)))⟩
          rcases ho with ho | ⟨b, ho, hle⟩
          · exact .inl (.inl (ho0.1 k (ho ▸ hk)))
          · rw [ho] at hk
            cases hk
            exact .inr hle
        · cases h
      · cases h
    · cases h

end Go.Proofs.Ytodogppelokapaa.P
