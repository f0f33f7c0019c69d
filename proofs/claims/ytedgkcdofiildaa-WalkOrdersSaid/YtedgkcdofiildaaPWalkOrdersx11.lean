-- written by mp.py (wip/tools), a program of this session, over the kit's print
import Derived.Test.YtedgkcdofiildaaPWalkOrdersx0
import Derived.Test.YtedgkcdofiildaaPWalkOrdersx3
import Derived.Test.YtedgkcdofiildaaPWalkOrdersx4
import Derived.Test.YtedgkcdofiildaaPWalkOrdersx6
import Derived.Test.YtedgkcdofiildaaPWalkOrdersx9
import Derived.Test.YtedgkcdofiildaaPWalkOrdersx10
namespace Go.Proofs.Ytedgkcdofiildaa.P
open Go.RowKit Go.Proofs.YtedgkcdofiildaaW.PrintWords Go.Proofs.YtedgkcdofiildaaW.PrintLast Go.Proofs.YtedgkcdofiildaaW.PrintMore
attribute [local go_sem] max2_int min2_int max_two min_two max_three min_three max_four min_four   -- for this text's walks alone
set_option linter.unusedVariables false
set_option linter.unusedSimpArgs false

/-! ### smithylaw14_WalkOrders: function 4 -/
def smithylaw14_WalkOrders.j0 : Nat → List Int → Bool → List (S48) → List ByteArray → Option (Bool)
  | 0, _, _, _, _ => none
  | k + 1, x1, x24, x185000, x185001 => if x24 = true then ((smithylaw14_speaks.f k).bind fun t186 => (some t186)) else ((walk_Order.f k x185000 x185001).bind fun bt187 => ((walk_Fits.f x185000 x185001 bt187.1).bind fun bt191 => ((walk_Choose.f x185000 x185001 x1).bind fun bt194 => ((walk_Fits.f x185000 x185001 bt194.1).bind fun bt198 => ((walk_Next.f x185000 x185001 bt194.1).bind fun bt201 => (if bt187.2 = 0 then (if bt191.2.2 = 0 then (if bt194.2 = 0 then (if bt198.2.2 = 0 then (if bt201.2 = 0 then (if bt191.1 = true then (if bt191.2.1 = true then (if bt198.1 = true then (if (bt198.2.1 == ((bt201.1.length : Int) == 0)) = true then (if (bt198.2.1 == ((bt194.1.length : Int) == (x185000.length : Int))) = true then ((smithylaw14_speaks.f k).bind fun t205 => (some t205)) else (some false)) else (some false)) else (some false)) else (some false)) else (some false)) else (some false)) else (some false)) else (some false)) else (some false)) else (some false)))))))
def smithylaw14_WalkOrders.f (k : Nat) (l0_0 : List (S48)) (l0_1 : List ByteArray) (l1 : List Int) : Option (Bool) := (smithyref12_Check.f l0_0 l0_1).bind fun t185 => (if t185 = 0 then (smithylaw14_WalkOrders.j0 k l1 (decide ((l1.length : Int) > 256)) l0_0 l0_1) else (smithylaw14_WalkOrders.j0 k l1 true l0_0 l0_1))
theorem smithylaw14_WalkOrders.mono_l : ∀ k, (∀ y0 y1 y2 y3, LeO (smithylaw14_WalkOrders.j0 k y0 y1 y2 y3) (smithylaw14_WalkOrders.j0 (k + 1) y0 y1 y2 y3))
  | 0 => fun _ _ _ _ r h => by simp [smithylaw14_WalkOrders.j0] at h
  | k + 1 => by
    have ih0 := smithylaw14_WalkOrders.mono_l k
    · intro y0 y1 y2 y3
      unfold smithylaw14_WalkOrders.j0
      repeat' first
      | (with_reducible exact ih0 _ _ _ _)
      | (with_reducible exact smithylaw14_speaks.mono _)
      | (with_reducible exact walk_Order.mono _ _ _)
      | (with_reducible exact LeO.refl _)
      | (with_reducible exact LeO.none _)
      | (with_reducible refine LeO.ite ?_ ?_)
      | (with_reducible refine LeO.bind ?_ (fun _ => ?_))
      | exact ih0 _ _ _ _
      | exact smithylaw14_speaks.mono _
      | exact walk_Order.mono _ _ _
      | exact LeO.none _
      | refine LeO.ite ?_ ?_
      | refine LeO.bind ?_ (fun _ => ?_)
theorem smithylaw14_WalkOrders.mono : ∀ a0 a1 a2 k, LeO (smithylaw14_WalkOrders.f k a0 a1 a2) (smithylaw14_WalkOrders.f (k + 1) a0 a1 a2) := by
  intro a0 a1 a2 k
  have ih0 := smithylaw14_WalkOrders.mono_l k
  unfold smithylaw14_WalkOrders.f
  repeat' first
      | (with_reducible exact ih0 _ _ _ _)
      | (with_reducible exact smithylaw14_speaks.mono _)
      | (with_reducible exact walk_Order.mono _ _ _)
      | (with_reducible exact LeO.refl _)
      | (with_reducible exact LeO.none _)
      | (with_reducible refine LeO.ite ?_ ?_)
      | (with_reducible refine LeO.bind ?_ (fun _ => ?_))
      | exact ih0 _ _ _ _
      | exact smithylaw14_speaks.mono _
      | exact walk_Order.mono _ _ _
      | exact LeO.none _
      | refine LeO.ite ?_ ?_
      | refine LeO.bind ?_ (fun _ => ?_)
set_option maxHeartbeats 8000000 in
set_option maxRecDepth 100000 in
theorem smithylaw14_WalkOrders.calls (k : Nat) (A0_0 : Option Addr) (c0_0 : Nat) (l0_0 : List (S48)) (A0_1 : Option Addr) (c0_1 : Nat) (l0_1 : List ByteArray) (A1 : Option Addr) (c1 : Nat) (l1 : List Int) (r : Bool) (w : World) (hr0_0 : Kd.C k48 w A0_0 l0_0.length l0_0) (hc0_0 : l0_0.length ≤ c0_0) (hr0_1 : Kd.C Kd.string w A0_1 l0_1.length l0_1) (hc0_1 : l0_1.length ≤ c0_1) (hr1 : Kd.C (Kd.int .i64) w A1 l1.length l1) (hc1 : l1.length ≤ c1) (h : smithylaw14_WalkOrders.f k l0_0 l0_1 l1 = some r) (hrt : r = true) :
    Calls Try.prog 4 #[.agg #[.slice A0_0 l0_0.length c0_0, .slice A0_1 l0_1.length c0_1], .slice A1 l1.length c1] w fun e w' => e = .returned (.bool r) ∧ Below w.heap.size w w' := by
  have hu25 := Try.underlying25
  have HR0_0 := Aside0.mk hr0_0
  have HC0_0 := Aside0.mk hc0_0
  clear hr0_0 hc0_0
  have HR0_1 := Aside0.mk hr0_1
  have HC0_1 := Aside0.mk hc0_1
  clear hr0_1 hc0_1
  have HR1 := Aside0.mk hr1
  have HC1 := Aside0.mk hc1
  clear hr1 hc1
  have HB := Aside0.mk (Below.refl w.heap.size w)
  have H : ((smithyref12_Check.f l0_0 l0_1).bind fun t185 => (if t185 = 0 then (smithylaw14_WalkOrders.j0 k l1 (decide ((l1.length : Int) > 256)) l0_0 l0_1) else (smithylaw14_WalkOrders.j0 k l1 true l0_0 l0_1))) = some r := h
  clear h
  have HC3 := Aside0.mk H
  clear H
  go_enter Try.func4, Try.ntmps4
  go_upto_region 1 with (first | ((with_reducible refine gate_dst (N := 2) rfl ?_); (try (refine gate_guard (by rfl) ?_; dsimp only)); refine box_event ?hg (N := 2) ?hd (cs := #[.slice A0_0 l0_0.length c0_0, .slice A0_1 l0_1.length c0_1]) (t := 25) ?hr ?_; (case hd => rfl); (case hg => rfl); (case hr => first | (go_simp; done) | (go_simp; rfl)); intro gb184 hg w4 hbox hb; have n0_ := Aside0.mk (below_step (by repeat (first | (with_reducible first | exact HB.out | apply below_alloc | apply pw_below_drewN | apply below_drew1) | exact HB.out)) hb); have n1_ := Aside0.mk (hbox); have n2_ := Aside0.mk ((by rw [hg]; exact (below_size (by repeat (first | (with_reducible first | exact HB.out | apply below_alloc | apply pw_below_drewN | apply below_drew1) | exact HB.out))) : w.heap.size ≤ gb184)); have n3_ := Aside0.mk ((by rw [hg]; exact (below_size (by repeat (first | (with_reducible first | exact HB.out | apply below_alloc | apply pw_below_drewN | apply below_drew1) | exact HB.out))) : w.heap.size ≤ gb184)); clear HB; have HB := n0_; have BK184 := n1_; have GW184 := n2_; have GE184 := n3_; clear n0_ n1_ n2_ n3_; clear hb hbox hg))
  (try simp only [Act.put, List.setIfInBounds_toArray, List.set_cons_zero, List.set_cons_succ])
  go_cut [24] (fun v24 wc => ∃ (kq : Nat) (x24_2 : Bool), v24 = .bool x24_2 ∧ Aside0 (smithylaw14_WalkOrders.j0 kq l1 x24_2 l0_0 l0_1 = some r) ∧ Aside0 (kq ≤ k) ∧ Aside0 (wc.heap[gb184]? = some (.cells #[(.slice A0_0 l0_0.length c0_0), (.slice A0_1 l0_1.length c0_1)] 25 (0, 0))) ∧ Aside0 (Below w.heap.size w wc))
  case first =>
    have H := HC3.out
    clear HC3
    replace H := Option.bind_eq_some_iff.mp H
    obtain ⟨t185, A50, H⟩ := H
    replace H : (if t185 = 0 then (smithylaw14_WalkOrders.j0 k l1 (decide ((l1.length : Int) > 256)) l0_0 l0_1) else (smithylaw14_WalkOrders.j0 k l1 true l0_0 l0_1)) = some r := H
    have A5 := Aside0.mk A50
    clear A50
    by_cases c6 : t185 = 0
    · rw [if_pos c6] at H
      have c6b0 : (t185 == 0) = true := beq_iff_eq.mpr c6
      have c6b1 : (t185 != 0) = false := bne_eq_false_iff_eq.mpr c6
      clear c6
      (first | rw [c6b0] | (simp only [i64_w, i32_w]; rw [c6b0]) | skip)
      have H' := Aside0.mk H
      clear H
      have hcz7_0 : w4.cell? ⟨gb184, 0, none⟩ = some (.slice A0_0 l0_0.length c0_0) := (blk_cell BK184.out 0).trans rfl
      have hcz7_1 : w4.cell? ⟨gb184, 1, none⟩ = some (.slice A0_1 l0_1.length c0_1) := (blk_cell BK184.out 1).trans rfl
      have hfz7_0 := blk_frozen BK184.out 0
      have hfz7_1 := blk_frozen BK184.out 1
      go_wp2_with (first | ((with_reducible refine gate_callee (f := 17) rfl ?_); refine goesL_ (some 18) rfl rfl Try.func17 (by kernel_rfl) rfl #[.agg #[.slice A0_0 l0_0.length c0_0, .slice A0_1 l0_1.length c0_1]] rfl (by (try simp only [List.map_toArray, List.map_cons, List.map_nil]); first | done | rfl | (simp only [List.length_drop, List.length_take]; rfl)) ?_; (with_reducible refine (smithyref12_Check.calls _ _ l0_0 _ _ l0_1 t185 _ ?side1 ?side2 ?side3 ?side4 A5.out).mono ?_); (case side1 => repeat (first | exact (Kd.C_below HR0_0.out HB.out) | (with_reducible refine Kd.C_alloc ?_ _) | (with_reducible refine Kd.C_drewN ?_ _) | (with_reducible refine Kd.C_drew ?_))); (case side2 => exact HC0_0.out); (case side3 => repeat (first | exact (Kd.C_below HR0_1.out HB.out) | (with_reducible refine Kd.C_alloc ?_ _) | (with_reducible refine Kd.C_drewN ?_ _) | (with_reducible refine Kd.C_drew ?_))); (case side4 => exact HC0_1.out); rintro e w8 ⟨rfl, hb⟩; refine ⟨_, rfl, ?_⟩; have n0_ := Aside0.mk (blk_below (g := gb184) (o := .cells #[.slice A0_0 l0_0.length c0_0, .slice A0_1 l0_1.length c0_1] 25 (0, 0)) (by (with_reducible repeat (first | refine blk_drewN ?_ _ | refine blk_drew ?_ | refine blk_alloc ?_ _)); exact BK184.out) hb); have n1_ := Aside0.mk (below_step (by repeat (first | (with_reducible first | exact HB.out | apply below_alloc | apply pw_below_drewN | apply below_drew1 | refine below_set ?_ GE184.out) | exact HB.out)) hb); clear BK184; clear HB; have BK184 := n0_; have HB := n1_; clear n0_ n1_; (try clear hb); (try clear hb2); (try clear hk); (try clear hi)))
      go_meet
      case rel => exact ⟨_, (decide ((l1.length : Int) > 256)), (by first | rfl | (simp; done) | (simp [*]; done)), H', ⟨by first | omega | exact Nat.le_refl _⟩, ⟨by (with_reducible repeat (first | refine blk_drewN ?_ _ | refine blk_drew ?_ | refine blk_alloc ?_ _)); exact BK184.out⟩, ⟨by repeat (first | (with_reducible first | exact HB.out | apply below_alloc | apply pw_below_drewN | apply below_drew1 | refine below_set ?_ GE184.out) | exact HB.out)⟩⟩
    · rw [if_neg c6] at H
      have c6b0 : (t185 == 0) = false := beq_eq_false_iff_ne.mpr c6
      have c6b1 : (t185 != 0) = true := bne_iff_ne.mpr c6
      (first | rw [c6b0] | (simp only [i64_w, i32_w]; rw [c6b0]) | skip)
      have H' := Aside0.mk H
      clear H
      have hcz9_0 : w4.cell? ⟨gb184, 0, none⟩ = some (.slice A0_0 l0_0.length c0_0) := (blk_cell BK184.out 0).trans rfl
      have hcz9_1 : w4.cell? ⟨gb184, 1, none⟩ = some (.slice A0_1 l0_1.length c0_1) := (blk_cell BK184.out 1).trans rfl
      have hfz9_0 := blk_frozen BK184.out 0
      have hfz9_1 := blk_frozen BK184.out 1
      go_wp2_with (first | ((with_reducible refine gate_callee (f := 17) rfl ?_); refine goesL_ (some 18) rfl rfl Try.func17 (by kernel_rfl) rfl #[.agg #[.slice A0_0 l0_0.length c0_0, .slice A0_1 l0_1.length c0_1]] rfl (by (try simp only [List.map_toArray, List.map_cons, List.map_nil]); first | done | rfl | (simp only [List.length_drop, List.length_take]; rfl)) ?_; (with_reducible refine (smithyref12_Check.calls _ _ l0_0 _ _ l0_1 t185 _ ?side1 ?side2 ?side3 ?side4 A5.out).mono ?_); (case side1 => repeat (first | exact (Kd.C_below HR0_0.out HB.out) | (with_reducible refine Kd.C_alloc ?_ _) | (with_reducible refine Kd.C_drewN ?_ _) | (with_reducible refine Kd.C_drew ?_))); (case side2 => exact HC0_0.out); (case side3 => repeat (first | exact (Kd.C_below HR0_1.out HB.out) | (with_reducible refine Kd.C_alloc ?_ _) | (with_reducible refine Kd.C_drewN ?_ _) | (with_reducible refine Kd.C_drew ?_))); (case side4 => exact HC0_1.out); rintro e w10 ⟨rfl, hb⟩; refine ⟨_, rfl, ?_⟩; have n0_ := Aside0.mk (blk_below (g := gb184) (o := .cells #[.slice A0_0 l0_0.length c0_0, .slice A0_1 l0_1.length c0_1] 25 (0, 0)) (by (with_reducible repeat (first | refine blk_drewN ?_ _ | refine blk_drew ?_ | refine blk_alloc ?_ _)); exact BK184.out) hb); have n1_ := Aside0.mk (below_step (by repeat (first | (with_reducible first | exact HB.out | apply below_alloc | apply pw_below_drewN | apply below_drew1 | refine below_set ?_ GE184.out) | exact HB.out)) hb); clear BK184; clear HB; have BK184 := n0_; have HB := n1_; clear n0_ n1_; (try clear hb); (try clear hb2); (try clear hk); (try clear hi)))
      go_meet
      case rel => exact ⟨_, (true), (by first | rfl | (simp; done) | (simp [*]; done)), H', ⟨by first | omega | exact Nat.le_refl _⟩, ⟨by (with_reducible repeat (first | refine blk_drewN ?_ _ | refine blk_drew ?_ | refine blk_alloc ?_ _)); exact BK184.out⟩, ⟨by repeat (first | (with_reducible first | exact HB.out | apply below_alloc | apply pw_below_drewN | apply below_drew1 | refine below_set ?_ GE184.out) | exact HB.out)⟩⟩
  case rest =>
    clear HC3
    try clear c1
    try clear p2
    try clear c4
    try clear c6
    try clear c6b0
    try clear c6b1
    try clear hcz7_0
    try clear hcz7_1
    try clear hcz9_0
    try clear hcz9_1
    try clear hfz7_0
    try clear hfz7_1
    try clear hfz9_0
    try clear hfz9_1
    obtain ⟨kq, x24_2, rfl, HA, HJ2, BK184, HB⟩ := hcut
    cases kq with
    | zero => exact absurd HA.out (by simp [smithylaw14_WalkOrders.j0])
    | succ kj2 =>
      have H := HA.out
      clear HA
      simp only [smithylaw14_WalkOrders.j0] at H
      by_cases c11 : x24_2 = true
      · subst c11
        have H1 : ((smithylaw14_speaks.f kj2).bind fun t186 => (some t186)) = some r := by rw [if_pos rfl] at H; exact H
        clear H
        have H := H1
        clear H1
        replace H := Option.bind_eq_some_iff.mp H
        obtain ⟨t186, A120, H⟩ := H
        replace H : (some t186) = some r := H
        have A12 := Aside0.mk A120
        clear A120
        clear hrt
        obtain rfl := Option.some.inj H
        go_wp2_with (first | ((with_reducible refine gate_callee (f := 13) rfl ?_); refine goesL_ (some 25) rfl rfl Try.func13 (by kernel_rfl) rfl #[] rfl (by (try simp only [List.map_toArray, List.map_cons, List.map_nil]); first | done | rfl | (simp only [List.length_drop, List.length_take]; rfl)) ?_; (with_reducible refine (smithylaw14_speaks.calls kj2  t186 _ A12.out).mono ?_); rintro e w13 ⟨rfl, hb⟩; refine ⟨_, rfl, ?_⟩; have n0_ := Aside0.mk (blk_below (g := gb184) (o := .cells #[.slice A0_0 l0_0.length c0_0, .slice A0_1 l0_1.length c0_1] 25 (0, 0)) (by (with_reducible repeat (first | refine blk_drewN ?_ _ | refine blk_drew ?_ | refine blk_alloc ?_ _)); exact BK184.out) hb); have n1_ := Aside0.mk (below_step (by repeat (first | (with_reducible first | exact HB.out | apply below_alloc | apply pw_below_drewN | apply below_drew1 | refine below_set ?_ GE184.out) | exact HB.out)) hb); clear BK184; clear HB; have BK184 := n0_; have HB := n1_; clear n0_ n1_; (try clear hb); (try clear hb2); (try clear hk); (try clear hi)))
        go_ret
        exact ⟨by first | rfl | (simp [errW_none, errW_some] <;> rfl) | (simp [*, errW_none, errW_some] <;> rfl), by repeat (first | (with_reducible first | exact HB.out | apply below_alloc | apply pw_below_drewN | apply below_drew1 | refine below_set ?_ GE184.out) | exact HB.out)⟩
      · replace c11 := Bool.eq_false_iff.mpr c11
        subst c11
        have H1 : ((walk_Order.f kj2 l0_0 l0_1).bind fun bt187 => ((walk_Fits.f l0_0 l0_1 bt187.1).bind fun bt191 => ((walk_Choose.f l0_0 l0_1 l1).bind fun bt194 => ((walk_Fits.f l0_0 l0_1 bt194.1).bind fun bt198 => ((walk_Next.f l0_0 l0_1 bt194.1).bind fun bt201 => (if bt187.2 = 0 then (if bt191.2.2 = 0 then (if bt194.2 = 0 then (if bt198.2.2 = 0 then (if bt201.2 = 0 then (if bt191.1 = true then (if bt191.2.1 = true then (if bt198.1 = true then (if (bt198.2.1 == ((bt201.1.length : Int) == 0)) = true then (if (bt198.2.1 == ((bt194.1.length : Int) == (l0_0.length : Int))) = true then ((smithylaw14_speaks.f kj2).bind fun t205 => (some t205)) else (some false)) else (some false)) else (some false)) else (some false)) else (some false)) else (some false)) else (some false)) else (some false)) else (some false)) else (some false))))))) = some r := by rw [if_neg (show ¬ (false = true) by decide)] at H; exact H
        clear H
        have H := H1
        clear H1
        replace H := Option.bind_eq_some_iff.mp H
        obtain ⟨⟨t187, t190⟩, A140, H⟩ := H
        replace H : ((walk_Fits.f l0_0 l0_1 t187).bind fun bt191 => ((walk_Choose.f l0_0 l0_1 l1).bind fun bt194 => ((walk_Fits.f l0_0 l0_1 bt194.1).bind fun bt198 => ((walk_Next.f l0_0 l0_1 bt194.1).bind fun bt201 => (if t190 = 0 then (if bt191.2.2 = 0 then (if bt194.2 = 0 then (if bt198.2.2 = 0 then (if bt201.2 = 0 then (if bt191.1 = true then (if bt191.2.1 = true then (if bt198.1 = true then (if (bt198.2.1 == ((bt201.1.length : Int) == 0)) = true then (if (bt198.2.1 == ((bt194.1.length : Int) == (l0_0.length : Int))) = true then ((smithylaw14_speaks.f kj2).bind fun t205 => (some t205)) else (some false)) else (some false)) else (some false)) else (some false)) else (some false)) else (some false)) else (some false)) else (some false)) else (some false)) else (some false)))))) = some r := H
        have A14 := Aside0.mk A140
        clear A140
        replace H := Option.bind_eq_some_iff.mp H
        obtain ⟨⟨t191, t192, t193⟩, A150, H⟩ := H
        replace H : ((walk_Choose.f l0_0 l0_1 l1).bind fun bt194 => ((walk_Fits.f l0_0 l0_1 bt194.1).bind fun bt198 => ((walk_Next.f l0_0 l0_1 bt194.1).bind fun bt201 => (if t190 = 0 then (if t193 = 0 then (if bt194.2 = 0 then (if bt198.2.2 = 0 then (if bt201.2 = 0 then (if t191 = true then (if t192 = true then (if bt198.1 = true then (if (bt198.2.1 == ((bt201.1.length : Int) == 0)) = true then (if (bt198.2.1 == ((bt194.1.length : Int) == (l0_0.length : Int))) = true then ((smithylaw14_speaks.f kj2).bind fun t205 => (some t205)) else (some false)) else (some false)) else (some false)) else (some false)) else (some false)) else (some false)) else (some false)) else (some false)) else (some false)) else (some false))))) = some r := H
        have A15 := Aside0.mk A150
        clear A150
        replace H := Option.bind_eq_some_iff.mp H
        obtain ⟨⟨t194, t197⟩, A160, H⟩ := H
        replace H : ((walk_Fits.f l0_0 l0_1 t194).bind fun bt198 => ((walk_Next.f l0_0 l0_1 t194).bind fun bt201 => (if t190 = 0 then (if t193 = 0 then (if t197 = 0 then (if bt198.2.2 = 0 then (if bt201.2 = 0 then (if t191 = true then (if t192 = true then (if bt198.1 = true then (if (bt198.2.1 == ((bt201.1.length : Int) == 0)) = true then (if (bt198.2.1 == ((t194.length : Int) == (l0_0.length : Int))) = true then ((smithylaw14_speaks.f kj2).bind fun t205 => (some t205)) else (some false)) else (some false)) else (some false)) else (some false)) else (some false)) else (some false)) else (some false)) else (some false)) else (some false)) else (some false)))) = some r := H
        have A16 := Aside0.mk A160
        clear A160
        replace H := Option.bind_eq_some_iff.mp H
        obtain ⟨⟨t198, t199, t200⟩, A170, H⟩ := H
        replace H : ((walk_Next.f l0_0 l0_1 t194).bind fun bt201 => (if t190 = 0 then (if t193 = 0 then (if t197 = 0 then (if t200 = 0 then (if bt201.2 = 0 then (if t191 = true then (if t192 = true then (if t198 = true then (if (t199 == ((bt201.1.length : Int) == 0)) = true then (if (t199 == ((t194.length : Int) == (l0_0.length : Int))) = true then ((smithylaw14_speaks.f kj2).bind fun t205 => (some t205)) else (some false)) else (some false)) else (some false)) else (some false)) else (some false)) else (some false)) else (some false)) else (some false)) else (some false)) else (some false))) = some r := H
        have A17 := Aside0.mk A170
        clear A170
        replace H := Option.bind_eq_some_iff.mp H
        obtain ⟨⟨t201, t204⟩, A180, H⟩ := H
        replace H : (if t190 = 0 then (if t193 = 0 then (if t197 = 0 then (if t200 = 0 then (if t204 = 0 then (if t191 = true then (if t192 = true then (if t198 = true then (if (t199 == ((t201.length : Int) == 0)) = true then (if (t199 == ((t194.length : Int) == (l0_0.length : Int))) = true then ((smithylaw14_speaks.f kj2).bind fun t205 => (some t205)) else (some false)) else (some false)) else (some false)) else (some false)) else (some false)) else (some false)) else (some false)) else (some false)) else (some false)) else (some false)) = some r := H
        have A18 := Aside0.mk A180
        clear A180
        by_cases c19 : t190 = 0
        · rw [if_pos c19] at H
          have c19b0 : (t190 == 0) = true := beq_iff_eq.mpr c19
          have c19b1 : (t190 != 0) = false := bne_eq_false_iff_eq.mpr c19
          clear c19
          by_cases c20 : t193 = 0
          · rw [if_pos c20] at H
            have c20b0 : (t193 == 0) = true := beq_iff_eq.mpr c20
            have c20b1 : (t193 != 0) = false := bne_eq_false_iff_eq.mpr c20
            clear c20
            by_cases c21 : t197 = 0
            · rw [if_pos c21] at H
              have c21b0 : (t197 == 0) = true := beq_iff_eq.mpr c21
              have c21b1 : (t197 != 0) = false := bne_eq_false_iff_eq.mpr c21
              clear c21
              by_cases c22 : t200 = 0
              · rw [if_pos c22] at H
                have c22b0 : (t200 == 0) = true := beq_iff_eq.mpr c22
                have c22b1 : (t200 != 0) = false := bne_eq_false_iff_eq.mpr c22
                clear c22
                by_cases c23 : t204 = 0
                · rw [if_pos c23] at H
                  have c23b0 : (t204 == 0) = true := beq_iff_eq.mpr c23
                  have c23b1 : (t204 != 0) = false := bne_eq_false_iff_eq.mpr c23
                  clear c23
                  by_cases c24 : t191 = true
                  · subst c24
                    have H1 : (if t192 = true then (if t198 = true then (if (t199 == ((t201.length : Int) == 0)) = true then (if (t199 == ((t194.length : Int) == (l0_0.length : Int))) = true then ((smithylaw14_speaks.f kj2).bind fun t205 => (some t205)) else (some false)) else (some false)) else (some false)) else (some false)) = some r := by rw [if_pos rfl] at H; exact H
                    clear H
                    have H := H1
                    clear H1
                    by_cases c25 : t192 = true
                    · subst c25
                      have H1 : (if t198 = true then (if (t199 == ((t201.length : Int) == 0)) = true then (if (t199 == ((t194.length : Int) == (l0_0.length : Int))) = true then ((smithylaw14_speaks.f kj2).bind fun t205 => (some t205)) else (some false)) else (some false)) else (some false)) = some r := by rw [if_pos rfl] at H; exact H
                      clear H
                      have H := H1
                      clear H1
                      by_cases c26 : t198 = true
                      · subst c26
                        have H1 : (if (t199 == ((t201.length : Int) == 0)) = true then (if (t199 == ((t194.length : Int) == (l0_0.length : Int))) = true then ((smithylaw14_speaks.f kj2).bind fun t205 => (some t205)) else (some false)) else (some false)) = some r := by rw [if_pos rfl] at H; exact H
                        clear H
                        have H := H1
                        clear H1
                        by_cases c27 : (t199 == ((t201.length : Int) == 0)) = true
                        · rw [if_pos c27] at H
                          have c27b0 : (t199 == ((t201.length : Int) == 0)) = true := c27
                          (try (have c27b1 : decide (t199 = ((t201.length : Int) == 0)) = true := by simpa using c27))
                          (try (have c27b2 : (t199 == ((t201.length : Int) == 0)) = true := by simpa using c27))
                          clear c27
                          by_cases c28 : (t199 == ((t194.length : Int) == (l0_0.length : Int))) = true
                          · rw [if_pos c28] at H
                            have c28b0 : (t199 == ((t194.length : Int) == (l0_0.length : Int))) = true := c28
                            (try (have c28b1 : decide (t199 = ((t194.length : Int) == (l0_0.length : Int))) = true := by simpa using c28))
                            (try (have c28b2 : (t199 == ((t194.length : Int) == (l0_0.length : Int))) = true := by simpa using c28))
                            clear c28
                            replace H := Option.bind_eq_some_iff.mp H
                            obtain ⟨t205, A290, H⟩ := H
                            replace H : (some t205) = some r := H
                            have A29 := Aside0.mk A290
                            clear A290
                            clear hrt
                            obtain rfl := Option.some.inj H
                            have hcz30_0 : wc.cell? ⟨gb184, 0, none⟩ = some (.slice A0_0 l0_0.length c0_0) := (blk_cell BK184.out 0).trans rfl
                            have hcz30_1 : wc.cell? ⟨gb184, 1, none⟩ = some (.slice A0_1 l0_1.length c0_1) := (blk_cell BK184.out 1).trans rfl
                            have hfz30_0 := blk_frozen BK184.out 0
                            have hfz30_1 := blk_frozen BK184.out 1
                            go_wp2_with (first | ((with_reducible refine gate_callee (f := 18) rfl ?_); refine goesL_ (some 28) rfl rfl Try.func18 (by kernel_rfl) rfl #[.agg #[.slice A0_0 l0_0.length c0_0, .slice A0_1 l0_1.length c0_1]] rfl (by (try simp only [List.map_toArray, List.map_cons, List.map_nil]); first | done | rfl | (simp only [List.length_drop, List.length_take]; rfl)) ?_; (with_reducible refine (walk_Order.calls kj2 _ _ l0_0 _ _ l0_1 t187 t190 _ ?side1 ?side2 ?side3 ?side4 A14.out).mono ?_); (case side1 => repeat (first | exact (Kd.C_below HR0_0.out HB.out) | (with_reducible refine Kd.C_alloc ?_ _) | (with_reducible refine Kd.C_drewN ?_ _) | (with_reducible refine Kd.C_drew ?_))); (case side2 => exact HC0_0.out); (case side3 => repeat (first | exact (Kd.C_below HR0_1.out HB.out) | (with_reducible refine Kd.C_alloc ?_ _) | (with_reducible refine Kd.C_drewN ?_ _) | (with_reducible refine Kd.C_drew ?_))); (case side4 => exact HC0_1.out); rintro e w31 ⟨v188, rfl, ho0, hb⟩; refine ⟨_, rfl, ?_⟩; have n0_ := Aside0.mk (Kd.R_lower ho0 (below_size (by repeat (first | (with_reducible first | exact HB.out | apply below_alloc | apply pw_below_drewN | apply below_drew1 | refine below_set ?_ GE184.out) | exact HB.out)))); have n1_ := Aside0.mk (blk_below (g := gb184) (o := .cells #[.slice A0_0 l0_0.length c0_0, .slice A0_1 l0_1.length c0_1] 25 (0, 0)) (by (with_reducible repeat (first | refine blk_drewN ?_ _ | refine blk_drew ?_ | refine blk_alloc ?_ _)); exact BK184.out) hb); have n2_ := Aside0.mk (below_step (by repeat (first | (with_reducible first | exact HB.out | apply below_alloc | apply pw_below_drewN | apply below_drew1 | refine below_set ?_ GE184.out) | exact HB.out)) hb); clear BK184; clear HB; have HO189 := n0_; have BK184 := n1_; have HB := n2_; clear n0_ n1_ n2_; (try clear hb); (try clear hb2); (try clear hk); (try clear hi); (try clear ho0); have hcz32_0 : w31.cell? ⟨gb184, 0, none⟩ = some (.slice A0_0 l0_0.length c0_0) := (blk_cell BK184.out 0).trans rfl; have hcz32_1 : w31.cell? ⟨gb184, 1, none⟩ = some (.slice A0_1 l0_1.length c0_1) := (blk_cell BK184.out 1).trans rfl; have hfz32_0 := blk_frozen BK184.out 0; have hfz32_1 := blk_frozen BK184.out 1; obtain ⟨Ao33, co33, eo33⟩ := Kd.R_slice HO189.out; subst eo33) | ((with_reducible refine gate_callee (f := 10) rfl ?_); refine goesL_ (some 34) rfl rfl Try.func10 (by kernel_rfl) rfl #[.agg #[.slice A0_0 l0_0.length c0_0, .slice A0_1 l0_1.length c0_1], .slice Ao33 t187.length co33] rfl (by (try simp only [List.map_toArray, List.map_cons, List.map_nil]); first | done | rfl | (simp only [List.length_drop, List.length_take]; rfl)) ?_; (with_reducible refine (walk_Fits.calls _ _ l0_0 _ _ l0_1 _ _ t187 true true t193 _ ?side1 ?side2 ?side3 ?side4 ?side5 ?side6 A15.out).mono ?_); (case side1 => repeat (first | exact (Kd.C_below HR0_0.out HB.out) | (with_reducible refine Kd.C_alloc ?_ _) | (with_reducible refine Kd.C_drewN ?_ _) | (with_reducible refine Kd.C_drew ?_))); (case side2 => exact HC0_0.out); (case side3 => repeat (first | exact (Kd.C_below HR0_1.out HB.out) | (with_reducible refine Kd.C_alloc ?_ _) | (with_reducible refine Kd.C_drewN ?_ _) | (with_reducible refine Kd.C_drew ?_))); (case side4 => exact HC0_1.out); (case side5 => repeat (first | exact (Kd.R_reads' HO189.out).2.2 | (with_reducible refine Kd.C_alloc ?_ _) | (with_reducible refine Kd.C_drewN ?_ _) | (with_reducible refine Kd.C_drew ?_))); (case side6 => exact (Kd.R_reads' HO189.out).2.1); rintro e w34 ⟨rfl, hb⟩; refine ⟨_, rfl, ?_⟩; have n0_ := Aside0.mk (Kd.R_below (by (with_reducible repeat (first | apply Kd.R_alloc | apply Kd.R_drewN | apply Kd.R_drew)); exact HO189.out) hb); have n1_ := Aside0.mk (blk_below (g := gb184) (o := .cells #[.slice A0_0 l0_0.length c0_0, .slice A0_1 l0_1.length c0_1] 25 (0, 0)) (by (with_reducible repeat (first | refine blk_drewN ?_ _ | refine blk_drew ?_ | refine blk_alloc ?_ _)); exact BK184.out) hb); have n2_ := Aside0.mk (below_step (by repeat (first | (with_reducible first | exact HB.out | apply below_alloc | apply pw_below_drewN | apply below_drew1 | refine below_set ?_ GE184.out) | exact HB.out)) hb); clear HO189; clear BK184; clear HB; have HO189 := n0_; have BK184 := n1_; have HB := n2_; clear n0_ n1_ n2_; (try clear hb); (try clear hb2); (try clear hk); (try clear hi); have hcz35_0 : w34.cell? ⟨gb184, 0, none⟩ = some (.slice A0_0 l0_0.length c0_0) := (blk_cell BK184.out 0).trans rfl; have hcz35_1 : w34.cell? ⟨gb184, 1, none⟩ = some (.slice A0_1 l0_1.length c0_1) := (blk_cell BK184.out 1).trans rfl; have hfz35_0 := blk_frozen BK184.out 0; have hfz35_1 := blk_frozen BK184.out 1) | ((with_reducible refine gate_callee (f := 19) rfl ?_); refine goesL_ (some 41) rfl rfl Try.func19 (by kernel_rfl) rfl #[.agg #[.slice A0_0 l0_0.length c0_0, .slice A0_1 l0_1.length c0_1], .slice A1 l1.length c1] rfl (by (try simp only [List.map_toArray, List.map_cons, List.map_nil]); first | done | rfl | (simp only [List.length_drop, List.length_take]; rfl)) ?_; (with_reducible refine (walk_Choose.calls _ _ l0_0 _ _ l0_1 _ _ l1 t194 t197 _ ?side1 ?side2 ?side3 ?side4 ?side5 ?side6 A16.out).mono ?_); (case side1 => repeat (first | exact (Kd.C_below HR0_0.out HB.out) | (with_reducible refine Kd.C_alloc ?_ _) | (with_reducible refine Kd.C_drewN ?_ _) | (with_reducible refine Kd.C_drew ?_))); (case side2 => exact HC0_0.out); (case side3 => repeat (first | exact (Kd.C_below HR0_1.out HB.out) | (with_reducible refine Kd.C_alloc ?_ _) | (with_reducible refine Kd.C_drewN ?_ _) | (with_reducible refine Kd.C_drew ?_))); (case side4 => exact HC0_1.out); (case side5 => repeat (first | exact (Kd.C_below HR1.out HB.out) | (with_reducible refine Kd.C_alloc ?_ _) | (with_reducible refine Kd.C_drewN ?_ _) | (with_reducible refine Kd.C_drew ?_))); (case side6 => exact HC1.out); rintro e w36 ⟨v195, rfl, ho0, hb⟩; refine ⟨_, rfl, ?_⟩; have n0_ := Aside0.mk (Kd.R_elder' (by (with_reducible repeat (first | apply Kd.R_alloc | apply Kd.R_drewN | apply Kd.R_drew)); exact HO189.out) (Kd.R_base ho0) hb); have n1_ := Aside0.mk (Kd.R_lower (Kd.R_new' ho0 (Kd.R_lt (by (with_reducible repeat (first | apply Kd.R_alloc | apply Kd.R_drewN | apply Kd.R_drew)); exact HO189.out))) (below_size (by repeat (first | (with_reducible first | exact HB.out | apply below_alloc | apply pw_below_drewN | apply below_drew1 | refine below_set ?_ GE184.out) | exact HB.out)))); have n2_ := Aside0.mk (blk_below (g := gb184) (o := .cells #[.slice A0_0 l0_0.length c0_0, .slice A0_1 l0_1.length c0_1] 25 (0, 0)) (by (with_reducible repeat (first | refine blk_drewN ?_ _ | refine blk_drew ?_ | refine blk_alloc ?_ _)); exact BK184.out) hb); have n3_ := Aside0.mk (below_step (by repeat (first | (with_reducible first | exact HB.out | apply below_alloc | apply pw_below_drewN | apply below_drew1 | refine below_set ?_ GE184.out) | exact HB.out)) hb); clear HO189; clear BK184; clear HB; have HO189 := n0_; have HO196 := n1_; have BK184 := n2_; have HB := n3_; clear n0_ n1_ n2_ n3_; (try clear hb); (try clear hb2); (try clear hk); (try clear hi); (try clear ho0); have hcz37_0 : w36.cell? ⟨gb184, 0, none⟩ = some (.slice A0_0 l0_0.length c0_0) := (blk_cell BK184.out 0).trans rfl; have hcz37_1 : w36.cell? ⟨gb184, 1, none⟩ = some (.slice A0_1 l0_1.length c0_1) := (blk_cell BK184.out 1).trans rfl; have hfz37_0 := blk_frozen BK184.out 0; have hfz37_1 := blk_frozen BK184.out 1; obtain ⟨Ao38, co38, eo38⟩ := Kd.R_slice HO196.out; subst eo38) | ((with_reducible refine gate_callee (f := 10) rfl ?_); refine goesL_ (some 47) rfl rfl Try.func10 (by kernel_rfl) rfl #[.agg #[.slice A0_0 l0_0.length c0_0, .slice A0_1 l0_1.length c0_1], .slice Ao38 t194.length co38] rfl (by (try simp only [List.map_toArray, List.map_cons, List.map_nil]); first | done | rfl | (simp only [List.length_drop, List.length_take]; rfl)) ?_; (with_reducible refine (walk_Fits.calls _ _ l0_0 _ _ l0_1 _ _ t194 true t199 t200 _ ?side1 ?side2 ?side3 ?side4 ?side5 ?side6 A17.out).mono ?_); (case side1 => repeat (first | exact (Kd.C_below HR0_0.out HB.out) | (with_reducible refine Kd.C_alloc ?_ _) | (with_reducible refine Kd.C_drewN ?_ _) | (with_reducible refine Kd.C_drew ?_))); (case side2 => exact HC0_0.out); (case side3 => repeat (first | exact (Kd.C_below HR0_1.out HB.out) | (with_reducible refine Kd.C_alloc ?_ _) | (with_reducible refine Kd.C_drewN ?_ _) | (with_reducible refine Kd.C_drew ?_))); (case side4 => exact HC0_1.out); (case side5 => repeat (first | exact (Kd.R_reads' HO196.out).2.2 | (with_reducible refine Kd.C_alloc ?_ _) | (with_reducible refine Kd.C_drewN ?_ _) | (with_reducible refine Kd.C_drew ?_))); (case side6 => exact (Kd.R_reads' HO196.out).2.1); rintro e w39 ⟨rfl, hb⟩; refine ⟨_, rfl, ?_⟩; have n0_ := Aside0.mk (Kd.R_below (by (with_reducible repeat (first | apply Kd.R_alloc | apply Kd.R_drewN | apply Kd.R_drew)); exact HO189.out) hb); have n1_ := Aside0.mk (Kd.R_below (by (with_reducible repeat (first | apply Kd.R_alloc | apply Kd.R_drewN | apply Kd.R_drew)); exact HO196.out) hb); have n2_ := Aside0.mk (blk_below (g := gb184) (o := .cells #[.slice A0_0 l0_0.length c0_0, .slice A0_1 l0_1.length c0_1] 25 (0, 0)) (by (with_reducible repeat (first | refine blk_drewN ?_ _ | refine blk_drew ?_ | refine blk_alloc ?_ _)); exact BK184.out) hb); have n3_ := Aside0.mk (below_step (by repeat (first | (with_reducible first | exact HB.out | apply below_alloc | apply pw_below_drewN | apply below_drew1 | refine below_set ?_ GE184.out) | exact HB.out)) hb); clear HO189; clear HO196; clear BK184; clear HB; have HO189 := n0_; have HO196 := n1_; have BK184 := n2_; have HB := n3_; clear n0_ n1_ n2_ n3_; (try clear hb); (try clear hb2); (try clear hk); (try clear hi); have hcz40_0 : w39.cell? ⟨gb184, 0, none⟩ = some (.slice A0_0 l0_0.length c0_0) := (blk_cell BK184.out 0).trans rfl; have hcz40_1 : w39.cell? ⟨gb184, 1, none⟩ = some (.slice A0_1 l0_1.length c0_1) := (blk_cell BK184.out 1).trans rfl; have hfz40_0 := blk_frozen BK184.out 0; have hfz40_1 := blk_frozen BK184.out 1) | ((with_reducible refine gate_callee (f := 11) rfl ?_); refine goesL_ (some 54) rfl rfl Try.func11 (by kernel_rfl) rfl #[.agg #[.slice A0_0 l0_0.length c0_0, .slice A0_1 l0_1.length c0_1], .slice Ao38 t194.length co38] rfl (by (try simp only [List.map_toArray, List.map_cons, List.map_nil]); first | done | rfl | (simp only [List.length_drop, List.length_take]; rfl)) ?_; (with_reducible refine (walk_Next.calls _ _ l0_0 _ _ l0_1 _ _ t194 t201 t204 _ ?side1 ?side2 ?side3 ?side4 ?side5 ?side6 A18.out).mono ?_); (case side1 => repeat (first | exact (Kd.C_below HR0_0.out HB.out) | (with_reducible refine Kd.C_alloc ?_ _) | (with_reducible refine Kd.C_drewN ?_ _) | (with_reducible refine Kd.C_drew ?_))); (case side2 => exact HC0_0.out); (case side3 => repeat (first | exact (Kd.C_below HR0_1.out HB.out) | (with_reducible refine Kd.C_alloc ?_ _) | (with_reducible refine Kd.C_drewN ?_ _) | (with_reducible refine Kd.C_drew ?_))); (case side4 => exact HC0_1.out); (case side5 => repeat (first | exact (Kd.R_reads' HO196.out).2.2 | (with_reducible refine Kd.C_alloc ?_ _) | (with_reducible refine Kd.C_drewN ?_ _) | (with_reducible refine Kd.C_drew ?_))); (case side6 => exact (Kd.R_reads' HO196.out).2.1); rintro e w41 ⟨v202, rfl, ho0, hb⟩; refine ⟨_, rfl, ?_⟩; have n0_ := Aside0.mk (Kd.R_elder' (by (with_reducible repeat (first | apply Kd.R_alloc | apply Kd.R_drewN | apply Kd.R_drew)); exact HO189.out) (Kd.R_base ho0) hb); have n1_ := Aside0.mk (Kd.R_elder' (by (with_reducible repeat (first | apply Kd.R_alloc | apply Kd.R_drewN | apply Kd.R_drew)); exact HO196.out) (Kd.R_base ho0) hb); have n2_ := Aside0.mk (Kd.R_lower (Kd.R_new' (Kd.R_new' ho0 (Kd.R_lt (by (with_reducible repeat (first | apply Kd.R_alloc | apply Kd.R_drewN | apply Kd.R_drew)); exact HO189.out))) (Kd.R_lt (by (with_reducible repeat (first | apply Kd.R_alloc | apply Kd.R_drewN | apply Kd.R_drew)); exact HO196.out))) (below_size (by repeat (first | (with_reducible first | exact HB.out | apply below_alloc | apply pw_below_drewN | apply below_drew1 | refine below_set ?_ GE184.out) | exact HB.out)))); have n3_ := Aside0.mk (blk_below (g := gb184) (o := .cells #[.slice A0_0 l0_0.length c0_0, .slice A0_1 l0_1.length c0_1] 25 (0, 0)) (by (with_reducible repeat (first | refine blk_drewN ?_ _ | refine blk_drew ?_ | refine blk_alloc ?_ _)); exact BK184.out) hb); have n4_ := Aside0.mk (below_step (by repeat (first | (with_reducible first | exact HB.out | apply below_alloc | apply pw_below_drewN | apply below_drew1 | refine below_set ?_ GE184.out) | exact HB.out)) hb); clear HO189; clear HO196; clear BK184; clear HB; have HO189 := n0_; have HO196 := n1_; have HO203 := n2_; have BK184 := n3_; have HB := n4_; clear n0_ n1_ n2_ n3_ n4_; (try clear hb); (try clear hb2); (try clear hk); (try clear hi); (try clear ho0); obtain ⟨Ao42, co42, eo42⟩ := Kd.R_slice HO203.out; subst eo42; have hcz43_0 : w41.cell? ⟨gb184, 0, none⟩ = some (.slice A0_0 l0_0.length c0_0) := (blk_cell BK184.out 0).trans rfl; have hcz43_1 : w41.cell? ⟨gb184, 1, none⟩ = some (.slice A0_1 l0_1.length c0_1) := (blk_cell BK184.out 1).trans rfl; have hfz43_0 := blk_frozen BK184.out 0; have hfz43_1 := blk_frozen BK184.out 1) | (go_at_call 13; (with_reducible refine (smithylaw14_speaks.calls kj2  t205 _ A29.out).mono ?_); rintro e w44 ⟨rfl, hb⟩; have n0_ := Aside0.mk (Kd.R_below (by (with_reducible repeat (first | apply Kd.R_alloc | apply Kd.R_drewN | apply Kd.R_drew)); exact HO189.out) hb); have n1_ := Aside0.mk (Kd.R_below (by (with_reducible repeat (first | apply Kd.R_alloc | apply Kd.R_drewN | apply Kd.R_drew)); exact HO196.out) hb); have n2_ := Aside0.mk (Kd.R_below (by (with_reducible repeat (first | apply Kd.R_alloc | apply Kd.R_drewN | apply Kd.R_drew)); exact HO203.out) hb); have n3_ := Aside0.mk (blk_below (g := gb184) (o := .cells #[.slice A0_0 l0_0.length c0_0, .slice A0_1 l0_1.length c0_1] 25 (0, 0)) (by (with_reducible repeat (first | refine blk_drewN ?_ _ | refine blk_drew ?_ | refine blk_alloc ?_ _)); exact BK184.out) hb); have n4_ := Aside0.mk (below_step (by repeat (first | (with_reducible first | exact HB.out | apply below_alloc | apply pw_below_drewN | apply below_drew1 | refine below_set ?_ GE184.out) | exact HB.out)) hb); clear HO189; clear HO196; clear HO203; clear BK184; clear HB; have HO189 := n0_; have HO196 := n1_; have HO203 := n2_; have BK184 := n3_; have HB := n4_; clear n0_ n1_ n2_ n3_ n4_; (try clear hb); (try clear hb2); (try clear hk); (try clear hi)))
                            go_ret
                            exact ⟨by first | rfl | (simp [errW_none, errW_some] <;> rfl) | (simp [*, errW_none, errW_some] <;> rfl), by repeat (first | (with_reducible first | exact HB.out | apply below_alloc | apply pw_below_drewN | apply below_drew1 | refine below_set ?_ GE184.out) | exact HB.out)⟩
                          · rw [if_neg c28] at H
                            have c28b0 : (t199 == ((t194.length : Int) == (l0_0.length : Int))) = false := by simpa using c28
                            (try (have c28b1 : decide (t199 = ((t194.length : Int) == (l0_0.length : Int))) = false := by simpa using c28))
                            (try (have c28b2 : (t199 == ((t194.length : Int) == (l0_0.length : Int))) = false := by simpa using c28))
                            (try (have c28b3 : ¬ (t199 = ((t194.length : Int) == (l0_0.length : Int))) := by simpa using c28))
                            clear c28
                            first | exact absurd (Option.some.inj H) (by rw [hrt]; decide) | (exfalso; rw [hrt] at H; cases H)
                        · rw [if_neg c27] at H
                          have c27b0 : (t199 == ((t201.length : Int) == 0)) = false := by simpa using c27
                          (try (have c27b1 : decide (t199 = ((t201.length : Int) == 0)) = false := by simpa using c27))
                          (try (have c27b2 : (t199 == ((t201.length : Int) == 0)) = false := by simpa using c27))
                          (try (have c27b3 : ¬ (t199 = ((t201.length : Int) == 0)) := by simpa using c27))
                          clear c27
                          first | exact absurd (Option.some.inj H) (by rw [hrt]; decide) | (exfalso; rw [hrt] at H; cases H)
                      · replace c26 := Bool.eq_false_iff.mpr c26
                        subst c26
                        have H1 : (some false) = some r := by rw [if_neg (show ¬ (false = true) by decide)] at H; exact H
                        clear H
                        have H := H1
                        clear H1
                        first | exact absurd (Option.some.inj H) (by rw [hrt]; decide) | (exfalso; rw [hrt] at H; cases H)
                    · replace c25 := Bool.eq_false_iff.mpr c25
                      subst c25
                      have H1 : (some false) = some r := by rw [if_neg (show ¬ (false = true) by decide)] at H; exact H
                      clear H
                      have H := H1
                      clear H1
                      first | exact absurd (Option.some.inj H) (by rw [hrt]; decide) | (exfalso; rw [hrt] at H; cases H)
                  · replace c24 := Bool.eq_false_iff.mpr c24
                    subst c24
                    have H1 : (some false) = some r := by rw [if_neg (show ¬ (false = true) by decide)] at H; exact H
                    clear H
                    have H := H1
                    clear H1
                    first | exact absurd (Option.some.inj H) (by rw [hrt]; decide) | (exfalso; rw [hrt] at H; cases H)
                · rw [if_neg c23] at H
                  have c23b0 : (t204 == 0) = false := beq_eq_false_iff_ne.mpr c23
                  have c23b1 : (t204 != 0) = true := bne_iff_ne.mpr c23
                  first | exact absurd (Option.some.inj H) (by rw [hrt]; decide) | (exfalso; rw [hrt] at H; cases H)
              · rw [if_neg c22] at H
                have c22b0 : (t200 == 0) = false := beq_eq_false_iff_ne.mpr c22
                have c22b1 : (t200 != 0) = true := bne_iff_ne.mpr c22
                first | exact absurd (Option.some.inj H) (by rw [hrt]; decide) | (exfalso; rw [hrt] at H; cases H)
            · rw [if_neg c21] at H
              have c21b0 : (t197 == 0) = false := beq_eq_false_iff_ne.mpr c21
              have c21b1 : (t197 != 0) = true := bne_iff_ne.mpr c21
              first | exact absurd (Option.some.inj H) (by rw [hrt]; decide) | (exfalso; rw [hrt] at H; cases H)
          · rw [if_neg c20] at H
            have c20b0 : (t193 == 0) = false := beq_eq_false_iff_ne.mpr c20
            have c20b1 : (t193 != 0) = true := bne_iff_ne.mpr c20
            first | exact absurd (Option.some.inj H) (by rw [hrt]; decide) | (exfalso; rw [hrt] at H; cases H)
        · rw [if_neg c19] at H
          have c19b0 : (t190 == 0) = false := beq_eq_false_iff_ne.mpr c19
          have c19b1 : (t190 != 0) = true := bne_iff_ne.mpr c19
          first | exact absurd (Option.some.inj H) (by rw [hrt]; decide) | (exfalso; rw [hrt] at H; cases H)

end Go.Proofs.Ytedgkcdofiildaa.P
