-- written by mp.py (wip/tools), a program of this session, over the kit's print
import Derived.Test.YtedgkcdofiildaaPWalkOrdersx0
import Derived.Test.YtedgkcdofiildaaPWalkOrdersx2
import Derived.Test.YtedgkcdofiildaaPWalkOrdersx3
namespace Go.Proofs.Ytedgkcdofiildaa.P
open Go.RowKit Go.Proofs.YtedgkcdofiildaaW.PrintWords Go.Proofs.YtedgkcdofiildaaW.PrintLast Go.Proofs.YtedgkcdofiildaaW.PrintMore
attribute [local go_sem] max2_int min2_int max_two min_two max_three min_three max_four min_four   -- for this text's walks alone
set_option linter.unusedVariables false
set_option linter.unusedSimpArgs false

/-! ### walk_Fits: function 10 -/
open Go.Proofs.Ytedgkcdofiildaa.Ext Go.Proofs.Ytedgkcdofiildaa.Maps0
set_option maxHeartbeats 400000 in
theorem fits1 (B b m : Nat) (g : ByteArray → Int) (s : ByteArray) (r : Bool) (h : (!(g s == 1)) = r) (w : World) (hc : w.cell? ⟨B, 0, none⟩ = some (.map (some b))) (hm : IMap Try.prog 9 w b m g) (hs : s.size ≤ maxLen) :
    Calls Try.prog 38 #[.string s, .pointer (some ⟨B, 0, none⟩)] w fun e w' => e = .returned (.bool r) ∧ Below w.heap.size w w' := by
  have HM := Aside0.mk hm
  cases hg : (g s == 1) with
  | true =>
    rw [hg] at h
    obtain rfl : false = r := h
    have HG := Lib.hid hg
    clear hg hm
    go_enter Try.func38, Try.ntmps38
    go_wp2_with (go_at_call 36; refine (set_has b m g s true HG.out _ HM.out hs).mono ?_; rintro e w2 ⟨rfl, hb⟩)
    go_ret
    exact ⟨rfl, hb⟩
  | false =>
    rw [hg] at h
    obtain rfl : true = r := h
    have HG := Lib.hid hg
    clear hg hm
    go_enter Try.func38, Try.ntmps38
    go_wp2_with (go_at_call 36; refine (set_has b m g s false HG.out _ HM.out hs).mono ?_; rintro e w2 ⟨rfl, hb⟩)
    go_ret
    exact ⟨rfl, hb⟩
theorem fits1_enter : ∀ args w, Sem.run Try.prog (callFunc 38 args) w = .ok (.enter 38 args) w := fun _ _ => rfl
/-- the needs of the last target of that name -/
def needsOf : List S48 → ByteArray → List ByteArray
  | [], _ => []
  | n :: ns, s => if memB (tgts ns) s = true then needsOf ns s else if n.f0 = s then n.f1 else []
theorem tgts_append (l k : List S48) : tgts (l ++ k) = tgts l ++ tgts k := by unfold tgts; rw [List.map_append]
theorem needsOf_same : ∀ (l : List S48) (x : S48), needsOf (l ++ [x]) x.f0 = x.f1
  | [], x => by
    have : memB (tgts ([] : List S48)) x.f0 = false := rfl
    simp only [List.nil_append, needsOf, this, Bool.false_eq_true, if_false, if_true]
  | n :: ns, x => by
    have : memB (tgts (ns ++ [x])) x.f0 = true := by rw [tgts_append, memB_append]; simp [memB, tgts]
    rw [List.cons_append, needsOf, if_pos this, needsOf_same ns x]
theorem needsOf_other : ∀ (l : List S48) (x : S48) (s : ByteArray), x.f0 ≠ s → needsOf (l ++ [x]) s = needsOf l s
  | [], x, s, h => by
    have : memB (tgts ([] : List S48)) s = false := rfl
    simp only [List.nil_append, needsOf, this, Bool.false_eq_true, if_false, if_neg h]
  | n :: ns, x, s, h => by
    have : memB (tgts (ns ++ [x])) s = memB (tgts ns) s := by rw [tgts_append, memB_append]; simp [memB, tgts, h]
    rw [List.cons_append, needsOf, needsOf, this, needsOf_other ns x s h]
theorem needsOf_sz {l : List S48} (h : nodeSz l) (s : ByteArray) : ∀ x ∈ needsOf l s, x.size ≤ maxLen := by
  induction l with
  | nil => intro x hx; cases hx
  | cons n ns ih =>
    intro x hx
    rw [needsOf] at hx
    split at hx
    · exact ih (fun m hm => h m (List.mem_cons_of_mem _ hm)) x hx
    · split at hx
      · exact (h n (List.mem_cons_self)).2 x hx
      · cases hx
/-- A map of the needs of some targets, as slices that w0 reads. -/
def NMap (w0 W : World) (b n : Nat) (l : List S48) : Prop := ∃ f, VMap Try.prog 9 W b n f ∧ ∀ s, memB (tgts l) s = true → ∃ A c, f (sk s) = some (.slice A (needsOf l s).length c) ∧ (needsOf l s).length ≤ c ∧ Kd.C Kd.string w0 A (needsOf l s).length (needsOf l s)
theorem NMap.kept {w0 W W' : World} {b n : Nat} {l : List S48} {row : Option Nat} (h : NMap w0 W b n l) (hg : W.grownBy W' row) (hne : some b ≠ row) : NMap w0 W' b n l := by
  obtain ⟨f, hv, hf⟩ := h
  exact ⟨f, hv.kept hg hne, hf⟩
theorem NMap.below {w0 W W' : World} {b n : Nat} {l : List S48} (h : NMap w0 W b n l) (hb : Below W.heap.size W W') : NMap w0 W' b n l := h.kept (grown_of_below hb none) (by simp)
theorem NMap.put {w0 W' : World} {b n : Nat} {l : List S48} {f : Lit → Option Value} (hf : ∀ s, memB (tgts l) s = true → ∃ A c, f (sk s) = some (.slice A (needsOf l s).length c) ∧ (needsOf l s).length ≤ c ∧ Kd.C Kd.string w0 A (needsOf l s).length (needsOf l s)) (x : S48) (A : Option Addr) (c : Nat)
    (hv : VMap Try.prog 9 W' b (n + 1) (upd f (sk x.f0) (some (.slice A x.f1.length c)))) (hc : x.f1.length ≤ c) (hr : Kd.C Kd.string w0 A x.f1.length x.f1) : NMap w0 W' b (n + 1) (l ++ [x]) := by
  refine ⟨_, hv, fun s hs => ?_⟩
  unfold upd
  rw [sk_same]
  by_cases e : s = x.f0
  · subst e
    rw [if_pos (decide_eq_true rfl), needsOf_same]
    exact ⟨A, c, rfl, hc, hr⟩
  · rw [if_neg (by rw [decide_eq_false e]; decide), needsOf_other l x s (fun h => e h.symm)]
    refine hf s ?_
    rw [tgts_append, memB_append] at hs
    have : memB (tgts [x]) s = false := by simp [memB, tgts]; exact fun h => e h.symm
    rw [this, Bool.or_false] at hs
    exact hs
def fitsGo (l0 : List S48) : List ByteArray → List ByteArray → Bool
  | _, [] => true
  | pre, s :: rest => if (memB pre s || (needsOf l0 s).any fun x => !memB pre x) = true then false else fitsGo l0 (pre ++ [s]) rest
def fitsR (l0 : List S48) (l1 l : List ByteArray) : Bool × Bool × Int := if askedR l0 l1 l = 0 then (fitsGo l0 [] l, fitsGo l0 [] l && decide (l.length = l0.length), 0) else (false, false, askedR l0 l1 l)
theorem fits_ret (a b : Nat) : Ending.returned (.tuple #[.bool true, .bool ((a : Int) == (b : Int)), .int .i64 0]) = .returned (.tuple #[.bool true, .bool (true && decide (a = b)), .int .i64 0]) := by
  have : ((a : Int) == (b : Int)) = (true && decide (a = b)) := by
    rw [Bool.true_and, Bool.eq_iff_iff]
    simp only [beq_iff_eq, decide_eq_true_eq]
    omega
  rw [this]
set_option maxHeartbeats 4000000 in
set_option maxRecDepth 100000 in
theorem fits_calls (A0 : Option Addr) (c0 : Nat) (l0 : List S48) (A1 : Option Addr) (c1 : Nat) (l1 : List ByteArray) (A : Option Addr) (c : Nat) (l : List ByteArray) (w : World)
    (hr0 : Kd.C k48 w A0 l0.length l0) (hc0 : l0.length ≤ c0) (hr1 : Kd.C Kd.string w A1 l1.length l1) (hc1 : l1.length ≤ c1) (hr : Kd.C Kd.string w A l.length l) (hc : l.length ≤ c) (hs1 : ∀ s ∈ l1, s.size ≤ 140737488351232) :
    Calls Try.prog 10 #[.agg #[.slice A0 l0.length c0, .slice A1 l1.length c1], .slice A l.length c] w fun e w' => e = .returned (.tuple #[.bool (fitsR l0 l1 l).1, .bool (fitsR l0 l1 l).2.1, .int .i64 (fitsR l0 l1 l).2.2]) ∧ Below w.heap.size w w' := by
  have hb1 : Below w.heap.size w (w.alloc (.cells #[.slice A0 l0.length c0, .slice A1 l1.length c1] 25)) := below_alloc (Below.refl _ _) _
  have hB1 := Aside0.mk hb1
  have HASK := Aside0.mk (asked_calls A0 c0 l0 A1 c1 l1 A c l _ (Kd.C_below hr0 hb1) hc0 (Kd.C_below hr1 hb1) hc1 (Kd.C_below hr hb1) hc hs1)
  have HW0 := Aside0.mk hr0
  have HW := Aside0.mk hr
  clear hr0 hr1 hr hs1 hb1
  unfold fitsR
  by_cases h0 : askedR l0 l1 l = 0
  · rw [if_pos h0]
    obtain ⟨g0, g1, g2, g3⟩ := asked_zero h0
    have HSZ := Aside0.mk (nodeSz_ok g0)
    have hl0 := (planR_ok g0).1
    have HSL := Aside0.mk (fun s (hs : s ∈ l) => show s.size ≤ maxLen by have := nameOk_size (List.all_eq_true.1 g2 s hs); unfold maxLen; omega)
    have HSM := Aside0.mk (fun s (hs : s ∈ l) => show memB (tgts l0) s = true by
      have h9 := List.any_eq_false.1 g3 s hs
      simpa using h9)
    have hll : l.length < maxLen := by unfold maxLen; omega
    obtain ⟨R, hR⟩ : ∃ R, fitsGo l0 [] l = R := ⟨_, rfl⟩
    rw [hR]
    rw [h0] at HASK
    have HR := Aside0.mk hR
    have hmm := @run_makeMap Try.prog
    clear h0 g0 g2 g3 hR
    go_enter Try.func10, Try.ntmps10
    go_wp2_with (go_at_call 34; refine HASK.out.mono ?_; rintro e w2 ⟨rfl, hb2⟩; have hB2 := Aside0.mk (below_step hB1.out hb2); have z0 : w2.cell? ⟨w.heap.size, 0, none⟩ = some (.slice A0 l0.length c0) := (hb2.cell (p := ⟨w.heap.size, 0, none⟩) (by simp)).trans (by go_simp); have z1 : w2.cell? ⟨w.heap.size, 1, none⟩ = some (.slice A1 l1.length c1) := (hb2.cell (p := ⟨w.heap.size, 1, none⟩) (by simp)).trans (by go_simp); have hq2 : w.heap.size < w2.heap.size := World.block_lt_of_cell? _ _ z0; clear hb2)
    go_loopw [24] (fun vi wr => ∃ (i : Nat), i ≤ l0.length ∧ vi = .int .i64 (i : Int) ∧ Aside0 (NMap w wr w2.heap.size i (l0.take i)) ∧ Aside0 (Below w.heap.size w wr) ∧ wr.cell? ⟨w.heap.size, 0, none⟩ = some (.slice A0 l0.length c0) ∧ wr.cell? ⟨w.heap.size, 1, none⟩ = some (.slice A1 l1.length c1)) (fun vi _ => ((l0.length : Int) - intOf vi).toNat)
    case atStart =>
      refine ⟨0, Nat.zero_le _, rfl, ⟨⟨_, VMap.made _ _ _, fun s hs => ?_⟩⟩, ⟨below_alloc hB2.out _⟩, Lib.cell?_alloc_some _ z0, Lib.cell?_alloc_some _ z1⟩
      rw [List.take_zero] at hs
      cases hs
    case round =>
      obtain ⟨i, hi, rfl, HN, HB, hc0_, hc1_⟩ := hrel
      have q0 := World.block_lt_of_cell? _ _ hc0_
      by_cases hlt : i < l0.length
      · have hw1 : IntKind.i64.wrap ((i : Int) + 1) = ((i + 1 : Nat) : Int) := by rw [IntKind.wrap_i64]; omega
        have qi : (i : Int) < (l0.length : Int) := by omega
        have pi : (0 : Int) ≤ (i : Int) := by omega
        obtain ⟨ad, B1, d1, B2, d2, rfl, y0, y1, y2, y3, y4, y5, y6, y7, y8, y9, hd1, hg1, hd2, hg2⟩ := at_T48 HW0.out (i : Int) pi qi
        have he : rd_T48 l0 (i : Int) = l0[i] := by simp [rd_T48, hlt]
        rw [he, Int.toNat_natCast] at y0 y1 y2 y3 y4 y5 y6 y7 y8 y9
        rw [he] at hd1 hg1 hd2 hg2
        have HT := Aside0.mk (show l0.take (i + 1) = l0.take i ++ [l0[i]] by rw [List.take_succ_eq_append_getElem hlt])
        obtain ⟨hs0, hs1⟩ := HSZ.out l0[i] (List.getElem_mem hlt)
        obtain ⟨x, hx⟩ : ∃ x, l0[i] = x := ⟨_, rfl⟩
        rw [hx] at y0 y1 y2 y3 y4 y5 y6 y7 y8 y9 hd1 hg1 hd2 hg2 HT hs0
        replace y0 := pw_cell_below HB.out y0
        replace y1 := pw_cell_below HB.out y1
        replace y2 := pw_cell_below HB.out y2
        replace y3 := pw_cell_below HB.out y3
        replace y4 := pw_cell_below HB.out y4
        replace y5 := pw_cell_below HB.out y5
        replace y6 := pw_cell_below HB.out y6
        replace y7 := pw_cell_below HB.out y7
        replace y8 := pw_cell_below HB.out y8
        replace y9 := pw_cell_below HB.out y9
        have HG1 := Aside0.mk hg1
        obtain ⟨f, hvm, hf⟩ := HN.out
        have HV := Aside0.mk (fun o => hvm.alloc o)
        have HFF := Aside0.mk hf
        clear he hx hg1 hg2 hs1 hvm hf
        go_wp2_with (at_mapUpdate; refine wpList_put_v _ rfl _ _ _ 63 rfl 9 23 (Go.Maps.string_keyed Try.underlying9) Try.underlying63 w2.heap.size i f rfl (HV.out _) (by unfold maxLen; omega) (.string x.f0) (.slice B1 x.f1.length d1) (sk x.f0) rfl rfl (Go.WideMaps.keyOf_string_mk Try.underlying9 hs0) ?_; intro w3 hm3 hg3)
        go_roundw
        case rel =>
          have hgr := hg3.grown
          exact ⟨i + 1, hlt, rfl, ⟨by rw [HT.out]; exact NMap.put HFF.out x B1 d1 hm3 hd1 HG1.out⟩, ⟨(below_alloc HB.out _).grown hgr (below_alloc HB.out _).size (fun k e => by cases e; omega)⟩, (hgr.cell_far ⟨w.heap.size, 0, none⟩ (show w.heap.size < (wr.alloc _).heap.size by have h9 : w.heap.size < wr.heap.size := q0; simp; omega) (fun e => by injection e with e; have e' : w.heap.size = w2.heap.size := e; omega)).trans (Lib.cell?_alloc_some _ hc0_), (hgr.cell_far ⟨w.heap.size, 1, none⟩ (show w.heap.size < (wr.alloc _).heap.size by have h9 : w.heap.size < wr.heap.size := q0; simp; omega) (fun e => by injection e with e; have e' : w.heap.size = w2.heap.size := e; omega)).trans (Lib.cell?_alloc_some _ hc1_)⟩
        case measure => simp [intOf]; omega
      · have hn : ¬ (i : Int) < (l0.length : Int) := by omega
        obtain ⟨wq, rfl⟩ : ∃ wq : World, wq = wr := ⟨_, rfl⟩
        have HN2 := Aside0.mk (show NMap w wq w2.heap.size l0.length l0 by
          have h9 := HN.out
          have h8 : i = l0.length := by omega
          rw [List.take_of_length_le (show l0.length ≤ i by omega), h8] at h9
          exact h9)
        clear HN
        go_wp2_with (go_at_call 35; refine (setOf_calls none 0 [] _ (Kd.C_nil Kd.string _) (fun _ h => by cases h) (by decide)).mono ?_; rintro e w3 ⟨rfl, ⟨m3, hm3l, hm3⟩, hb3⟩; have hB3 := Aside0.mk (below_step HB.out hb3); have HM3 := Aside0.mk hm3; have HN3 := Aside0.mk (HN2.out.below hb3); have zz0 := (hb3.cell (p := ⟨w.heap.size, 0, none⟩) q0).trans hc0_; have zz1 := (hb3.cell (p := ⟨w.heap.size, 1, none⟩) q0).trans hc1_; have hq3 : wq.heap.size + 1 < w3.heap.size := hm3.lt; have hq4 : w2.heap.size < w3.heap.size := (show w2.heap.size < w3.heap.size from (by obtain ⟨f9, h9, _⟩ := HN3.out; exact h9.lt)); have hq5 : w2.heap.size < wq.heap.size := (by obtain ⟨f9, h9, _⟩ := HN2.out; exact h9.lt); clear hb3 hm3)
        go_loopw [37] (fun vi wr => ∃ (j m : Nat), j ≤ l.length ∧ m ≤ j ∧ vi = .int .i64 (j : Int) ∧ Aside0 (fitsGo l0 [] l = fitsGo l0 (l.take j) (l.drop j)) ∧ Aside0 (IMap Try.prog 9 wr (wq.heap.size + 1) m (setR (l.take j))) ∧ Aside0 (NMap w wr w2.heap.size l0.length l0) ∧ Aside0 (Below w.heap.size w wr) ∧ wr.cell? ⟨w.heap.size, 0, none⟩ = some (.slice A0 l0.length c0) ∧ wr.cell? ⟨w3.heap.size, 0, none⟩ = some (.map (some (wq.heap.size + 1)))) (fun vi _ => ((l.length : Int) - intOf vi).toNat)
        case atStart =>
          obtain rfl : m3 = 0 := by simpa using hm3l
          refine ⟨0, 0, Nat.zero_le _, Nat.le_refl _, rfl, ⟨rfl⟩, ⟨HM3.out.alloc _⟩, ⟨?_⟩, ⟨below_alloc hB3.out _⟩, Lib.cell?_alloc_some _ zz0, by simp⟩
          exact HN3.out.below (below_alloc (Below.refl _ _) _)
        case round =>
          obtain ⟨j, m, hj, hmj, rfl, HG, HMD, HNo, HBo, hcp, hcb⟩ := hrel
          have qp := World.block_lt_of_cell? _ _ hcp
          by_cases hlj : j < l.length
          · have hw1 : IntKind.i64.wrap ((j : Int) + 1) = ((j + 1 : Nat) : Int) := by rw [IntKind.wrap_i64]; omega
            have qi : (j : Int) < (l.length : Int) := by omega
            have pi : (0 : Int) ≤ (j : Int) := by omega
            obtain ⟨ad, rfl, hx0⟩ := Kd.at_string (Kd.C_below HW.out HBo.out) (j : Int) pi qi
            have he : rdOf ByteArray.empty l (j : Int) = l[j] := by simp [rdOf, hlj]
            rw [he, Int.toNat_natCast] at hx0
            have hG := HG.out
            rw [List.drop_eq_getElem_cons hlj, fitsGo] at hG
            have hxs := HSL.out l[j] (List.getElem_mem hlj)
            have hxm := HSM.out l[j] (List.getElem_mem hlj)
            have HT := Aside0.mk (show l.take (j + 1) = l.take j ++ [l[j]] by rw [List.take_succ_eq_append_getElem hlj])
            obtain ⟨x, hx⟩ : ∃ x, l[j] = x := ⟨_, rfl⟩
            rw [hx] at hx0 hG hxs hxm HT
            obtain ⟨f, hv, hf⟩ := HNo.out
            obtain ⟨An, cn, hfx, hcn, hrn⟩ := hf x hxm
            have HLK := Aside0.mk (fun (W : World) (hb : Below wr.heap.size wr W) => show (Instr.lookup 63 (.map (some w2.heap.size)) (.string x) false).run Try.prog W = .ok (.slice An (needsOf l0 x).length cn) W from by
              have h9 := (hv.below hb).look (Go.Maps.string_keyed Try.underlying9) Try.underlying63 (Try.zeroValue23 _) (Go.WideMaps.keyOf_string_mk Try.underlying9 hxs)
              rw [show (Lit.string x.data.toList) = sk x from rfl, hfx] at h9
              exact h9)
            have HRN := Aside0.mk hrn
            have HNS := Aside0.mk (needsOf_sz HSZ.out x)
            clear he hx hv hf hfx hrn hxm
            cases hd : memB (l.take j) x with
            | true =>
              have HX := Aside0.mk (show false = R by rw [hd, Bool.true_or, if_pos rfl] at hG; rw [← HR.out]; exact hG.symm)
              have HD := Aside0.mk hd
              clear hd hG
              go_wp2_with (first | (go_at_call 36; refine (set_has (wq.heap.size + 1) m (setR (l.take j)) x true (by rw [setR_is]; exact HD.out) _ HMD.out hxs).mono ?_; rintro e w5 ⟨rfl, hb5⟩; have HB5 := Aside0.mk hb5; have HM5 := Aside0.mk (HMD.out.below hb5); have hlk5 := HLK.out _ hb5; have c5 := (hb5.cell (World.block_lt_of_cell? _ _ hcb)).trans hcb; have HCn := Aside0.mk (Kd.C_below HRN.out (below_step HBo.out hb5)); clear hb5))
              go_ret3
              exact ⟨by rw [← HX.out]; rfl, below_step HBo.out HB5.out⟩
            | false =>
              rw [hd, Bool.false_or] at hG
              have HD := Aside0.mk hd
              clear hd
              cases hany : (needsOf l0 x).any fun s => !memB (l.take j) s with
              | true =>
                have HX := Aside0.mk (show false = R by rw [hany, if_pos rfl] at hG; rw [← HR.out]; exact hG.symm)
                have HANY := Aside0.mk hany
                clear hany hG
                go_wp2_with (first | (go_at_call 36; refine (set_has (wq.heap.size + 1) m (setR (l.take j)) x false (by rw [setR_is]; exact HD.out) _ HMD.out hxs).mono ?_; rintro e w5 ⟨rfl, hb5⟩; have HB5 := Aside0.mk hb5; have HM5 := Aside0.mk (HMD.out.below hb5); have hlk5 := HLK.out _ hb5; have c5 := (hb5.cell (World.block_lt_of_cell? _ _ hcb)).trans hcb; have HCn := Aside0.mk (Kd.C_below HRN.out (below_step HBo.out hb5)); clear hb5) | (go_at_call 37; refine (containsF 38 fits1_enter (.pointer (some ⟨w3.heap.size, 0, none⟩)) (fun s => !memB (l.take j) s) An cn (needsOf l0 x).length (needsOf l0 x) true HANY.out _ HCn.out (fun s hs W hW => fits1 w3.heap.size (wq.heap.size + 1) m (setR (l.take j)) s _ (by rw [setR_is]) W ((hW.cell (World.block_lt_of_cell? _ _ c5)).trans c5) (HM5.out.below hW) (HNS.out s hs))).mono ?_; rintro e w6 ⟨rfl, hb6⟩; have HB6 := Aside0.mk (below_step HB5.out hb6); have c6 := (hb6.cell (World.block_lt_of_cell? _ _ c5)).trans c5; have HM6 := Aside0.mk (HM5.out.below hb6); clear hb6))
                go_ret3
                exact ⟨by rw [← HX.out]; rfl, below_step HBo.out HB6.out⟩
              | false =>
                have HX := Aside0.mk (show fitsGo l0 [] l = fitsGo l0 (l.take (j + 1)) (l.drop (j + 1)) by rw [hany, if_neg (by decide)] at hG; rw [HT.out]; exact hG)
                have HANY := Aside0.mk hany
                clear hany hG
                go_wp2_with (first | (go_at_call 36; refine (set_has (wq.heap.size + 1) m (setR (l.take j)) x false (by rw [setR_is]; exact HD.out) _ HMD.out hxs).mono ?_; rintro e w5 ⟨rfl, hb5⟩; have HB5 := Aside0.mk hb5; have HM5 := Aside0.mk (HMD.out.below hb5); have hlk5 := HLK.out _ hb5; have c5 := (hb5.cell (World.block_lt_of_cell? _ _ hcb)).trans hcb; have HCn := Aside0.mk (Kd.C_below HRN.out (below_step HBo.out hb5)); clear hb5) | (go_at_call 37; refine (containsF 38 fits1_enter (.pointer (some ⟨w3.heap.size, 0, none⟩)) (fun s => !memB (l.take j) s) An cn (needsOf l0 x).length (needsOf l0 x) false HANY.out _ HCn.out (fun s hs W hW => fits1 w3.heap.size (wq.heap.size + 1) m (setR (l.take j)) s _ (by rw [setR_is]) W ((hW.cell (World.block_lt_of_cell? _ _ c5)).trans c5) (HM5.out.below hW) (HNS.out s hs))).mono ?_; rintro e w6 ⟨rfl, hb6⟩; have HB6 := Aside0.mk (below_step HB5.out hb6); have c6 := (hb6.cell (World.block_lt_of_cell? _ _ c5)).trans c5; have HM6 := Aside0.mk (HM5.out.below hb6); clear hb6) | (go_at_call 39; refine (set_put (wq.heap.size + 1) m (setR (l.take j)) x _ HM6.out hxs (by unfold maxLen; omega)).mono ?_; rintro e w7 ⟨rfl, hm7, hg7⟩))
                go_roundw
                case rel =>
                  have hB6 := HB6.out
                  have hr0 := World.block_lt_of_cell? _ _ ((hB6.cell qp).trans hcp)
                  have hr1 := World.block_lt_of_cell? _ _ c6
                  exact ⟨j + 1, m + 1, hlj, by omega, rfl, HX, ⟨by rw [HT.out, ← setR_put]; exact hm7⟩, ⟨(HNo.out.below hB6).kept hg7 (fun e => by injection e with e; omega)⟩, ⟨(below_step HBo.out hB6).grown hg7 (below_step HBo.out hB6).size (fun k e => by cases e; omega)⟩, (hg7.cell_far _ hr0 (fun e => by injection e with e; have e' : w.heap.size = wq.heap.size + 1 := e; omega)).trans ((hB6.cell qp).trans hcp), (hg7.cell_far _ hr1 (fun e => by injection e with e; have e' : w3.heap.size = wq.heap.size + 1 := e; omega)).trans c6⟩
                case measure => simp [intOf]; omega
          · have hn2 : ¬ (j : Int) < (l.length : Int) := by omega
            have hG := HG.out
            rw [List.drop_eq_nil_of_le (by omega), fitsGo] at hG
            have HX := Aside0.mk (show true = R by rw [← HR.out]; exact hG.symm)
            clear hG
            go_wp2_with fail
            go_quiet (fail)
            go_wp2
            go_ret3
            exact ⟨by rw [← HX.out]; exact fits_ret _ _, pw_below_drewN HBo.out _⟩
  · rw [if_neg h0]
    have e1 : (askedR l0 l1 l == 0) = false := beq_eq_false_iff_ne.mpr h0
    have e2 : (askedR l0 l1 l != 0) = true := by simpa using h0
    clear h0
    go_enter Try.func10, Try.ntmps10
    go_wp2_with (go_at_call 34; refine HASK.out.mono ?_; rintro e w2 ⟨rfl, hb2⟩)
    go_ret3
    exact ⟨rfl, below_step hB1.out hb2⟩
def walk_Fits.f (l0 : List S48) (l1 l : List ByteArray) : Option (Bool × Bool × Int) := if (l1.all fun s => decide (s.size ≤ 140737488351232)) = true then some (fitsR l0 l1 l) else none
theorem walk_Fits.calls (A0_0 : Option Addr) (c0_0 : Nat) (l0_0 : List S48) (A0_1 : Option Addr) (c0_1 : Nat) (l0_1 : List ByteArray) (A1 : Option Addr) (c1 : Nat) (l1 : List ByteArray) (r1 : Bool) (r2 : Bool) (r3 : Int) (w : World)
    (hr0_0 : Kd.C k48 w A0_0 l0_0.length l0_0) (hc0_0 : l0_0.length ≤ c0_0) (hr0_1 : Kd.C Kd.string w A0_1 l0_1.length l0_1) (hc0_1 : l0_1.length ≤ c0_1) (hr1 : Kd.C Kd.string w A1 l1.length l1) (hc1 : l1.length ≤ c1) (h : walk_Fits.f l0_0 l0_1 l1 = some (r1, r2, r3)) :
    Calls Try.prog 10 #[.agg #[.slice A0_0 l0_0.length c0_0, .slice A0_1 l0_1.length c0_1], .slice A1 l1.length c1] w fun e w' => e = .returned (.tuple #[.bool r1, .bool r2, .int .i64 r3]) ∧ Below w.heap.size w w' := by
  unfold walk_Fits.f at h
  split at h
  · rename_i hs
    have h2 := Option.some.inj h
    have := fits_calls A0_0 c0_0 l0_0 A0_1 c0_1 l0_1 A1 c1 l1 w hr0_0 hc0_0 hr0_1 hc0_1 hr1 hc1 (fun s hm => of_decide_eq_true (List.all_eq_true.1 hs s hm))
    rw [h2] at this
    exact this
  · cases h

/-! ### smithyplain_Texts: function 15 -/
def smithyplain_Texts.l0 : Nat → List ByteArray → List ByteArray → Int → Int → Option (Bool)
  | 0, _, _, _, _ => none
  | k + 1, x0, x1, x12, x13 => if x13 < x12 then (if 0 ≤ x13 then (if x13 < (x0.length : Int) then (if x13 < (x1.length : Int) then (if (rdOf ByteArray.empty x0 x13).toList = (rdOf ByteArray.empty x1 x13).toList then (smithyplain_Texts.l0 k x0 x1 x12 (wrap64 (x13 + 1))) else (some false)) else (none)) else (none)) else (none)) else (some true)
def smithyplain_Texts.f (k : Nat) (l0 : List ByteArray) (l1 : List ByteArray) : Option (Bool) := if (l0.length : Int) = (l1.length : Int) then (smithyplain_Texts.l0 k l0 l1 (l0.length : Int) 0) else (some false)
theorem smithyplain_Texts.mono_l : ∀ k, (∀ y0 y1 y2 y3, LeO (smithyplain_Texts.l0 k y0 y1 y2 y3) (smithyplain_Texts.l0 (k + 1) y0 y1 y2 y3))
  | 0 => fun _ _ _ _ r h => by simp [smithyplain_Texts.l0] at h
  | k + 1 => by
    have ih0 := smithyplain_Texts.mono_l k
    · intro y0 y1 y2 y3
      unfold smithyplain_Texts.l0
      repeat' first
      | (with_reducible exact ih0 _ _ _ _)
      | (with_reducible exact LeO.refl _)
      | (with_reducible exact LeO.none _)
      | (with_reducible refine LeO.ite ?_ ?_)
      | (with_reducible refine LeO.bind ?_ (fun _ => ?_))
      | exact ih0 _ _ _ _
      | exact LeO.none _
      | refine LeO.ite ?_ ?_
      | refine LeO.bind ?_ (fun _ => ?_)
theorem smithyplain_Texts.mono : ∀ a0 a1 k, LeO (smithyplain_Texts.f k a0 a1) (smithyplain_Texts.f (k + 1) a0 a1) := by
  intro a0 a1 k
  have ih0 := smithyplain_Texts.mono_l k
  unfold smithyplain_Texts.f
  repeat' first
      | (with_reducible exact ih0 _ _ _ _)
      | (with_reducible exact LeO.refl _)
      | (with_reducible exact LeO.none _)
      | (with_reducible refine LeO.ite ?_ ?_)
      | (with_reducible refine LeO.bind ?_ (fun _ => ?_))
      | exact ih0 _ _ _ _
      | exact LeO.none _
      | refine LeO.ite ?_ ?_
      | refine LeO.bind ?_ (fun _ => ?_)
set_option maxHeartbeats 8000000 in
set_option maxRecDepth 100000 in
theorem smithyplain_Texts.calls (k : Nat) (A0 : Option Addr) (c0 : Nat) (l0 : List ByteArray) (A1 : Option Addr) (c1 : Nat) (l1 : List ByteArray) (r : Bool) (w : World) (hr0 : Kd.C Kd.string w A0 l0.length l0) (hc0 : l0.length ≤ c0) (hr1 : Kd.C Kd.string w A1 l1.length l1) (hc1 : l1.length ≤ c1) (h : smithyplain_Texts.f k l0 l1 = some r) :
    Calls Try.prog 15 #[.slice A0 l0.length c0, .slice A1 l1.length c1] w fun e w' => e = .returned (.bool r) ∧ Drawn0 w w' := by
  have HR0 := Aside0.mk hr0
  have HC0 := Aside0.mk hc0
  clear hr0 hc0
  have HR1 := Aside0.mk hr1
  have HC1 := Aside0.mk hc1
  clear hr1 hc1
  have H : (if (l0.length : Int) = (l1.length : Int) then (smithyplain_Texts.l0 k l0 l1 (l0.length : Int) 0) else (some false)) = some r := h
  clear h
  by_cases c3 : (l0.length : Int) = (l1.length : Int)
  · rw [if_pos c3] at H
    have c3b0 : ((l0.length : Int) == (l1.length : Int)) = true := beq_iff_eq.mpr c3
    have c3b1 : ((l0.length : Int) != (l1.length : Int)) = false := bne_eq_false_iff_eq.mpr c3
    have c3b2 : (l0.length == l1.length) = true := by first | simpa using c3 | (simp at c3 ⊢; omega)
    clear c3
    have H' := Aside0.mk H
    clear H
    go_enter Try.func15, Try.ntmps15
    go_wp2
    repeat (go_quiet (fail); try go_wp2)
    go_loopg [13] k (fun kq v13 w' => ∃ (x13_1 : Int), v13 = .int .i64 x13_1 ∧ Aside0 (smithyplain_Texts.l0 kq l0 l1 (l0.length : Int) x13_1 = some r) ∧ Aside0 (kq ≤ k) ∧ Drawn0 w w')
    case atStart => exact ⟨(0), (by first | rfl | (simp; done) | (simp [*]; done)), H', ⟨Nat.le_refl _⟩, by repeat (first | exact Drawn0.refl _ | apply Drawn0.step)⟩
    case round =>
      clear H'
      try clear c1
      try clear p2
      try clear c3
      try clear c3b0
      try clear c3b1
      try clear c3b2
      obtain ⟨x13_1, rfl, HA, HK1, ⟨m1, rfl⟩⟩ := hrel
      cases gk with
      | zero => exact absurd HA.out (by simp [smithyplain_Texts.l0])
      | succ k1 =>
        have H := HA.out
        clear HA
        simp only [smithyplain_Texts.l0] at H
        by_cases c4 : x13_1 < (l0.length : Int)
        · rw [if_pos c4] at H
          have c4b0 : decide (x13_1 < (l0.length : Int)) = true := decide_eq_true c4
          clear c4
          by_cases c5 : 0 ≤ x13_1
          · rw [if_pos c5] at H
            have c5b0 : decide (0 ≤ x13_1) = true := decide_eq_true c5
            clear c5
            by_cases c6 : x13_1 < (l0.length : Int)
            · rw [if_pos c6] at H
              have c6b0 : decide (x13_1 < (l0.length : Int)) = true := decide_eq_true c6
              clear c6
              by_cases c7 : x13_1 < (l1.length : Int)
              · rw [if_pos c7] at H
                have c7b0 : decide (x13_1 < (l1.length : Int)) = true := decide_eq_true c7
                clear c7
                by_cases c8 : (rdOf ByteArray.empty l0 x13_1).toList = (rdOf ByteArray.empty l1 x13_1).toList
                · rw [if_pos c8] at H
                  have c8b0 : ((rdOf ByteArray.empty l0 x13_1).toList == (rdOf ByteArray.empty l1 x13_1).toList) = true := beq_iff_eq.mpr c8
                  have c8b1 : ((rdOf ByteArray.empty l0 x13_1).toList != (rdOf ByteArray.empty l1 x13_1).toList) = false := bne_eq_false_iff_eq.mpr c8
                  clear c8
                  have H' := Aside0.mk H
                  clear H
                  have p118 : 0 ≤ (x13_1 : Int) := of_decide_eq_true (by first | (with_reducible assumption) | assumption)
                  have q118 : x13_1 < (l0.length : Int) := of_decide_eq_true (by first | (with_reducible assumption) | assumption)
                  obtain ⟨ad118, e118, hx118_0⟩ := Kd.at_string HR0.out x13_1 p118 q118
                  cases e118
                  replace p118 := eq_true p118
                  replace q118 := eq_true q118
                  have p119 : 0 ≤ (x13_1 : Int) := of_decide_eq_true (by first | (with_reducible assumption) | assumption)
                  have q119 : x13_1 < (l1.length : Int) := of_decide_eq_true (by first | (with_reducible assumption) | assumption)
                  obtain ⟨ad119, e119, hx119_0⟩ := Kd.at_string HR1.out x13_1 p119 q119
                  cases e119
                  replace p119 := eq_true p119
                  replace q119 := eq_true q119
                  go_wp2
                  repeat (go_quiet (fail); try go_wp2)
                  go_roundg k1
                  case measure => have := HK1.out; omega
                  case rel => exact ⟨(wrap64 (x13_1 + 1)), (by first | rfl | (simp; done) | (simp [*]; done)), H', ⟨by have := HK1.out; omega⟩, by repeat (first | exact Drawn0.refl _ | apply Drawn0.step)⟩
                · rw [if_neg c8] at H
                  have c8b0 : ((rdOf ByteArray.empty l0 x13_1).toList == (rdOf ByteArray.empty l1 x13_1).toList) = false := beq_eq_false_iff_ne.mpr c8
                  have c8b1 : ((rdOf ByteArray.empty l0 x13_1).toList != (rdOf ByteArray.empty l1 x13_1).toList) = true := bne_iff_ne.mpr c8
                  obtain rfl := Option.some.inj H
                  have p118 : 0 ≤ (x13_1 : Int) := of_decide_eq_true (by first | (with_reducible assumption) | assumption)
                  have q118 : x13_1 < (l0.length : Int) := of_decide_eq_true (by first | (with_reducible assumption) | assumption)
                  obtain ⟨ad118, e118, hx118_0⟩ := Kd.at_string HR0.out x13_1 p118 q118
                  cases e118
                  replace p118 := eq_true p118
                  replace q118 := eq_true q118
                  have p119 : 0 ≤ (x13_1 : Int) := of_decide_eq_true (by first | (with_reducible assumption) | assumption)
                  have q119 : x13_1 < (l1.length : Int) := of_decide_eq_true (by first | (with_reducible assumption) | assumption)
                  obtain ⟨ad119, e119, hx119_0⟩ := Kd.at_string HR1.out x13_1 p119 q119
                  cases e119
                  replace p119 := eq_true p119
                  replace q119 := eq_true q119
                  go_wp2
                  repeat (go_quiet (fail); try go_wp2)
                  go_ret
                  exact ⟨by first | rfl | (simp; done) | (simp [*]; done), by repeat (first | exact Drawn0.refl _ | apply Drawn0.step)⟩
              · rw [if_neg c7] at H
                exact absurd H (by simp)
            · rw [if_neg c6] at H
              exact absurd H (by simp)
          · rw [if_neg c5] at H
            exact absurd H (by simp)
        · rw [if_neg c4] at H
          have c4b0 : decide (x13_1 < (l0.length : Int)) = false := decide_eq_false c4
          clear c4
          obtain rfl := Option.some.inj H
          go_wp2
          repeat (go_quiet (fail); try go_wp2)
          go_ret
          exact ⟨by first | rfl | (simp; done) | (simp [*]; done), by repeat (first | exact Drawn0.refl _ | apply Drawn0.step)⟩
  · rw [if_neg c3] at H
    have c3b0 : ((l0.length : Int) == (l1.length : Int)) = false := beq_eq_false_iff_ne.mpr c3
    have c3b1 : ((l0.length : Int) != (l1.length : Int)) = true := bne_iff_ne.mpr c3
    have c3b2 : (l0.length == l1.length) = false := by first | simpa using c3 | (simp at c3 ⊢; omega)
    obtain rfl := Option.some.inj H
    go_enter Try.func15, Try.ntmps15
    go_wp2
    repeat (go_quiet (fail); try go_wp2)
    go_ret
    exact ⟨by first | rfl | (simp; done) | (simp [*]; done), by repeat (first | exact Drawn0.refl _ | apply Drawn0.step)⟩

/-! ### walk_Choose: function 19 -/
open Go.Proofs.Ytedgkcdofiildaa.Ext Go.Proofs.Ytedgkcdofiildaa.Maps0
/-- which of n things a number picks -/
def pickR (c : Int) (n : Nat) : Int := if Int.tmod c n < 0 then Int.tmod c n + n else Int.tmod c n
theorem pickR_lt (c : Int) (n : Nat) (h : 0 < n) : 0 ≤ pickR c n ∧ pickR c n < n := by
  have hn : ((n : Nat) : Int) = Int.ofNat n := rfl
  have h1 : -(n : Int) < Int.tmod c n ∧ Int.tmod c n < n := by
    cases c with
    | ofNat m =>
      have e : Int.tmod (Int.ofNat m) (n : Int) = ((m % n : Nat) : Int) := rfl
      have := Nat.mod_lt m h
      omega
    | negSucc m =>
      have e : Int.tmod (Int.negSucc m) (n : Int) = -(((m + 1) % n : Nat) : Int) := rfl
      have := Nat.mod_lt (m + 1) h
      omega
  obtain ⟨h2, h3⟩ := h1
  unfold pickR
  split <;> omega
def chooseGo (l0 : List S48) : List Int → List ByteArray → List ByteArray
  | [], out => out
  | c :: cs, out => if (nextR (setR out) l0).length = 0 then out else chooseGo l0 cs (out ++ [rdOf ByteArray.empty (nextR (setR out) l0) (pickR c (nextR (setR out) l0).length)])
def chooseR (l0 : List S48) (l1 : List ByteArray) (cs : List Int) : List ByteArray × Int := if askedR l0 l1 [] = 0 then (if 256 < cs.length then ([], 2) else (chooseGo l0 cs [], 0)) else ([], askedR l0 l1 [])
theorem add_blk (a : Addr) (i : Nat) : (a.add i).block = a.block := by unfold Addr.add; split <;> rfl
theorem nextR_names {g : ByteArray → Int} {l : List S48} (h : nodeSz l) : ∀ s ∈ nextR g l, s.size ≤ maxLen := fun s hs => by
  unfold nextR at hs
  obtain ⟨n, hn, rfl⟩ := List.mem_map.1 hs
  exact (h n (List.mem_filter.1 hn).1).1
theorem rd_mem {l : List ByteArray} {i : Int} (h0 : 0 ≤ i) (h1 : i < l.length) : rdOf ByteArray.empty l i ∈ l := by
  have h : i.toNat < l.length := by omega
  simp [rdOf, h]
--@@OFF
--@@ON
set_option maxHeartbeats 4000000 in
set_option maxRecDepth 100000 in
theorem choose_calls (A0 : Option Addr) (c0 : Nat) (l0 : List S48) (A1 : Option Addr) (c1 : Nat) (l1 : List ByteArray) (A : Option Addr) (c : Nat) (l : List Int) (w : World)
    (hr0 : Kd.C k48 w A0 l0.length l0) (hc0 : l0.length ≤ c0) (hr1 : Kd.C Kd.string w A1 l1.length l1) (hc1 : l1.length ≤ c1) (hr : Kd.C (Kd.int .i64) w A l.length l) (hs1 : ∀ s ∈ l1, s.size ≤ 140737488351232) :
    Calls Try.prog 19 #[.agg #[.slice A0 l0.length c0, .slice A1 l1.length c1], .slice A l.length c] w fun e w' => ∃ v, e = .returned (.tuple #[v, .int .i64 (chooseR l0 l1 l).2]) ∧ Kd.R Kd.string 9 w' w.heap.size (fun _ => True) v (chooseR l0 l1 l).1 ∧ Below w.heap.size w w' := by
  have hb1 : Below w.heap.size w (w.alloc (.cells #[.slice A0 l0.length c0, .slice A1 l1.length c1] 25)) := below_alloc (Below.refl _ _) _
  have hB1 := Aside0.mk hb1
  have HASK := Aside0.mk (asked_calls A0 c0 l0 A1 c1 l1 none 0 [] _ (Kd.C_below hr0 hb1) hc0 (Kd.C_below hr1 hb1) hc1 (Kd.C_nil Kd.string _) (Nat.le_refl _) hs1)
  have HW0 := Aside0.mk hr0
  have HW := Aside0.mk hr
  clear hr0 hr1 hr hs1 hb1
  unfold chooseR
  by_cases h0 : askedR l0 l1 [] = 0
  · rw [if_pos h0]
    obtain ⟨g0, g1, g2, _⟩ := asked_zero h0
    have HSZ := Aside0.mk (nodeSz_ok g0)
    have hl0 := (planR_ok g0).1
    rw [h0] at HASK
    clear h0 g0 g2
    by_cases h1 : 256 < l.length
    · rw [if_pos h1]
      have e1 : decide ((256 : Int) < (l.length : Int)) = true := decide_eq_true (by omega)
      clear h1
      go_enter Try.func19, Try.ntmps19
      go_wp2_with (go_at_call 34; refine HASK.out.mono ?_; rintro e w2 ⟨rfl, hb2⟩)
      go_ret2
      exact ⟨_, rfl, Kd.R_nil _ _ _ _ _, below_step hB1.out hb2⟩
    · rw [if_neg h1]
      have e1 : decide ((256 : Int) < (l.length : Int)) = false := decide_eq_false (by omega)
      have hl : l.length ≤ 256 := by omega
      clear h1
      go_enter Try.func19, Try.ntmps19
      go_wp2_with (first | (go_at_call 34; refine HASK.out.mono ?_; rintro e w2 ⟨rfl, hb2⟩; have hB2 := Aside0.mk (below_step hB1.out hb2); have z0 : w2.cell? ⟨w.heap.size, 0, none⟩ = some (.slice A0 l0.length c0) := (hb2.cell (p := ⟨w.heap.size, 0, none⟩) (by simp)).trans (by go_simp); have z1 : w2.cell? ⟨w.heap.size, 1, none⟩ = some (.slice A1 l1.length c1) := (hb2.cell (p := ⟨w.heap.size, 1, none⟩) (by simp)).trans (by go_simp); have hq2 : w.heap.size < w2.heap.size := World.block_lt_of_cell? _ _ z0; clear hb2) | (go_at_call 35; refine (setOf_calls none 0 [] _ (Kd.C_nil Kd.string _) (fun _ h => by cases h) (by decide)).mono ?_; rintro e w3 ⟨rfl, ⟨m3, hm3l, hm3⟩, hb3⟩; have hB3 := Aside0.mk (below_step hB2.out hb3); have HM3 := Aside0.mk hm3; have zz0 := (hb3.cell (p := ⟨w.heap.size, 0, none⟩) hq2).trans z0; have zz1 := (hb3.cell (p := ⟨w.heap.size, 1, none⟩) hq2).trans z1; have hq23 : w2.heap.size + 1 < w3.heap.size := HM3.out.lt; clear hb3))
      go_loopw [8, 24] (fun vo vi wr => ∃ (i m : Nat) (out : List ByteArray), i ≤ l.length ∧ m ≤ i ∧ vi = .int .i64 (i : Int) ∧ Aside0 (chooseGo l0 l [] = chooseGo l0 (l.drop i) out) ∧ out.length = i ∧ Aside0 (IMap Try.prog 9 wr (w2.heap.size + 1) m (setR out)) ∧ Aside0 (Kd.R Kd.string 9 wr w.heap.size (fun k => k ≠ w.heap.size ∧ k ≠ w2.heap.size + 1 ∧ k ≠ w3.heap.size) vo out) ∧ Aside0 (Below w.heap.size w wr) ∧ w3.heap.size < wr.heap.size ∧ wr.cell? ⟨w.heap.size, 0, none⟩ = some (.slice A0 l0.length c0) ∧ wr.cell? ⟨w.heap.size, 1, none⟩ = some (.slice A1 l1.length c1) ∧ wr.cell? ⟨w3.heap.size, 0, none⟩ = some (.map (some (w2.heap.size + 1)))) (fun _ vi _ => ((l.length : Int) - intOf vi).toNat)
      case atStart =>
        refine ⟨0, 0, [], Nat.zero_le _, Nat.le_refl _, rfl, ⟨rfl⟩, rfl, ⟨?_⟩, ⟨Kd.R_nil _ _ _ _ _⟩, ⟨below_alloc hB3.out _⟩, by simp, Lib.cell?_alloc_some _ zz0, Lib.cell?_alloc_some _ zz1, by simp⟩
        obtain rfl : m3 = 0 := by simpa using hm3l
        exact HM3.out.alloc _
      case round =>
        obtain ⟨i, m, out, hi, hmi, rfl, HG, hol, HM, HO, HB, hlt3, hc0_, hc1_, hcs⟩ := hrel
        have q0 := World.block_lt_of_cell? _ _ hc0_
        by_cases hlt : i < l.length
        · have hw1 : IntKind.i64.wrap ((i : Int) + 1) = ((i + 1 : Nat) : Int) := by rw [IntKind.wrap_i64]; omega
          have qi : (i : Int) < (l.length : Int) := by omega
          have pi : (0 : Int) ≤ (i : Int) := by omega
          obtain ⟨ad, rfl, hci⟩ := Kd.at_int (Kd.C_below HW.out HB.out) (i : Int) pi qi
          have he : rd l (i : Int) = l[i] := by simp [rd, hlt]
          rw [he, Int.toNat_natCast] at hci
          have hG := HG.out
          rw [List.drop_eq_getElem_cons hlt, chooseGo] at hG
          obtain ⟨x, hx⟩ : ∃ x, l[i] = x := ⟨_, rfl⟩
          obtain ⟨nl, hnl⟩ : ∃ nl, nextR (setR out) l0 = nl := ⟨_, rfl⟩
          have hnle : nl.length ≤ l0.length := by rw [← hnl]; exact nextR_le _ _
          have hnn : ∀ s ∈ nl, s.size ≤ maxLen := by rw [← hnl]; exact nextR_names HSZ.out
          rw [hx] at hci hG
          rw [hnl] at hG
          have HNL := Aside0.mk hnl
          have HNN := Aside0.mk hnn
          clear he hx hnl hnn
          by_cases hz : nl.length = 0
          · rw [if_pos hz] at hG
            have HX := Aside0.mk hG
            have e0 : ((nl.length : Int) == 0) = true := by rw [hz]; rfl
            have HOX := Aside0.mk (show Kd.R Kd.string 9 wr w.heap.size (fun _ => True) u8 (chooseGo l0 l []) by rw [HX.out]; exact Kd.R_mono HO.out (fun _ _ => trivial))
            clear hG hz
            go_wp2_with (go_at_call 40; refine (next_calls A0 c0 l0 A1 c1 l1 _ m (setR out) _ (Kd.C_below HW0.out HB.out) HM.out (by omega) HSZ.out).mono ?_; rintro e w4 ⟨v, rfl, hv, hb4⟩; rw [HNL.out] at hv; obtain ⟨An, cn, rfl, hcn, hCn⟩ := Kd.R_reads hv; have HOX4 := Aside0.mk (Kd.R_below HOX.out hb4); have HB4 := Aside0.mk (below_step HB.out hb4); clear hv hCn hb4)
            go_ret2
            exact ⟨_, rfl, HOX4.out, HB4.out⟩
          · rw [if_neg hz] at hG
            have hpos : 0 < nl.length := by omega
            have hpk := pickR_lt x nl.length hpos
            have e0 : ((nl.length : Int) == 0) = false := beq_eq_false_iff_ne.mpr (by omega)
            obtain ⟨y, hy⟩ : ∃ y, rdOf ByteArray.empty nl (pickR x nl.length) = y := ⟨_, rfl⟩
            have hys : y.size ≤ maxLen := by rw [← hy]; exact HNN.out _ (rd_mem hpk.1 hpk.2)
            rw [hy] at hG
            have HG2 := Aside0.mk hG
            clear hG
            by_cases hs : x.tmod (nl.length : Int) < 0
            · have eK : pickR x nl.length = x.tmod (nl.length : Int) + (nl.length : Int) := by unfold pickR; rw [if_pos hs]
              obtain ⟨K, hK⟩ : ∃ K, pickR x nl.length = K := ⟨_, rfl⟩
              rw [hK] at hpk hy eK
              obtain ⟨hK0, hK1⟩ := hpk
              have eW : wrap64 (x.tmod (nl.length : Int) + (nl.length : Int)) = K := by rw [← eK]; unfold wrap64; omega
              have es : decide (x.tmod (nl.length : Int) < 0) = true := decide_eq_true hs
              clear hs eK hK
              go_wp2_with (first | (go_at_call 40; refine (next_calls A0 c0 l0 A1 c1 l1 _ m (setR out) _ (Kd.C_below HW0.out HB.out) HM.out (by omega) HSZ.out).mono ?_; rintro e w4 ⟨v, rfl, hv, hb4⟩; rw [HNL.out] at hv; obtain ⟨gn, cn, hve, hgn, hgl, _⟩ := Kd.R_form hv hpos; obtain ⟨adn, hadn⟩ : ∃ a : Addr, a = ⟨gn, 0, none⟩ := ⟨_, rfl⟩; rw [← hadn] at hve; obtain ⟨An, cn', hve', _, hCn⟩ := Kd.R_reads hv; subst hve; injection hve' with hve1 _ _; obtain ⟨adn', hadn', hxe⟩ := Kd.at_string hCn K hK0 hK1; rw [← hve1] at hadn'; obtain rfl : adn = adn' := Option.some.inj hadn'; rw [hy] at hxe; have HADN := Aside0.mk (show wr.heap.size ≤ adn.block by rw [hadn]; exact hgn); have HB4 := Aside0.mk hb4; have HOX4 := Aside0.mk (Kd.R_below HO.out hb4); have HM4 := Aside0.mk (HM.out.below hb4); have hcs4 := (hb4.cell (World.block_lt_of_cell? _ _ hcs)).trans hcs; clear hv hb4 hadn hCn hve1 hadn') | (at_builtin; refine Kd.R_append Kd.string (w0 := w) w.heap.size rfl (.tmp 44) (.tmp 49) 23 9 (.string ⟨#[]⟩) 16 rfl Try.underlying23 info9 rfl (by decide) (by omega) u8 out y [.string y] (fun k => k ≠ w.heap.size ∧ k ≠ w2.heap.size + 1 ∧ k ≠ w3.heap.size) (fun _ => False) rfl (by first | (go_simp; done) | (go_simp; rfl)) rfl (fun _ hk => hk.elim) ?aF ?aO ?aB ?aS ?aL ?_; (case aF => exact (fun k hk => by have h2 := HB4.out.size; exact ⟨by omega, by omega, by omega⟩)); (case aO => exact HOX4.out); (case aB => exact below_step HB.out HB4.out); (case aS => exact (by have h1 := HB.out.size; have h2 := HB4.out.size; omega)); (case aL => exact (by omega)); intro v1 w5 HO5 HB5 hg5 _; have hne5 := Aside0.mk (fun k (hk : u8.ownBlock = some k) => (Kd.R_bound HO.out).1 k hk); have c5 : w5.cell? ⟨w3.heap.size, 0, none⟩ = some (.map (some (w2.heap.size + 1))) := (hg5.cell_far _ (World.block_lt_of_cell? _ _ hcs4) (fun e => (hne5.out _ e.symm).1.2.2 rfl)).trans hcs4; have x5 : w5.cell? (adn.add K.toNat) = some (.string y) := (hg5.cell_far _ (World.block_lt_of_cell? _ _ hxe) (fun e => by have h1 := (hne5.out _ e.symm).2.2.1; have h2 := HADN.out; rw [add_blk] at h1; omega)).trans hxe; have p5 : w5.cell? ⟨w.heap.size, 0, none⟩ = some (.slice A0 l0.length c0) := (hg5.cell_far _ (World.block_lt_of_cell? _ _ (pw_cell_below HB4.out hc0_)) (fun e => (hne5.out _ e.symm).1.1 rfl)).trans (pw_cell_below HB4.out hc0_); have p5' : w5.cell? ⟨w.heap.size, 1, none⟩ = some (.slice A1 l1.length c1) := (hg5.cell_far _ (World.block_lt_of_cell? _ _ (pw_cell_below HB4.out hc1_)) (fun e => (hne5.out _ e.symm).1.1 rfl)).trans (pw_cell_below HB4.out hc1_); have HM5 := Aside0.mk (HM4.out.kept hg5 (fun e => (hne5.out _ e.symm).1.2.1 rfl)); have HO5' := Aside0.mk HO5; have HB5' := Aside0.mk HB5; have hs5 : w3.heap.size < w5.heap.size := World.block_lt_of_cell? _ _ c5; have hb5' : w.heap.size ≤ w5.heap.size := HB5.size; clear HO5 HB5 hg5))
              go_region_held3 (fun w' => w'.cell? ⟨w3.heap.size, 0, none⟩ = some (.map (some (w2.heap.size + 1))) ∧ w'.cell? (adn.add K.toNat) = some (.string y)) (go_keep) (first | (go_at_call 39; refine (set_put (w2.heap.size + 1) m (setR out) y _ (HM5.out.drewN 1) hys (by unfold maxLen; omega)).mono ?_; rintro e w6 ⟨rfl, hm6, hg6⟩; have c6 := (hg6.cell_far ⟨w3.heap.size, 0, none⟩ (show w3.heap.size < w5.heap.size from hs5) (fun e => by injection e with e; have e' : w3.heap.size = w2.heap.size + 1 := e; omega)).trans c5; have x6 := (hg6.cell_far (adn.add K.toNat) (World.block_lt_of_cell? w5 _ x5) (fun e => by injection e with e; rw [add_blk] at e; have := HADN.out; omega)).trans x5; have p6 := (hg6.cell_far ⟨w.heap.size, 0, none⟩ (World.block_lt_of_cell? w5 _ p5) (fun e => by injection e with e; have e' : w.heap.size = w2.heap.size + 1 := e; omega)).trans p5; have p6' := (hg6.cell_far ⟨w.heap.size, 1, none⟩ (World.block_lt_of_cell? w5 _ p5') (fun e => by injection e with e; have e' : w.heap.size = w2.heap.size + 1 := e; omega)).trans p5'; have HM6 := Aside0.mk hm6; have HG6 := Aside0.mk hg6; clear hm6 hg6))
              all_goals
                go_wp2_with fail
                go_roundw
                case rel =>
                  exact ⟨i + 1, m + 1, out ++ [y], hlt, by omega, rfl, HG2, by simp [hol], ⟨by rw [← setR_put]; exact HM6.out⟩, ⟨Kd.R_grown (show Kd.R Kd.string 9 w5.drew w.heap.size _ v1 (out ++ [y]) from HO5'.out) HG6.out (fun k hk e => by injection e with e; exact hk.2.1 e)⟩, ⟨(below_drew HB5'.out).grown HG6.out hb5' (fun k e => by cases e; omega)⟩, Nat.lt_of_lt_of_le hs5 HG6.out.size, p6, p6', c6⟩
                case measure => simp [intOf]; omega
            · have eK : pickR x nl.length = x.tmod (nl.length : Int) := by unfold pickR; rw [if_neg hs]
              obtain ⟨K, hK⟩ : ∃ K, pickR x nl.length = K := ⟨_, rfl⟩
              rw [hK] at hpk hy eK
              obtain ⟨hK0, hK1⟩ := hpk
              have eW : x.tmod (nl.length : Int) = K := eK.symm
              have es : decide (K < 0) = false := decide_eq_false (by omega)
              clear hs eK hK
              go_wp2_with (first | (go_at_call 40; refine (next_calls A0 c0 l0 A1 c1 l1 _ m (setR out) _ (Kd.C_below HW0.out HB.out) HM.out (by omega) HSZ.out).mono ?_; rintro e w4 ⟨v, rfl, hv, hb4⟩; rw [HNL.out] at hv; obtain ⟨gn, cn, hve, hgn, hgl, _⟩ := Kd.R_form hv hpos; obtain ⟨adn, hadn⟩ : ∃ a : Addr, a = ⟨gn, 0, none⟩ := ⟨_, rfl⟩; rw [← hadn] at hve; obtain ⟨An, cn', hve', _, hCn⟩ := Kd.R_reads hv; subst hve; injection hve' with hve1 _ _; obtain ⟨adn', hadn', hxe⟩ := Kd.at_string hCn K hK0 hK1; rw [← hve1] at hadn'; obtain rfl : adn = adn' := Option.some.inj hadn'; rw [hy] at hxe; have HADN := Aside0.mk (show wr.heap.size ≤ adn.block by rw [hadn]; exact hgn); have HB4 := Aside0.mk hb4; have HOX4 := Aside0.mk (Kd.R_below HO.out hb4); have HM4 := Aside0.mk (HM.out.below hb4); have hcs4 := (hb4.cell (World.block_lt_of_cell? _ _ hcs)).trans hcs; clear hv hb4 hadn hCn hve1 hadn') | (at_builtin; refine Kd.R_append Kd.string (w0 := w) w.heap.size rfl (.tmp 44) (.tmp 49) 23 9 (.string ⟨#[]⟩) 16 rfl Try.underlying23 info9 rfl (by decide) (by omega) u8 out y [.string y] (fun k => k ≠ w.heap.size ∧ k ≠ w2.heap.size + 1 ∧ k ≠ w3.heap.size) (fun _ => False) rfl (by first | (go_simp; done) | (go_simp; rfl)) rfl (fun _ hk => hk.elim) ?aF ?aO ?aB ?aS ?aL ?_; (case aF => exact (fun k hk => by have h2 := HB4.out.size; exact ⟨by omega, by omega, by omega⟩)); (case aO => exact HOX4.out); (case aB => exact below_step HB.out HB4.out); (case aS => exact (by have h1 := HB.out.size; have h2 := HB4.out.size; omega)); (case aL => exact (by omega)); intro v1 w5 HO5 HB5 hg5 _; have hne5 := Aside0.mk (fun k (hk : u8.ownBlock = some k) => (Kd.R_bound HO.out).1 k hk); have c5 : w5.cell? ⟨w3.heap.size, 0, none⟩ = some (.map (some (w2.heap.size + 1))) := (hg5.cell_far _ (World.block_lt_of_cell? _ _ hcs4) (fun e => (hne5.out _ e.symm).1.2.2 rfl)).trans hcs4; have x5 : w5.cell? (adn.add K.toNat) = some (.string y) := (hg5.cell_far _ (World.block_lt_of_cell? _ _ hxe) (fun e => by have h1 := (hne5.out _ e.symm).2.2.1; have h2 := HADN.out; rw [add_blk] at h1; omega)).trans hxe; have p5 : w5.cell? ⟨w.heap.size, 0, none⟩ = some (.slice A0 l0.length c0) := (hg5.cell_far _ (World.block_lt_of_cell? _ _ (pw_cell_below HB4.out hc0_)) (fun e => (hne5.out _ e.symm).1.1 rfl)).trans (pw_cell_below HB4.out hc0_); have p5' : w5.cell? ⟨w.heap.size, 1, none⟩ = some (.slice A1 l1.length c1) := (hg5.cell_far _ (World.block_lt_of_cell? _ _ (pw_cell_below HB4.out hc1_)) (fun e => (hne5.out _ e.symm).1.1 rfl)).trans (pw_cell_below HB4.out hc1_); have HM5 := Aside0.mk (HM4.out.kept hg5 (fun e => (hne5.out _ e.symm).1.2.1 rfl)); have HO5' := Aside0.mk HO5; have HB5' := Aside0.mk HB5; have hs5 : w3.heap.size < w5.heap.size := World.block_lt_of_cell? _ _ c5; have hb5' : w.heap.size ≤ w5.heap.size := HB5.size; clear HO5 HB5 hg5))
              go_region_held3 (fun w' => w'.cell? ⟨w3.heap.size, 0, none⟩ = some (.map (some (w2.heap.size + 1))) ∧ w'.cell? (adn.add K.toNat) = some (.string y)) (go_keep) (first | (go_at_call 39; refine (set_put (w2.heap.size + 1) m (setR out) y _ (HM5.out.drewN 1) hys (by unfold maxLen; omega)).mono ?_; rintro e w6 ⟨rfl, hm6, hg6⟩; have c6 := (hg6.cell_far ⟨w3.heap.size, 0, none⟩ (show w3.heap.size < w5.heap.size from hs5) (fun e => by injection e with e; have e' : w3.heap.size = w2.heap.size + 1 := e; omega)).trans c5; have x6 := (hg6.cell_far (adn.add K.toNat) (World.block_lt_of_cell? w5 _ x5) (fun e => by injection e with e; rw [add_blk] at e; have := HADN.out; omega)).trans x5; have p6 := (hg6.cell_far ⟨w.heap.size, 0, none⟩ (World.block_lt_of_cell? w5 _ p5) (fun e => by injection e with e; have e' : w.heap.size = w2.heap.size + 1 := e; omega)).trans p5; have p6' := (hg6.cell_far ⟨w.heap.size, 1, none⟩ (World.block_lt_of_cell? w5 _ p5') (fun e => by injection e with e; have e' : w.heap.size = w2.heap.size + 1 := e; omega)).trans p5'; have HM6 := Aside0.mk hm6; have HG6 := Aside0.mk hg6; clear hm6 hg6))
              all_goals
                go_wp2_with fail
                go_roundw
                case rel =>
                  exact ⟨i + 1, m + 1, out ++ [y], hlt, by omega, rfl, HG2, by simp [hol], ⟨by rw [← setR_put]; exact HM6.out⟩, ⟨Kd.R_grown (show Kd.R Kd.string 9 w5.drew w.heap.size _ v1 (out ++ [y]) from HO5'.out) HG6.out (fun k hk e => by injection e with e; exact hk.2.1 e)⟩, ⟨(below_drew HB5'.out).grown HG6.out hb5' (fun k e => by cases e; omega)⟩, Nat.lt_of_lt_of_le hs5 HG6.out.size, p6, p6', c6⟩
                case measure => simp [intOf]; omega
        · have hn : ¬ (i : Int) < (l.length : Int) := by omega
          have HX := HG.out
          rw [List.drop_eq_nil_of_le (by omega), chooseGo] at HX
          have HOX := Aside0.mk (show Kd.R Kd.string 9 wr w.heap.size (fun _ => True) u8 (chooseGo l0 l []) by rw [HX]; exact Kd.R_mono HO.out (fun _ _ => trivial))
          clear HX
          go_wp2_with fail
          go_ret2
          exact ⟨_, rfl, HOX.out, HB.out⟩
  · rw [if_neg h0]
    have e1 : (askedR l0 l1 [] == 0) = false := beq_eq_false_iff_ne.mpr h0
    have e2 : (askedR l0 l1 [] != 0) = true := by simpa using h0
    clear h0
    go_enter Try.func19, Try.ntmps19
    go_wp2_with (go_at_call 34; refine HASK.out.mono ?_; rintro e w2 ⟨rfl, hb2⟩)
    go_ret2
    exact ⟨_, rfl, Kd.R_nil _ _ _ _ _, below_step hB1.out hb2⟩
def walk_Choose.f (l0 : List S48) (l1 : List ByteArray) (l : List Int) : Option (List ByteArray × Int) := if (l1.all fun s => decide (s.size ≤ 140737488351232)) = true then some (chooseR l0 l1 l) else none
theorem walk_Choose.calls (A0_0 : Option Addr) (c0_0 : Nat) (l0_0 : List S48) (A0_1 : Option Addr) (c0_1 : Nat) (l0_1 : List ByteArray) (A1 : Option Addr) (c1 : Nat) (l1 : List Int) (r1 : List ByteArray) (r2 : Int) (w : World)
    (hr0_0 : Kd.C k48 w A0_0 l0_0.length l0_0) (hc0_0 : l0_0.length ≤ c0_0) (hr0_1 : Kd.C Kd.string w A0_1 l0_1.length l0_1) (hc0_1 : l0_1.length ≤ c0_1) (hr1 : Kd.C (Kd.int .i64) w A1 l1.length l1) (hc1 : l1.length ≤ c1) (h : walk_Choose.f l0_0 l0_1 l1 = some (r1, r2)) :
    Calls Try.prog 19 #[.agg #[.slice A0_0 l0_0.length c0_0, .slice A0_1 l0_1.length c0_1], .slice A1 l1.length c1] w fun e w' => ∃ v0_ : Value, e = .returned (.tuple #[v0_, .int .i64 r2]) ∧ Kd.R Kd.string 9 w' w.heap.size (fun _ => True) v0_ r1 ∧ Below w.heap.size w w' := by
  unfold walk_Choose.f at h
  split at h
  · rename_i hs
    have h2 := Option.some.inj h
    have := choose_calls A0_0 c0_0 l0_0 A0_1 c0_1 l0_1 A1 c1 l1 w hr0_0 hc0_0 hr0_1 hc0_1 hr1 (fun s hm => of_decide_eq_true (List.all_eq_true.1 hs s hm))
    rw [h2] at this
    exact this
  · cases h

end Go.Proofs.Ytedgkcdofiildaa.P
