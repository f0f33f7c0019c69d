-- written by mp.py (wip/tools), a program of this session, over the kit's print
import Derived.Test.YtedgkcdofiildaaPWalkOrdersx0
import Derived.Test.YtedgkcdofiildaaPWalkOrdersx1
import Derived.Test.YtedgkcdofiildaaPWalkOrdersx2
namespace Go.Proofs.Ytedgkcdofiildaa.P
open Go.RowKit Go.Proofs.YtedgkcdofiildaaW.PrintWords Go.Proofs.YtedgkcdofiildaaW.PrintLast Go.Proofs.YtedgkcdofiildaaW.PrintMore
attribute [local go_sem] max2_int min2_int max_two min_two max_three min_three max_four min_four   -- for this text's walks alone
set_option linter.unusedVariables false
set_option linter.unusedSimpArgs false

/-! ### walk_asked: function 34 -/
open Go.Proofs.Ytedgkcdofiildaa.Ext Go.Proofs.Ytedgkcdofiildaa.Maps0
set_option maxHeartbeats 400000 in
theorem set_has (b m : Nat) (g : ByteArray → Int) (s : ByteArray) (r : Bool) (h : (g s == 1) = r) (w : World) (hm : IMap Try.prog 9 w b m g) (hs : s.size ≤ maxLen) :
    Calls Try.prog 36 #[.agg #[.map (some b)], .string s] w fun e w' => e = .returned (.bool r) ∧ Below w.heap.size w w' := by
  have hlk : ∀ o, (Instr.lookup 64 (.map (some b)) (.string s) false).run Try.prog (w.alloc o) = .ok (.int .i64 (g s)) (w.alloc o) := fun o =>
    (hm.alloc o).look Try.underlying9 Try.underlying64 (Try.zeroValue3 _) hs
  subst h
  go_enter Try.func36, Try.ntmps36
  go_wp2
  go_ret
  exact ⟨rfl, below_alloc (Below.refl _ _) _⟩
theorem grown_alloc_map {w : World} {o : Obj} {w' : World} {b : Nat} (h : (w.alloc o).mapTurned w' b) : w.grownBy w' (some b) :=
  (World.grownBy_alloc w o (some b)).trans h.grown
set_option maxHeartbeats 400000 in
theorem set_put (b m : Nat) (g : ByteArray → Int) (s : ByteArray) (w : World) (hm : IMap Try.prog 9 w b m g) (hs : s.size ≤ maxLen) (hml : m < maxLen) :
    Calls Try.prog 39 #[.agg #[.map (some b)], .string s] w fun e w' => e = .returned (.tuple #[]) ∧ IMap Try.prog 9 w' b (m + 1) (updI g s 1) ∧ w.grownBy w' (some b) := by
  have HM := Aside0.mk (fun o => hm.alloc o)
  clear hm
  go_enter Try.func39, Try.ntmps39
  go_wp2_with (at_mapUpdate; refine wpList_put_i _ rfl _ _ _ 64 rfl 9 3 Try.underlying9 Try.underlying64 _ m g rfl (HM.out _) hml s 1 rfl rfl hs ?_; intro w3 hm3 hg3)
  go_end0
  exact ⟨rfl, hm3, grown_alloc_map hg3⟩
/-- one at the members, 0 elsewhere -/
def setR (l : List ByteArray) (s : ByteArray) : Int := if memB l s = true then 1 else 0
theorem setR_nil : setR [] = fun _ => 0 := by funext s; simp [setR, memB]
theorem memB_append (l k : List ByteArray) (s : ByteArray) : memB (l ++ k) s = (memB l s || memB k s) := by unfold memB; rw [List.any_append]
theorem setR_put (l : List ByteArray) (x : ByteArray) : updI (setR l) x 1 = setR (l ++ [x]) := by
  funext s
  unfold updI setR
  rw [memB_append]
  by_cases h : s = x
  · subst h; simp [memB]
  · have : ¬ x = s := fun e => h e.symm
    have e2 : memB [x] s = false := by simp [memB, this]
    rw [if_neg h, e2, Bool.or_false]
set_option maxHeartbeats 1000000 in
set_option maxRecDepth 100000 in
theorem setOf_calls (A : Option Addr) (c : Nat) (l : List ByteArray) (w : World) (hr : Kd.C Kd.string w A l.length l) (hs : ∀ s ∈ l, s.size ≤ maxLen) (hl : l.length < maxLen) :
    Calls Try.prog 35 #[.slice A l.length c] w fun e w' => e = .returned (.agg #[.map (some (w.heap.size + 1))]) ∧ (∃ m, m ≤ l.length ∧ IMap Try.prog 9 w' (w.heap.size + 1) m (setR l)) ∧ Below w.heap.size w w' := by
  have HR := Aside0.mk hr
  have HS := Aside0.mk hs
  have hlm : l.length < 9223372036854775807 := by unfold maxLen at hl; omega
  have hmm := @run_makeMap Try.prog
  clear hr hs
  go_enter Try.func35, Try.ntmps35
  go_wp2_with fail
  go_loopw [10] (fun vi wr => ∃ (i m : Nat), i ≤ l.length ∧ m ≤ i ∧ vi = .int .i64 (i : Int) ∧ IMap Try.prog 9 wr (w.heap.size + 1) m (setR (l.take i)) ∧ Below w.heap.size w wr ∧ wr.heap[w.heap.size]? = some (.cells #[.map none] 66 (0, 0)) ∧ wr.cell? ⟨w.heap.size + 1 + 1, 0, none⟩ = some (.map (some (w.heap.size + 1)))) (fun vi _ => ((l.length : Int) - intOf vi).toNat)
  case atStart =>
    refine ⟨0, 0, Nat.zero_le _, Nat.le_refl _, rfl, ?_, below_alloc (below_alloc (below_alloc (Below.refl _ _) _) _) _, ?_, ?_⟩
    rotate_left
    · exact blk_alloc (blk_alloc (blk_new _ _) _) _
    · have h9 := blk_cell (blk_new ((w.alloc (.cells #[.map none] 66)).alloc (.map #[] 0)) (.cells #[.map (some (w.heap.size + 1))] 66 (0, 0))) 0
      simpa using h9
    have := (IMap.made Try.prog 9 (w.alloc (.cells #[.map none] 66))).alloc (.cells #[.map (some (w.heap.size + 1))] 66)
    rw [List.take_zero, setR_nil]
    simpa using this
  case round =>
    obtain ⟨i, m, hi, hmi, rfl, hM, hB, hBK, hcell⟩ := hrel
    by_cases hlt : i < l.length
    · have hw1 : IntKind.i64.wrap ((i : Int) + 1) = ((i + 1 : Nat) : Int) := by rw [IntKind.wrap_i64]; omega
      have q : (i : Int) < (l.length : Int) := by omega
      have p : (0 : Int) ≤ (i : Int) := by omega
      obtain ⟨ad, rfl, h0⟩ := Kd.at_string (Kd.C_below HR.out hB) (i : Int) p q
      have he : rdOf ByteArray.empty l (i : Int) = l[i] := by simp [rdOf, hlt]
      rw [he, Int.toNat_natCast] at h0
      have hxs := HS.out l[i] (List.getElem_mem hlt)
      have HN := Aside0.mk (show setR (l.take (i + 1)) = updI (setR (l.take i)) l[i] 1 by rw [setR_put, List.take_succ_eq_append_getElem hlt])
      obtain ⟨x, hx⟩ : ∃ x, l[i] = x := ⟨_, rfl⟩
      rw [hx] at h0 hxs HN
      have HM := Aside0.mk hM
      have HBK := Aside0.mk hBK
      clear he hx hM hBK
      go_wp2_with (at_mapUpdate; refine wpList_put_i _ rfl _ _ _ 64 rfl 9 3 Try.underlying9 Try.underlying64 _ m _ rfl HM.out (by omega) x 1 rfl rfl hxs ?_; intro w3 hm3 hg3)
      go_roundw
      case rel =>
        have hgr := hg3.grown
        have q0 := World.block_lt_of_cell? _ _ hcell
        refine ⟨i + 1, m + 1, hlt, by omega, rfl, ?_, hB.grown hgr hB.size (fun k e => by cases e; omega), blk_grown HBK.out hgr (by simp), (hgr.cell_far ⟨w.heap.size + 1 + 1, 0, none⟩ q0 (by simp)).trans hcell⟩
        rw [HN.out]; exact hm3
      case measure => simp [intOf]; omega
    · have hn : ¬ (i : Int) < (l.length : Int) := by omega
      rw [List.take_of_length_le (by omega)] at hM
      have hc0 : wr.cell? ⟨w.heap.size, 0, none⟩ = some (.map none) := (blk_cell hBK 0).trans rfl
      have hf0 := blk_frozen hBK 0
      have HM := Aside0.mk hM
      have HBK := Aside0.mk hBK
      clear hM hBK
      go_wp2_with fail
      exact bodyPost_ret (v := .agg #[.map (some (w.heap.size + 1))]) (by simp [results, Try.results35, go_sem, hc0]) rfl ⟨rfl, ⟨m, by omega, HM.out.setCell (by simp) _⟩, below_set hB (by simp)⟩
set_option maxHeartbeats 1000000 in
set_option maxRecDepth 100000 in
theorem idxF (F : Nat) (hE : ∀ args w, Sem.run Try.prog (callFunc F args) w = .ok (.enter F args) w) (cap : Value) (p : ByteArray → Bool) (A : Option Addr) (c : Nat) (l : List ByteArray) (w : World) (hr : Kd.C Kd.string w A l.length l) (hl : (l.length : Int) ≤ 9223372036854775807)
    (hf : ∀ s ∈ l, ∀ W, Below w.heap.size w W → Calls Try.prog F #[.string s, cap] W fun e w' => e = .returned (.bool (p s)) ∧ Below W.heap.size W w') :
    Calls Try.prog 57 #[.slice A l.length c, .func (.func F) #[] #[cap]] w fun e w' => ∃ r : Int, e = .returned (.int .i64 r) ∧ decide (r ≥ 0) = l.any p ∧ Below w.heap.size w w' := by
  have HR := Aside0.mk hr
  have HF := Aside0.mk hf
  clear hr hf
  go_enter Try.func57, Try.ntmps57
  go_wp2_with fail
  go_loopw [8] (fun vi wr => ∃ i : Nat, i ≤ l.length ∧ vi = .int .i64 i ∧ Aside0 (l.any p = (l.drop i).any p) ∧ Below w.heap.size w wr) (fun vi _ => ((l.length : Int) - intOf vi).toNat)
  case atStart => exact ⟨0, Nat.zero_le _, rfl, ⟨rfl⟩, Below.refl _ _⟩
  case round =>
    obtain ⟨i, hi, rfl, hb, hB⟩ := hrel
    by_cases hlt : i < l.length
    · have hw1 : IntKind.i64.wrap ((i : Int) + 1) = ((i + 1 : Nat) : Int) := by rw [IntKind.wrap_i64]; omega
      have q0 : (i : Int) < (l.length : Int) := by omega
      have p0 : (0 : Int) ≤ (i : Int) := by omega
      have hb' := hb.out
      rw [List.drop_eq_getElem_cons hlt, List.any_cons] at hb'
      obtain ⟨ad, rfl, h0⟩ := Kd.at_string (Kd.C_below HR.out hB) (i : Int) p0 q0
      have he : rdOf ByteArray.empty l (i : Int) = l[i] := by simp [rdOf, hlt]
      rw [he, Int.toNat_natCast] at h0
      have HFx := Aside0.mk (HF.out l[i] (List.getElem_mem hlt))
      clear he hb
      cases ht : p l[i] with
      | true =>
        rw [ht, Bool.true_or] at hb'
        have HB := Lib.hid hb'
        rw [ht] at HFx
        clear hb' ht
        go_wp2_with (refine (HFx.out _ hB).mono ?_; rintro e w' ⟨rfl, hb1⟩)
        go_ret
        exact ⟨i, rfl, (decide_eq_true (by omega)).trans HB.out.symm, below_step hB hb1⟩
      | false =>
        rw [ht, Bool.false_or] at hb'
        have HB := Aside0.mk hb'
        rw [ht] at HFx
        clear hb' ht
        go_wp2_with (refine (HFx.out _ hB).mono ?_; rintro e w' ⟨rfl, hb1⟩)
        go_roundw
        case rel => exact ⟨i + 1, hlt, rfl, HB, below_step hB hb1⟩
        case measure => simp [intOf]; omega
    · have hb' := hb.out
      rw [List.drop_eq_nil_of_le (by omega), List.any_nil] at hb'
      have HB := Lib.hid hb'
      clear hb' hb
      have hn : ¬ (i : Int) < (l.length : Int) := by omega
      go_wp2_with fail
      go_ret
      exact ⟨-1, rfl, (decide_eq_false (by omega)).trans HB.out.symm, hB⟩
set_option maxHeartbeats 400000 in
theorem containsF (F : Nat) (hE : ∀ args w, Sem.run Try.prog (callFunc F args) w = .ok (.enter F args) w) (cap : Value) (p : ByteArray → Bool) (A : Option Addr) (c n : Nat) (l : List ByteArray) (r : Bool) (hR : l.any p = r) (w : World) (hr : Kd.C Kd.string w A n l)
    (hf : ∀ s ∈ l, ∀ W, Below w.heap.size w W → Calls Try.prog F #[.string s, cap] W fun e w' => e = .returned (.bool (p s)) ∧ Below W.heap.size W w') :
    Calls Try.prog 37 #[.slice A n c, .func (.func F) #[] #[cap]] w fun e w' => e = .returned (.bool r) ∧ Below w.heap.size w w' := by
  obtain rfl : l.length = n := hr.1
  have hl : (l.length : Int) ≤ 9223372036854775807 := by have := hr.2.1; omega
  have hidx := Aside0.mk (idxF F hE cap p A c l w hr hl hf)
  rw [hR] at hidx
  clear hR hr hf
  go_enter Try.func37, Try.ntmps37
  go_wp2_with (go_at_call 57; refine hidx.out.mono ?_; rintro e w' ⟨ri, rfl, hri, hb1⟩)
  go_ret
  exact ⟨rfl, hb1⟩
theorem ask1_enter : ∀ args w, Sem.run Try.prog (callFunc 56 args) w = .ok (.enter 56 args) w := fun _ _ => rfl
set_option maxHeartbeats 400000 in
theorem ask1 (B b m : Nat) (g : ByteArray → Int) (s : ByteArray) (r : Bool) (h : (!(g s == 1)) = r) (w : World) (hc : w.cell? ⟨B, 0, none⟩ = some (.map (some b))) (hm : IMap Try.prog 9 w b m g) (hs : s.size ≤ maxLen) :
    Calls Try.prog 56 #[.string s, .pointer (some ⟨B, 0, none⟩)] w fun e w' => e = .returned (.bool r) ∧ Below w.heap.size w w' := by
  have HM := Aside0.mk hm
  cases hg : (g s == 1) with
  | true =>
    rw [hg] at h
    obtain rfl : false = r := h
    have HG := Lib.hid hg
    clear hg hm
    go_enter Try.func56, Try.ntmps56
    go_wp2_with (go_at_call 36; refine (set_has b m g s true HG.out _ HM.out hs).mono ?_; rintro e w2 ⟨rfl, hb⟩)
    go_ret
    exact ⟨rfl, hb⟩
  | false =>
    rw [hg] at h
    obtain rfl : true = r := h
    have HG := Lib.hid hg
    clear hg hm
    go_enter Try.func56, Try.ntmps56
    go_wp2_with (go_at_call 36; refine (set_has b m g s false HG.out _ HM.out hs).mono ?_; rintro e w2 ⟨rfl, hb⟩)
    go_ret
    exact ⟨rfl, hb⟩
theorem targets_loop (l : List S48) (hl : l.length < 8796093022208) : ∀ (suf pre : List S48) (k : Nat), l = pre ++ suf → suf.length < k →
    walk_targets.l0 k (pre.map (·.f0)) l (l.length : Int) (pre.length : Int) = some (l.map (·.f0))
  | [], pre, k, e, hk => by
    obtain ⟨k, rfl⟩ : ∃ m, k = m + 1 := ⟨k - 1, by omega⟩
    have e1 : l = pre := by rw [e]; simp
    simp only [walk_targets.l0, if_neg (show ¬ (pre.length : Int) < (l.length : Int) by rw [e1]; omega)]
    rw [e1]
  | x :: xs, pre, k, e, hk => by
    obtain ⟨k, rfl⟩ : ∃ m, k = m + 1 := ⟨k - 1, by omega⟩
    have hlen : l.length = pre.length + (xs.length + 1) := by rw [e]; simp
    have hlt : (pre.length : Int) < (l.length : Int) := by omega
    have hx : rd_T48 l (pre.length : Int) = x := by rw [e]; simp [rd_T48]
    have hw : wrap64 ((pre.length : Int) + 1) = ((pre ++ [x]).length : Int) := by simp; unfold wrap64; omega
    simp only [walk_targets.l0, if_pos hlt, if_pos (show (0 : Int) ≤ (pre.length : Int) by omega), hx, hw]
    rw [if_pos (by rw [List.length_map]; omega)]
    have := targets_loop l hl xs (pre ++ [x]) k (by rw [e]; simp) (by simp at hk; omega)
    rwa [List.map_append] at this
def tgts (l : List S48) : List ByteArray := l.map (·.f0)
theorem targets_clean (A0 : Option Addr) (c0 : Nat) (l0 : List S48) (A1 : Option Addr) (c1 : Nat) (l1 : List ByteArray) (w : World) (hl : l0.length < 8796093022208) (hr0 : Kd.C k48 w A0 l0.length l0) (hc0 : l0.length ≤ c0) (hr1 : Kd.C Kd.string w A1 l1.length l1) (hc1 : l1.length ≤ c1) :
    Calls Try.prog 46 #[.agg #[.slice A0 l0.length c0, .slice A1 l1.length c1]] w fun e w' => ∃ v0_ : Value, e = .returned v0_ ∧ Kd.R Kd.string 9 w' w.heap.size (fun _ => True) v0_ (tgts l0) ∧ Below w.heap.size w w' :=
  walk_targets.calls (l0.length + 1) A0 c0 l0 A1 c1 l1 (tgts l0) w hr0 hc0 hr1 hc1 (targets_loop l0 hl l0 [] (l0.length + 1) rfl (by omega))
theorem planGo_names : ∀ (l : List S48) (g : ByteArray → Int) (g' : ByteArray → Int), planGo g l = some g' → ∀ n ∈ l, nameOk n.f0 = true
  | [], _, _, _, n, hn => by cases hn
  | x :: xs, g, g', h, n, hn => by
    simp only [planGo] at h
    split at h
    · rename_i hr
      rcases List.mem_cons.1 hn with rfl | hn
      · unfold rightR badHead at hr
        simp only [Bool.and_eq_true, Bool.not_eq_true', Bool.or_eq_false_iff, Bool.not_eq_false'] at hr
        exact hr.1.1.1.1.1.1.1
      · exact planGo_names xs _ g' h n hn
    · cases h
theorem planR_ok {ns : List S48} {gs : List ByteArray} (h : planR ns gs = 0) : ns.length ≤ 256 ∧ gs.length ≤ 512 ∧ 1 ≤ gs.length ∧ ∀ n ∈ ns, nameOk n.f0 = true := by
  unfold planR at h
  split at h
  · cases h
  · split at h
    · cases h
    · split at h
      · cases h
      · refine ⟨by omega, by omega, by omega, ?_⟩
        split at h
        · cases h
        · rename_i g hg
          exact planGo_names ns _ g hg
theorem planR_vals (ns : List S48) (gs : List ByteArray) : planR ns gs = 0 ∨ planR ns gs = 7 := by
  unfold planR
  repeat' split
  all_goals first | exact .inl rfl | exact .inr rfl
theorem setR_is (l : List ByteArray) (s : ByteArray) : (setR l s == 1) = memB l s := by
  unfold setR
  cases memB l s <;> rfl
/-- What is wrong with a plan and names that should be targets of it. -/
def askedR (l0 : List S48) (l1 l : List ByteArray) : Int := if planR l0 l1 = 0 then (if 512 < l.length then 2 else if l.all nameOk = true then (if (l.any fun s => !memB (tgts l0) s) = true then 9 else 0) else 3) else 7
set_option maxHeartbeats 1000000 in
set_option maxRecDepth 100000 in
theorem asked_calls (A0 : Option Addr) (c0 : Nat) (l0 : List S48) (A1 : Option Addr) (c1 : Nat) (l1 : List ByteArray) (A : Option Addr) (c : Nat) (l : List ByteArray) (w : World)
    (hr0 : Kd.C k48 w A0 l0.length l0) (hc0 : l0.length ≤ c0) (hr1 : Kd.C Kd.string w A1 l1.length l1) (hc1 : l1.length ≤ c1) (hr : Kd.C Kd.string w A l.length l) (hc : l.length ≤ c) (hs1 : ∀ s ∈ l1, s.size ≤ 140737488351232) :
    Calls Try.prog 34 #[.agg #[.slice A0 l0.length c0, .slice A1 l1.length c1], .slice A l.length c] w fun e w' => e = .returned (.int .i64 (askedR l0 l1 l)) ∧ Below w.heap.size w w' := by
  have hb1 : Below w.heap.size w (w.alloc (.cells #[.slice A0 l0.length c0, .slice A1 l1.length c1] 25)) := below_alloc (Below.refl _ _) _
  have HR0 := Aside0.mk (Kd.C_below hr0 hb1)
  have HR1 := Aside0.mk (Kd.C_below hr1 hb1)
  have HR := Aside0.mk (Kd.C_below hr hb1)
  have hP : resolve_Check.f l0 l1 = some (planR l0 l1) := by
    unfold resolve_Check.f
    rw [if_pos (by rw [List.all_eq_true]; exact fun s hs => decide_eq_true (hs1 s hs))]
  have hB1 := Aside0.mk hb1
  have HP := Aside0.mk hP
  clear hr0 hr1 hr hs1 hP hb1
  obtain ⟨R, hRR⟩ : ∃ R, askedR l0 l1 l = R := ⟨_, rfl⟩
  rw [hRR]
  unfold askedR at hRR
  rcases planR_vals l0 l1 with h0 | h0
  · rw [if_pos h0] at hRR
    obtain ⟨hn0, _, _, hnm⟩ := planR_ok h0
    have HNM := Aside0.mk hnm
    have HCHK : Calls Try.prog 54 #[.agg #[.slice A0 l0.length c0, .slice A1 l1.length c1]] (w.alloc (.cells #[.slice A0 l0.length c0, .slice A1 l1.length c1] 25)) fun e w' => e = .returned (.int .i64 0) ∧ Below (w.alloc (.cells #[.slice A0 l0.length c0, .slice A1 l1.length c1] 25)).heap.size (w.alloc (.cells #[.slice A0 l0.length c0, .slice A1 l1.length c1] 25)) w' := by
      have := resolve_Check.calls A0 c0 l0 A1 c1 l1 (planR l0 l1) _ HR0.out hc0 HR1.out hc1 HP.out
      rwa [h0] at this
    have HCHK' := Aside0.mk HCHK
    clear hnm h0 HCHK
    by_cases h1 : 512 < l.length
    · rw [if_pos h1] at hRR
      obtain rfl : 2 = R := hRR
      have e1 : decide ((512 : Int) < (l.length : Int)) = true := decide_eq_true (by omega)
      clear h1
      go_enter Try.func34, Try.ntmps34
      go_wp2_with (go_at_call 54; refine HCHK'.out.mono ?_; rintro e w2 ⟨rfl, hb2⟩)
      go_ret
      exact ⟨rfl, below_step hB1.out hb2⟩
    · rw [if_neg h1] at hRR
      have HRR := Aside0.mk hRR
      clear hRR
      have e1 : decide ((512 : Int) < (l.length : Int)) = false := decide_eq_false (by omega)
      have hl : l.length ≤ 512 := by omega
      clear h1
      go_enter Try.func34, Try.ntmps34
      go_wp2_with (go_at_call 54; refine HCHK'.out.mono ?_; rintro e w2 ⟨rfl, hb2⟩; have hB2 := Aside0.mk (below_step hB1.out hb2); have HRw := Aside0.mk (Kd.C_below HR.out hb2); have HR0w := Aside0.mk (Kd.C_below HR0.out hb2); have HR1w := Aside0.mk (Kd.C_below HR1.out hb2); have z0 : w2.cell? ⟨w.heap.size, 0, none⟩ = some (.slice A0 l0.length c0) := (hb2.cell (p := ⟨w.heap.size, 0, none⟩) (by simp)).trans (by go_simp); have z1 : w2.cell? ⟨w.heap.size, 1, none⟩ = some (.slice A1 l1.length c1) := (hb2.cell (p := ⟨w.heap.size, 1, none⟩) (by simp)).trans (by go_simp); clear hb2)
      go_loopw [20] (fun vi wr => ∃ (i q : Nat), i ≤ l.length ∧ vi = .int .i64 (i : Int) ∧ Aside0 (l.all nameOk = (l.drop i).all nameOk) ∧ wr = w2.drewN q) (fun vi _ => ((l.length : Int) - intOf vi).toNat)
      case atStart => exact ⟨0, 0, Nat.zero_le _, rfl, ⟨rfl⟩, rfl⟩
      case round =>
        obtain ⟨i, q, hi, rfl, hb, rfl⟩ := hrel
        by_cases hlt : i < l.length
        · have hw1 : IntKind.i64.wrap ((i : Int) + 1) = ((i + 1 : Nat) : Int) := by rw [IntKind.wrap_i64]; omega
          have qi : (i : Int) < (l.length : Int) := by omega
          have pi : (0 : Int) ≤ (i : Int) := by omega
          obtain ⟨ad, rfl, h0⟩ := Kd.at_string (Kd.C_drewN HRw.out q) (i : Int) pi qi
          have he : rdOf ByteArray.empty l (i : Int) = l[i] := by simp [rdOf, hlt]
          rw [he, Int.toNat_natCast] at h0
          have hb' := hb.out
          rw [List.drop_eq_getElem_cons hlt, List.all_cons] at hb'
          obtain ⟨x, hx⟩ : ∃ x, l[i] = x := ⟨_, rfl⟩
          rw [hx] at h0 hb'
          clear he hx hb
          cases hok : nameOk x with
          | false =>
            have HX := Lib.hid (show (3 : Int) = R by have h9 := HRR.out; rw [hb', hok] at h9; exact h9)
            have HOK := Aside0.mk hok
            clear hok hb'
            go_wp2_with (go_at_call 55; refine (names_no x HOK.out _).mono ?_; rintro e w' ⟨rfl, ⟨q3, rfl⟩⟩)
            go_ret
            exact ⟨congrArg (fun z => Ending.returned (Value.int .i64 z)) HX.out, pw_below_drewN hB2.out _⟩
          | true =>
            have HX := Aside0.mk (show l.all nameOk = (l.drop (i + 1)).all nameOk by rw [hb', hok]; rfl)
            have HOK := Aside0.mk hok
            clear hok hb'
            go_wp2_with (go_at_call 55; refine (names_ok x HOK.out _).mono ?_; rintro e w' ⟨rfl, ⟨q3, rfl⟩⟩)
            go_roundw
            case rel => exact ⟨i + 1, _, hlt, rfl, HX, rfl⟩
            case measure => simp [intOf]; omega
        · have hall : l.all nameOk = true := by
            have h9 := hb.out
            rw [List.drop_eq_nil_of_le (by omega), List.all_nil] at h9
            exact h9
          have HX := Aside0.mk (show (if (l.any fun s => !memB (tgts l0) s) = true then (9 : Int) else 0) = R by have h9 := HRR.out; rw [if_pos hall] at h9; exact h9)
          have hn : ¬ (i : Int) < (l.length : Int) := by omega
          have hB3 := Aside0.mk (pw_below_drewN hB2.out q)
          have HSZ := Aside0.mk (fun s (hs : s ∈ l) => show s.size ≤ maxLen by have := nameOk_size (List.all_eq_true.1 hall s hs); unfold maxLen; omega)
          have HTS := Aside0.mk (fun s (hs : s ∈ tgts l0) => show s.size ≤ maxLen by
            obtain ⟨n, hn, rfl⟩ := List.mem_map.1 hs
            have := nameOk_size (HNM.out n hn); unfold maxLen; omega)
          have htl : (tgts l0).length < maxLen := by unfold tgts maxLen; rw [List.length_map]; omega
          obtain ⟨any, hany⟩ : ∃ any, (l.any fun s => !memB (tgts l0) s) = any := ⟨_, rfl⟩
          have HANY := Aside0.mk hany
          have HXR := Aside0.mk (show (if any = true then (9 : Int) else 0) = R by rw [← hany]; exact HX.out)
          clear hb hall hany HX
          cases any
          all_goals
           go_wp2_with (first | (go_at_call 46; refine (targets_clean A0 c0 l0 A1 c1 l1 _ (by omega) (Kd.C_drewN HR0w.out q) hc0 (Kd.C_drewN HR1w.out q) hc1).mono ?_; rintro e w4 ⟨vt, rfl, hvt, hb4⟩; obtain ⟨At, ct, rfl, hct, hCt⟩ := Kd.R_reads hvt; have hB4 := Aside0.mk (below_step hB3.out hb4); have HCt := Aside0.mk hCt; have HRw4 := Aside0.mk (Kd.C_below (Kd.C_drewN HRw.out q) hb4); clear hvt hCt hb4) | (go_at_call 35; refine (setOf_calls At ct (tgts l0) _ HCt.out HTS.out htl).mono ?_; rintro e w5 ⟨rfl, ⟨m5, hm5l, hm5⟩, hb5⟩; have hB5 := Aside0.mk (below_step hB4.out hb5); have HM5 := Aside0.mk (hm5.alloc (.cells #[.map (some (w4.heap.size + 1))] 66)); have HRw5 := Aside0.mk (Kd.C_alloc (Kd.C_below HRw4.out hb5) (.cells #[.map (some (w4.heap.size + 1))] 66)); clear hm5 hb5) | (go_at_call 37; refine (containsF 56 ask1_enter (.pointer (some ⟨w5.heap.size, 0, none⟩)) (fun s => !memB (tgts l0) s) A c l.length l _ HANY.out _ HRw5.out (fun s hs W hW => ask1 w5.heap.size (w4.heap.size + 1) m5 (setR (tgts l0)) s _ (by rw [setR_is]) W ((hW.cell (p := ⟨w5.heap.size, 0, none⟩) (by simp)).trans (by simp)) (HM5.out.below hW) (HSZ.out s hs))).mono ?_; rintro e w6 ⟨rfl, hb6⟩; have hB6 := Aside0.mk (below_alloc hB5.out (.cells #[.map (some (w4.heap.size + 1))] 66))))
           go_ret
           exact ⟨congrArg (fun z => Ending.returned (Value.int .i64 z)) HXR.out, below_step hB6.out hb6⟩
  · have hRR2 : 7 = R := by rw [← hRR, if_neg (by omega)]
    have HCHK := resolve_Check.calls A0 c0 l0 A1 c1 l1 (planR l0 l1) _ HR0.out hc0 HR1.out hc1 HP.out
    rw [h0] at HCHK
    have HCHK' := Aside0.mk HCHK
    have H7 := Lib.hid hRR2
    clear h0 HCHK hRR hRR2
    go_enter Try.func34, Try.ntmps34
    go_wp2_with (go_at_call 54; refine HCHK'.out.mono ?_; rintro e w2 ⟨rfl, hb2⟩)
    go_ret
    exact ⟨congrArg (fun z => Ending.returned (Value.int .i64 z)) H7.out, below_step hB1.out hb2⟩
def walk_asked.f (l0 : List S48) (l1 l : List ByteArray) : Option Int := if (l1.all fun s => decide (s.size ≤ 140737488351232)) = true then some (askedR l0 l1 l) else none
theorem walk_asked.calls (A0_0 : Option Addr) (c0_0 : Nat) (l0_0 : List S48) (A0_1 : Option Addr) (c0_1 : Nat) (l0_1 : List ByteArray) (A1 : Option Addr) (c1 : Nat) (l1 : List ByteArray) (r : Int) (w : World)
    (hr0_0 : Kd.C k48 w A0_0 l0_0.length l0_0) (hc0_0 : l0_0.length ≤ c0_0) (hr0_1 : Kd.C Kd.string w A0_1 l0_1.length l0_1) (hc0_1 : l0_1.length ≤ c0_1) (hr1 : Kd.C Kd.string w A1 l1.length l1) (hc1 : l1.length ≤ c1) (h : walk_asked.f l0_0 l0_1 l1 = some r) :
    Calls Try.prog 34 #[.agg #[.slice A0_0 l0_0.length c0_0, .slice A0_1 l0_1.length c0_1], .slice A1 l1.length c1] w fun e w' => e = .returned (.int .i64 r) ∧ Below w.heap.size w w' := by
  unfold walk_asked.f at h
  split at h
  · rename_i hs
    obtain rfl := Option.some.inj h
    exact asked_calls A0_0 c0_0 l0_0 A0_1 c0_1 l0_1 A1 c1 l1 w hr0_0 hc0_0 hr0_1 hc0_1 hr1 hc1 (fun s hm => of_decide_eq_true (List.all_eq_true.1 hs s hm))
  · cases h

/-! ### walk_Next: function 11 -/
open Go.Proofs.Ytedgkcdofiildaa.Ext Go.Proofs.Ytedgkcdofiildaa.Maps0
set_option maxHeartbeats 400000 in
theorem next1 (B b m : Nat) (g : ByteArray → Int) (s : ByteArray) (r : Bool) (h : (!(g s == 1)) = r) (w : World) (hc : w.cell? ⟨B, 0, none⟩ = some (.map (some b))) (hm : IMap Try.prog 9 w b m g) (hs : s.size ≤ maxLen) :
    Calls Try.prog 58 #[.string s, .pointer (some ⟨B, 0, none⟩)] w fun e w' => e = .returned (.bool r) ∧ Below w.heap.size w w' := by
  have HM := Aside0.mk hm
  cases hg : (g s == 1) with
  | true =>
    rw [hg] at h
    obtain rfl : false = r := h
    have HG := Lib.hid hg
    clear hg hm
    go_enter Try.func58, Try.ntmps58
    go_wp2_with (go_at_call 36; refine (set_has b m g s true HG.out _ HM.out hs).mono ?_; rintro e w2 ⟨rfl, hb⟩)
    go_ret
    exact ⟨rfl, hb⟩
  | false =>
    rw [hg] at h
    obtain rfl : true = r := h
    have HG := Lib.hid hg
    clear hg hm
    go_enter Try.func58, Try.ntmps58
    go_wp2_with (go_at_call 36; refine (set_has b m g s false HG.out _ HM.out hs).mono ?_; rintro e w2 ⟨rfl, hb⟩)
    go_ret
    exact ⟨rfl, hb⟩
theorem next1_enter : ∀ args w, Sem.run Try.prog (callFunc 58 args) w = .ok (.enter 58 args) w := fun _ _ => rfl
def mayN (g : ByteArray → Int) (n : S48) : Bool := !(g n.f0 == 1) && !(n.f1.any fun x => !(g x == 1))
/-- The targets that may come behind some. -/
def nextR (g : ByteArray → Int) (l : List S48) : List ByteArray := (l.filter (mayN g)).map (·.f0)
theorem nextR_snoc (g : ByteArray → Int) (l : List S48) (n : S48) : nextR g (l ++ [n]) = nextR g l ++ (if mayN g n = true then [n.f0] else []) := by
  unfold nextR
  rw [List.filter_append, List.map_append]
  cases h : mayN g n <;> simp [h]
theorem nextR_le (g : ByteArray → Int) (l : List S48) : (nextR g l).length ≤ l.length := by
  unfold nextR
  rw [List.length_map]
  exact List.length_filter_le _ _
def nodeSz (l : List S48) : Prop := ∀ n ∈ l, n.f0.size ≤ maxLen ∧ ∀ x ∈ n.f1, x.size ≤ maxLen
set_option maxHeartbeats 4000000 in
set_option maxRecDepth 100000 in
theorem next_calls (A0 : Option Addr) (c0 : Nat) (l0 : List S48) (A1 : Option Addr) (c1 : Nat) (l1 : List ByteArray) (b m : Nat) (g : ByteArray → Int) (w : World)
    (hr0 : Kd.C k48 w A0 l0.length l0) (hm : IMap Try.prog 9 w b m g) (hl : l0.length < 8796093022207) (hsz : nodeSz l0) :
    Calls Try.prog 40 #[.agg #[.slice A0 l0.length c0, .slice A1 l1.length c1], .agg #[.map (some b)]] w fun e w' => ∃ v, e = .returned v ∧ Kd.R Kd.string 9 w' w.heap.size (fun _ => True) v (nextR g l0) ∧ Below w.heap.size w w' := by
  have HR0 := Aside0.mk hr0
  have HM := Aside0.mk hm
  have HS := Aside0.mk hsz
  have hbl := hm.lt
  clear hr0 hm hsz
  go_enter Try.func40, Try.ntmps40
  go_wp2_with fail
  go_loopw [5, 11] (fun vo vi wr => ∃ (i : Nat), i ≤ l0.length ∧ vi = .int .i64 (i : Int) ∧ Aside0 (Kd.R Kd.string 9 wr w.heap.size (fun k => k ≠ w.heap.size ∧ k ≠ w.heap.size + 1) vo (nextR g (l0.take i))) ∧ Aside0 (Below w.heap.size w wr) ∧ wr.cell? ⟨w.heap.size, 0, none⟩ = some (.slice A0 l0.length c0) ∧ wr.cell? ⟨w.heap.size, 1, none⟩ = some (.slice A1 l1.length c1) ∧ wr.cell? ⟨w.heap.size + 1, 0, none⟩ = some (.map (some b))) (fun _ vi _ => ((l0.length : Int) - intOf vi).toNat)
  case atStart =>
    refine ⟨0, Nat.zero_le _, rfl, ⟨Kd.R_nil _ _ _ _ _⟩, ⟨below_alloc (below_alloc (Below.refl _ _) _) _⟩, by go_simp, by go_simp, by simp⟩
  case round =>
    obtain ⟨i, hi, rfl, HO, HB, hc0_, hc1_, hcs⟩ := hrel
    by_cases hlt : i < l0.length
    · have hw1 : IntKind.i64.wrap ((i : Int) + 1) = ((i + 1 : Nat) : Int) := by rw [IntKind.wrap_i64]; omega
      have qi : (i : Int) < (l0.length : Int) := by omega
      have pi : (0 : Int) ≤ (i : Int) := by omega
      obtain ⟨ad, B1, d1, B2, d2, rfl, y0, y1, y2, y3, y4, y5, y6, y7, y8, y9, hd1, hg1, hd2, hg2⟩ := at_T48 (Kd.C_below HR0.out HB.out) (i : Int) pi qi
      have he : rd_T48 l0 (i : Int) = l0[i] := by simp [rd_T48, hlt]
      rw [he, Int.toNat_natCast] at y0 y1 y2 y3 y4 y5 y6 y7 y8 y9
      rw [he] at hd1 hg1 hd2 hg2
      have HN := Aside0.mk (show nextR g (l0.take (i + 1)) = nextR g (l0.take i) ++ (if mayN g l0[i] = true then [l0[i].f0] else []) by rw [List.take_succ_eq_append_getElem hlt, nextR_snoc])
      obtain ⟨hs0, hs1⟩ := HS.out l0[i] (List.getElem_mem hlt)
      obtain ⟨x, hx⟩ : ∃ x, l0[i] = x := ⟨_, rfl⟩
      rw [hx] at y0 y1 y2 y3 y4 y5 y6 y7 y8 y9 hd1 hg1 hd2 hg2 HN hs0 hs1
      have HG1 := Aside0.mk (fun o => Kd.C_alloc hg1 o)
      have HS1 := Aside0.mk hs1
      have HMr := Aside0.mk (fun o => (HM.out.below HB.out).alloc o)
      have q0 := World.block_lt_of_cell? _ _ hc0_
      have q1 := World.block_lt_of_cell? _ _ hcs
      clear he hx hg1 hg2 hs1
      cases hdone : (g x.f0 == 1) with
      | true =>
        have HNX := Aside0.mk (show nextR g (l0.take (i + 1)) = nextR g (l0.take i) by rw [HN.out, if_neg (by unfold mayN; rw [hdone]; simp), List.append_nil])
        have HD := Lib.hid hdone
        clear hdone
        go_wp2_with (go_at_call 36; refine (set_has b m g x.f0 true HD.out _ (HMr.out _) hs0).mono ?_; rintro e w2 ⟨rfl, hb2⟩; have hB2 := Aside0.mk (below_step (below_alloc (Below.refl _ _) _) hb2); have zn0 : w2.cell? ⟨wr.heap.size, 0, none⟩ = some (.string x.f0) := (hb2.cell (p := ⟨wr.heap.size, 0, none⟩) (by simp)).trans (by simp))
        go_roundw
        case rel =>
          exact ⟨i + 1, hlt, rfl, ⟨by rw [HNX.out]; exact Kd.R_below HO.out hB2.out⟩, ⟨below_then HB.out HB.out.size hB2.out⟩, (hB2.out.cell q0).trans hc0_, (hB2.out.cell (p := ⟨w.heap.size, 1, none⟩) q0).trans hc1_, (hB2.out.cell q1).trans hcs⟩
        case measure => simp [intOf]; omega
      | false =>
        obtain ⟨any, hany⟩ : ∃ any, (x.f1.any fun s => !(g s == 1)) = any := ⟨_, rfl⟩
        have HNX := Aside0.mk (show nextR g (l0.take (i + 1)) = nextR g (l0.take i) ++ (if any = true then [] else [x.f0]) by rw [HN.out]; unfold mayN; rw [hdone, hany]; cases any <;> rfl)
        have HD := Lib.hid hdone
        have HANY := Aside0.mk hany
        clear hdone hany
        cases any with
        | true =>
          go_wp2_with (first | (go_at_call 36; refine (set_has b m g x.f0 false HD.out _ (HMr.out _) hs0).mono ?_; rintro e w2 ⟨rfl, hb2⟩; have hB2 := Aside0.mk (below_step (below_alloc (Below.refl _ _) _) hb2); have zn0 : w2.cell? ⟨wr.heap.size, 0, none⟩ = some (.string x.f0) := (hb2.cell (p := ⟨wr.heap.size, 0, none⟩) (by simp)).trans (by simp); have zn1 : w2.cell? ⟨wr.heap.size, 1, none⟩ = some (.slice B1 x.f1.length d1) := (hb2.cell (p := ⟨wr.heap.size, 1, none⟩) (by simp)).trans (by simp); have HG1w := Aside0.mk (Kd.C_below (HG1.out _) hb2); have HM2 := Aside0.mk ((HMr.out _).below hb2); have hcs2 := Aside0.mk ((hB2.out.cell q1).trans hcs)) | (go_at_call 37; refine (containsF 58 next1_enter (.pointer (some ⟨w.heap.size + 1, 0, none⟩)) (fun s => !(g s == 1)) B1 d1 x.f1.length x.f1 true HANY.out _ HG1w.out (fun s hs W hW => next1 (w.heap.size + 1) b m g s _ rfl W ((hW.cell (World.block_lt_of_cell? _ _ hcs2.out)).trans hcs2.out) (HM2.out.below hW) (HS1.out s hs))).mono ?_; rintro e w3 ⟨rfl, hb3⟩))
          go_roundw
          case rel =>
            have hB3 := below_step hB2.out hb3
            exact ⟨i + 1, hlt, rfl, ⟨by rw [show nextR g (l0.take (i + 1)) = nextR g (l0.take i) by simpa using HNX.out]; exact Kd.R_below HO.out hB3⟩, ⟨below_then HB.out HB.out.size hB3⟩, (hB3.cell q0).trans hc0_, (hB3.cell (p := ⟨w.heap.size, 1, none⟩) q0).trans hc1_, (hB3.cell q1).trans hcs⟩
          case measure => simp [intOf]; omega
        | false =>
          go_wp2_with (first | (go_at_call 36; refine (set_has b m g x.f0 false HD.out _ (HMr.out _) hs0).mono ?_; rintro e w2 ⟨rfl, hb2⟩; have hB2 := Aside0.mk (below_step (below_alloc (Below.refl _ _) _) hb2); have zn0 : w2.cell? ⟨wr.heap.size, 0, none⟩ = some (.string x.f0) := (hb2.cell (p := ⟨wr.heap.size, 0, none⟩) (by simp)).trans (by simp); have zn1 : w2.cell? ⟨wr.heap.size, 1, none⟩ = some (.slice B1 x.f1.length d1) := (hb2.cell (p := ⟨wr.heap.size, 1, none⟩) (by simp)).trans (by simp); have HG1w := Aside0.mk (Kd.C_below (HG1.out _) hb2); have HM2 := Aside0.mk ((HMr.out _).below hb2); have hcs2 := Aside0.mk ((hB2.out.cell q1).trans hcs)) | (go_at_call 37; refine (containsF 58 next1_enter (.pointer (some ⟨w.heap.size + 1, 0, none⟩)) (fun s => !(g s == 1)) B1 d1 x.f1.length x.f1 false HANY.out _ HG1w.out (fun s hs W hW => next1 (w.heap.size + 1) b m g s _ rfl W ((hW.cell (World.block_lt_of_cell? _ _ hcs2.out)).trans hcs2.out) (HM2.out.below hW) (HS1.out s hs))).mono ?_; rintro e w3 ⟨rfl, hb3⟩; have hB3 := Aside0.mk (below_step hB2.out hb3); have zm0 : w3.cell? ⟨wr.heap.size, 0, none⟩ = some (.string x.f0) := (hb3.cell (World.block_lt_of_cell? _ _ zn0)).trans zn0) | (at_builtin; refine Kd.R_append Kd.string (w0 := w) w.heap.size rfl (.tmp 27) (.tmp 30) 23 9 (.string ⟨#[]⟩) 16 rfl Try.underlying23 info9 rfl (by decide) (by omega) u5 (nextR g (l0.take i)) x.f0 [.string x.f0] (fun k => k ≠ w.heap.size ∧ k ≠ w.heap.size + 1) (fun _ => False) rfl (by first | (go_simp; done) | (go_simp; rfl)) rfl (fun _ hk => hk.elim) ?aF ?aO ?aB ?aS ?aL ?_; (case aF => exact (fun k hk => by have h1 := HB.out.size; have h2 := hB3.out.size; have h3 : w.heap.size + 1 < wr.heap.size := q1; exact ⟨by omega, by omega⟩)); (case aO => exact Kd.R_below HO.out hB3.out); (case aB => exact below_then HB.out HB.out.size hB3.out); (case aS => exact (by have h1 := HB.out.size; have h2 := hB3.out.size; omega)); (case aL => exact (by have h1 := nextR_le g (l0.take i); have h2 := List.length_take_le i l0; omega)); intro v1 w4 HO4 HB4 hg4 _))
          go_roundw
          case rel =>
            have hok : ∀ a : Addr, (a.block = w.heap.size ∨ a.block = w.heap.size + 1) → some a.block ≠ u5.ownBlock := fun a ha e => by
              have h9 := HO.out.1 _ e.symm
              rcases ha with ha | ha
              · exact h9.1 ha
              · exact h9.2 ha
            have r0 := World.block_lt_of_cell? _ _ ((hB3.out.cell q0).trans hc0_)
            have r1 := World.block_lt_of_cell? _ _ ((hB3.out.cell q1).trans hcs)
            exact ⟨i + 1, hlt, rfl, ⟨by rw [show nextR g (l0.take (i + 1)) = nextR g (l0.take i) ++ [x.f0] by simpa using HNX.out]; exact HO4⟩, ⟨HB4⟩, (hg4.cell_far _ r0 (hok _ (.inl rfl))).trans ((hB3.out.cell q0).trans hc0_), (hg4.cell_far ⟨w.heap.size, 1, none⟩ r0 (hok _ (.inl rfl))).trans ((hB3.out.cell (p := ⟨w.heap.size, 1, none⟩) q0).trans hc1_), (hg4.cell_far _ r1 (hok _ (.inr rfl))).trans ((hB3.out.cell q1).trans hcs)⟩
          case measure => simp [intOf]; omega
    · have hn : ¬ (i : Int) < (l0.length : Int) := by omega
      have HOx := Aside0.mk (show Kd.R Kd.string 9 wr w.heap.size (fun _ => True) u5 (nextR g l0) by
        have h9 := HO.out
        rw [List.take_of_length_le (by omega)] at h9
        exact Kd.R_mono h9 (fun _ _ => trivial))
      go_wp2_with fail
      go_ret
      exact ⟨u5, rfl, HOx.out, HB.out⟩
theorem needsR_names : ∀ (l pre : List ByteArray) (g : ByteArray → Int), needsR g pre l = true → ∀ x ∈ l, nameOk x = true
  | [], _, _, _, x, hx => by cases hx
  | y :: ys, pre, g, h, x, hx => by
    simp only [needsR, Bool.and_eq_true] at h
    rcases List.mem_cons.1 hx with rfl | hx
    · exact h.1.1.1
    · exact needsR_names ys _ g h.2 x hx
theorem planGo_needs : ∀ (l : List S48) (g g' : ByteArray → Int), planGo g l = some g' → ∀ n ∈ l, ∀ x ∈ n.f1, nameOk x = true
  | [], _, _, _, n, hn => by cases hn
  | y :: ys, g, g', h, n, hn => by
    simp only [planGo] at h
    split at h
    · rename_i hr
      rcases List.mem_cons.1 hn with rfl | hn
      · unfold rightR at hr
        simp only [Bool.and_eq_true] at hr
        exact needsR_names _ _ _ hr.1.1.2
      · exact planGo_needs ys _ g' h n hn
    · cases h
theorem nodeSz_ok {ns : List S48} {gs : List ByteArray} (h : planR ns gs = 0) : nodeSz ns := by
  have h1 := planR_ok h
  unfold planR at h
  repeat' split at h
  all_goals first | cases h | skip
  rename_i g hg _
  intro n hn
  refine ⟨?_, fun x hx => ?_⟩
  · have := nameOk_size (h1.2.2.2 n hn); unfold maxLen; omega
  · have := nameOk_size (planGo_needs ns _ g hg n hn x hx); unfold maxLen; omega
theorem asked_zero {l0 : List S48} {l1 l : List ByteArray} (h : askedR l0 l1 l = 0) : planR l0 l1 = 0 ∧ l.length ≤ 512 ∧ l.all nameOk = true ∧ (l.any fun s => !memB (tgts l0) s) = false := by
  unfold askedR at h
  split at h
  · rename_i h0
    split at h
    · cases h
    · split at h
      · rename_i h2
        split at h
        · cases h
        · rename_i h3
          exact ⟨h0, by omega, h2, by simpa using h3⟩
      · cases h
  · cases h
def nxR (l0 : List S48) (l1 l : List ByteArray) : List ByteArray × Int := if askedR l0 l1 l = 0 then (nextR (setR l) l0, 0) else ([], askedR l0 l1 l)
theorem ret_slice_int {v : Value} {a b : Int} (h : a = b) : Ending.returned (.tuple #[v, .int .i64 a]) = .returned (.tuple #[v, .int .i64 b]) := by rw [h]
set_option maxHeartbeats 4000000 in
set_option maxRecDepth 100000 in
theorem nx_calls (A0 : Option Addr) (c0 : Nat) (l0 : List S48) (A1 : Option Addr) (c1 : Nat) (l1 : List ByteArray) (A : Option Addr) (c : Nat) (l : List ByteArray) (w : World)
    (hr0 : Kd.C k48 w A0 l0.length l0) (hc0 : l0.length ≤ c0) (hr1 : Kd.C Kd.string w A1 l1.length l1) (hc1 : l1.length ≤ c1) (hr : Kd.C Kd.string w A l.length l) (hc : l.length ≤ c) (hs1 : ∀ s ∈ l1, s.size ≤ 140737488351232) :
    Calls Try.prog 11 #[.agg #[.slice A0 l0.length c0, .slice A1 l1.length c1], .slice A l.length c] w fun e w' => ∃ v, e = .returned (.tuple #[v, .int .i64 (nxR l0 l1 l).2]) ∧ Kd.R Kd.string 9 w' w.heap.size (fun _ => True) v (nxR l0 l1 l).1 ∧ Below w.heap.size w w' := by
  have hb1 : Below w.heap.size w (w.alloc (.cells #[.slice A0 l0.length c0, .slice A1 l1.length c1] 25)) := below_alloc (Below.refl _ _) _
  have hB1 := Aside0.mk hb1
  have HASK := Aside0.mk (asked_calls A0 c0 l0 A1 c1 l1 A c l _ (Kd.C_below hr0 hb1) hc0 (Kd.C_below hr1 hb1) hc1 (Kd.C_below hr hb1) hc hs1)
  have HR0 := Aside0.mk (Kd.C_below hr0 hb1)
  have HR := Aside0.mk (Kd.C_below hr hb1)
  clear hr0 hr1 hr hs1 hb1
  unfold nxR
  by_cases h0 : askedR l0 l1 l = 0
  · rw [if_pos h0]
    obtain ⟨g0, g1, g2, _⟩ := asked_zero h0
    have HSZ := Aside0.mk (nodeSz_ok g0)
    have hl0 := (planR_ok g0).1
    have HSL := Aside0.mk (fun s (hs : s ∈ l) => show s.size ≤ maxLen by have := nameOk_size (List.all_eq_true.1 g2 s hs); unfold maxLen; omega)
    have hll : l.length < maxLen := by unfold maxLen; omega
    rw [h0] at HASK
    clear h0 g0 g2
    go_enter Try.func11, Try.ntmps11
    go_wp2_with (go_at_call 34; refine HASK.out.mono ?_; rintro e w2 ⟨rfl, hb2⟩; have hB2 := Aside0.mk (below_step hB1.out hb2); have HR2 := Aside0.mk (Kd.C_below HR.out hb2); have HR02 := Aside0.mk (Kd.C_below HR0.out hb2); have z0 : w2.cell? ⟨w.heap.size, 0, none⟩ = some (.slice A0 l0.length c0) := (hb2.cell (p := ⟨w.heap.size, 0, none⟩) (by simp)).trans (by go_simp); have z1 : w2.cell? ⟨w.heap.size, 1, none⟩ = some (.slice A1 l1.length c1) := (hb2.cell (p := ⟨w.heap.size, 1, none⟩) (by simp)).trans (by go_simp); clear hb2)
    go_region_held3 (fun w' => w'.cell? ⟨w.heap.size, 0, none⟩ = some (.slice A0 l0.length c0) ∧ w'.cell? ⟨w.heap.size, 1, none⟩ = some (.slice A1 l1.length c1)) (go_keep) (first | (go_at_call 35; refine (setOf_calls A c l _ (Kd.C_below HR2.out (below_drew (Below.refl _ _))) HSL.out hll).mono ?_; rintro e w5 ⟨rfl, ⟨m5, hm5l, hm5⟩, hb5⟩; have hB5 := Aside0.mk (below_step (below_drew hB2.out) hb5); have HM5 := Aside0.mk hm5; have HR05 := Aside0.mk (Kd.C_below (Kd.C_below HR02.out (below_drew (Below.refl _ _))) hb5); have hq0 : w.heap.size < w2.heap.size := World.block_lt_of_cell? _ _ z0; have zz0 := (hb5.cell (p := ⟨w.heap.size, 0, none⟩) hq0).trans z0; have zz1 := (hb5.cell (p := ⟨w.heap.size, 1, none⟩) hq0).trans z1; clear hb5) | (go_at_call 40; refine (next_calls A0 c0 l0 A1 c1 l1 _ m5 (setR l) _ HR05.out HM5.out (by omega) HSZ.out).mono ?_; rintro e w6 ⟨v, rfl, hv, hb6⟩; have hq5 : w.heap.size < w5.heap.size := World.block_lt_of_cell? _ _ zz0; have zy0 := (hb6.cell (p := ⟨w.heap.size, 0, none⟩) hq5).trans zz0; have zy1 := (hb6.cell (p := ⟨w.heap.size, 1, none⟩) hq5).trans zz1; have HV := Aside0.mk (Kd.R_lower hv hB5.out.size); have HB6 := Aside0.mk (below_step hB5.out hb6); clear hv hb6))
    all_goals
      go_wp2_with fail
      go_ret2
      exact ⟨_, rfl, HV.out, HB6.out⟩
  · rw [if_neg h0]
    have e1 : (askedR l0 l1 l == 0) = false := beq_eq_false_iff_ne.mpr h0
    have e2 : (askedR l0 l1 l != 0) = true := by simpa using h0
    clear h0
    go_enter Try.func11, Try.ntmps11
    go_wp2_with (go_at_call 34; refine HASK.out.mono ?_; rintro e w2 ⟨rfl, hb2⟩)
    go_ret2
    exact ⟨_, rfl, Kd.R_nil _ _ _ _ _, below_step hB1.out hb2⟩
def walk_Next.f (l0 : List S48) (l1 l : List ByteArray) : Option (List ByteArray × Int) := if (l1.all fun s => decide (s.size ≤ 140737488351232)) = true then some (nxR l0 l1 l) else none
theorem walk_Next.calls (A0_0 : Option Addr) (c0_0 : Nat) (l0_0 : List S48) (A0_1 : Option Addr) (c0_1 : Nat) (l0_1 : List ByteArray) (A1 : Option Addr) (c1 : Nat) (l1 : List ByteArray) (r1 : List ByteArray) (r2 : Int) (w : World)
    (hr0_0 : Kd.C k48 w A0_0 l0_0.length l0_0) (hc0_0 : l0_0.length ≤ c0_0) (hr0_1 : Kd.C Kd.string w A0_1 l0_1.length l0_1) (hc0_1 : l0_1.length ≤ c0_1) (hr1 : Kd.C Kd.string w A1 l1.length l1) (hc1 : l1.length ≤ c1) (h : walk_Next.f l0_0 l0_1 l1 = some (r1, r2)) :
    Calls Try.prog 11 #[.agg #[.slice A0_0 l0_0.length c0_0, .slice A0_1 l0_1.length c0_1], .slice A1 l1.length c1] w fun e w' => ∃ v0_ : Value, e = .returned (.tuple #[v0_, .int .i64 r2]) ∧ Kd.R Kd.string 9 w' w.heap.size (fun _ => True) v0_ r1 ∧ Below w.heap.size w w' := by
  unfold walk_Next.f at h
  split at h
  · rename_i hs
    have h2 := Option.some.inj h
    have := nx_calls A0_0 c0_0 l0_0 A0_1 c0_1 l0_1 A1 c1 l1 w hr0_0 hc0_0 hr0_1 hc0_1 hr1 hc1 (fun s hm => of_decide_eq_true (List.all_eq_true.1 hs s hm))
    rw [h2] at this
    exact this
  · cases h

end Go.Proofs.Ytedgkcdofiildaa.P
