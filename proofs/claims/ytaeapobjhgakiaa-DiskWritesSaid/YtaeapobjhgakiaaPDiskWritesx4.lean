-- written by mp.py (wip/tools), a program of this session, over the kit's print
import Derived.Test.YtaeapobjhgakiaaPDiskWritesx0
import Derived.Test.YtaeapobjhgakiaaPDiskWritesx3
namespace Go.Proofs.Ytaeapobjhgakiaa.P
open Go.RowKit Go.Proofs.YtaeapobjhgakiaaW.PrintWords Go.Proofs.YtaeapobjhgakiaaW.PrintLast Go.Proofs.YtaeapobjhgakiaaW.PrintMore
attribute [local go_sem] max2_int min2_int max_two min_two max_three min_three max_four min_four   -- for this text's walks alone
set_option linter.unusedVariables false
set_option linter.unusedSimpArgs false

/-! ### api_File_59: function 59 -/
open Go.Proofs.Ytaeapobjhgakiaa.Ext
theorem sizeE26 : (Try.prog.info? 26).map (·.size) = some 3 := by kernel_rfl
set_option maxHeartbeats 1000000 in
set_option maxRecDepth 100000 in
theorem insert_shift26 (g n c i vb vc : Nat) (cur Y YC : List Value) (w : World) (hi : i < n) (hroom : n + 1 ≤ c) (hc63 : c ≤ 9223372036854775807) (hvb : vb ≠ g) (hsz : cur.length = c * 3) (hY : Y.length = 3)
    (hg : w.heap[g]? = some (.cells cur.toArray 26 (0, 0))) (hv : w.heap[vb]? = some (.cells YC.toArray 26 (0, 0))) (hYC : YC.take 3 = Y)
    (h1 : ∀ u ∈ (cur.drop (i * 3)).take ((n - i) * 3), u.oneCell' = true) (h1Y : ∀ u ∈ Y, u.oneCell' = true) :
    Calls Try.prog 59 #[.slice (some ⟨g, 0, none⟩) n c, .int .i64 i, .slice (some ⟨vb, 0, none⟩) 1 vc] w fun e w' =>
      e = .returned (.slice (some ⟨g, 0, none⟩) (n + 1) c) ∧ w'.heap[g]? = some (.cells (splice (splice cur ((i + 1) * 3) ((cur.drop (i * 3)).take ((n - i) * 3))) (i * 3) Y).toArray 26 (0, 0)) ∧ w.grownBy w' (some g) := by
  have hYC' := hYC
  have hz2 : ¬ ((i : Int) = (n : Int)) := by omega
  have hsh : w.shape? g = some (26, cur.length) := by simp [World.shape?, hg]
  have hshv : w.shape? vb = some (26, YC.length) := by simp [World.shape?, hv]
  have hov : ∀ lb cb, (callFunc 65 #[.slice (some ⟨vb, 0, none⟩) 1 vc, .slice (some ⟨g, (i + 1) * 3, none⟩) lb cb]).run Try.prog w = .ok (.value (.bool false)) w := fun lb cb => by
    rw [run_callFunc_extern Try.func65 (by kernel_rfl) (by kernel_rfl) (by kernel_rfl) (e := Extern.SlicesOverlaps.overlaps #[22, 22] #[4]) (by kernel_rfl),
      Lib.run_overlaps_apart w 22 4 26 Try.underlying22 3 Try.sizeOf26 ⟨vb, 0, none⟩ ⟨g, (i + 1) * 3, none⟩ 1 vc lb cb hvb 26 26 YC.length cur.length hshv hsh (by omega) (by simp [World.frozen?, hv]) (by simp [World.frozen?, hv])]
    rfl
  have hcs : ((cur.drop (i * 3)).take ((n - i) * 3)).length = (n - i) * 3 := by rw [List.length_take, List.length_drop, hsz]; omega
  have hmin : Nat.min (n + 1 - i) (n - i) = n - i := by simp only [Nat.min_def]; split <;> omega
  have hmin2 : Nat.min 1 (n + 1 - i) = 1 := by simp only [Nat.min_def]; split <;> omega
  have hw1 : IntKind.i64.wrap ((i : Int) + 1) = (i : Int) + 1 := by rw [IntKind.wrap_i64]; omega
  have hb1 : (0 : Int) ≤ (i : Int) + 1 := by omega
  have htn : ((i : Int) + 1).toNat = i + 1 := by omega
  have hb2 : ¬ (c = i + 1) := by omega
  have hb4 : ¬ (c = i) := by omega
  have hb3 : (i : Int) ≤ (n : Int) + 1 := by omega
  have hin : i ≤ n := by omega
  obtain ⟨cs1, hcs1⟩ : ∃ x, (cur.drop (i * 3)).take ((n - i) * 3) = x := ⟨_, rfl⟩
  rw [hcs1] at hcs ⊢
  have hsrc : ∀ j v, cs1[j]? = some v → w.cell? ((⟨g, i * 3, none⟩ : Addr).add j) = some v := by
    intro j v hj
    rw [← hcs1, List.getElem?_take] at hj
    split at hj
    · rw [List.getElem?_drop] at hj
      rw [Addr.add_lit]
      simp [World.cell?, hg, hj]
    · cases hj
  have h1c : ∀ v ∈ cs1, v.oneCell' = true := fun v hv => h1 v (by rw [hcs1]; exact hv)
  have hfit : (i + 1) * 3 + cs1.length ≤ cur.length := by omega
  obtain ⟨cur2, hcur2⟩ : ∃ x, splice cur ((i + 1) * 3) cs1 = x := ⟨_, rfl⟩
  have hlen2 : cur2.length = cur.length := by rw [← hcur2]; exact length_splice _ _ _ hfit
  have HC := Lib.hid hcs1
  have HH := Lib.hid hcur2
  have HG := Lib.hid hg
  have HV := Lib.hid hv
  have HS := Lib.hid hsz
  have HL := Lib.hid hlen2
  have HN := Lib.hid hcs
  have HY := Lib.hid hY
  clear hcs1 hcur2 hg hv hsz hlen2 hsh hshv hcs hY
  have HYC := Lib.hid hYC
  clear hYC hYC'
  go_enter Try.func59, Try.ntmps59
  go_wp2_with (simp only [hov])
  go_region_law ((refine step_copy_K w.drew rfl (.tmp 73) (.tmp 76) 22 22 rfl 26 Try.underlying22 3 sizeE26 g ((i + 1) * 3) (n - i) (c - (i + 1)) ⟨g, i * 3, none⟩ (n + 1 - i) (c - i) ?d1 ?d2 cur 26 HG.out cs1 (n - i) hmin HN.out hsrc hfit h1c ?_); (case d1 => simp [Act.eval, Act.put]); (case d2 => simp [Act.eval, Act.put]))
  obtain ⟨W1, hW1⟩ : ∃ W1, w.drew.setRow g (splice cur ((i + 1) * 3) cs1).toArray = W1 := ⟨_, rfl⟩
  have hg1 : W1.heap[g]? = some (.cells cur2.toArray 26 (0, 0)) := by rw [← hW1, ← HH.out]; exact setRow_heap w.drew g _ _ 26 _ HG.out
  have hv1 : W1.heap[vb]? = some (.cells YC.toArray 26 (0, 0)) := by rw [← hW1, setRow_other w.drew g vb _ hvb]; exact HV.out
  have hB1 : w.grownBy W1 (some g) := by rw [← hW1]; exact grown_setRow (grown_drew (grown_refl _ _)) _
  rw [hW1]
  clear hW1
  have hsrcY : ∀ j v, Y[j]? = some v → W1.cell? ((⟨vb, 0, none⟩ : Addr).add j) = some v := by
    intro j v hj
    rw [Addr.add_lit]
    have hj' : YC[j]? = some v := by
      rw [← HYC.out, List.getElem?_take] at hj
      split at hj
      · exact hj
      · cases hj
    simp [World.cell?, hv1, hj']
  have HG1 := Lib.hid hg1
  clear hg1 hv1
  go_wp2_with (with_reducible refine wpList_copy_K W1 rfl (.tmp 80) (.tmp 81) 22 22 rfl 26 Try.underlying22 3 sizeE26 g (i * 3) (n + 1 - i) (c - i) ⟨vb, 0, none⟩ 1 vc rfl rfl cur2 26 HG1.out Y 1 hmin2 HY.out hsrcY ?hfit2 h1Y ?_; (case hfit2 => rw [HL.out, HY.out, HS.out]; omega))


  go_ret
  exact ⟨rfl, by rw [HH.out]; exact setRow_heap W1 g _ _ 26 _ HG1.out, grown_setRow hB1 _⟩

set_option maxHeartbeats 1000000 in
set_option maxRecDepth 100000 in
theorem insert_grow26 (g n c i vb vc : Nat) (cur Y YC : List Value) (w : World) (hi : i < n) (hnc : n ≤ c) (hroom : c < n + 1) (hc63 : c ≤ 9223372036854775807) (hbig : (n + 1) * 40 ≤ 140737488355328) (hvb : vb ≠ g) (hsz : cur.length = c * 3) (hY : Y.length = 3)
    (hg : w.heap[g]? = some (.cells cur.toArray 26 (0, 0))) (hv : w.heap[vb]? = some (.cells YC.toArray 26 (0, 0))) (hYC : YC.take 3 = Y)
    (h1 : ∀ u ∈ (cur.drop (i * 3)).take ((n - i) * 3), u.oneCell' = true) (h1Y : ∀ u ∈ Y, u.oneCell' = true) :
    Calls Try.prog 59 #[.slice (some ⟨g, 0, none⟩) n c, .int .i64 i, .slice (some ⟨vb, 0, none⟩) 1 vc] w fun e w' =>
      ∃ G ROW, e = .returned (.slice (some ⟨w.heap.size, 0, none⟩) (n + 1) G) ∧ n + 1 ≤ G ∧ G ≤ maxLen ∧ ROW.length = G * 3 ∧ ROW.take (i * 3) = cur.take (i * 3) ∧ w'.heap[w.heap.size]? = some (.cells (splice (splice ROW (i * 3) Y) ((i + 1) * 3) ((cur.drop (i * 3)).take ((n - i) * 3))).toArray 26 (0, 0)) ∧ Below w.heap.size w w' := by
  have hYC' := hYC
  have hz2 : ¬ ((i : Int) = (n : Int)) := by omega
  have hz3 : (c : Int) < (n : Int) + 1 := by omega
  obtain ⟨i0, hi0, hzz⟩ := Option.map_eq_some_iff.1 infoE26
  simp only [Prod.mk.injEq] at hzz
  obtain ⟨hz0, hzs, hzb⟩ := hzz
  have hgw : g < w.heap.size := (Array.getElem?_eq_some_iff.1 hg).1
  have hvw : vb < w.heap.size := (Array.getElem?_eq_some_iff.1 hv).1
  have hkk : (n : Int) + 1 - (i : Int) = ((n + 1 - i : Nat) : Int) := by omega
  have hik : i + (n + 1 - i) = n + 1 := by omega
  have htl : (cur.take (i * 3)).length = i * 3 := by rw [List.length_take]; omega
  have hold : (Builtin.firstCells i0.size i (.slice (some ⟨g, 0, none⟩) i c)).run Try.prog w.drew = .ok (cur.take (i * 3)).toArray w.drew := by
    have hl := run_loadCells_list (P := Try.prog) w.drew ⟨g, 0, none⟩ (cur.take (i * 3)) (fun j v hj => by
      rw [Addr.add_lit]
      rw [List.getElem?_take] at hj
      split at hj
      · simp only [World.cell?]
        have hgd : w.drew.heap[g]? = some (.cells cur.toArray 26 (0, 0)) := hg
        simp [hgd, hj]
      · cases hj)
    rw [htl] at hl
    rw [hzs]
    simp [Builtin.firstCells, hl]
  have hrz : ∀ ty, (Builtin.append_ #[22, 3] ty #[.slice (some ⟨g, 0, none⟩) i c, .int .i64 ((n : Int) + 1 - (i : Int))]).run Try.prog w =
      .ok (.slice (some ⟨w.heap.size, 0, none⟩) (n + 1) (grownCap w (n + 1) c 26)) (w.drew.alloc (.cells ((cur.take (i * 3)).toArray ++ Builtin.zeroCells (Value.agg #[.string ByteArray.empty, .string ByteArray.empty, .int .i64 0]).cells (n + 1 - i) ++ Builtin.zeroCells (Value.agg #[.string ByteArray.empty, .string ByteArray.empty, .int .i64 0]).cells (grownCap w (n + 1) c 26 - (n + 1))) 26)) := fun ty => by
    have h := Lib.run_append_grow_zeros w 22 3 ty 26 i0 _ .i64 .i64 Try.underlying22 Try.underlying3 hi0 hz0 (some ⟨g, 0, none⟩) i c (cur.take (i * 3)) hold (n + 1 - i) (by omega) (by omega) (by omega) (by omega) (by rw [hzb]; omega) (by rw [hzb, hik]; exact growslice_fits hroom hbig)
    rw [hik] at h
    rw [hkk]
    exact h
  obtain ⟨G, hG⟩ : ∃ G, G = grownCap w (n + 1) c 26 := ⟨_, rfl⟩
  rw [← hG] at hrz
  have hGn : n + 1 ≤ G := by rw [hG]; exact grownCap_ge w _ _ _
  have hGm : G ≤ maxLen := by rw [hG]; exact grownCap_le_maxLen w (n + 1) c 26 (by unfold maxLen; omega)
  have hG63 : G ≤ 9223372036854775807 := by unfold maxLen at hGm; omega
  obtain ⟨ROW, hROW⟩ : ∃ ROW : List Value, ROW.toArray = (cur.take (i * 3)).toArray ++ Builtin.zeroCells (Value.agg #[.string ByteArray.empty, .string ByteArray.empty, .int .i64 0]).cells (n + 1 - i) ++ Builtin.zeroCells (Value.agg #[.string ByteArray.empty, .string ByteArray.empty, .int .i64 0]).cells (G - (n + 1)) := ⟨_, Array.toArray_toList⟩
  rw [← hROW] at hrz
  have hz3c : ∀ m, (Builtin.zeroCells (Value.agg #[.string ByteArray.empty, .string ByteArray.empty, .int .i64 0]).cells m).size = m * 3 := fun m => by simp [Builtin.zeroCells, Value.cells]
  have hRl : ROW.length = G * 3 := by
    have := congrArg Array.size hROW
    rw [Array.size_append, Array.size_append, hz3c, hz3c] at this
    simp only [List.size_toArray, htl] at this
    omega
  have hRt : ROW.take (i * 3) = cur.take (i * 3) := by
    have := congrArg Array.toList hROW
    simp only [Array.toList_append, List.append_assoc] at this
    rw [this, List.take_append_of_le_length (by rw [htl]; exact Nat.le_refl _)]
    exact List.take_of_length_le (by rw [htl]; exact Nat.le_refl _)
  clear hROW hold
  obtain ⟨W1, hW1⟩ : ∃ W1, w.drew.alloc (.cells ROW.toArray 26) = W1 := ⟨_, rfl⟩
  have hB1 : Below w.heap.size w W1 := by rw [← hW1]; exact below_alloc (below_drew (Below.refl _ _)) _
  have hg1 : W1.heap[g]? = some (.cells cur.toArray 26 (0, 0)) := by rw [hB1.block g hgw]; exact hg
  have hv1 : W1.heap[vb]? = some (.cells YC.toArray 26 (0, 0)) := by rw [hB1.block vb hvw]; exact hv
  have hN1 : W1.heap[w.heap.size]? = some (.cells ROW.toArray 26 (0, 0)) := by rw [← hW1]; exact heap_alloc_new w.drew _
  rw [hW1] at hrz
  clear hW1
  have hcs : ((cur.drop (i * 3)).take ((n - i) * 3)).length = (n - i) * 3 := by rw [List.length_take, List.length_drop, hsz]; omega
  have hmin : Nat.min (n - i) (n - i) = n - i := by simp only [Nat.min_def]; split <;> omega
  have hmin2 : Nat.min 1 (n + 1 - i) = 1 := by simp only [Nat.min_def]; split <;> omega
  have hw1 : IntKind.i64.wrap ((i : Int) + 1) = (i : Int) + 1 := by rw [IntKind.wrap_i64]; omega
  have hb1 : (0 : Int) ≤ (i : Int) + 1 := by omega
  have htn : ((i : Int) + 1).toNat = i + 1 := by omega
  have hb2 : ¬ (G = i + 1) := by omega
  have hb4 : ¬ (G = i) := by omega
  have hb5 : ¬ (c = i) := by omega
  have hb3 : (i : Int) ≤ (n : Int) := by omega
  have hin : i ≤ n := by omega
  have hic : i ≤ c := by omega
  obtain ⟨cs1, hcs1⟩ : ∃ x, (cur.drop (i * 3)).take ((n - i) * 3) = x := ⟨_, rfl⟩
  rw [hcs1] at hcs
  have hsrcY : ∀ j v, Y[j]? = some v → W1.cell? ((⟨vb, 0, none⟩ : Addr).add j) = some v := by
    intro j v hj
    rw [Addr.add_lit]
    have hj' : YC[j]? = some v := by
      rw [← hYC', List.getElem?_take] at hj
      split at hj
      · exact hj
      · cases hj
    simp [World.cell?, hv1, hj']
  have h1c : ∀ v ∈ cs1, v.oneCell' = true := fun v hv => h1 v (by rw [hcs1]; exact hv)
  have hfitY : i * 3 + Y.length ≤ ROW.length := by omega
  have hfit1 : (i + 1) * 3 + cs1.length ≤ (splice ROW (i * 3) Y).length := by rw [length_splice _ _ _ hfitY]; omega
  obtain ⟨W2, hW2⟩ : ∃ W2, W1.setRow w.heap.size (splice ROW (i * 3) Y).toArray = W2 := ⟨_, rfl⟩
  have hN2 : W2.heap[w.heap.size]? = some (.cells (splice ROW (i * 3) Y).toArray 26 (0, 0)) := by rw [← hW2]; exact setRow_heap W1 _ _ _ 26 _ hN1
  have hg2 : W2.heap[g]? = some (.cells cur.toArray 26 (0, 0)) := by rw [← hW2, setRow_other W1 _ g _ (by omega)]; exact hg1
  have hB2 : Below w.heap.size w W2 := by rw [← hW2]; exact below_setRow hB1 (Nat.le_refl _) _
  have hsrc : ∀ j v, cs1[j]? = some v → W2.drew.cell? ((⟨g, i * 3, none⟩ : Addr).add j) = some v := by
    intro j v hj
    rw [← hcs1, List.getElem?_take] at hj
    split at hj
    · rw [List.getElem?_drop] at hj
      rw [Addr.add_lit]
      have hgd : W2.drew.heap[g]? = some (.cells cur.toArray 26 (0, 0)) := hg2
      simp [World.cell?, hgd, hj]
    · cases hj
  obtain ⟨cur2, hcur2⟩ : ∃ x, splice ROW (i * 3) Y = x := ⟨_, rfl⟩
  rw [hcur2] at hW2 hN2 hfit1
  have HN1 := Lib.hid hN1
  have HN2 := Lib.hid hN2
  have HC := Lib.hid hcs1
  have HU := Lib.hid hcur2
  have HL := Lib.hid hcs
  have HY := Lib.hid hY
  have HG := Lib.hid hG
  have HT := Lib.hid hRt
  have HR := Lib.hid hRl
  have HW := Lib.hid hW2
  clear hN1 hN2 hcs1 hcur2 hcs hY hG hRt hRl hW2 hi0 hz0 hzs hzb hg hv hg1 hv1 hg2 hsz hkk hik htl hYC hYC'
  go_enter Try.func59, Try.ntmps59
  go_wp2_with (first | (at_builtin; refine Lib.wpList_append_run _ rfl _ _ _ _ rfl _ _ rfl rfl _ _ (hrz _) ?_) | (with_reducible refine wpList_copy_K W1 rfl (.tmp 43) (.tmp 44) 22 22 rfl 26 Try.underlying22 3 sizeE26 w.heap.size (i * 3) (n + 1 - i) (G - i) ⟨vb, 0, none⟩ 1 vc rfl rfl ROW 26 HN1.out Y 1 hmin2 HY.out hsrcY hfitY h1Y ?_; rw [HU.out, HW.out]))
  go_region_law ((refine step_copy_K W2.drew rfl (.tmp 50) (.tmp 53) 22 22 rfl 26 Try.underlying22 3 sizeE26 w.heap.size ((i + 1) * 3) (n - i) (G - (i + 1)) ⟨g, i * 3, none⟩ (n - i) (c - i) ?d1 ?d2 cur2 26 HN2.out cs1 (n - i) hmin HL.out hsrc hfit1 h1c ?_); (case d1 => simp [Act.eval, Act.put]); (case d2 => simp [Act.eval, Act.put]))
  have hB3 : Below w.heap.size w (W2.drew.setRow w.heap.size (splice cur2 ((i + 1) * 3) cs1).toArray) := below_setRow (below_drew hB2) (Nat.le_refl _) _
  have hN3 : (W2.drew.setRow w.heap.size (splice cur2 ((i + 1) * 3) cs1).toArray).heap[w.heap.size]? = some (.cells (splice cur2 ((i + 1) * 3) cs1).toArray 26 (0, 0)) := setRow_heap W2.drew _ _ _ 26 _ HN2.out
  obtain ⟨W3, hW3⟩ : ∃ W3, W2.drew.setRow w.heap.size (splice cur2 ((i + 1) * 3) cs1).toArray = W3 := ⟨_, rfl⟩
  rw [hW3] at hB3 hN3 ⊢
  clear hW3
  have HN3 := Lib.hid hN3
  clear hN3
  go_wp2
  go_ret
  exact ⟨G, ROW, rfl, hGn, hGm, HR.out, HT.out, by rw [HU.out, HC.out]; exact HN3.out, hB3⟩

def enc26 (x : S26) : List Value := [.string x.f0, .string x.f1, .int .i64 x.f2]
theorem R26_open {w : World} {base : Nat} {ok : Nat → Prop} {v : Value} {l : List S26} (h : Kd.R k26 26 w base ok v l) : w.ownsRow base 26 3 v l.length (l.flatMap enc26) := by
  obtain ⟨_, inner, ho, hr⟩ := h
  rw [← reps_flat enc26 3 (fun _ => rfl) (fun p c h => k26_openM h) l inner hr]
  exact ho
theorem R26_mk {w : World} {base : Nat} {v : Value} {l : List S26} (h : w.ownsRow base 26 3 v l.length (l.flatMap enc26)) : Kd.R k26 26 w base (fun _ => True) v l :=
  ⟨fun _ _ => trivial, _, h, reps_of_flat enc26 3 (fun _ => rfl) (fun p => k26_mkM _ _ _ p) l⟩
theorem one26 (l : List S26) : ∀ u ∈ l.flatMap enc26, u.oneCell' = true := by
  intro u hu
  obtain ⟨x, _, hx⟩ := List.mem_flatMap.1 hu
  simp only [enc26, List.mem_cons, List.not_mem_nil, or_false] at hx
  rcases hx with rfl | rfl | rfl <;> rfl

set_option maxHeartbeats 1000000 in
set_option maxRecDepth 100000 in
theorem insert_end26 (v : Value) (l : List S26) (y : S26) (vb vc base : Nat) (w0 w : World) (hB : Below base w0 w) (hbase : base ≤ w.heap.size) (hR : Kd.R k26 26 w base (fun _ => True) v l)
    (hC : Kd.C k26 w (some ⟨vb, 0, none⟩) 1 [y]) (hl : (l.length + 1) * 40 ≤ 140737488355328) :
    Calls Try.prog 59 #[v, .int .i64 l.length, .slice (some ⟨vb, 0, none⟩) 1 vc] w fun e w' =>
      ∃ v', e = .returned v' ∧ Kd.R k26 26 w' base (fun _ => True) v' (l ++ [y]) ∧ Below base w0 w' ∧ w.grownBy w' v.ownBlock ∧ (v'.ownBlock = v.ownBlock ∨ ∃ b, v'.ownBlock = some b ∧ w.heap.size ≤ b) := by
  obtain ⟨A, c, rfl, hlc, hr⟩ := Kd.R_reads hR
  have HR := Aside0.mk hR
  have HC := Aside0.mk hC
  have hm : (l.length : Int) ≤ 9223372036854775807 := by omega
  have hcm : c ≤ 9223372036854775807 := by
    obtain ⟨_, inner, ho, _⟩ := hR
    rcases ho.2 with ⟨h, _⟩ | ⟨g, cap, cur, h, _, _, _, h2, _⟩
    · simp only [Value.slice.injEq] at h
      omega
    · simp only [Value.slice.injEq] at h
      rw [h.2.2]
      exact h2
  clear hR hC hr
  go_enter Try.func59, Try.ntmps59
  go_wp2_with (at_builtin; refine Kd.R_append_rows (w0 := w0) (Rr := k26.K w) k26 base rfl (.tmp 23) (.tmp 24) 22 26 _ 40 rfl Try.underlying22 infoE26 rfl (by decide) (by decide) (.slice A l.length c) l [y] (some ⟨vb, 0, none⟩) 1 vc (fun _ => True) (fun _ => False) rfl rfl HR.out HC.out ?hKM ?hokp ?hfresh hB hbase hl ?_; (case hKM => intro x cs h; rw [k26_open h]; exact k26_mkM _ _ _ _); (case hokp => exact fun _ h => h.elim); (case hfresh => exact fun _ _ => trivial); intro v1 w1 hR1 hB1 hG1 hO1; have HG1 := Aside0.mk hG1; have HO1 := Aside0.mk hO1; clear hG1 hO1)
  all_goals
    go_ret
    exact ⟨_, rfl, hR1, hB1, by first | exact HG1.out | (cases A <;> exact HG1.out), by first | exact HO1.out | (cases A <;> exact HO1.out)⟩

theorem insert26 (v : Value) (l : List S26) (y : S26) (u : Value) (base : Nat) (i : Int) (w0 w : World) (h0 : 0 ≤ i) (hi : i ≤ l.length) (hB : Below base w0 w) (hbase : base ≤ w.heap.size) (hR : Kd.R k26 26 w base (fun _ => True) v l)
    (hu : Kd.R k26 26 w base (fun _ => True) u [y]) (hne : u.ownBlock ≠ v.ownBlock) (hl : (l.length + 1) * 40 ≤ 140737488355328) :
    Calls Try.prog 59 #[v, .int .i64 i, u] w fun e w' =>
      ∃ v', e = .returned v' ∧ Kd.R k26 26 w' base (fun _ => True) v' (l.take i.toNat ++ y :: l.drop i.toNat) ∧ Below base w0 w' ∧ w.grownBy w' v.ownBlock ∧ (v'.ownBlock = v.ownBlock ∨ ∃ b, v'.ownBlock = some b ∧ w.heap.size ≤ b) := by
  obtain ⟨k, rfl⟩ := Int.eq_ofNat_of_zero_le h0
  rw [Int.toNat_natCast]
  have hou := R26_open hu
  rcases hou.2 with ⟨_, h⟩ | ⟨vb, vc, YC, rfl, _, hv0, _, _, _, hYt⟩
  · simp at h
  have hv : w.heap[vb]? = some (.cells YC.toList.toArray 26 (0, 0)) := hv0
  have hYC : YC.toList.take 3 = enc26 y := by simpa using hYt
  have hyc : Kd.C k26 w (some ⟨vb, 0, none⟩) 1 [y] := by
    obtain ⟨A, c, he, _, hr⟩ := Kd.R_reads hu
    simp only [Value.slice.injEq] at he
    rw [← he.1] at hr
    exact hr
  by_cases he : k = l.length
  · subst he
    rw [List.take_length, List.drop_length]
    exact insert_end26 v l y vb vc base w0 w hB hbase hR hyc hl
  · have hk : k < l.length := by omega
    have ho := R26_open hR
    rcases ho.2 with ⟨_, h⟩ | ⟨g, cap, cur, rfl, hbg, hg, hn, hc, hsz, ht⟩
    · omega
    · have hvb : vb ≠ g := fun e => hne (by rw [e]; rfl)
      have hgt : base ≤ g := hbg
      have htl : cur.toList.take (l.length * 3) = l.flatMap enc26 := ht
      have hcl : cur.toList.length = cap * 3 := by simpa using hsz
      have hC : (cur.toList.drop (k * 3)).take ((l.length - k) * 3) = (l.drop k).flatMap enc26 := by
        rw [List.take_drop, ← Nat.add_mul, show k + (l.length - k) = l.length by omega, htl, flat_drop enc26 3 (fun _ => rfl)]
      have hX : cur.toList.take (k * 3) = (l.take k).flatMap enc26 := by
        rw [← flat_take enc26 3 (fun _ => rfl), ← htl, List.take_take, show min (k * 3) (l.length * 3) = k * 3 by omega]
      have hg' : w.heap[g]? = some (.cells cur.toList.toArray 26 (0, 0)) := hg
      have hCl : ((l.drop k).flatMap enc26).length = (l.length - k) * 3 := by rw [flat_length enc26 3 (fun _ => rfl), List.length_drop]
      have hout : (l.take k).flatMap enc26 ++ (enc26 y ++ (l.drop k).flatMap enc26) = (l.take k ++ y :: l.drop k).flatMap enc26 := by simp
      have hlen : (l.take k ++ y :: l.drop k).length = l.length + 1 := by simp; omega
      have h1y : ∀ u ∈ enc26 y, u.oneCell' = true := fun u hu => one26 [y] u (by simpa using hu)
      by_cases hr : l.length + 1 ≤ cap
      · refine (insert_shift26 g l.length cap k vb vc cur.toList (enc26 y) YC.toList w hk hr (by unfold maxLen at hc; omega) hvb hcl rfl hg' hv hYC (by rw [hC]; exact one26 _) h1y).mono ?_
        rintro e w' ⟨rfl, hw, hb⟩
        refine ⟨_, rfl, R26_mk ?_, hB.grown hb hbase (fun k e => by cases e; exact hgt), hb, .inl rfl⟩
        rw [hC] at hw
        refine ⟨by rw [flat_length enc26 3 (fun _ => rfl)], .inr ⟨g, cap, _, by rw [hlen], hbg, hw, by omega, hc, ?_, ?_⟩⟩
        · rw [List.size_toArray, length_splice _ _ _ (by rw [length_splice _ _ _ (by rw [hCl]; omega)]; simp [enc26]; omega), length_splice _ _ _ (by rw [hCl]; omega), hcl]
        · rw [hlen, ← hout]
          exact (insert_cells cur.toList _ (enc26 y) _ l.length k hk (by omega) hX rfl hCl).1
      · refine (insert_grow26 g l.length cap k vb vc cur.toList (enc26 y) YC.toList w hk hn (by omega) (by unfold maxLen at hc; omega) hl hvb hcl rfl hg' hv hYC (by rw [hC]; exact one26 _) h1y).mono ?_
        rintro e w' ⟨G, ROW, rfl, hG, hGm, hRl, hRt, hw, hb⟩
        refine ⟨_, rfl, R26_mk ?_, below_then hB hbase hb, grown_of_below hb _, .inr ⟨_, rfl, Nat.le_refl _⟩⟩
        rw [hC] at hw
        refine ⟨by rw [flat_length enc26 3 (fun _ => rfl)], .inr ⟨w.heap.size, G, _, by rw [hlen], hbase, hw, by omega, hGm, ?_, ?_⟩⟩
        · rw [List.size_toArray, length_splice _ _ _ (by rw [length_splice _ _ _ (by simp [enc26]; omega), hCl]; omega), length_splice _ _ _ (by simp [enc26]; omega), hRl]
        · rw [hlen, ← hout]
          exact (insert_cells ROW _ (enc26 y) _ l.length k hk (by omega) (hRt.trans hX) rfl hCl).2

def insertF26 (l0 : List S26) (a1 : Int) : List S26 → Option (List S26)
  | [y] => if 0 ≤ a1 then (if a1 ≤ (l0.length : Int) then (if l0.length < 3518437208882 then some (l0.take a1.toNat ++ y :: l0.drop a1.toNat) else none) else none) else none
  | _ => none
def api_File_59.f (l0 : List S26) (a1 : Int) (l2 : List S26) : Option (List S26) := insertF26 l0 a1 l2
theorem api_File_59.calls (P0_ : Nat → Prop) (u9000_ : Value) (l0 : List S26) (a1 : Int) (P2_ : Nat → Prop) (u9001_ : Value) (l2 : List S26) (r : List S26) (w0 w : World) (hB : Below w0.heap.size w0 w) (ho0 : Kd.R k26 26 w w0.heap.size P0_ u9000_ l0) (hp0_2 : ∀ k_, P0_ k_ → ¬ P2_ k_) (ho2 : Kd.R k26 26 w w0.heap.size P2_ u9001_ l2) (hp2_0 : ∀ k_, P2_ k_ → ¬ P0_ k_) (h : api_File_59.f l0 a1 l2 = some r) :
    Calls Try.prog 59 #[u9000_, .int .i64 a1, u9001_] w fun e w' => ∃ v0_ : Value, e = .returned (v0_) ∧ Kd.R k26 26 w' w0.heap.size (fun k_ => ((P0_ k_ ∨ P2_ k_) ∨ w.heap.size ≤ k_)) v0_ r ∧ Below w0.heap.size w0 w' ∧ Kept w w' (fun k_ => P0_ k_ ∨ P2_ k_) := by
  unfold api_File_59.f at h
  match l2, ho2, h with
  | [y], ho2, h =>
    simp only [insertF26] at h
    split at h
    · rename_i h0
      split at h
      · rename_i hi
        split at h
        · rename_i hl
          obtain rfl := Option.some.inj h
          have hne : u9001_.ownBlock ≠ u9000_.ownBlock := by
            intro e
            cases hq : u9001_.ownBlock with
            | none =>
              have := (R26_open ho2).2
              rcases this with ⟨_, h⟩ | ⟨g, _, _, rfl, _⟩
              · simp at h
              · simp [Value.ownBlock] at hq
            | some b => exact hp0_2 b (ho0.1 b (e ▸ hq)) (ho2.1 b hq)
          refine (insert26 u9000_ l0 y u9001_ w0.heap.size a1 w0 w h0 hi hB hB.size (Kd.R_mono ho0 (fun _ _ => trivial)) (Kd.R_mono ho2 (fun _ _ => trivial)) hne (by omega)).mono ?_
          rintro e w' ⟨v', rfl, hR, hb, hg, ho⟩
          refine ⟨v', rfl, ⟨fun k hk => ?_, (R26_mk (R26_open hR)).2.imp_ (fun p c h => by rw [k26_openM h]; exact k26_mkM _ _ _ p)⟩, hb, Kept.of_grown hg (Kept.refl _ _) (fun k hk => .inl (.inl (ho0.1 k hk)))⟩
          rcases ho with ho | ⟨b, ho, hle⟩
          · exact .inl (.inl (ho0.1 k (ho ▸ hk)))
          · rw [ho] at hk
            cases hk
            exact .inr hle
        · cases h
      · cases h
    · cases h

end Go.Proofs.Ytaeapobjhgakiaa.P
