/- slices.Insert at []T, T of three cells: what it does to cells. -/
import Derived.Test.YtaeapobjhgakiaaProg
import Derived.Laws.Strings
import Derived.WalkKit
import Derived.IntWalk
import Derived.RowKit
import Derived.Lib.Hide
import Derived.Lib.SliceRun
import Derived.Lib.Overlaps
import Derived.Laws.Externs
import Derived.Laws.CopyOwn
import Derived.Lib.AppendZerosOnto
import Derived.Lib.AppendZeros
import Derived.Deep.RegionLaw
set_option linter.unusedVariables false
set_option linter.unusedSimpArgs false
set_option linter.unnecessarySimpa false
set_option linter.deprecated false
namespace Go.Proofs.Ytaeapobjhgakiaa.Ins26
open Go Go.RowKit
section
variable {P : Program}
theorem run_copy_K (w : World) (dT sT ty elem : TypeId) (g o dLen dCap : Nat) (a : Addr) (sLen sCap : Nat) (cur : List Value) (t : TypeId) (cs : List Value) (k m : Nat)
    (hu : P.underlying dT = some (.slice elem)) (hs : (P.info? elem).map (·.size) = some k)
    (hg : w.heap[g]? = some (.cells cur.toArray t (0, 0))) (hm : Nat.min sLen dLen = m) (hn : cs.length = m * k)
    (hsrc : ∀ j v, cs[j]? = some v → w.cell? (a.add j) = some v) (hfit : o + cs.length ≤ cur.length) (h1 : ∀ v ∈ cs, v.oneCell' = true) :
    (Builtin.copy_ #[dT, sT] ty #[.slice (some ⟨g, o, none⟩) dLen dCap, .slice (some a) sLen sCap]).run P w =
      .ok (goInt m) (w.setRow g (splice cur o cs).toArray) := by
  have hl := run_loadCells_list (P := P) w a cs hsrc
  have hst := run_storeCells_at P g o t cs 0 cur.toArray w hg (by simpa using hfit) h1
  cases hq : P.info? elem with
  | none => simp [hq] at hs
  | some i =>
    have hi : i.size = k := by simpa [hq] using hs
    simp [Builtin.copy_, run_underlying hu, Builtin.lenOf, Builtin.firstCells, sizeOf, typeInfo, hq, hi, hm, ← hn, hl, hst, splice]
theorem wpList_copy_K {ops : Array Oper} {rest : List Oper} {o : Oper} {a : Act} {Q : Exit → Act → World → Prop} (w : World) (hgd : o.guard = none) (d s : Operand) (dT sT : TypeId)
    (ho : o.op = .call { callee := .builtin .copy, args := #[d, s], argTypes := #[dT, sT] }) (elem : TypeId) (hu : P.underlying dT = some (.slice elem)) (k : Nat) (hs : (P.info? elem).map (·.size) = some k)
    (g off dLen dCap : Nat) (ad : Addr) (sLen sCap : Nat) (hd : a.eval d = .slice (some ⟨g, off, none⟩) dLen dCap) (hsv : a.eval s = .slice (some ad) sLen sCap)
    (cur : List Value) (t : TypeId) (hg : w.heap[g]? = some (.cells cur.toArray t (0, 0))) (cs : List Value) (m : Nat) (hm : Nat.min sLen dLen = m) (hn : cs.length = m * k)
    (hsrc : ∀ j v, cs[j]? = some v → w.cell? (ad.add j) = some v) (hfit : off + cs.length ≤ cur.length) (h1 : ∀ v ∈ cs, v.oneCell' = true)
    (h : wpList P ops Q rest (a.put o.dst (goInt m)) (w.setRow g (splice cur off cs).toArray)) : wpList P ops Q (o :: rest) a w := by
  refine wpList_plain hgd fun K hK => ?_
  have hrun := run_copy_K (P := P) w dT sT o.type elem g off dLen dCap ad sLen sCap cur t cs k m hu hs hg hm hn hsrc hfit h1
  unfold Oper.wp
  simp [execOp, ho, resolve, invoke, builtin, hd, hsv, hrun, Result.andThen]
  exact hK _ _ h
theorem step_copy_K {ops : Array Oper} {o : Oper} {a : Act} {K : Act → World → Prop} {Q : Exit → Act → World → Prop} {E : Prop} (w : World) (hgd : o.guard = none) (d s : Operand) (dT sT : TypeId)
    (ho : o.op = .call { callee := .builtin .copy, args := #[d, s], argTypes := #[dT, sT] }) (elem : TypeId) (hu : P.underlying dT = some (.slice elem)) (k : Nat) (hs : (P.info? elem).map (·.size) = some k)
    (g off dLen dCap : Nat) (ad : Addr) (sLen sCap : Nat) (hd : a.eval d = .slice (some ⟨g, off, none⟩) dLen dCap) (hsv : a.eval s = .slice (some ad) sLen sCap)
    (cur : List Value) (t : TypeId) (hg : w.heap[g]? = some (.cells cur.toArray t (0, 0))) (cs : List Value) (m : Nat) (hm : Nat.min sLen dLen = m) (hn : cs.length = m * k)
    (hsrc : ∀ j v, cs[j]? = some v → w.cell? (ad.add j) = some v) (hfit : off + cs.length ≤ cur.length) (h1 : ∀ v ∈ cs, v.oneCell' = true)
    (h : K (a.put o.dst (goInt m)) (w.setRow g (splice cur off cs).toArray)) : if Region.wanted o (yielded ops a.tmps) = true then Oper.wp P o a w K Q else E := by
  have hw : Region.wanted o (yielded ops a.tmps) = true := by simp [Region.wanted, hgd]
  rw [if_pos hw]
  have hrun := run_copy_K (P := P) w dT sT o.type elem g off dLen dCap ad sLen sCap cur t cs k m hu hs hg hm hn hsrc hfit h1
  unfold Oper.wp
  simp [execOp, ho, resolve, invoke, builtin, hd, hsv, hrun, Result.andThen]
  exact h
end
theorem grown_refl (w : World) (row : Option Nat) : w.grownBy w row := ⟨rfl, rfl, rfl, Nat.le_refl _, fun _ _ _ => rfl⟩
theorem grown_drew {w w1 : World} {row : Option Nat} (h : w.grownBy w1 row) : w.grownBy w1.drew row := ⟨h.os, h.tape, h.output, h.size, h.block⟩
theorem grown_setRow {w w1 : World} {g : Nat} (h : w.grownBy w1 (some g)) (cs : Array Value) : w.grownBy (w1.setRow g cs) (some g) :=
  ⟨h.os, h.tape, h.output, by simpa [World.setRow] using h.size, fun k hk hne => (setRow_other w1 g k cs (fun e => hne (by rw [e]))).trans (h.block k hk hne)⟩
theorem below_alloc {w W : World} (h : Below w.heap.size w W) (o : Obj) : Below w.heap.size w (W.alloc o) := h.alloc h.size o
theorem below_drew {B : Nat} {w W : World} (h : Below B w W) : Below B w W.drew := ⟨h.os, h.tape, h.output, h.size, h.block⟩
theorem infoE26 : (Try.prog.info? 26).map (fun i => (i.zero, i.size, i.bytes)) = some (some (Value.agg #[.string ByteArray.empty, .string ByteArray.empty, .int .i64 0]), 3, 40) := by kernel_rfl
theorem insert_cells (cur X Y C : List Value) (n i : Nat) (hi : i < n) (hn : (n + 1) * 3 ≤ cur.length) (hX : cur.take (i * 3) = X) (hY : Y.length = 3) (hC : C.length = (n - i) * 3) :
    (splice (splice cur ((i + 1) * 3) C) (i * 3) Y).take ((n + 1) * 3) = X ++ (Y ++ C) ∧ (splice (splice cur (i * 3) Y) ((i + 1) * 3) C).take ((n + 1) * 3) = X ++ (Y ++ C) := by
  subst hX
  have e2 : (i + 1) * 3 = i * 3 + 3 := by omega
  have h1 : (cur.take (i * 3)).length = i * 3 := by rw [List.length_take]; omega
  have h2 : (cur.take (i * 3 + 3)).length = i * 3 + 3 := by rw [List.length_take]; omega
  have fin : ∀ rest : List Value, (cur.take (i * 3) ++ (Y ++ (C ++ rest))).take ((n + 1) * 3) = cur.take (i * 3) ++ (Y ++ C) := fun rest => by
    rw [← List.append_assoc Y C rest, ← List.append_assoc]
    exact List.take_left' (by rw [List.length_append, List.length_append, h1, hY, hC]; omega)
  constructor
  · unfold splice
    rw [e2, hY]
    have h4 : ∀ R : List Value, (cur.take (i * 3 + 3) ++ R).take (i * 3) = cur.take (i * 3) := fun R => by
      rw [List.take_append_of_le_length (by omega), List.take_take, show min (i * 3) (i * 3 + 3) = i * 3 by omega]
    have h5 : ∀ R : List Value, (cur.take (i * 3 + 3) ++ R).drop (i * 3 + 3) = R := fun R => by
      rw [List.drop_append, List.drop_eq_nil_of_le (by omega), h2, Nat.sub_self, List.drop_zero, List.nil_append]
    rw [h4, h5]
    exact fin _
  · unfold splice
    rw [e2, hY]
    have h3 : (cur.take (i * 3) ++ (Y ++ cur.drop (i * 3 + 3))).take (i * 3 + 3) = cur.take (i * 3) ++ Y := by
      rw [← List.append_assoc]
      exact List.take_left' (by rw [List.length_append, h1, hY])
    rw [h3, List.append_assoc]
    exact fin _
theorem sizeE26 : (Try.prog.info? 26).map (·.size) = some 3 := by kernel_rfl
set_option maxHeartbeats 1000000 in
set_option maxRecDepth 100000 in
theorem insert_shift26 (g n c i vb vc : Nat) (cur Y YC : List Value) (w : World) (hi : i < n) (hroom : n + 1 ≤ c) (hc63 : c ≤ 9223372036854775807) (hvb : vb ≠ g) (hsz : cur.length = c * 3) (hY : Y.length = 3)
    (hg : w.heap[g]? = some (.cells cur.toArray 26 (0, 0))) (hv : w.heap[vb]? = some (.cells YC.toArray 26 (0, 0))) (hYC : YC.take 3 = Y)
    (h1 : ∀ u ∈ (cur.drop (i * 3)).take ((n - i) * 3), u.oneCell' = true) (h1Y : ∀ u ∈ Y, u.oneCell' = true) :
    Calls Try.prog 59 #[.slice (some ⟨g, 0, none⟩) n c, .int .i64 i, .slice (some ⟨vb, 0, none⟩) 1 vc] w fun e w' =>
      e = .returned (.slice (some ⟨g, 0, none⟩) (n + 1) c) ∧ w'.heap[g]? = some (.cells (splice (splice cur ((i + 1) * 3) ((cur.drop (i * 3)).take ((n - i) * 3))) (i * 3) Y).toArray 26 (0, 0)) ∧ w.grownBy w' (some g) := by
  have hYC' := hYC
  have hz2 : ¬ ((i : Int) = (n : Int)) := by omega
  have hsh : w.shape? g = some (26, cur.length) := by simp [World.shape?, hg]
  have hshv : w.shape? vb = some (26, YC.length) := by simp [World.shape?, hv]
  have hov : ∀ lb cb, (callFunc 65 #[.slice (some ⟨vb, 0, none⟩) 1 vc, .slice (some ⟨g, (i + 1) * 3, none⟩) lb cb]).run Try.prog w = .ok (.value (.bool false)) w := fun lb cb => by
    rw [run_callFunc_extern Try.func65 (by kernel_rfl) (by kernel_rfl) (by kernel_rfl) (e := Extern.SlicesOverlaps.overlaps #[22, 22] #[4]) (by kernel_rfl),
      Lib.run_overlaps_apart w 22 4 26 Try.underlying22 3 Try.sizeOf26 ⟨vb, 0, none⟩ ⟨g, (i + 1) * 3, none⟩ 1 vc lb cb hvb 26 26 YC.length cur.length hshv hsh (by omega) (by simp [World.frozen?, hv]) (by simp [World.frozen?, hv])]
    rfl
  have hcs : ((cur.drop (i * 3)).take ((n - i) * 3)).length = (n - i) * 3 := by rw [List.length_take, List.length_drop, hsz]; omega
  have hmin : Nat.min (n + 1 - i) (n - i) = n - i := by simp only [Nat.min_def]; split <;> omega
  have hmin2 : Nat.min 1 (n + 1 - i) = 1 := by simp only [Nat.min_def]; split <;> omega
  have hw1 : IntKind.i64.wrap ((i : Int) + 1) = (i : Int) + 1 := by rw [IntKind.wrap_i64]; omega
  have hb1 : (0 : Int) ≤ (i : Int) + 1 := by omega
  have htn : ((i : Int) + 1).toNat = i + 1 := by omega
  have hb2 : ¬ (c = i + 1) := by omega
  have hb4 : ¬ (c = i) := by omega
  have hb3 : (i : Int) ≤ (n : Int) + 1 := by omega
  have hin : i ≤ n := by omega
  obtain ⟨cs1, hcs1⟩ : ∃ x, (cur.drop (i * 3)).take ((n - i) * 3) = x := ⟨_, rfl⟩
  rw [hcs1] at hcs ⊢
  have hsrc : ∀ j v, cs1[j]? = some v → w.cell? ((⟨g, i * 3, none⟩ : Addr).add j) = some v := by
    intro j v hj
    rw [← hcs1, List.getElem?_take] at hj
    split at hj
    · rw [List.getElem?_drop] at hj
      rw [Addr.add_lit]
      simp [World.cell?, hg, hj]
    · cases hj
  have h1c : ∀ v ∈ cs1, v.oneCell' = true := fun v hv => h1 v (by rw [hcs1]; exact hv)
  have hfit : (i + 1) * 3 + cs1.length ≤ cur.length := by omega
  obtain ⟨cur2, hcur2⟩ : ∃ x, splice cur ((i + 1) * 3) cs1 = x := ⟨_, rfl⟩
  have hlen2 : cur2.length = cur.length := by rw [← hcur2]; exact length_splice _ _ _ hfit
  have HC := Lib.hid hcs1
  have HH := Lib.hid hcur2
  have HG := Lib.hid hg
  have HV := Lib.hid hv
  have HS := Lib.hid hsz
  have HL := Lib.hid hlen2
  have HN := Lib.hid hcs
  have HY := Lib.hid hY
  clear hcs1 hcur2 hg hv hsz hlen2 hsh hshv hcs hY
  have HYC := Lib.hid hYC
  clear hYC hYC'
  go_enter Try.func59, Try.ntmps59
  go_wp2_with (simp only [hov])
  go_region_law ((refine step_copy_K w.drew rfl (.tmp 73) (.tmp 76) 22 22 rfl 26 Try.underlying22 3 sizeE26 g ((i + 1) * 3) (n - i) (c - (i + 1)) ⟨g, i * 3, none⟩ (n + 1 - i) (c - i) ?d1 ?d2 cur 26 HG.out cs1 (n - i) hmin HN.out hsrc hfit h1c ?_); (case d1 => simp [Act.eval, Act.put]); (case d2 => simp [Act.eval, Act.put]))
  obtain ⟨W1, hW1⟩ : ∃ W1, w.drew.setRow g (splice cur ((i + 1) * 3) cs1).toArray = W1 := ⟨_, rfl⟩
  have hg1 : W1.heap[g]? = some (.cells cur2.toArray 26 (0, 0)) := by rw [← hW1, ← HH.out]; exact setRow_heap w.drew g _ _ 26 _ HG.out
  have hv1 : W1.heap[vb]? = some (.cells YC.toArray 26 (0, 0)) := by rw [← hW1, setRow_other w.drew g vb _ hvb]; exact HV.out
  have hB1 : w.grownBy W1 (some g) := by rw [← hW1]; exact grown_setRow (grown_drew (grown_refl _ _)) _
  rw [hW1]
  clear hW1
  have hsrcY : ∀ j v, Y[j]? = some v → W1.cell? ((⟨vb, 0, none⟩ : Addr).add j) = some v := by
    intro j v hj
    rw [Addr.add_lit]
    have hj' : YC[j]? = some v := by
      rw [← HYC.out, List.getElem?_take] at hj
      split at hj
      · exact hj
      · cases hj
    simp [World.cell?, hv1, hj']
  have HG1 := Lib.hid hg1
  clear hg1 hv1
  go_wp2_with (with_reducible refine wpList_copy_K W1 rfl (.tmp 80) (.tmp 81) 22 22 rfl 26 Try.underlying22 3 sizeE26 g (i * 3) (n + 1 - i) (c - i) ⟨vb, 0, none⟩ 1 vc rfl rfl cur2 26 HG1.out Y 1 hmin2 HY.out hsrcY ?hfit2 h1Y ?_; (case hfit2 => rw [HL.out, HY.out, HS.out]; omega))


  go_ret
  exact ⟨rfl, by rw [HH.out]; exact setRow_heap W1 g _ _ 26 _ HG1.out, grown_setRow hB1 _⟩

set_option maxHeartbeats 1000000 in
set_option maxRecDepth 100000 in
theorem insert_grow26 (g n c i vb vc : Nat) (cur Y YC : List Value) (w : World) (hi : i < n) (hnc : n ≤ c) (hroom : c < n + 1) (hc63 : c ≤ 9223372036854775807) (hbig : (n + 1) * 40 ≤ 140737488355328) (hvb : vb ≠ g) (hsz : cur.length = c * 3) (hY : Y.length = 3)
    (hg : w.heap[g]? = some (.cells cur.toArray 26 (0, 0))) (hv : w.heap[vb]? = some (.cells YC.toArray 26 (0, 0))) (hYC : YC.take 3 = Y)
    (h1 : ∀ u ∈ (cur.drop (i * 3)).take ((n - i) * 3), u.oneCell' = true) (h1Y : ∀ u ∈ Y, u.oneCell' = true) :
    Calls Try.prog 59 #[.slice (some ⟨g, 0, none⟩) n c, .int .i64 i, .slice (some ⟨vb, 0, none⟩) 1 vc] w fun e w' =>
      ∃ G ROW, e = .returned (.slice (some ⟨w.heap.size, 0, none⟩) (n + 1) G) ∧ n + 1 ≤ G ∧ G ≤ maxLen ∧ ROW.length = G * 3 ∧ ROW.take (i * 3) = cur.take (i * 3) ∧ w'.heap[w.heap.size]? = some (.cells (splice (splice ROW (i * 3) Y) ((i + 1) * 3) ((cur.drop (i * 3)).take ((n - i) * 3))).toArray 26 (0, 0)) ∧ Below w.heap.size w w' := by
  have hYC' := hYC
  have hz2 : ¬ ((i : Int) = (n : Int)) := by omega
  have hz3 : (c : Int) < (n : Int) + 1 := by omega
  obtain ⟨i0, hi0, hzz⟩ := Option.map_eq_some_iff.1 infoE26
  simp only [Prod.mk.injEq] at hzz
  obtain ⟨hz0, hzs, hzb⟩ := hzz
  have hgw : g < w.heap.size := (Array.getElem?_eq_some_iff.1 hg).1
  have hvw : vb < w.heap.size := (Array.getElem?_eq_some_iff.1 hv).1
  have hkk : (n : Int) + 1 - (i : Int) = ((n + 1 - i : Nat) : Int) := by omega
  have hik : i + (n + 1 - i) = n + 1 := by omega
  have htl : (cur.take (i * 3)).length = i * 3 := by rw [List.length_take]; omega
  have hold : (Builtin.firstCells i0.size i (.slice (some ⟨g, 0, none⟩) i c)).run Try.prog w.drew = .ok (cur.take (i * 3)).toArray w.drew := by
    have hl := run_loadCells_list (P := Try.prog) w.drew ⟨g, 0, none⟩ (cur.take (i * 3)) (fun j v hj => by
      rw [Addr.add_lit]
      rw [List.getElem?_take] at hj
      split at hj
      · simp only [World.cell?]
        have hgd : w.drew.heap[g]? = some (.cells cur.toArray 26 (0, 0)) := hg
        simp [hgd, hj]
      · cases hj)
    rw [htl] at hl
    rw [hzs]
    simp [Builtin.firstCells, hl]
  have hrz : ∀ ty, (Builtin.append_ #[22, 3] ty #[.slice (some ⟨g, 0, none⟩) i c, .int .i64 ((n : Int) + 1 - (i : Int))]).run Try.prog w =
      .ok (.slice (some ⟨w.heap.size, 0, none⟩) (n + 1) (grownCap w (n + 1) c 26)) (w.drew.alloc (.cells ((cur.take (i * 3)).toArray ++ Builtin.zeroCells (Value.agg #[.string ByteArray.empty, .string ByteArray.empty, .int .i64 0]).cells (n + 1 - i) ++ Builtin.zeroCells (Value.agg #[.string ByteArray.empty, .string ByteArray.empty, .int .i64 0]).cells (grownCap w (n + 1) c 26 - (n + 1))) 26)) := fun ty => by
    have h := Lib.run_append_grow_zeros w 22 3 ty 26 i0 _ .i64 .i64 Try.underlying22 Try.underlying3 hi0 hz0 (some ⟨g, 0, none⟩) i c (cur.take (i * 3)) hold (n + 1 - i) (by omega) (by omega) (by omega) (by omega) (by rw [hzb]; omega) (by rw [hzb, hik]; exact growslice_fits hroom hbig)
    rw [hik] at h
    rw [hkk]
    exact h
  obtain ⟨G, hG⟩ : ∃ G, G = grownCap w (n + 1) c 26 := ⟨_, rfl⟩
  rw [← hG] at hrz
  have hGn : n + 1 ≤ G := by rw [hG]; exact grownCap_ge w _ _ _
  have hGm : G ≤ maxLen := by rw [hG]; exact grownCap_le_maxLen w (n + 1) c 26 (by unfold maxLen; omega)
  have hG63 : G ≤ 9223372036854775807 := by unfold maxLen at hGm; omega
  obtain ⟨ROW, hROW⟩ : ∃ ROW : List Value, ROW.toArray = (cur.take (i * 3)).toArray ++ Builtin.zeroCells (Value.agg #[.string ByteArray.empty, .string ByteArray.empty, .int .i64 0]).cells (n + 1 - i) ++ Builtin.zeroCells (Value.agg #[.string ByteArray.empty, .string ByteArray.empty, .int .i64 0]).cells (G - (n + 1)) := ⟨_, Array.toArray_toList⟩
  rw [← hROW] at hrz
  have hz3c : ∀ m, (Builtin.zeroCells (Value.agg #[.string ByteArray.empty, .string ByteArray.empty, .int .i64 0]).cells m).size = m * 3 := fun m => by simp [Builtin.zeroCells, Value.cells]
  have hRl : ROW.length = G * 3 := by
    have := congrArg Array.size hROW
    rw [Array.size_append, Array.size_append, hz3c, hz3c] at this
    simp only [List.size_toArray, htl] at this
    omega
  have hRt : ROW.take (i * 3) = cur.take (i * 3) := by
    have := congrArg Array.toList hROW
    simp only [Array.toList_append, List.append_assoc] at this
    rw [this, List.take_append_of_le_length (by rw [htl]; exact Nat.le_refl _)]
    exact List.take_of_length_le (by rw [htl]; exact Nat.le_refl _)
  clear hROW hold
  obtain ⟨W1, hW1⟩ : ∃ W1, w.drew.alloc (.cells ROW.toArray 26) = W1 := ⟨_, rfl⟩
  have hB1 : Below w.heap.size w W1 := by rw [← hW1]; exact below_alloc (below_drew (Below.refl _ _)) _
  have hg1 : W1.heap[g]? = some (.cells cur.toArray 26 (0, 0)) := by rw [hB1.block g hgw]; exact hg
  have hv1 : W1.heap[vb]? = some (.cells YC.toArray 26 (0, 0)) := by rw [hB1.block vb hvw]; exact hv
  have hN1 : W1.heap[w.heap.size]? = some (.cells ROW.toArray 26 (0, 0)) := by rw [← hW1]; exact heap_alloc_new w.drew _
  rw [hW1] at hrz
  clear hW1
  have hcs : ((cur.drop (i * 3)).take ((n - i) * 3)).length = (n - i) * 3 := by rw [List.length_take, List.length_drop, hsz]; omega
  have hmin : Nat.min (n - i) (n - i) = n - i := by simp only [Nat.min_def]; split <;> omega
  have hmin2 : Nat.min 1 (n + 1 - i) = 1 := by simp only [Nat.min_def]; split <;> omega
  have hw1 : IntKind.i64.wrap ((i : Int) + 1) = (i : Int) + 1 := by rw [IntKind.wrap_i64]; omega
  have hb1 : (0 : Int) ≤ (i : Int) + 1 := by omega
  have htn : ((i : Int) + 1).toNat = i + 1 := by omega
  have hb2 : ¬ (G = i + 1) := by omega
  have hb4 : ¬ (G = i) := by omega
  have hb5 : ¬ (c = i) := by omega
  have hb3 : (i : Int) ≤ (n : Int) := by omega
  have hin : i ≤ n := by omega
  have hic : i ≤ c := by omega
  obtain ⟨cs1, hcs1⟩ : ∃ x, (cur.drop (i * 3)).take ((n - i) * 3) = x := ⟨_, rfl⟩
  rw [hcs1] at hcs
  have hsrcY : ∀ j v, Y[j]? = some v → W1.cell? ((⟨vb, 0, none⟩ : Addr).add j) = some v := by
    intro j v hj
    rw [Addr.add_lit]
    have hj' : YC[j]? = some v := by
      rw [← hYC', List.getElem?_take] at hj
      split at hj
      · exact hj
      · cases hj
    simp [World.cell?, hv1, hj']
  have h1c : ∀ v ∈ cs1, v.oneCell' = true := fun v hv => h1 v (by rw [hcs1]; exact hv)
  have hfitY : i * 3 + Y.length ≤ ROW.length := by omega
  have hfit1 : (i + 1) * 3 + cs1.length ≤ (splice ROW (i * 3) Y).length := by rw [length_splice _ _ _ hfitY]; omega
  obtain ⟨W2, hW2⟩ : ∃ W2, W1.setRow w.heap.size (splice ROW (i * 3) Y).toArray = W2 := ⟨_, rfl⟩
  have hN2 : W2.heap[w.heap.size]? = some (.cells (splice ROW (i * 3) Y).toArray 26 (0, 0)) := by rw [← hW2]; exact setRow_heap W1 _ _ _ 26 _ hN1
  have hg2 : W2.heap[g]? = some (.cells cur.toArray 26 (0, 0)) := by rw [← hW2, setRow_other W1 _ g _ (by omega)]; exact hg1
  have hB2 : Below w.heap.size w W2 := by rw [← hW2]; exact below_setRow hB1 (Nat.le_refl _) _
  have hsrc : ∀ j v, cs1[j]? = some v → W2.drew.cell? ((⟨g, i * 3, none⟩ : Addr).add j) = some v := by
    intro j v hj
    rw [← hcs1, List.getElem?_take] at hj
    split at hj
    · rw [List.getElem?_drop] at hj
      rw [Addr.add_lit]
      have hgd : W2.drew.heap[g]? = some (.cells cur.toArray 26 (0, 0)) := hg2
      simp [World.cell?, hgd, hj]
    · cases hj
  obtain ⟨cur2, hcur2⟩ : ∃ x, splice ROW (i * 3) Y = x := ⟨_, rfl⟩
  rw [hcur2] at hW2 hN2 hfit1
  have HN1 := Lib.hid hN1
  have HN2 := Lib.hid hN2
  have HC := Lib.hid hcs1
  have HU := Lib.hid hcur2
  have HL := Lib.hid hcs
  have HY := Lib.hid hY
  have HG := Lib.hid hG
  have HT := Lib.hid hRt
  have HR := Lib.hid hRl
  have HW := Lib.hid hW2
  clear hN1 hN2 hcs1 hcur2 hcs hY hG hRt hRl hW2 hi0 hz0 hzs hzb hg hv hg1 hv1 hg2 hsz hkk hik htl hYC hYC'
  go_enter Try.func59, Try.ntmps59
  go_wp2_with (first | (at_builtin; refine Lib.wpList_append_run _ rfl _ _ _ _ rfl _ _ rfl rfl _ _ (hrz _) ?_) | (with_reducible refine wpList_copy_K W1 rfl (.tmp 43) (.tmp 44) 22 22 rfl 26 Try.underlying22 3 sizeE26 w.heap.size (i * 3) (n + 1 - i) (G - i) ⟨vb, 0, none⟩ 1 vc rfl rfl ROW 26 HN1.out Y 1 hmin2 HY.out hsrcY hfitY h1Y ?_; rw [HU.out, HW.out]))
  go_region_law ((refine step_copy_K W2.drew rfl (.tmp 50) (.tmp 53) 22 22 rfl 26 Try.underlying22 3 sizeE26 w.heap.size ((i + 1) * 3) (n - i) (G - (i + 1)) ⟨g, i * 3, none⟩ (n - i) (c - i) ?d1 ?d2 cur2 26 HN2.out cs1 (n - i) hmin HL.out hsrc hfit1 h1c ?_); (case d1 => simp [Act.eval, Act.put]); (case d2 => simp [Act.eval, Act.put]))
  have hB3 : Below w.heap.size w (W2.drew.setRow w.heap.size (splice cur2 ((i + 1) * 3) cs1).toArray) := below_setRow (below_drew hB2) (Nat.le_refl _) _
  have hN3 : (W2.drew.setRow w.heap.size (splice cur2 ((i + 1) * 3) cs1).toArray).heap[w.heap.size]? = some (.cells (splice cur2 ((i + 1) * 3) cs1).toArray 26 (0, 0)) := setRow_heap W2.drew _ _ _ 26 _ HN2.out
  obtain ⟨W3, hW3⟩ : ∃ W3, W2.drew.setRow w.heap.size (splice cur2 ((i + 1) * 3) cs1).toArray = W3 := ⟨_, rfl⟩
  rw [hW3] at hB3 hN3 ⊢
  clear hW3
  have HN3 := Lib.hid hN3
  clear hN3
  go_wp2
  go_ret
  exact ⟨G, ROW, rfl, hGn, hGm, HR.out, HT.out, by rw [HU.out, HC.out]; exact HN3.out, hB3⟩

set_option maxHeartbeats 1000000 in
set_option maxRecDepth 100000 in
theorem insert_end26 (A : Option Addr) (n c vb vc : Nat) (w w' : World) (v' : Value) (hm : n ≤ c) (hcm : c ≤ 9223372036854775807) (hA : A = none → n = 0) (hr : (Builtin.append_ #[22, 22] 22 #[.slice A n c, .slice (some ⟨vb, 0, none⟩) 1 vc]).run Try.prog w = .ok v' w') :
    Calls Try.prog 59 #[.slice A n c, .int .i64 n, .slice (some ⟨vb, 0, none⟩) 1 vc] w fun e wx => e = .returned v' ∧ wx = w' := by
  have hm2 : (n : Int) ≤ 9223372036854775807 := by omega
  have HR := Lib.hid hr
  clear hr
  go_enter Try.func59, Try.ntmps59
  go_wp2_with (at_builtin; refine Lib.wpList_append_run _ rfl _ _ _ _ rfl _ _ rfl rfl _ _ HR.out ?_)
  all_goals
    go_ret
    exact ⟨rfl, rfl⟩
end Go.Proofs.Ytaeapobjhgakiaa.Ins26
