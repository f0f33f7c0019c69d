-- written by mp.py (wip/tools), a program of this session, over the kit's print
import Derived.Test.YtedgkcdofiildaaPWalkOrdersx0
import Derived.Test.YtedgkcdofiildaaPWalkOrdersx3
import Derived.Test.YtedgkcdofiildaaPWalkOrdersx4
namespace Go.Proofs.Ytedgkcdofiildaa.P
open Go.RowKit Go.Proofs.YtedgkcdofiildaaW.PrintWords Go.Proofs.YtedgkcdofiildaaW.PrintLast Go.Proofs.YtedgkcdofiildaaW.PrintMore
attribute [local go_sem] max2_int min2_int max_two min_two max_three min_three max_four min_four   -- for this text's walks alone
set_option linter.unusedVariables false
set_option linter.unusedSimpArgs false

/-! ### walk_Count: function 20 -/
open Go.Proofs.Ytedgkcdofiildaa.Ext Go.Proofs.Ytedgkcdofiildaa.Maps0
def cntF (l0 : List S48) (most : Int) : Nat → (ByteArray → Int) → Int → Int
  | 0, _, n => n + 1
  | left + 1, g, n => (nextR g l0).foldl (fun n s => if n = most then n else cntF l0 most left (updI g s 1) n) n
theorem cntF_le (l0 : List S48) (most : Int) : ∀ (left : Nat) (g : ByteArray → Int) (n : Int), n < most → n ≤ cntF l0 most left g n ∧ cntF l0 most left g n ≤ most
  | 0, g, n, h => by simp only [cntF]; omega
  | left + 1, g, n, h => by
    simp only [cntF]
    have : ∀ (l : List ByteArray) (n : Int), n ≤ most → n ≤ l.foldl (fun n s => if n = most then n else cntF l0 most left (updI g s 1) n) n ∧ l.foldl (fun n s => if n = most then n else cntF l0 most left (updI g s 1) n) n ≤ most := by
      intro l
      induction l with
      | nil => intro n hn; exact ⟨Int.le_refl _, hn⟩
      | cons x xs ih =>
        intro n hn
        simp only [List.foldl_cons]
        by_cases he : n = most
        · rw [if_pos he]; exact ih n hn
        · rw [if_neg he]
          have h1 := cntF_le l0 most left (updI g x 1) n (by omega)
          have h2 := ih _ h1.2
          exact ⟨by omega, h2.2⟩
    exact this _ n (by omega)
/-- All but two blocks is as it was. -/
structure Kept2 (w w' : World) (B b : Nat) : Prop where
  os : w'.os = w.os
  tape : w'.tape = w.tape
  output : w'.output = w.output
  size : w.heap.size ≤ w'.heap.size
  block : ∀ i, i < w.heap.size → i ≠ B → i ≠ b → w'.heap[i]? = w.heap[i]?
theorem Kept2.refl (w : World) (B b : Nat) : Kept2 w w B b := ⟨rfl, rfl, rfl, Nat.le_refl _, fun _ _ _ _ => rfl⟩
theorem Kept2.trans {w w1 w2 : World} {B b : Nat} (h : Kept2 w w1 B b) (k : Kept2 w1 w2 B b) : Kept2 w w2 B b :=
  ⟨k.os.trans h.os, k.tape.trans h.tape, k.output.trans h.output, Nat.le_trans h.size k.size, fun i hi h1 h2 => (k.block i (Nat.lt_of_lt_of_le hi h.size) h1 h2).trans (h.block i hi h1 h2)⟩
theorem Kept2.of_below {w w' : World} {B b : Nat} (h : Below w.heap.size w w') : Kept2 w w' B b := ⟨h.os, h.tape, h.output, h.size, fun i hi _ _ => h.block i hi⟩
theorem Kept2.of_grown {w w' : World} {B b : Nat} (h : w.grownBy w' (some b)) : Kept2 w w' B b := ⟨h.os, h.tape, h.output, h.size, fun i hi _ h2 => h.block i hi (fun e => h2 (by injection e))⟩
theorem Kept2.of_set (w : World) (B b : Nat) (v : Value) : Kept2 w (w.setCell ⟨B, 0, none⟩ v) B b := ⟨rfl, rfl, rfl, by simp, fun i _ h1 _ => Below.heap_setCell w ⟨B, 0, none⟩ v i h1⟩
theorem Kept2.below {w w0 w' : World} {B b : Nat} (h : Kept2 w w' B b) (h0 : Below w0.heap.size w0 w) (hB : w0.heap.size ≤ B) (hb : w0.heap.size ≤ b) : Below w0.heap.size w0 w' :=
  ⟨h.os.trans h0.os, h.tape.trans h0.tape, h.output.trans h0.output, Nat.le_trans h0.size h.size, fun i hi => (h.block i (Nat.lt_of_lt_of_le hi h0.size) (by omega) (by omega)).trans (h0.block i hi)⟩
section
variable (A0 : Option Addr) (c0 : Nat) (l0 : List S48) (A1 : Option Addr) (c1 : Nat) (l1 : List ByteArray) (Bn Bp Bs Bm Bo b : Nat) (most : Int) (w0 : World)
/-- What the counting closure finds in memory. -/
structure CSt (w : World) (n : Int) (m : Nat) (g : ByteArray → Int) : Prop where
  bn : w.heap[Bn]? = some (.cells #[.int .i64 n] 3 (0, 0))
  bp : w.heap[Bp]? = some (.cells #[.slice A0 l0.length c0, .slice A1 l1.length c1] 25 (0, 0))
  bs : w.heap[Bs]? = some (.cells #[.map (some b)] 66 (0, 0))
  bm : w.heap[Bm]? = some (.cells #[.int .i64 most] 3 (0, 0))
  bo : ∃ t, w.heap[Bo]? = some (.cells #[.func (.func 47) #[] #[.pointer (some ⟨Bn, 0, none⟩), .pointer (some ⟨Bp, 0, none⟩), .pointer (some ⟨Bs, 0, none⟩), .pointer (some ⟨Bm, 0, none⟩), .pointer (some ⟨Bo, 0, none⟩)]] t (0, 0))
  im : IMap Try.prog 9 w b m g
  lo : Below w0.heap.size w0 w
structure Far : Prop where
  r0 : Kd.C k48 w0 A0 l0.length l0
  np : Bn ≠ Bp
  ns : Bn ≠ Bs
  nm : Bn ≠ Bm
  no : Bn ≠ Bo
  nb : Bn ≠ b
  bp : b ≠ Bp
  bs : b ≠ Bs
  bm : b ≠ Bm
  bo : b ≠ Bo
  hn : w0.heap.size ≤ Bn
  hb : w0.heap.size ≤ b
variable {A0 c0 l0 A1 c1 l1 Bn Bp Bs Bm Bo b most w0}
theorem CSt.below {w w' : World} {n : Int} {m : Nat} {g : ByteArray → Int} (h : CSt A0 c0 l0 A1 c1 l1 Bn Bp Bs Bm Bo b most w0 w n m g) (hb : Below w.heap.size w w') : CSt A0 c0 l0 A1 c1 l1 Bn Bp Bs Bm Bo b most w0 w' n m g :=
  ⟨blk_below h.bn hb, blk_below h.bp hb, blk_below h.bs hb, blk_below h.bm hb, let ⟨t, ht⟩ := h.bo; ⟨t, blk_below ht hb⟩, h.im.below hb, below_then h.lo h.lo.size hb⟩
theorem CSt.grown {w w' : World} {n : Int} {m m' : Nat} {g g' : ByteArray → Int} (hf : Far A0 l0 Bn Bp Bs Bm Bo b w0) (h : CSt A0 c0 l0 A1 c1 l1 Bn Bp Bs Bm Bo b most w0 w n m g) (hg : w.grownBy w' (some b)) (hm : IMap Try.prog 9 w' b m' g') : CSt A0 c0 l0 A1 c1 l1 Bn Bp Bs Bm Bo b most w0 w' n m' g' :=
  ⟨blk_grown h.bn hg (fun e => hf.nb (by injection e)), blk_grown h.bp hg (fun e => hf.bp (by injection e with e; exact e.symm)), blk_grown h.bs hg (fun e => hf.bs (by injection e with e; exact e.symm)), blk_grown h.bm hg (fun e => hf.bm (by injection e with e; exact e.symm)), let ⟨t, ht⟩ := h.bo; ⟨t, blk_grown ht hg (fun e => hf.bo (by injection e with e; exact e.symm))⟩, hm, h.lo.grown hg h.lo.size (fun k e => by injection e with e; rw [← e]; exact hf.hb)⟩
theorem CSt.set {w : World} {n n' : Int} {m : Nat} {g : ByteArray → Int} (hf : Far A0 l0 Bn Bp Bs Bm Bo b w0) (h : CSt A0 c0 l0 A1 c1 l1 Bn Bp Bs Bm Bo b most w0 w n m g) : CSt A0 c0 l0 A1 c1 l1 Bn Bp Bs Bm Bo b most w0 (w.setCell ⟨Bn, 0, none⟩ (.int .i64 n')) n' m g :=
  ⟨blk_set h.bn 0 _, blk_far h.bp (fun e => hf.np e.symm) _, blk_far h.bs (fun e => hf.ns e.symm) _, blk_far h.bm (fun e => hf.nm e.symm) _, let ⟨t, ht⟩ := h.bo; ⟨t, blk_far ht (fun e => hf.no e.symm) _⟩, h.im.setCell (fun e => hf.nb e.symm) _, below_set h.lo hf.hn⟩
theorem updI_back (g : ByteArray → Int) (s : ByteArray) (h : g s = 0) : updI (updI g s 1) s 0 = g := by
  funext t
  unfold updI
  by_cases e : t = s
  · rw [if_pos e, e, h]
  · rw [if_neg e, if_neg e]
def g01 (g : ByteArray → Int) : Prop := ∀ s, g s = 0 ∨ g s = 1
theorem g01_put {g : ByteArray → Int} (h : g01 g) (s : ByteArray) : g01 (updI g s 1) := fun t => by
  unfold updI
  split
  · exact .inr rfl
  · exact h t
theorem nextR_free {g : ByteArray → Int} (h : g01 g) {l : List S48} {s : ByteArray} (hs : s ∈ nextR g l) : g s = 0 := by
  unfold nextR at hs
  obtain ⟨n, hn, rfl⟩ := List.mem_map.1 hs
  have := (List.mem_filter.1 hn).2
  unfold mayN at this
  simp only [Bool.and_eq_true, Bool.not_eq_true', beq_eq_false_iff_ne] at this
  rcases h n.f0 with h1 | h1
  · exact h1
  · exact absurd h1 this.1
set_option maxHeartbeats 4000000 in
set_option maxRecDepth 100000 in
theorem count1 (hm0 : 1 ≤ most) (hm1 : most ≤ 10000) (hsz : nodeSz l0) (hl : l0.length ≤ 256) (hf : Far A0 l0 Bn Bp Bs Bm Bo b w0) :
    ∀ (left : Nat) (L : Int) (w : World) (n : Int) (m : Nat) (g : ByteArray → Int), L = left → CSt A0 c0 l0 A1 c1 l1 Bn Bp Bs Bm Bo b most w0 w n m g → g01 g → 0 ≤ n → n < most → left ≤ 256 → m + left ≤ 256 →
      Calls Try.prog 47 #[.int .i64 L, .pointer (some ⟨Bn, 0, none⟩), .pointer (some ⟨Bp, 0, none⟩), .pointer (some ⟨Bs, 0, none⟩), .pointer (some ⟨Bm, 0, none⟩), .pointer (some ⟨Bo, 0, none⟩)] w fun e w' => e = .returned (.tuple #[]) ∧ CSt A0 c0 l0 A1 c1 l1 Bn Bp Bs Bm Bo b most w0 w' (cntF l0 most left g n) m g ∧ Kept2 w w' Bn b
  | 0, L, w, n, m, g, hL, hst, hg, hn0, hn1, hleft, hmm => by
    obtain rfl : L = 0 := by simpa using hL
    have HF := Aside0.mk hf
    have HST := Aside0.mk hst
    have HC := Aside0.mk (show cntF l0 most 0 g n = n + 1 from rfl)
    have cn : w.cell? ⟨Bn, 0, none⟩ = some (.int .i64 n) := (blk_cell hst.bn 0).trans rfl
    have fn := blk_frozen hst.bn 0
    clear hf hst hsz hg hL
    go_enter Try.func47, Try.ntmps47
    go_wp2_with fail
    exact bodyPost_ret (v := .tuple #[]) (by simp [results, Try.results47, go_sem]) rfl ⟨rfl, by rw [HC.out]; exact HST.out.set HF.out, Kept2.of_set _ _ _ _⟩
  | left + 1, L, w, n, m, g, hL, hst, hg, hn0, hn1, hleft, hmm => by
    obtain ⟨R, hR⟩ : ∃ R, cntF l0 most (left + 1) g n = R := ⟨_, rfl⟩
    rw [hR]
    rw [cntF] at hR
    obtain ⟨nl, hnl⟩ : ∃ nl, nextR g l0 = nl := ⟨_, rfl⟩
    rw [hnl] at hR
    have hnle : nl.length ≤ l0.length := by rw [← hnl]; exact nextR_le _ _
    have HNN := Aside0.mk (show ∀ s ∈ nl, s.size ≤ maxLen by rw [← hnl]; exact nextR_names hsz)
    have HNF := Aside0.mk (show ∀ s ∈ nl, g s = 0 by rw [← hnl]; exact fun s hs => nextR_free hg hs)
    have HNL := Aside0.mk hnl
    have HR := Aside0.mk hR
    have HF := Aside0.mk hf
    have HST := Aside0.mk hst
    have HG := Aside0.mk hg
    have HSZ := Aside0.mk hsz
    have IH := Aside0.mk (count1 hm0 hm1 hsz hl hf left)
    have e0 : (L == 0) = false := beq_eq_false_iff_ne.mpr (by omega)
    have eL : L - 1 = (left : Int) := by omega
    have hLb : 0 ≤ L ∧ L ≤ 256 := by omega
    obtain ⟨hLb0, hLb1⟩ := hLb
    have z0 : w.cell? ⟨Bp, 0, none⟩ = some (.slice A0 l0.length c0) := (blk_cell hst.bp 0).trans rfl
    have z1 : w.cell? ⟨Bp, 1, none⟩ = some (.slice A1 l1.length c1) := (blk_cell hst.bp 1).trans rfl
    have z2 : w.cell? ⟨Bs, 0, none⟩ = some (.map (some b)) := (blk_cell hst.bs 0).trans rfl
    have hbn := blk_lt hst.bn
    have hbb := hst.im.lt
    clear hnl hR hf hst hg hsz hL
    go_enter Try.func47, Try.ntmps47
    go_wp2_with (go_at_call 40; refine (next_calls A0 c0 l0 A1 c1 l1 b m g _ (Kd.C_below HF.out.r0 HST.out.lo) HST.out.im (by omega) HSZ.out).mono ?_; rintro e w2 ⟨v, rfl, hv, hb2⟩; rw [HNL.out] at hv; obtain ⟨An, cn, rfl, hcn, hCn⟩ := Kd.R_reads hv; have HV := Aside0.mk (Kd.R_mono (Kd.R_bound hv) (ok' := fun k => k ≠ Bn ∧ k ≠ b) (fun k hk => ⟨by have := hk.2.1; omega, by have := hk.2.1; omega⟩)); have HST2 := Aside0.mk (HST.out.below hb2); have HB2 := Aside0.mk hb2; clear hv hb2 hCn)
    go_loopw [17] (fun vi wr => ∃ (i : Nat) (nn : Int), i ≤ nl.length ∧ vi = .int .i64 (i : Int) ∧ Aside0 ((nl.drop i).foldl (fun n s => if n = most then n else cntF l0 most left (updI g s 1) n) nn = R) ∧ 0 ≤ nn ∧ nn ≤ most ∧ Aside0 (CSt A0 c0 l0 A1 c1 l1 Bn Bp Bs Bm Bo b most w0 wr nn m g) ∧ Aside0 (Kept2 w2 wr Bn b) ∧ Aside0 (Kd.R Kd.string 9 wr w.heap.size (fun k => k ≠ Bn ∧ k ≠ b) (.slice An nl.length cn) nl)) (fun vi _ => ((nl.length : Int) - intOf vi).toNat)
    case atStart => exact ⟨0, n, Nat.zero_le _, rfl, HR, hn0, by omega, HST2, ⟨Kept2.refl _ _ _⟩, HV⟩
    case round =>
      obtain ⟨i, nn, hi, rfl, HG2, hnn0, hnn1, HS, HK, HVr⟩ := hrel
      by_cases hlt : i < nl.length
      · have hw1 : IntKind.i64.wrap ((i : Int) + 1) = ((i + 1 : Nat) : Int) := by rw [IntKind.wrap_i64]; omega
        have qi : (i : Int) < (nl.length : Int) := by omega
        have pi : (0 : Int) ≤ (i : Int) := by omega
        obtain ⟨An', cn', hve, _, hCn⟩ := Kd.R_reads HVr.out
        have hve1 := (Value.slice.inj hve).1
        clear hve
        obtain ⟨ad, hadn, hxe⟩ := Kd.at_string hCn (i : Int) pi qi
        obtain rfl : An = some ad := hve1.trans hadn
        have he : rdOf ByteArray.empty nl (i : Int) = nl[i] := by simp [rdOf, hlt]
        rw [he, Int.toNat_natCast] at hxe
        have hG2 := HG2.out
        rw [List.drop_eq_getElem_cons hlt, List.foldl_cons] at hG2
        have hxs := HNN.out nl[i] (List.getElem_mem hlt)
        have hxf := HNF.out nl[i] (List.getElem_mem hlt)
        obtain ⟨x, hx⟩ : ∃ x, nl[i] = x := ⟨_, rfl⟩
        rw [hx] at hxe hG2 hxs hxf
        have y0 : wr.cell? ⟨Bn, 0, none⟩ = some (.int .i64 nn) := (blk_cell HS.out.bn 0).trans rfl
        have y1 : wr.cell? ⟨Bm, 0, none⟩ = some (.int .i64 most) := (blk_cell HS.out.bm 0).trans rfl
        have y2 : wr.cell? ⟨Bs, 0, none⟩ = some (.map (some b)) := (blk_cell HS.out.bs 0).trans rfl
        have HXF := Aside0.mk hxf
        clear he hx hve1 hadn hCn hxf
        by_cases hmost : nn = most
        · rw [if_pos hmost] at hG2
          have HX := Aside0.mk (show nn = R by
            have : ∀ l : List ByteArray, l.foldl (fun n s => if n = most then n else cntF l0 most left (updI g s 1) n) nn = nn := by
              intro l
              induction l with
              | nil => rfl
              | cons a t ih => rw [List.foldl_cons, if_pos hmost]; exact ih
            rw [this] at hG2
            exact hG2)
          have e1 : (nn == most) = true := beq_iff_eq.mpr hmost
          clear hG2 hmost
          go_wp2_with fail
          exact bodyPost_ret (v := .tuple #[]) (by simp [results, Try.results47, go_sem]) rfl ⟨rfl, by rw [← HX.out]; exact HS.out, (Kept2.of_below HB2.out).trans HK.out⟩
        · rw [if_neg hmost] at hG2
          have HX := Aside0.mk hG2
          have e1 : (nn == most) = false := beq_eq_false_iff_ne.mpr hmost
          have hlt2 : nn < most := by omega
          have hcl := cntF_le l0 most left (updI g x 1) nn hlt2
          clear hG2 hmost
          go_wp2_with (first | (go_at_call 39; refine (set_put b m g x _ HS.out.im hxs (by unfold maxLen; omega)).mono ?_; rintro e w3 ⟨rfl, hm3, hg3⟩; have HS3 := Aside0.mk (HS.out.grown HF.out hg3 hm3); have HK3 := Aside0.mk (HK.out.trans (Kept2.of_grown hg3)); have HK3' := Aside0.mk (Kept2.of_grown (B := Bn) hg3); obtain ⟨tyo, hbo⟩ := HS3.out.bo; have y5 := (blk_cell hbo 0).trans rfl; clear hm3 hg3 hbo) | (go_at_call 47; refine (IH.out _ _ nn (m + 1) (updI g x 1) rfl HS3.out (g01_put HG.out x) hnn0 hlt2 (by omega) (by omega)).mono ?_; rintro e w4 ⟨rfl, hst4, hk4⟩; have HS4 := Aside0.mk hst4; have HK4 := Aside0.mk hk4; have y6 : w4.cell? ⟨Bs, 0, none⟩ = some (.map (some b)) := (blk_cell hst4.bs 0).trans rfl; clear hst4 hk4) | (at_delete; refine wpList_delete_i _ rfl _ _ 64 9 rfl 3 Try.underlying9 Try.underlying64 b m (updI g x 1) rfl HS4.out.im x rfl hxs (by unfold updI; rw [if_pos rfl]; decide) ?_; intro w5 hm5 hg5))
          go_roundw
          case rel =>
            rw [updI_back g x HXF.out] at hm5
            exact ⟨i + 1, _, hlt, rfl, HX, by omega, hcl.2, ⟨HS4.out.grown HF.out hg5.grown hm5⟩, ⟨(HK3.out.trans HK4.out).trans (Kept2.of_grown hg5.grown)⟩, ⟨Kd.R_step HVr.out (fun k hk hkl => (((HK3'.out.trans HK4.out).trans (Kept2.of_grown hg5.grown)).block k hkl hk.1 hk.2))⟩⟩
          case measure => simp [intOf]; omega
      · have hn : ¬ (i : Int) < (nl.length : Int) := by omega
        have HX := HG2.out
        rw [List.drop_eq_nil_of_le (by omega), List.foldl_nil] at HX
        have HX2 := Aside0.mk HX
        clear HX
        have y0 : wr.cell? ⟨Bn, 0, none⟩ = some (.int .i64 nn) := (blk_cell HS.out.bn 0).trans rfl
        go_wp2_with fail
        go_end0
        exact ⟨rfl, by rw [← HX2.out]; exact HS.out, (Kept2.of_below HB2.out).trans HK.out⟩
end
def countR (l0 : List S48) (l1 : List ByteArray) (most : Int) : Int × Int := if askedR l0 l1 [] = 0 then (if most < 1 ∨ 10000 < most then (0, 1) else (cntF l0 most l0.length (fun _ => 0) 0, 0)) else (0, askedR l0 l1 [])
set_option maxHeartbeats 4000000 in
set_option maxRecDepth 100000 in
theorem count_calls (A0 : Option Addr) (c0 : Nat) (l0 : List S48) (A1 : Option Addr) (c1 : Nat) (l1 : List ByteArray) (most : Int) (w : World)
    (hr0 : Kd.C k48 w A0 l0.length l0) (hc0 : l0.length ≤ c0) (hr1 : Kd.C Kd.string w A1 l1.length l1) (hc1 : l1.length ≤ c1) (hs1 : ∀ s ∈ l1, s.size ≤ 140737488351232) :
    Calls Try.prog 20 #[.agg #[.slice A0 l0.length c0, .slice A1 l1.length c1], .int .i64 most] w fun e w' => e = .returned (.tuple #[.int .i64 (countR l0 l1 most).1, .int .i64 (countR l0 l1 most).2]) ∧ Below w.heap.size w w' := by
  have hb1 : Below w.heap.size w ((w.alloc (.cells #[.slice A0 l0.length c0, .slice A1 l1.length c1] 25)).alloc (.cells #[.int .i64 most] 3)) := below_alloc (below_alloc (Below.refl _ _) _) _
  have hB1 := Aside0.mk hb1
  have HASK := Aside0.mk (asked_calls A0 c0 l0 A1 c1 l1 none 0 [] _ (Kd.C_below hr0 hb1) hc0 (Kd.C_below hr1 hb1) hc1 (Kd.C_nil Kd.string _) (Nat.le_refl _) hs1)
  have HW0 := Aside0.mk hr0
  clear hr0 hr1 hs1 hb1
  unfold countR
  by_cases h0 : askedR l0 l1 [] = 0
  · rw [if_pos h0]
    obtain ⟨g0, g1, g2, _⟩ := asked_zero h0
    have HSZ := Aside0.mk (nodeSz_ok g0)
    have hl0 := (planR_ok g0).1
    rw [h0] at HASK
    clear h0 g0 g2
    have BP0 := Aside0.mk (blk_alloc (blk_new w (.cells #[.slice A0 l0.length c0, .slice A1 l1.length c1] 25 (0, 0))) (.cells #[.int .i64 most] 3 (0, 0)))
    have BM0 := Aside0.mk (show ((w.alloc (.cells #[.slice A0 l0.length c0, .slice A1 l1.length c1] 25)).alloc (.cells #[.int .i64 most] 3)).heap[w.heap.size + 1]? = some (.cells #[.int .i64 most] 3 (0, 0)) by
      have h9 := blk_new (w.alloc (.cells #[.slice A0 l0.length c0, .slice A1 l1.length c1] 25)) (.cells #[.int .i64 most] 3 (0, 0))
      simpa using h9)
    by_cases h1 : most < 1
    · rw [if_pos (.inl h1)]
      have e1 : decide (most < 1) = true := decide_eq_true h1
      clear h1
      go_enter Try.func20, Try.ntmps20
      go_wp2_with (go_at_call 34; refine HASK.out.mono ?_; rintro e w2 ⟨rfl, hb2⟩; have z2 : w2.cell? ⟨w.heap.size + 1, 0, none⟩ = some (.int .i64 most) := (blk_cell (blk_below BM0.out hb2) 0).trans rfl)
      go_ret2
      exact ⟨rfl, below_step hB1.out hb2⟩
    · have e1 : decide (most < 1) = false := decide_eq_false h1
      by_cases h2 : 10000 < most
      · rw [if_pos (.inr h2)]
        have e2 : decide (10000 < most) = true := decide_eq_true h2
        clear h1
        go_enter Try.func20, Try.ntmps20
        go_wp2_with (go_at_call 34; refine HASK.out.mono ?_; rintro e w2 ⟨rfl, hb2⟩; have z2 : w2.cell? ⟨w.heap.size + 1, 0, none⟩ = some (.int .i64 most) := (blk_cell (blk_below BM0.out hb2) 0).trans rfl)
        go_ret2
        exact ⟨rfl, below_step hB1.out hb2⟩
      · rw [if_neg (fun h => h.elim h1 h2)]
        have e2 : decide (10000 < most) = false := decide_eq_false h2
        have hm0 : 1 ≤ most := by omega
        have hm1 : most ≤ 10000 := by omega
        clear h1 h2
        go_enter Try.func20, Try.ntmps20
        go_wp2_with (first | (go_at_call 34; refine HASK.out.mono ?_; rintro e w2 ⟨rfl, hb2⟩; have hB2 := Aside0.mk (below_step hB1.out hb2); have BP2 := Aside0.mk (blk_below BP0.out hb2); have BM2 := Aside0.mk (blk_below BM0.out hb2); have z0 : w2.cell? ⟨w.heap.size, 0, none⟩ = some (.slice A0 l0.length c0) := (blk_cell BP2.out 0).trans rfl; have z1 : w2.cell? ⟨w.heap.size, 1, none⟩ = some (.slice A1 l1.length c1) := (blk_cell BP2.out 1).trans rfl; have z2 : w2.cell? ⟨w.heap.size + 1, 0, none⟩ = some (.int .i64 most) := (blk_cell BM2.out 0).trans rfl; have hq2 : w.heap.size + 1 < w2.heap.size := World.block_lt_of_cell? _ _ z2; clear hb2) | (go_at_call 35; refine (setOf_calls none 0 [] _ (Kd.C_nil Kd.string _) (fun _ h => by cases h) (by decide)).mono ?_; rintro e w3 ⟨rfl, ⟨m3, hm3l, hm3⟩, hb3⟩; have hB3 := Aside0.mk (below_step hB2.out hb3); have HM3 := Aside0.mk hm3; have BP3 := Aside0.mk (blk_below BP2.out hb3); have BM3 := Aside0.mk (blk_below BM2.out hb3); have zz0 := (blk_cell BP3.out 0).trans (show (#[Value.slice A0 l0.length c0, .slice A1 l1.length c1] : Array Value)[0]? = some (.slice A0 l0.length c0) from rfl); have zz1 := (blk_cell BP3.out 1).trans (show (#[Value.slice A0 l0.length c0, .slice A1 l1.length c1] : Array Value)[1]? = some (.slice A1 l1.length c1) from rfl); have hq23 : w2.heap.size + 1 < w3.heap.size := HM3.out.lt; have HST := Aside0.mk (fun t => show CSt A0 c0 l0 A1 c1 l1 (w3.heap.size + 1) w.heap.size w3.heap.size (w.heap.size + 1) (w3.heap.size + 1 + 1) (w2.heap.size + 1) most w (((w3.alloc (.cells #[.map (some (w2.heap.size + 1))] 66)).alloc (.cells #[.int .i64 0] 3)).alloc (.cells #[(.func (.func 47) #[] #[.pointer (some ⟨w3.heap.size + 1, 0, none⟩), .pointer (some ⟨w.heap.size, 0, none⟩), .pointer (some ⟨w3.heap.size, 0, none⟩), .pointer (some ⟨w.heap.size + 1, 0, none⟩), .pointer (some ⟨w3.heap.size + 1 + 1, 0, none⟩)])] t)) 0 0 (fun _ => 0) from ⟨blk_alloc (by have h9 := blk_new (w3.alloc (.cells #[.map (some (w2.heap.size + 1))] 66)) (.cells #[.int .i64 0] 3 (0, 0)); simpa using h9) _, blk_alloc (blk_alloc (blk_alloc BP3.out _) _) _, blk_alloc (blk_alloc (blk_new _ _) _) _, blk_alloc (blk_alloc (blk_alloc BM3.out _) _) _, ⟨t, by have h9 := blk_new ((w3.alloc (.cells #[.map (some (w2.heap.size + 1))] 66)).alloc (.cells #[.int .i64 0] 3)) (.cells #[(.func (.func 47) #[] #[.pointer (some ⟨w3.heap.size + 1, 0, none⟩), .pointer (some ⟨w.heap.size, 0, none⟩), .pointer (some ⟨w3.heap.size, 0, none⟩), .pointer (some ⟨w.heap.size + 1, 0, none⟩), .pointer (some ⟨w3.heap.size + 1 + 1, 0, none⟩)])] t (0, 0)); simpa using h9⟩, (by have h9 := HM3.out; rw [setR_nil] at h9; obtain rfl : m3 = 0 := (by simpa using hm3l); exact ((h9.alloc _).alloc _).alloc _), below_alloc (below_alloc (below_alloc hB3.out _) _) _⟩); have zy0 := fun o1 o2 o3 => Lib.cell?_alloc_some (W := (w3.alloc o1).alloc o2) o3 (Lib.cell?_alloc_some (W := w3.alloc o1) o2 (Lib.cell?_alloc_some o1 zz0)); have zy1 := fun o1 o2 o3 => Lib.cell?_alloc_some (W := (w3.alloc o1).alloc o2) o3 (Lib.cell?_alloc_some (W := w3.alloc o1) o2 (Lib.cell?_alloc_some o1 zz1)); clear hb3 hm3) | (go_at_call 47; refine (count1 hm0 hm1 HSZ.out hl0 (b := w2.heap.size + 1) (w0 := w) ⟨HW0.out, by omega, by omega, by omega, by omega, by omega, by omega, by omega, by omega, by omega, by omega, by omega⟩ l0.length _ _ 0 0 (fun _ => 0) rfl (HST.out _) (fun _ => .inl rfl) (by omega) (by omega) hl0 (by omega)).mono ?_; rintro e w4 ⟨rfl, hst4, hk4⟩; have y4 := (blk_cell hst4.bn 0).trans rfl))
        go_ret2
        exact ⟨rfl, hst4.lo⟩
  · rw [if_neg h0]
    have e1 : (askedR l0 l1 [] == 0) = false := beq_eq_false_iff_ne.mpr h0
    have e2 : (askedR l0 l1 [] != 0) = true := by simpa using h0
    clear h0
    go_enter Try.func20, Try.ntmps20
    go_wp2_with (go_at_call 34; refine HASK.out.mono ?_; rintro e w2 ⟨rfl, hb2⟩)
    go_ret2
    exact ⟨rfl, below_step hB1.out hb2⟩
def walk_Count.f (l0 : List S48) (l1 : List ByteArray) (most : Int) : Option (Int × Int) := if (l1.all fun s => decide (s.size ≤ 140737488351232)) = true then some (countR l0 l1 most) else none
theorem walk_Count.calls (A0_0 : Option Addr) (c0_0 : Nat) (l0_0 : List S48) (A0_1 : Option Addr) (c0_1 : Nat) (l0_1 : List ByteArray) (a1 : Int) (r1 : Int) (r2 : Int) (w : World)
    (hr0_0 : Kd.C k48 w A0_0 l0_0.length l0_0) (hc0_0 : l0_0.length ≤ c0_0) (hr0_1 : Kd.C Kd.string w A0_1 l0_1.length l0_1) (hc0_1 : l0_1.length ≤ c0_1) (h : walk_Count.f l0_0 l0_1 a1 = some (r1, r2)) :
    Calls Try.prog 20 #[.agg #[.slice A0_0 l0_0.length c0_0, .slice A0_1 l0_1.length c0_1], .int .i64 a1] w fun e w' => e = .returned (.tuple #[.int .i64 r1, .int .i64 r2]) ∧ Below w.heap.size w w' := by
  unfold walk_Count.f at h
  split at h
  · rename_i hs
    have h2 := Option.some.inj h
    have := count_calls A0_0 c0_0 l0_0 A0_1 c0_1 l0_1 a1 w hr0_0 hc0_0 hr0_1 hc0_1 (fun s hm => of_decide_eq_true (List.all_eq_true.1 hs s hm))
    rw [h2] at this
    exact this
  · cases h

/-! ### smithylaw14_four: function 43 -/
def smithylaw14_four.f  : Option ((List (S48)) × List ByteArray) := some ((([(⟨(⟨#[100]⟩ : ByteArray), ([] : List ByteArray), ([] : List ByteArray), false, (⟨#[]⟩ : ByteArray), (⟨#[]⟩ : ByteArray), false, false, false, false⟩ : S48), (⟨(⟨#[98]⟩ : ByteArray), (([(⟨#[100]⟩ : ByteArray)] : List ByteArray)), ([] : List ByteArray), false, (⟨#[]⟩ : ByteArray), (⟨#[]⟩ : ByteArray), false, false, false, false⟩ : S48), (⟨(⟨#[99]⟩ : ByteArray), (([(⟨#[100]⟩ : ByteArray)] : List ByteArray)), ([] : List ByteArray), false, (⟨#[]⟩ : ByteArray), (⟨#[]⟩ : ByteArray), false, false, false, false⟩ : S48), (⟨(⟨#[97]⟩ : ByteArray), (([(⟨#[98]⟩ : ByteArray), (⟨#[99]⟩ : ByteArray)] : List ByteArray)), ([] : List ByteArray), false, (⟨#[]⟩ : ByteArray), (⟨#[]⟩ : ByteArray), false, false, false, false⟩ : S48)] : List (S48))), (([(⟨#[97]⟩ : ByteArray)] : List ByteArray)))
set_option maxHeartbeats 8000000 in
set_option maxRecDepth 100000 in
theorem smithylaw14_four.calls  (r1 : List (S48)) (r2 : List ByteArray) (w : World) (h : smithylaw14_four.f  = some (r1, r2)) :
    Calls Try.prog 43 #[] w fun e w' => ∃ v0_ v1_ : Value, e = .returned (.agg #[v0_, v1_]) ∧ Kd.N k48 48 w' w.heap.size (fun k_ => (w.heap.size ≤ k_) ∧ some k_ ≠ (v1_ : Value).ownBlock) v0_ r1 ∧ Kd.R Kd.string 9 w' w.heap.size (fun k_ => (w.heap.size ≤ k_)) v1_ r2 ∧ Below w.heap.size w w' := by
  have hu25 := Try.underlying25
  have hu48 := Try.underlying48
  have HB := Aside0.mk (Below.refl w.heap.size w)
  have H : (some ((([(⟨(⟨#[100]⟩ : ByteArray), ([] : List ByteArray), ([] : List ByteArray), false, (⟨#[]⟩ : ByteArray), (⟨#[]⟩ : ByteArray), false, false, false, false⟩ : S48), (⟨(⟨#[98]⟩ : ByteArray), (([(⟨#[100]⟩ : ByteArray)] : List ByteArray)), ([] : List ByteArray), false, (⟨#[]⟩ : ByteArray), (⟨#[]⟩ : ByteArray), false, false, false, false⟩ : S48), (⟨(⟨#[99]⟩ : ByteArray), (([(⟨#[100]⟩ : ByteArray)] : List ByteArray)), ([] : List ByteArray), false, (⟨#[]⟩ : ByteArray), (⟨#[]⟩ : ByteArray), false, false, false, false⟩ : S48), (⟨(⟨#[97]⟩ : ByteArray), (([(⟨#[98]⟩ : ByteArray), (⟨#[99]⟩ : ByteArray)] : List ByteArray)), ([] : List ByteArray), false, (⟨#[]⟩ : ByteArray), (⟨#[]⟩ : ByteArray), false, false, false, false⟩ : S48)] : List (S48))), (([(⟨#[97]⟩ : ByteArray)] : List ByteArray)))) = some (r1, r2) := h
  clear h
  obtain ⟨y121, hy121⟩ : ∃ y_ : List ByteArray, y_ = (([(⟨#[100]⟩ : ByteArray)] : List ByteArray)) := ⟨_, rfl⟩
  replace H : (some ((([(⟨(⟨#[100]⟩ : ByteArray), ([] : List ByteArray), ([] : List ByteArray), false, (⟨#[]⟩ : ByteArray), (⟨#[]⟩ : ByteArray), false, false, false, false⟩ : S48), (⟨(⟨#[98]⟩ : ByteArray), y121, ([] : List ByteArray), false, (⟨#[]⟩ : ByteArray), (⟨#[]⟩ : ByteArray), false, false, false, false⟩ : S48), (⟨(⟨#[99]⟩ : ByteArray), (([(⟨#[100]⟩ : ByteArray)] : List ByteArray)), ([] : List ByteArray), false, (⟨#[]⟩ : ByteArray), (⟨#[]⟩ : ByteArray), false, false, false, false⟩ : S48), (⟨(⟨#[97]⟩ : ByteArray), (([(⟨#[98]⟩ : ByteArray), (⟨#[99]⟩ : ByteArray)] : List ByteArray)), ([] : List ByteArray), false, (⟨#[]⟩ : ByteArray), (⟨#[]⟩ : ByteArray), false, false, false, false⟩ : S48)] : List (S48))), (([(⟨#[97]⟩ : ByteArray)] : List ByteArray)))) = some (r1, r2) := by first | (rw [hy121]; with_reducible exact H) | (have H2_ := (Option.bind_some _ _).symm.trans H; rw [hy121]; with_reducible exact H2_) | (have H2_ := (Option.bind_some _ _).symm.trans H; with_reducible exact H2_) | with_reducible exact H | (rw [hy121]; exact H) | exact H
  have Ny121 := Aside0.mk hy121
  clear hy121
  obtain ⟨y124, hy124⟩ : ∃ y_ : List ByteArray, y_ = (([(⟨#[100]⟩ : ByteArray)] : List ByteArray)) := ⟨_, rfl⟩
  replace H : (some ((([(⟨(⟨#[100]⟩ : ByteArray), ([] : List ByteArray), ([] : List ByteArray), false, (⟨#[]⟩ : ByteArray), (⟨#[]⟩ : ByteArray), false, false, false, false⟩ : S48), (⟨(⟨#[98]⟩ : ByteArray), y121, ([] : List ByteArray), false, (⟨#[]⟩ : ByteArray), (⟨#[]⟩ : ByteArray), false, false, false, false⟩ : S48), (⟨(⟨#[99]⟩ : ByteArray), y124, ([] : List ByteArray), false, (⟨#[]⟩ : ByteArray), (⟨#[]⟩ : ByteArray), false, false, false, false⟩ : S48), (⟨(⟨#[97]⟩ : ByteArray), (([(⟨#[98]⟩ : ByteArray), (⟨#[99]⟩ : ByteArray)] : List ByteArray)), ([] : List ByteArray), false, (⟨#[]⟩ : ByteArray), (⟨#[]⟩ : ByteArray), false, false, false, false⟩ : S48)] : List (S48))), (([(⟨#[97]⟩ : ByteArray)] : List ByteArray)))) = some (r1, r2) := by first | (rw [hy124]; with_reducible exact H) | (have H2_ := (Option.bind_some _ _).symm.trans H; rw [hy124]; with_reducible exact H2_) | (have H2_ := (Option.bind_some _ _).symm.trans H; with_reducible exact H2_) | with_reducible exact H | (rw [hy124]; exact H) | exact H
  have Ny124 := Aside0.mk hy124
  clear hy124
  obtain ⟨y127, hy127⟩ : ∃ y_ : List ByteArray, y_ = (([(⟨#[98]⟩ : ByteArray), (⟨#[99]⟩ : ByteArray)] : List ByteArray)) := ⟨_, rfl⟩
  replace H : (some ((([(⟨(⟨#[100]⟩ : ByteArray), ([] : List ByteArray), ([] : List ByteArray), false, (⟨#[]⟩ : ByteArray), (⟨#[]⟩ : ByteArray), false, false, false, false⟩ : S48), (⟨(⟨#[98]⟩ : ByteArray), y121, ([] : List ByteArray), false, (⟨#[]⟩ : ByteArray), (⟨#[]⟩ : ByteArray), false, false, false, false⟩ : S48), (⟨(⟨#[99]⟩ : ByteArray), y124, ([] : List ByteArray), false, (⟨#[]⟩ : ByteArray), (⟨#[]⟩ : ByteArray), false, false, false, false⟩ : S48), (⟨(⟨#[97]⟩ : ByteArray), y127, ([] : List ByteArray), false, (⟨#[]⟩ : ByteArray), (⟨#[]⟩ : ByteArray), false, false, false, false⟩ : S48)] : List (S48))), (([(⟨#[97]⟩ : ByteArray)] : List ByteArray)))) = some (r1, r2) := by first | (rw [hy127]; with_reducible exact H) | (have H2_ := (Option.bind_some _ _).symm.trans H; rw [hy127]; with_reducible exact H2_) | (have H2_ := (Option.bind_some _ _).symm.trans H; with_reducible exact H2_) | with_reducible exact H | (rw [hy127]; exact H) | exact H
  have Ny127 := Aside0.mk hy127
  clear hy127
  obtain ⟨y130, hy130⟩ : ∃ y_ : List (S48), y_ = (([(⟨(⟨#[100]⟩ : ByteArray), ([] : List ByteArray), ([] : List ByteArray), false, (⟨#[]⟩ : ByteArray), (⟨#[]⟩ : ByteArray), false, false, false, false⟩ : S48), (⟨(⟨#[98]⟩ : ByteArray), y121, ([] : List ByteArray), false, (⟨#[]⟩ : ByteArray), (⟨#[]⟩ : ByteArray), false, false, false, false⟩ : S48), (⟨(⟨#[99]⟩ : ByteArray), y124, ([] : List ByteArray), false, (⟨#[]⟩ : ByteArray), (⟨#[]⟩ : ByteArray), false, false, false, false⟩ : S48), (⟨(⟨#[97]⟩ : ByteArray), y127, ([] : List ByteArray), false, (⟨#[]⟩ : ByteArray), (⟨#[]⟩ : ByteArray), false, false, false, false⟩ : S48)] : List (S48))) := ⟨_, rfl⟩
  replace H : (some (y130, (([(⟨#[97]⟩ : ByteArray)] : List ByteArray)))) = some (r1, r2) := by first | (rw [hy130]; with_reducible exact H) | (have H2_ := (Option.bind_some _ _).symm.trans H; rw [hy130]; with_reducible exact H2_) | (have H2_ := (Option.bind_some _ _).symm.trans H; with_reducible exact H2_) | with_reducible exact H | (rw [hy130]; exact H) | exact H
  have Ny130 := Aside0.mk hy130
  clear hy130
  obtain ⟨y133, hy133⟩ : ∃ y_ : List ByteArray, y_ = (([(⟨#[97]⟩ : ByteArray)] : List ByteArray)) := ⟨_, rfl⟩
  replace H : (some (y130, y133)) = some (r1, r2) := by first | (rw [hy133]; with_reducible exact H) | (have H2_ := (Option.bind_some _ _).symm.trans H; rw [hy133]; with_reducible exact H2_) | (have H2_ := (Option.bind_some _ _).symm.trans H; with_reducible exact H2_) | with_reducible exact H | (rw [hy133]; exact H) | exact H
  have Ny133 := Aside0.mk hy133
  clear hy133
  simp only [Option.some.injEq, Prod.mk.injEq] at H
  obtain ⟨rfl, rfl⟩ := H
  go_enter Try.func43, Try.ntmps43
  go_wp2_with (first | ((with_reducible refine gate_dst (N := 0) rfl ?_); refine box_event ?hg (N := 0) ?hd (cs := #[.slice none 0 0, .slice none 0 0]) (t := 25) ?hr ?_; (case hd => rfl); (case hg => rfl); (case hr => first | (go_simp; done) | (go_simp; rfl)); intro gb120 hg w1 hbox hb; have n0_ := Aside0.mk (below_step (by repeat (first | (with_reducible first | exact HB.out | apply below_alloc | apply pw_below_drewN | apply below_drew1) | exact HB.out)) hb); have n1_ := Aside0.mk (hbox); have n2_ := Aside0.mk ((by rw [hg]; exact (below_size (by repeat (first | (with_reducible first | exact HB.out | apply below_alloc | apply pw_below_drewN | apply below_drew1) | exact HB.out))) : w.heap.size ≤ gb120)); have n3_ := Aside0.mk ((by rw [hg]; exact (below_size (by repeat (first | (with_reducible first | exact HB.out | apply below_alloc | apply pw_below_drewN | apply below_drew1) | exact HB.out))) : w.heap.size ≤ gb120)); clear HB; have HB := n0_; have BK120 := n1_; have GW120 := n2_; have GE120 := n3_; clear n0_ n1_ n2_ n3_; clear hb hbox hg) | ((with_reducible refine gate_dst (N := 2) rfl ?_); refine Kd.R_lit Kd.string _ 9 ?hg (N := 2) ?hd (xs := ([(⟨#[100]⟩ : ByteArray)] : List ByteArray)) (inner := [.string (⟨#[100]⟩ : ByteArray)]) (ok := fun _ => True) (okp := fun _ => True) ?hr ?hp (fun _ hk => hk) trivial (Below.refl _ _) (Nat.le_refl _) (by simp) ?_; (case hd => rfl); (case hg => rfl); (case hr => first | (go_simp; done) | (go_simp; rfl)); (case hp => exact (Reps.one (show Kd.M Kd.string _ _ _ (⟨#[100]⟩ : ByteArray) [.string (⟨#[100]⟩ : ByteArray)] from rfl) (Reps.none _ _))); intro v122 w2 ho3 hb hg_ hnew_; clear hg_ hnew_; (first | rw [← Ny121.out] at ho3 | (simp only [Int.reduceToNat] at ho3; rw [← Ny121.out] at ho3)); have n0_ := Aside0.mk (Kd.R_lower (Kd.R_newM (M := fun k_ => (w.heap.size ≤ k_)) ho3 (below_size (by repeat (first | (with_reducible first | exact HB.out | apply below_alloc | apply pw_below_drewN | apply below_drew1 | refine below_set ?_ GE120.out) | exact HB.out))) (fun k_ h_ => h_)) (below_size (by repeat (first | (with_reducible first | exact HB.out | apply below_alloc | apply pw_below_drewN | apply below_drew1 | refine below_set ?_ GE120.out) | exact HB.out)))); have n1_ := Aside0.mk (blk_below (g := gb120) (o := .cells #[.slice none 0 0, .slice none 0 0] 25 (0, 0)) (by (with_reducible repeat (first | refine blk_drewN ?_ _ | refine blk_drew ?_ | refine blk_alloc ?_ _)); exact BK120.out) hb); have n2_ := Aside0.mk (below_step (by repeat (first | (with_reducible first | exact HB.out | apply below_alloc | apply pw_below_drewN | apply below_drew1 | refine below_set ?_ GE120.out) | exact HB.out)) hb); clear BK120; clear HB; have HO123 := n0_; have BK120 := n1_; have HB := n2_; clear n0_ n1_ n2_; clear hb ho3; obtain ⟨Ao4, co4, eo4⟩ := Kd.R_slice HO123.out; subst eo4) | ((with_reducible refine gate_dst (N := 4) rfl ?_); refine Kd.R_lit Kd.string _ 9 ?hg (N := 4) ?hd (xs := ([(⟨#[100]⟩ : ByteArray)] : List ByteArray)) (inner := [.string (⟨#[100]⟩ : ByteArray)]) (ok := fun _ => True) (okp := fun _ => True) ?hr ?hp (fun _ hk => hk) trivial (Below.refl _ _) (Nat.le_refl _) (by simp) ?_; (case hd => rfl); (case hg => rfl); (case hr => first | (go_simp; done) | (go_simp; rfl)); (case hp => exact (Reps.one (show Kd.M Kd.string _ _ _ (⟨#[100]⟩ : ByteArray) [.string (⟨#[100]⟩ : ByteArray)] from rfl) (Reps.none _ _))); intro v125 w5 ho6 hb hg_ hnew_; clear hg_ hnew_; (first | rw [← Ny124.out] at ho6 | (simp only [Int.reduceToNat] at ho6; rw [← Ny124.out] at ho6)); have n0_ := Aside0.mk (Kd.R_elder' (by (with_reducible repeat (first | apply Kd.R_alloc | apply Kd.R_drewN | apply Kd.R_drew)); exact HO123.out) (Kd.R_base ho6) hb); have n1_ := Aside0.mk (Kd.R_lower (Kd.R_new' (Kd.R_newM (M := fun k_ => (w.heap.size ≤ k_)) ho6 (below_size (by repeat (first | (with_reducible first | exact HB.out | apply below_alloc | apply pw_below_drewN | apply below_drew1 | refine below_set ?_ GE120.out) | exact HB.out))) (fun k_ h_ => h_)) (Kd.R_lt (by (with_reducible repeat (first | apply Kd.R_alloc | apply Kd.R_drewN | apply Kd.R_drew)); exact HO123.out))) (below_size (by repeat (first | (with_reducible first | exact HB.out | apply below_alloc | apply pw_below_drewN | apply below_drew1 | refine below_set ?_ GE120.out) | exact HB.out)))); have n2_ := Aside0.mk (blk_below (g := gb120) (o := .cells #[.slice none 0 0, .slice none 0 0] 25 (0, 0)) (by (with_reducible repeat (first | refine blk_drewN ?_ _ | refine blk_drew ?_ | refine blk_alloc ?_ _)); exact BK120.out) hb); have n3_ := Aside0.mk (below_step (by repeat (first | (with_reducible first | exact HB.out | apply below_alloc | apply pw_below_drewN | apply below_drew1 | refine below_set ?_ GE120.out) | exact HB.out)) hb); clear HO123; clear BK120; clear HB; have HO123 := n0_; have HO126 := n1_; have BK120 := n2_; have HB := n3_; clear n0_ n1_ n2_ n3_; clear hb ho6; obtain ⟨Ao7, co7, eo7⟩ := Kd.R_slice HO126.out; subst eo7) | ((with_reducible refine gate_dst (N := 6) rfl ?_); refine Kd.R_lit Kd.string _ 9 ?hg (N := 6) ?hd (xs := ([(⟨#[98]⟩ : ByteArray), (⟨#[99]⟩ : ByteArray)] : List ByteArray)) (inner := [.string (⟨#[98]⟩ : ByteArray), .string (⟨#[99]⟩ : ByteArray)]) (ok := fun _ => True) (okp := fun _ => True) ?hr ?hp (fun _ hk => hk) trivial (Below.refl _ _) (Nat.le_refl _) (by simp) ?_; (case hd => rfl); (case hg => rfl); (case hr => first | (go_simp; done) | (go_simp; rfl)); (case hp => exact (Reps.one (show Kd.M Kd.string _ _ _ (⟨#[98]⟩ : ByteArray) [.string (⟨#[98]⟩ : ByteArray)] from rfl) (Reps.one (show Kd.M Kd.string _ _ _ (⟨#[99]⟩ : ByteArray) [.string (⟨#[99]⟩ : ByteArray)] from rfl) (Reps.none _ _)))); intro v128 w8 ho9 hb hg_ hnew_; clear hg_ hnew_; (first | rw [← Ny127.out] at ho9 | (simp only [Int.reduceToNat] at ho9; rw [← Ny127.out] at ho9)); have n0_ := Aside0.mk (Kd.R_elder' (by (with_reducible repeat (first | apply Kd.R_alloc | apply Kd.R_drewN | apply Kd.R_drew)); exact HO123.out) (Kd.R_base ho9) hb); have n1_ := Aside0.mk (Kd.R_elder' (by (with_reducible repeat (first | apply Kd.R_alloc | apply Kd.R_drewN | apply Kd.R_drew)); exact HO126.out) (Kd.R_base ho9) hb); have n2_ := Aside0.mk (Kd.R_lower (Kd.R_new' (Kd.R_new' (Kd.R_newM (M := fun k_ => (w.heap.size ≤ k_)) ho9 (below_size (by repeat (first | (with_reducible first | exact HB.out | apply below_alloc | apply pw_below_drewN | apply below_drew1 | refine below_set ?_ GE120.out) | exact HB.out))) (fun k_ h_ => h_)) (Kd.R_lt (by (with_reducible repeat (first | apply Kd.R_alloc | apply Kd.R_drewN | apply Kd.R_drew)); exact HO123.out))) (Kd.R_lt (by (with_reducible repeat (first | apply Kd.R_alloc | apply Kd.R_drewN | apply Kd.R_drew)); exact HO126.out))) (below_size (by repeat (first | (with_reducible first | exact HB.out | apply below_alloc | apply pw_below_drewN | apply below_drew1 | refine below_set ?_ GE120.out) | exact HB.out)))); have n3_ := Aside0.mk (blk_below (g := gb120) (o := .cells #[.slice none 0 0, .slice none 0 0] 25 (0, 0)) (by (with_reducible repeat (first | refine blk_drewN ?_ _ | refine blk_drew ?_ | refine blk_alloc ?_ _)); exact BK120.out) hb); have n4_ := Aside0.mk (below_step (by repeat (first | (with_reducible first | exact HB.out | apply below_alloc | apply pw_below_drewN | apply below_drew1 | refine below_set ?_ GE120.out) | exact HB.out)) hb); clear HO123; clear HO126; clear BK120; clear HB; have HO123 := n0_; have HO126 := n1_; have HO129 := n2_; have BK120 := n3_; have HB := n4_; clear n0_ n1_ n2_ n3_ n4_; clear hb ho9; obtain ⟨Ao10, co10, eo10⟩ := Kd.R_slice HO129.out; subst eo10) | ((with_reducible refine gate_dst (N := 8) rfl ?_); refine Kd.N_lit k48 _ 48 ?hg (N' := 8) ?hd (xs := ([(⟨(⟨#[100]⟩ : ByteArray), ([] : List ByteArray), ([] : List ByteArray), false, (⟨#[]⟩ : ByteArray), (⟨#[]⟩ : ByteArray), false, false, false, false⟩ : S48), (⟨(⟨#[98]⟩ : ByteArray), y121, ([] : List ByteArray), false, (⟨#[]⟩ : ByteArray), (⟨#[]⟩ : ByteArray), false, false, false, false⟩ : S48), (⟨(⟨#[99]⟩ : ByteArray), y124, ([] : List ByteArray), false, (⟨#[]⟩ : ByteArray), (⟨#[]⟩ : ByteArray), false, false, false, false⟩ : S48), (⟨(⟨#[97]⟩ : ByteArray), y127, ([] : List ByteArray), false, (⟨#[]⟩ : ByteArray), (⟨#[]⟩ : ByteArray), false, false, false, false⟩ : S48)] : List (S48))) (inner := [.string (⟨#[100]⟩ : ByteArray), .slice none 0 0, .slice none 0 0, .bool false, .string (⟨#[]⟩ : ByteArray), .string (⟨#[]⟩ : ByteArray), .bool false, .bool false, .bool false, .bool false, .string (⟨#[98]⟩ : ByteArray), .slice Ao4 y121.length co4, .slice none 0 0, .bool false, .string (⟨#[]⟩ : ByteArray), .string (⟨#[]⟩ : ByteArray), .bool false, .bool false, .bool false, .bool false, .string (⟨#[99]⟩ : ByteArray), .slice Ao7 y124.length co7, .slice none 0 0, .bool false, .string (⟨#[]⟩ : ByteArray), .string (⟨#[]⟩ : ByteArray), .bool false, .bool false, .bool false, .bool false, .string (⟨#[97]⟩ : ByteArray), .slice Ao10 y127.length co10, .slice none 0 0, .bool false, .string (⟨#[]⟩ : ByteArray), .string (⟨#[]⟩ : ByteArray), .bool false, .bool false, .bool false, .bool false]) (ok := (fun k_ => (w.heap.size ≤ k_) ∧ k_ ≠ gb120)) (okp := (fun k_ => (w.heap.size ≤ k_) ∧ k_ ≠ gb120)) ?hr ?hp (fun _ hk => hk) ((show ∀ k_, w8.heap.size ≤ k_ → (fun k_ => (w.heap.size ≤ k_) ∧ k_ ≠ gb120) k_ from fun k_ hk => ⟨(Nat.le_trans (below_size (by repeat (first | (with_reducible first | exact HB.out | apply below_alloc | apply pw_below_drewN | apply below_drew1 | refine below_set ?_ GE120.out) | exact HB.out))) hk), Kd.freshB (g := gb120) (o := .cells #[.slice none 0 0, .slice none 0 0] 25 (0, 0)) (by (with_reducible repeat (first | refine blk_drewN ?_ _ | refine blk_drew ?_ | refine blk_alloc ?_ _)); exact BK120.out) k_ hk⟩) _ (Nat.le_refl _)) (Below.refl _ _) (Nat.le_refl _) (by simp) ?_; (case hd => rfl); (case hg => rfl); (case hr => first | (go_simp; done) | (go_simp; rfl)); (case hp => exact (Reps.c10 (show Kd.FK k48 _ _ (⟨(⟨#[100]⟩ : ByteArray), ([] : List ByteArray), ([] : List ByteArray), false, (⟨#[]⟩ : ByteArray), (⟨#[]⟩ : ByteArray), false, false, false, false⟩ : S48) [.string (⟨#[100]⟩ : ByteArray), .slice none 0 0, .slice none 0 0, .bool false, .string (⟨#[]⟩ : ByteArray), .string (⟨#[]⟩ : ByteArray), .bool false, .bool false, .bool false, .bool false] from (k48_mkF _ _ (⟨(⟨#[100]⟩ : ByteArray), ([] : List ByteArray), ([] : List ByteArray), false, (⟨#[]⟩ : ByteArray), (⟨#[]⟩ : ByteArray), false, false, false, false⟩ : S48) (Nat.le_refl _) (Kd.F_nil _ _ _) (Nat.le_refl _) (Kd.F_nil _ _ _))) (Reps.c10 (show Kd.FK k48 _ _ (⟨(⟨#[98]⟩ : ByteArray), y121, ([] : List ByteArray), false, (⟨#[]⟩ : ByteArray), (⟨#[]⟩ : ByteArray), false, false, false, false⟩ : S48) [.string (⟨#[98]⟩ : ByteArray), .slice Ao4 y121.length co4, .slice none 0 0, .bool false, .string (⟨#[]⟩ : ByteArray), .string (⟨#[]⟩ : ByteArray), .bool false, .bool false, .bool false, .bool false] from (k48_mkF _ _ (⟨(⟨#[98]⟩ : ByteArray), y121, ([] : List ByteArray), false, (⟨#[]⟩ : ByteArray), (⟨#[]⟩ : ByteArray), false, false, false, false⟩ : S48) (Kd.R_reads' (Kd.R_mono (ok' := (fun k_ => (w.heap.size ≤ k_) ∧ k_ ≠ gb120)) (Kd.R_types (HO123.out) BK120.out (by decide)) (fun k_ hk => ⟨hk.1.1.1.1, hk.2⟩))).2.1 (Kd.R_F (Kd.R_mono (ok' := (fun k_ => (w.heap.size ≤ k_) ∧ k_ ≠ gb120)) (Kd.R_types (HO123.out) BK120.out (by decide)) (fun k_ hk => ⟨hk.1.1.1.1, hk.2⟩))) (Nat.le_refl _) (Kd.F_nil _ _ _))) (Reps.c10 (show Kd.FK k48 _ _ (⟨(⟨#[99]⟩ : ByteArray), y124, ([] : List ByteArray), false, (⟨#[]⟩ : ByteArray), (⟨#[]⟩ : ByteArray), false, false, false, false⟩ : S48) [.string (⟨#[99]⟩ : ByteArray), .slice Ao7 y124.length co7, .slice none 0 0, .bool false, .string (⟨#[]⟩ : ByteArray), .string (⟨#[]⟩ : ByteArray), .bool false, .bool false, .bool false, .bool false] from (k48_mkF _ _ (⟨(⟨#[99]⟩ : ByteArray), y124, ([] : List ByteArray), false, (⟨#[]⟩ : ByteArray), (⟨#[]⟩ : ByteArray), false, false, false, false⟩ : S48) (Kd.R_reads' (Kd.R_mono (ok' := (fun k_ => (w.heap.size ≤ k_) ∧ k_ ≠ gb120)) (Kd.R_types (HO126.out) BK120.out (by decide)) (fun k_ hk => ⟨hk.1.1.1.1, hk.2⟩))).2.1 (Kd.R_F (Kd.R_mono (ok' := (fun k_ => (w.heap.size ≤ k_) ∧ k_ ≠ gb120)) (Kd.R_types (HO126.out) BK120.out (by decide)) (fun k_ hk => ⟨hk.1.1.1.1, hk.2⟩))) (Nat.le_refl _) (Kd.F_nil _ _ _))) (Reps.c10 (show Kd.FK k48 _ _ (⟨(⟨#[97]⟩ : ByteArray), y127, ([] : List ByteArray), false, (⟨#[]⟩ : ByteArray), (⟨#[]⟩ : ByteArray), false, false, false, false⟩ : S48) [.string (⟨#[97]⟩ : ByteArray), .slice Ao10 y127.length co10, .slice none 0 0, .bool false, .string (⟨#[]⟩ : ByteArray), .string (⟨#[]⟩ : ByteArray), .bool false, .bool false, .bool false, .bool false] from (k48_mkF _ _ (⟨(⟨#[97]⟩ : ByteArray), y127, ([] : List ByteArray), false, (⟨#[]⟩ : ByteArray), (⟨#[]⟩ : ByteArray), false, false, false, false⟩ : S48) (Kd.R_reads' (Kd.R_mono (ok' := (fun k_ => (w.heap.size ≤ k_) ∧ k_ ≠ gb120)) (Kd.R_types (HO129.out) BK120.out (by decide)) (fun k_ hk => ⟨hk.1.1.1.1, hk.2⟩))).2.1 (Kd.R_F (Kd.R_mono (ok' := (fun k_ => (w.heap.size ≤ k_) ∧ k_ ≠ gb120)) (Kd.R_types (HO129.out) BK120.out (by decide)) (fun k_ hk => ⟨hk.1.1.1.1, hk.2⟩))) (Nat.le_refl _) (Kd.F_nil _ _ _))) (Reps.none _ _)))))); intro v131 w11 ho12 hb hg_ hnew_; clear hg_ hnew_; (first | rw [← Ny130.out] at ho12 | (simp only [Int.reduceToNat] at ho12; rw [← Ny130.out] at ho12)); have n0_ := Aside0.mk (Kd.N_lower ho12 (below_size (by repeat (first | (with_reducible first | exact HB.out | apply below_alloc | apply pw_below_drewN | apply below_drew1 | refine below_set ?_ GE120.out) | exact HB.out)))); have n1_ := Aside0.mk (blk_below (g := gb120) (o := .cells #[.slice none 0 0, .slice none 0 0] 25 (0, 0)) (by (with_reducible repeat (first | refine blk_drewN ?_ _ | refine blk_drew ?_ | refine blk_alloc ?_ _)); exact BK120.out) hb); have n2_ := Aside0.mk (below_step (by repeat (first | (with_reducible first | exact HB.out | apply below_alloc | apply pw_below_drewN | apply below_drew1 | refine below_set ?_ GE120.out) | exact HB.out)) hb); clear BK120; clear HB; clear HO123; clear HO126; clear HO129; have HO132 := n0_; have BK120 := n1_; have HB := n2_; clear n0_ n1_ n2_; clear hb ho12) | ((with_reducible refine gate_dst (N := 9) rfl ?_); refine Kd.R_lit Kd.string _ 9 ?hg (N := 9) ?hd (xs := ([(⟨#[97]⟩ : ByteArray)] : List ByteArray)) (inner := [.string (⟨#[97]⟩ : ByteArray)]) (ok := fun _ => True) (okp := fun _ => True) ?hr ?hp (fun _ hk => hk) trivial (Below.refl _ _) (Nat.le_refl _) (by simp) ?_; (case hd => rfl); (case hg => rfl); (case hr => first | (go_simp; done) | (go_simp; rfl)); (case hp => exact (Reps.one (show Kd.M Kd.string _ _ _ (⟨#[97]⟩ : ByteArray) [.string (⟨#[97]⟩ : ByteArray)] from rfl) (Reps.none _ _))); intro v134 w13 ho14 hb hg_ hnew_; clear hg_ hnew_; (first | rw [← Ny133.out] at ho14 | (simp only [Int.reduceToNat] at ho14; rw [← Ny133.out] at ho14)); have n0_ := Aside0.mk (Kd.N_elder' (by (with_reducible repeat (first | apply Kd.N_alloc | apply Kd.N_drewN | apply Kd.N_drew)); exact HO132.out) (Kd.R_base ho14) hb); have n1_ := Aside0.mk (Kd.R_lower (Kd.R_newM (M := fun k_ => (w.heap.size ≤ k_)) ho14 (below_size (by repeat (first | (with_reducible first | exact HB.out | apply below_alloc | apply pw_below_drewN | apply below_drew1 | refine below_set ?_ GE120.out) | exact HB.out))) (fun k_ h_ => h_)) (below_size (by repeat (first | (with_reducible first | exact HB.out | apply below_alloc | apply pw_below_drewN | apply below_drew1 | refine below_set ?_ GE120.out) | exact HB.out)))); have n2_ := Aside0.mk (blk_below (g := gb120) (o := .cells #[.slice none 0 0, .slice none 0 0] 25 (0, 0)) (by (with_reducible repeat (first | refine blk_drewN ?_ _ | refine blk_drew ?_ | refine blk_alloc ?_ _)); exact BK120.out) hb); have n3_ := Aside0.mk (below_step (by repeat (first | (with_reducible first | exact HB.out | apply below_alloc | apply pw_below_drewN | apply below_drew1 | refine below_set ?_ GE120.out) | exact HB.out)) hb); clear HO132; clear BK120; clear HB; have HO132 := n0_; have HO135 := n1_; have BK120 := n2_; have HB := n3_; clear n0_ n1_ n2_ n3_; clear hb ho14; obtain ⟨Ao15, co15, eo15⟩ := Kd.R_slice HO135.out; subst eo15; obtain ⟨Ao16, co16, eo16⟩ := Kd.N_slice HO132.out; subst eo16; have hcz17_0 : w13.cell? ⟨gb120, 0, none⟩ = some (.slice none 0 0) := (blk_cell BK120.out 0).trans rfl; have hcz17_1 : w13.cell? ⟨gb120, 1, none⟩ = some (.slice none 0 0) := (blk_cell BK120.out 1).trans rfl; have hfz17_0 := blk_frozen BK120.out 0; have hfz17_1 := blk_frozen BK120.out 1))
  refine bodyPost_ret (results_cell_row rfl _ _ gb120 25 #[.slice Ao16 y130.length co16, .slice Ao15 y133.length co15] (0, 0) _ rfl (by (with_reducible repeat (first | refine blk_drewN ?_ _ | refine blk_drew ?_ | refine blk_alloc ?_ _)); refine blk_put (cs := #[.slice Ao16 y130.length co16, .slice none 0 0]) ?_ 1 _ rfl; (with_reducible repeat (first | refine blk_drewN ?_ _ | refine blk_drew ?_ | refine blk_alloc ?_ _)); refine blk_put (cs := #[.slice none 0 0, .slice none 0 0]) ?_ 0 _ rfl; (with_reducible repeat (first | refine blk_drewN ?_ _ | refine blk_drew ?_ | refine blk_alloc ?_ _)); exact BK120.out) Try.underlying25 rfl (by kernel_rfl)) rfl ?_
  exact ⟨_, _, by first | rfl | (simp [errW_none, errW_some] <;> rfl) | (simp [*, errW_none, errW_some] <;> rfl), by (with_reducible repeat (first | apply Kd.N_alloc | apply Kd.N_drewN | apply Kd.N_drew)); exact Kd.N_mono (Kd.N_far (p := ⟨gb120, 1, none⟩) (Kd.N_far (p := ⟨gb120, 0, none⟩) (Kd.N_mono HO132.out (fun k_ hk => (⟨hk, hk.1.2⟩ : _ ∧ k_ ≠ gb120))) (fun _ hk => hk.2) (.slice Ao16 y130.length co16)) (fun _ hk => hk.2) (.slice Ao15 y133.length co15)) (fun _ hk => ⟨hk.1.1.1, hk.1.2⟩), by (with_reducible repeat (first | apply Kd.R_alloc | apply Kd.R_drewN | apply Kd.R_drew)); exact Kd.R_mono (Kd.R_far (p := ⟨gb120, 1, none⟩) (Kd.R_far (p := ⟨gb120, 0, none⟩) (Kd.R_types HO135.out BK120.out (by decide)) (fun _ hk => hk.2) (.slice Ao16 y130.length co16)) (fun _ hk => hk.2) (.slice Ao15 y133.length co15)) (fun _ hk => hk.1.1), by repeat (first | (with_reducible first | exact HB.out | apply below_alloc | apply pw_below_drewN | apply below_drew1 | refine below_set ?_ GE120.out) | exact HB.out)⟩

end Go.Proofs.Ytedgkcdofiildaa.P
