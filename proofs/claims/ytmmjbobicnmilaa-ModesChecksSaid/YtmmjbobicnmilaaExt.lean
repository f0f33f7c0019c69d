/- Laws that the printed walks lack: the order of strings, spelled as the print spells it. -/
import Derived.Laws.Strings
import Derived.WalkKit
import Derived.IntWalk
import Derived.Lib.Hide
import Derived.Lib.SliceRun
import Derived.Lib.Overlaps
import Derived.Laws.Externs
import Derived.Laws.CopyOwn
import Derived.Lib.AppendZerosOnto
import Derived.Lib.AppendZeros
import Derived.Deep.RegionLaw
import Derived.Test.YtmmjbobicnmilaaWMore
set_option linter.unusedVariables false
set_option linter.unusedSimpArgs false
namespace Go.Proofs.Ytmmjbobicnmilaa.Ext
open Go
theorem bytesLess_swap : ∀ a b : List UInt8, (Op.bytesLess a b || a == b) = !(Op.bytesLess b a)
  | [], [] => by simp [Op.bytesLess]
  | [], _ :: _ => by simp [Op.bytesLess]
  | _ :: _, [] => by simp [Op.bytesLess]
  | a :: x, b :: y => by
    have ih := bytesLess_swap x y
    simp only [Op.bytesLess, List.cons_beq_cons]
    by_cases h1 : a < b
    · have h2 : ¬ b < a := fun h => by rw [UInt8.lt_iff_toNat_lt] at h1 h; omega
      have h3 : (b == a) = false := by
        rw [beq_eq_false_iff_ne]
        intro e
        subst e
        rw [UInt8.lt_iff_toNat_lt] at h1
        omega
      simp [h1, h2, h3]
    · by_cases h2 : b < a
      · have h3 : (a == b) = false := by
          rw [beq_eq_false_iff_ne]
          intro e
          subst e
          rw [UInt8.lt_iff_toNat_lt] at h2
          omega
        simp [h1, h2, h3]
      · have h4 : a = b := by
          rw [UInt8.lt_iff_toNat_lt] at h1 h2
          exact UInt8.toNat_inj.mp (by omega)
        subst h4
        simp [h1] at ih ⊢
        exact ih
@[go_sem high] theorem binOp_string_leq (t : TypeId) (a b : ByteArray) : binOp .leq t (.string a) (.string b) = pure (.bool (!(Op.bytesLess b.toList a.toList))) := by
  rw [← bytesLess_swap]
  simp [binOp, Op.stringOp]
@[go_sem high] theorem binOp_string_gtr (t : TypeId) (a b : ByteArray) : binOp .gtr t (.string a) (.string b) = pure (.bool (Op.bytesLess b.toList a.toList)) := by
  have h := bytesLess_swap a.toList b.toList
  have e : Op.bytesLess b.toList a.toList = !(Op.bytesLess a.toList b.toList || a.toList == b.toList) := by rw [h]; simp
  rw [e]
  simp [binOp, Op.stringOp]
@[go_sem high] theorem binOp_string_geq (t : TypeId) (a b : ByteArray) : binOp .geq t (.string a) (.string b) = pure (.bool (!(Op.bytesLess a.toList b.toList))) := by simp [binOp, Op.stringOp]
/-- A cell that is written twice (the walk's simp looks no deeper by itself). -/
@[go_sem high] theorem cell?_setCell_twice (w : World) (a : Addr) (u v : Value) (h : (w.cell? a).isSome = true) : ((w.setCell a u).setCell a v).cell? a = some v :=
  World.cell?_setCell_same' _ _ _ (by rw [World.cell?_setCell_same' _ _ _ h]; rfl)
open Go.RowKit
def bsearch {α : Type} (c : α → Int) (g : Int → α) : Nat → Int → Int → Int
  | 0, i, _ => i
  | d + 1, i, j => if i < j then (if c (g ((i + j) / 2)) < 0 then bsearch c g d ((i + j) / 2 + 1) j else bsearch c g d i ((i + j) / 2)) else i
theorem bsearch_run {α : Type} (c : α → Int) (g : Int → α) (n : Int) : ∀ (d : Nat) (i j : Int), 0 ≤ i → i ≤ j → j ≤ n → i ≤ bsearch c g d i j ∧ bsearch c g d i j ≤ j
  | 0, i, j, h0, h1, h2 => ⟨Int.le_refl _, h1⟩
  | d + 1, i, j, h0, h1, h2 => by
    simp only [bsearch]
    split
    · rename_i hlt
      split
      · have := bsearch_run c g n d ((i + j) / 2 + 1) j (by omega) (by omega) h2
        omega
      · have := bsearch_run c g n d i ((i + j) / 2) (by omega) (by omega) (by omega)
        omega
    · exact ⟨Int.le_refl _, h1⟩
theorem bsearch_end {α : Type} (c : α → Int) (g : Int → α) (d : Nat) (i j : Int) (h : ¬ i < j) : bsearch c g d i j = i := by
  cases d with
  | zero => rfl
  | succ d => simp only [bsearch]; rw [if_neg h]
/-- Where the search ends. -/
def bend {α : Type} (c : α → Int) (g : Int → α) (n : Nat) : Int := bsearch c g n 0 n
theorem ret2_eq {a b : Int} {p q : Bool} (h1 : a = b) (h2 : p = q) : Ending.returned (.tuple #[.int .i64 a, .bool p]) = .returned (.tuple #[.int .i64 b, .bool q]) := by rw [h1, h2]
theorem wrap_half (i j : Int) (h0 : 0 ≤ i) (h1 : i ≤ j) (h2 : j ≤ 9223372036854775807) : wrap64 (IntKind.u64.wrap (wrap64 (i + j)) / 2) = (i + j) / 2 := by
  have e : ∀ x : Int, IntKind.u64.wrap x = x % 18446744073709551616 := fun x => by simp [IntKind.wrap, IntKind.signed, IntKind.bits]
  rw [e]
  unfold wrap64
  omega
open Go.Proofs.YtmmjbobicnmilaaW.PrintWords Go.Proofs.YtmmjbobicnmilaaW.PrintLast Go.Proofs.YtmmjbobicnmilaaW.PrintMore
section
variable {P : Program}
theorem run_copy_K (w : World) (dT sT ty elem : TypeId) (g o dLen dCap : Nat) (a : Addr) (sLen sCap : Nat) (cur : List Value) (t : TypeId) (cs : List Value) (k m : Nat)
    (hu : P.underlying dT = some (.slice elem)) (hs : (P.info? elem).map (·.size) = some k)
    (hg : w.heap[g]? = some (.cells cur.toArray t (0, 0))) (hm : Nat.min sLen dLen = m) (hn : cs.length = m * k)
    (hsrc : ∀ j v, cs[j]? = some v → w.cell? (a.add j) = some v) (hfit : o + cs.length ≤ cur.length) (h1 : ∀ v ∈ cs, v.oneCell' = true) :
    (Builtin.copy_ #[dT, sT] ty #[.slice (some ⟨g, o, none⟩) dLen dCap, .slice (some a) sLen sCap]).run P w =
      .ok (goInt m) (w.setRow g (splice cur o cs).toArray) := by
  have hl := run_loadCells_list (P := P) w a cs hsrc
  have hst := run_storeCells_at P g o t cs 0 cur.toArray w hg (by simpa using hfit) h1
  cases hq : P.info? elem with
  | none => simp [hq] at hs
  | some i =>
    have hi : i.size = k := by simpa [hq] using hs
    simp [Builtin.copy_, run_underlying hu, Builtin.lenOf, Builtin.firstCells, sizeOf, typeInfo, hq, hi, hm, ← hn, hl, hst, splice]
theorem wpList_copy_K {ops : Array Oper} {rest : List Oper} {o : Oper} {a : Act} {Q : Exit → Act → World → Prop} (w : World) (hgd : o.guard = none) (d s : Operand) (dT sT : TypeId)
    (ho : o.op = .call { callee := .builtin .copy, args := #[d, s], argTypes := #[dT, sT] }) (elem : TypeId) (hu : P.underlying dT = some (.slice elem)) (k : Nat) (hs : (P.info? elem).map (·.size) = some k)
    (g off dLen dCap : Nat) (ad : Addr) (sLen sCap : Nat) (hd : a.eval d = .slice (some ⟨g, off, none⟩) dLen dCap) (hsv : a.eval s = .slice (some ad) sLen sCap)
    (cur : List Value) (t : TypeId) (hg : w.heap[g]? = some (.cells cur.toArray t (0, 0))) (cs : List Value) (m : Nat) (hm : Nat.min sLen dLen = m) (hn : cs.length = m * k)
    (hsrc : ∀ j v, cs[j]? = some v → w.cell? (ad.add j) = some v) (hfit : off + cs.length ≤ cur.length) (h1 : ∀ v ∈ cs, v.oneCell' = true)
    (h : wpList P ops Q rest (a.put o.dst (goInt m)) (w.setRow g (splice cur off cs).toArray)) : wpList P ops Q (o :: rest) a w := by
  refine wpList_plain hgd fun K hK => ?_
  have hrun := run_copy_K (P := P) w dT sT o.type elem g off dLen dCap ad sLen sCap cur t cs k m hu hs hg hm hn hsrc hfit h1
  unfold Oper.wp
  simp [execOp, ho, resolve, invoke, builtin, hd, hsv, hrun, Result.andThen]
  exact hK _ _ h
theorem step_copy_K {ops : Array Oper} {o : Oper} {a : Act} {K : Act → World → Prop} {Q : Exit → Act → World → Prop} {E : Prop} (w : World) (hgd : o.guard = none) (d s : Operand) (dT sT : TypeId)
    (ho : o.op = .call { callee := .builtin .copy, args := #[d, s], argTypes := #[dT, sT] }) (elem : TypeId) (hu : P.underlying dT = some (.slice elem)) (k : Nat) (hs : (P.info? elem).map (·.size) = some k)
    (g off dLen dCap : Nat) (ad : Addr) (sLen sCap : Nat) (hd : a.eval d = .slice (some ⟨g, off, none⟩) dLen dCap) (hsv : a.eval s = .slice (some ad) sLen sCap)
    (cur : List Value) (t : TypeId) (hg : w.heap[g]? = some (.cells cur.toArray t (0, 0))) (cs : List Value) (m : Nat) (hm : Nat.min sLen dLen = m) (hn : cs.length = m * k)
    (hsrc : ∀ j v, cs[j]? = some v → w.cell? (ad.add j) = some v) (hfit : off + cs.length ≤ cur.length) (h1 : ∀ v ∈ cs, v.oneCell' = true)
    (h : K (a.put o.dst (goInt m)) (w.setRow g (splice cur off cs).toArray)) : if Region.wanted o (yielded ops a.tmps) = true then Oper.wp P o a w K Q else E := by
  have hw : Region.wanted o (yielded ops a.tmps) = true := by simp [Region.wanted, hgd]
  rw [if_pos hw]
  have hrun := run_copy_K (P := P) w dT sT o.type elem g off dLen dCap ad sLen sCap cur t cs k m hu hs hg hm hn hsrc hfit h1
  unfold Oper.wp
  simp [execOp, ho, resolve, invoke, builtin, hd, hsv, hrun, Result.andThen]
  exact h
end
theorem grown_refl (w : World) (row : Option Nat) : w.grownBy w row := ⟨rfl, rfl, rfl, Nat.le_refl _, fun _ _ _ => rfl⟩
theorem grown_drew {w w1 : World} {row : Option Nat} (h : w.grownBy w1 row) : w.grownBy w1.drew row := ⟨h.os, h.tape, h.output, h.size, h.block⟩
theorem grown_setRow {w w1 : World} {g : Nat} (h : w.grownBy w1 (some g)) (cs : Array Value) : w.grownBy (w1.setRow g cs) (some g) :=
  ⟨h.os, h.tape, h.output, by simpa [World.setRow] using h.size, fun k hk hne => (setRow_other w1 g k cs (fun e => hne (by rw [e]))).trans (h.block k hk hne)⟩
theorem flat_drop {α : Type} (enc : α → List Value) (k : Nat) (hk : ∀ x, (enc x).length = k) : ∀ (l : List α) (i : Nat), (l.flatMap enc).drop (i * k) = (l.drop i).flatMap enc
  | [], i => by simp
  | x :: xs, 0 => by simp
  | x :: xs, i + 1 => by
    rw [List.flatMap_cons, List.drop_succ_cons, ← flat_drop enc k hk xs i, List.drop_append, List.drop_eq_nil_of_le (by rw [hk, Nat.succ_mul]; omega), List.nil_append, hk, Nat.succ_mul]
    congr 1
    omega
theorem flat_take {α : Type} (enc : α → List Value) (k : Nat) (hk : ∀ x, (enc x).length = k) : ∀ (l : List α) (i : Nat), (l.flatMap enc).take (i * k) = (l.take i).flatMap enc
  | [], i => by simp
  | x :: xs, 0 => by simp
  | x :: xs, i + 1 => by
    rw [List.flatMap_cons, List.take_succ_cons, List.flatMap_cons, ← flat_take enc k hk xs i, List.take_append, List.take_of_length_le (by rw [hk, Nat.succ_mul]; omega), hk, Nat.succ_mul]
    congr 2
    omega
theorem flat_length {α : Type} (enc : α → List Value) (k : Nat) (hk : ∀ x, (enc x).length = k) : ∀ (l : List α), (l.flatMap enc).length = l.length * k
  | [] => by simp
  | x :: xs => by rw [List.flatMap_cons, List.length_append, hk, flat_length enc k hk xs, List.length_cons, Nat.succ_mul]; omega
theorem reps_flat {α : Type} {R : α → List Value → Prop} (enc : α → List Value) (k : Nat) (hk : ∀ x, (enc x).length = k) (hR : ∀ p c, R p c → c = enc p) : ∀ (l : List α) (cs : List Value), Reps R k l cs → cs = l.flatMap enc
  | [], cs, h => by
    have := h.1
    simp at this
    simp [this]
  | x :: xs, cs, h => by
    have h0 := hR _ _ (h.2 0 x rfl)
    rw [Nat.zero_mul, List.drop_zero] at h0
    have ht : Reps R k xs (cs.drop k) := ⟨by rw [List.length_drop, h.1, List.length_cons, Nat.succ_mul]; omega, fun j p hj => by
      have := h.2 (j + 1) p (by simpa using hj)
      rw [List.drop_drop]
      rw [Nat.succ_mul] at this
      rw [Nat.add_comm k]
      exact this⟩
    have := reps_flat enc k hk hR xs _ ht
    rw [List.flatMap_cons, ← this, ← h0, List.take_append_drop]
theorem reps_of_flat {α : Type} {R : α → List Value → Prop} (enc : α → List Value) (k : Nat) (hk : ∀ x, (enc x).length = k) (hR : ∀ p, R p (enc p)) (l : List α) : Reps R k l (l.flatMap enc) := by
  refine ⟨flat_length enc k hk l, fun j p hj => ?_⟩
  rw [flat_drop enc k hk]
  obtain ⟨hlt, he⟩ := List.getElem?_eq_some_iff.1 hj
  rw [List.drop_eq_getElem_cons hlt, he, List.flatMap_cons, List.take_append_of_le_length (by rw [hk]; exact Nat.le_refl _), List.take_of_length_le (by rw [hk]; exact Nat.le_refl _)]
  exact hR p

theorem insert_cells (cur X Y C : List Value) (n i : Nat) (hi : i < n) (hn : (n + 1) * 3 ≤ cur.length) (hX : cur.take (i * 3) = X) (hY : Y.length = 3) (hC : C.length = (n - i) * 3) :
    (splice (splice cur ((i + 1) * 3) C) (i * 3) Y).take ((n + 1) * 3) = X ++ (Y ++ C) ∧ (splice (splice cur (i * 3) Y) ((i + 1) * 3) C).take ((n + 1) * 3) = X ++ (Y ++ C) := by
  subst hX
  have e2 : (i + 1) * 3 = i * 3 + 3 := by omega
  have h1 : (cur.take (i * 3)).length = i * 3 := by rw [List.length_take]; omega
  have h2 : (cur.take (i * 3 + 3)).length = i * 3 + 3 := by rw [List.length_take]; omega
  have fin : ∀ rest : List Value, (cur.take (i * 3) ++ (Y ++ (C ++ rest))).take ((n + 1) * 3) = cur.take (i * 3) ++ (Y ++ C) := fun rest => by
    rw [← List.append_assoc Y C rest, ← List.append_assoc]
    exact List.take_left' (by rw [List.length_append, List.length_append, h1, hY, hC]; omega)
  constructor
  · unfold splice
    rw [e2, hY]
    have h4 : ∀ R : List Value, (cur.take (i * 3 + 3) ++ R).take (i * 3) = cur.take (i * 3) := fun R => by
      rw [List.take_append_of_le_length (by omega), List.take_take, show min (i * 3) (i * 3 + 3) = i * 3 by omega]
    have h5 : ∀ R : List Value, (cur.take (i * 3 + 3) ++ R).drop (i * 3 + 3) = R := fun R => by
      rw [List.drop_append, List.drop_eq_nil_of_le (by omega), h2, Nat.sub_self, List.drop_zero, List.nil_append]
    rw [h4, h5]
    exact fin _
  · unfold splice
    rw [e2, hY]
    have h3 : (cur.take (i * 3) ++ (Y ++ cur.drop (i * 3 + 3))).take (i * 3 + 3) = cur.take (i * 3) ++ Y := by
      rw [← List.append_assoc]
      exact List.take_left' (by rw [List.length_append, h1, hY])
    rw [h3, List.append_assoc]
    exact fin _
end Go.Proofs.Ytmmjbobicnmilaa.Ext
