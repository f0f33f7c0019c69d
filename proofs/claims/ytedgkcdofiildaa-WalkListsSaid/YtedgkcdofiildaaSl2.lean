/- Operations that only compute: numbers, truth values, texts. -/
import Derived.Test.YtedgkcdofiildaaSl1
import Derived.Laws.OwnMore
import Derived.Laws.StructEq
set_option linter.unusedVariables false
set_option linter.unusedSimpArgs false
namespace Go.Proofs.Ytedgkcdofiildaa.Sl
open Go Go.RowKit
theorem k_int {θ : Nat → Nat} {S : Blk} {ob : Option Nat} {w : World} {v : Value} {k : IntKind} {x : Int} (h : (VA.k (kint k) x).sem θ S ob w v) : v = .int k x := by
  obtain ⟨_, cs, rfl, rfl⟩ := h; rfl
theorem k_bool {θ : Nat → Nat} {S : Blk} {ob : Option Nat} {w : World} {v : Value} {x : Bool} (h : (VA.k kbool x).sem θ S ob w v) : v = .bool x := by
  obtain ⟨_, cs, rfl, rfl⟩ := h; rfl
theorem k_str {θ : Nat → Nat} {S : Blk} {ob : Option Nat} {w : World} {v : Value} {x : ByteArray} (h : (VA.k kstr x).sem θ S ob w v) : v = .string x := by
  obtain ⟨_, cs, rfl, rfl⟩ := h; rfl
theorem mk_int (θ : Nat → Nat) (S : Blk) (w : World) (k : IntKind) (x : Int) : (VA.k (kint k) x).sem θ S none w (.int k x) := ⟨rfl, _, rfl, rfl⟩
theorem mk_bool (θ : Nat → Nat) (S : Blk) (w : World) (x : Bool) : (VA.k kbool x).sem θ S none w (.bool x) := ⟨rfl, _, rfl, rfl⟩
theorem mk_str (θ : Nat → Nat) (S : Blk) (w : World) (x : ByteArray) : (VA.k kstr x).sem θ S none w (.string x) := ⟨rfl, _, rfl, rfl⟩
theorem bind_some {α β : Type} {o : Option α} {f : α → Option β} {r : β} (h : o.bind f = some r) : ∃ x, o = some x ∧ f x = some r := Option.bind_eq_some_iff.mp h
/-- x[i], where there is one. -/
def idx {α : Type} (l : List α) (i : Int) : Option α := if i < 0 then none else l[i.toNat]?
def bidx (s : ByteArray) (i : Int) : Option Int := if i < 0 then none else (s.data.toList[i.toNat]?).map fun b => (b.toNat : Int)
theorem binOp_bool_eq (t : TypeId) (a b : Bool) : binOp .eql t (.bool a) (.bool b) = (do pure (.bool (← Op.equal t (.bool a) (.bool b)))) := rfl
theorem binOp_bool_ne (t : TypeId) (a b : Bool) : binOp .neq t (.bool a) (.bool b) = (do pure (.bool (!(← Op.equal t (.bool a) (.bool b))))) := rfl
theorem run_eqIn_bool {P : Program} (d : Nat) {t : TypeId} (ht : P.underlying t = some .bool) (w : World) (a b : Bool) : (Op.equalIn (d + 1) t (.bool a) (.bool b)).run P w = .ok (a == b) w := by
  simp only [Op.equalIn, Sem.run_bind, run_underlying ht, Result.andThen_ok]
  rfl
theorem run_eq_bool {P : Program} {t : TypeId} (ht : P.underlying t = some .bool) (w : World) (a b : Bool) : (Op.equalIn 10000 t (.bool a) (.bool b)).run P w = .ok (a == b) w := run_eqIn_bool 9999 ht w a b
theorem guard_int (op : BinOp) (t : TypeId) (x y : Operand) (k k' : IntKind) (a b : Int) : eqGuard op t x y (.int k a) (.int k' b) = pure () := by cases op <;> rfl
theorem guard_str (op : BinOp) (t : TypeId) (x y : Operand) (a b : ByteArray) : eqGuard op t x y (.string a) (.string b) = pure () := by cases op <;> rfl
theorem guard_bool (op : BinOp) (t : TypeId) (x y : Operand) (a b : Bool) : eqGuard op t x y (.bool a) (.bool b) = pure () := by cases op <;> rfl
section
variable {P : Program} {n d : Nat} {ty t t' : TypeId} {pos : String} {af : Array Edge} {g : Option (Nat × Bool)} {N : Ent → Prop}
def icmp (op : BinOp) (x y : Int) : Bool := match op with
  | .eql => x == y | .neq => x != y | .lss => decide (x < y) | .leq => decide (x ≤ y) | .gtr => decide (x > y) | _ => decide (x ≥ y)
def isCmp (op : BinOp) : Bool := match op with | .eql | .neq | .lss | .leq | .gtr | .geq => true | _ => false
theorem op_icmp {op : BinOp} {k : IntKind} {a b : Int} {x y : Operand} (hd : Nat.blt d n = true) (hop : isCmp op = true) (hx : Arg N x (VA.k (kint k) a)) (hy : Arg N y (VA.k (kint k) b)) :
    OpSpec P n ⟨some d, .binOp op t x y t', ty, pos, af, g⟩ N [Ent.t d (VA.k kbool (icmp op a b))] := op_pure hd fun θ S act w hN => by
  obtain ⟨_, h1⟩ := hx θ S act w hN
  obtain ⟨_, h2⟩ := hy θ S act w hN
  refine ⟨_, ?_, mk_bool _ _ _ _⟩
  have e1 := k_int h1
  have e2 := k_int h2
  clear h1 h2 hx hy hN
  generalize act.eval = ρ at *
  cases op <;> simp only [isCmp, Bool.false_eq_true] at hop <;> simp [execOp, e1, e2, guard_int, binOp, Op.intCmp, icmp, go_sem]
theorem op_add {k : IntKind} {a b : Int} {x y : Operand} (hd : Nat.blt d n = true) (hx : Arg N x (VA.k (kint k) a)) (hy : Arg N y (VA.k (kint k) b)) :
    OpSpec P n ⟨some d, .binOp .add t x y t', ty, pos, af, g⟩ N [Ent.t d (VA.k (kint k) (k.wrap (a + b)))] := op_pure hd fun θ S act w hN => by
  obtain ⟨_, h1⟩ := hx θ S act w hN
  obtain ⟨_, h2⟩ := hy θ S act w hN
  refine ⟨_, ?_, mk_int _ _ _ _ _⟩
  have e1 := k_int h1
  have e2 := k_int h2
  generalize act.eval = ρ at *
  simp [execOp, e1, e2, guard_int, binOp, Op.intArith, go_sem]
theorem op_sub {k : IntKind} {a b : Int} {x y : Operand} (hd : Nat.blt d n = true) (hx : Arg N x (VA.k (kint k) a)) (hy : Arg N y (VA.k (kint k) b)) :
    OpSpec P n ⟨some d, .binOp .sub t x y t', ty, pos, af, g⟩ N [Ent.t d (VA.k (kint k) (k.wrap (a - b)))] := op_pure hd fun θ S act w hN => by
  obtain ⟨_, h1⟩ := hx θ S act w hN
  obtain ⟨_, h2⟩ := hy θ S act w hN
  refine ⟨_, ?_, mk_int _ _ _ _ _⟩
  have e1 := k_int h1
  have e2 := k_int h2
  generalize act.eval = ρ at *
  simp [execOp, e1, e2, guard_int, binOp, Op.intArith, go_sem]
theorem op_mul {k : IntKind} {a b : Int} {x y : Operand} (hd : Nat.blt d n = true) (hx : Arg N x (VA.k (kint k) a)) (hy : Arg N y (VA.k (kint k) b)) :
    OpSpec P n ⟨some d, .binOp .mul t x y t', ty, pos, af, g⟩ N [Ent.t d (VA.k (kint k) (k.wrap (a * b)))] := op_pure hd fun θ S act w hN => by
  obtain ⟨_, h1⟩ := hx θ S act w hN
  obtain ⟨_, h2⟩ := hy θ S act w hN
  refine ⟨_, ?_, mk_int _ _ _ _ _⟩
  have e1 := k_int h1
  have e2 := k_int h2
  generalize act.eval = ρ at *
  simp [execOp, e1, e2, guard_int, binOp, Op.intArith, go_sem]
theorem op_rem {k : IntKind} {a b : Int} {x y : Operand} (hd : Nat.blt d n = true) (hb : b ≠ 0) (hx : Arg N x (VA.k (kint k) a)) (hy : Arg N y (VA.k (kint k) b)) :
    OpSpec P n ⟨some d, .binOp .rem t x y t', ty, pos, af, g⟩ N [Ent.t d (VA.k (kint k) (a.tmod b))] := op_pure hd fun θ S act w hN => by
  obtain ⟨_, h1⟩ := hx θ S act w hN
  obtain ⟨_, h2⟩ := hy θ S act w hN
  refine ⟨_, ?_, mk_int _ _ _ _ _⟩
  have e1 := k_int h1
  have e2 := k_int h2
  generalize act.eval = ρ at *
  simp [execOp, e1, e2, guard_int, binOp, Op.intDiv, hb, go_sem]
theorem op_quo {k : IntKind} {a b : Int} {x y : Operand} (hd : Nat.blt d n = true) (hb : b ≠ 0) (hx : Arg N x (VA.k (kint k) a)) (hy : Arg N y (VA.k (kint k) b)) :
    OpSpec P n ⟨some d, .binOp .quo t x y t', ty, pos, af, g⟩ N [Ent.t d (VA.k (kint k) (k.wrap (a.tdiv b)))] := op_pure hd fun θ S act w hN => by
  obtain ⟨_, h1⟩ := hx θ S act w hN
  obtain ⟨_, h2⟩ := hy θ S act w hN
  refine ⟨_, ?_, mk_int _ _ _ _ _⟩
  have e1 := k_int h1
  have e2 := k_int h2
  generalize act.eval = ρ at *
  simp [execOp, e1, e2, guard_int, binOp, Op.intDiv, hb, go_sem]
/-- Texts compared. -/
def scmp (op : BinOp) (x y : ByteArray) : Bool := match op with
  | .eql => decide (x = y) | .neq => !decide (x = y) | .lss => Op.bytesLess x.toList y.toList | .leq => Op.bytesLess x.toList y.toList || decide (x = y) | .gtr => !(Op.bytesLess x.toList y.toList || decide (x = y)) | _ => !Op.bytesLess x.toList y.toList
theorem scmp_eq (x y : ByteArray) : (x.toList == y.toList) = decide (x = y) := by
  rw [← beq_toListBytes, Bool.eq_iff_iff, decide_eq_true_iff]
  constructor
  · intro h
    rw [beq_toListBytes, beq_iff_eq, ByteArray.toList_eq, ByteArray.toList_eq] at h
    cases x; cases y
    simp only at h
    congr 1
    exact Array.toList_inj.1 h
  · rintro rfl
    rw [beq_toListBytes]; simp
theorem op_scmp {op : BinOp} {a b : ByteArray} {x y : Operand} (hd : Nat.blt d n = true) (hop : isCmp op = true) (hx : Arg N x (VA.k kstr a)) (hy : Arg N y (VA.k kstr b)) :
    OpSpec P n ⟨some d, .binOp op t x y t', ty, pos, af, g⟩ N [Ent.t d (VA.k kbool (scmp op a b))] := op_pure hd fun θ S act w hN => by
  obtain ⟨_, h1⟩ := hx θ S act w hN
  obtain ⟨_, h2⟩ := hy θ S act w hN
  refine ⟨_, ?_, mk_bool _ _ _ _⟩
  have e1 := k_str h1
  have e2 := k_str h2
  have e3 := scmp_eq a b
  clear h1 h2 hx hy hN
  generalize act.eval = ρ at *
  cases op <;> simp only [isCmp, Bool.false_eq_true] at hop <;> simp [execOp, e1, e2, guard_str, binOp, Op.stringOp, scmp, e3, go_sem, bne]
theorem op_beq {a b : Bool} {x y : Operand} (hd : Nat.blt d n = true) (ht : P.underlying t = some .bool) (hx : Arg N x (VA.k kbool a)) (hy : Arg N y (VA.k kbool b)) :
    OpSpec P n ⟨some d, .binOp .eql t x y t', ty, pos, af, g⟩ N [Ent.t d (VA.k kbool (a == b))] := op_pure hd fun θ S act w hN => by
  obtain ⟨_, h1⟩ := hx θ S act w hN
  obtain ⟨_, h2⟩ := hy θ S act w hN
  refine ⟨_, ?_, mk_bool _ _ _ _⟩
  have e1 := k_bool h1
  have e2 := k_bool h2
  clear h1 h2 hx hy hN
  generalize act.eval = ρ at *
  simp [execOp, e1, e2, guard_bool, binOp_bool_eq, binOp_bool_ne, run_eq_bool ht, Op.equal, Op.maxDepth, go_sem]
theorem op_bne {a b : Bool} {x y : Operand} (hd : Nat.blt d n = true) (ht : P.underlying t = some .bool) (hx : Arg N x (VA.k kbool a)) (hy : Arg N y (VA.k kbool b)) :
    OpSpec P n ⟨some d, .binOp .neq t x y t', ty, pos, af, g⟩ N [Ent.t d (VA.k kbool (!(a == b)))] := op_pure hd fun θ S act w hN => by
  obtain ⟨_, h1⟩ := hx θ S act w hN
  obtain ⟨_, h2⟩ := hy θ S act w hN
  refine ⟨_, ?_, mk_bool _ _ _ _⟩
  have e1 := k_bool h1
  have e2 := k_bool h2
  clear h1 h2 hx hy hN
  generalize act.eval = ρ at *
  simp [execOp, e1, e2, guard_bool, binOp_bool_eq, binOp_bool_ne, run_eq_bool ht, Op.equal, Op.maxDepth, go_sem]
theorem op_not {a : Bool} {x : Operand} (hd : Nat.blt d n = true) (hx : Arg N x (VA.k kbool a)) :
    OpSpec P n ⟨some d, .unOp .not t x, ty, pos, af, g⟩ N [Ent.t d (VA.k kbool (!a))] := op_pure hd fun θ S act w hN => by
  obtain ⟨_, h1⟩ := hx θ S act w hN
  refine ⟨_, ?_, mk_bool _ _ _ _⟩
  have e1 := k_bool h1
  clear h1 hx hN
  generalize act.eval = ρ at *
  simp [execOp, e1, Op.unary, go_sem]
theorem op_neg {k : IntKind} {a : Int} {x : Operand} (hd : Nat.blt d n = true) (hx : Arg N x (VA.k (kint k) a)) :
    OpSpec P n ⟨some d, .unOp .neg t x, ty, pos, af, g⟩ N [Ent.t d (VA.k (kint k) (k.wrap (0 - a)))] := op_pure hd fun θ S act w hN => by
  obtain ⟨_, h1⟩ := hx θ S act w hN
  refine ⟨_, ?_, mk_int _ _ _ _ _⟩
  have e1 := k_int h1
  clear h1 hx hN
  generalize act.eval = ρ at *
  simp [execOp, e1, Op.unary, Op.intArith, go_sem]
/-- A value handed on. A row of the frame's own is not handed on so. -/
theorem op_move {α : Type} {K : Kn α} {a : α} {x : Operand} (hd : Nat.blt d n = true) (hx : Arg N x (VA.k K a)) :
    OpSpec P n ⟨some d, .move x, ty, pos, af, g⟩ N [Ent.t d (VA.k K a)] := op_pure hd fun θ S act w hN => by
  obtain ⟨_, h1⟩ := hx θ S act w hN
  exact ⟨act.eval x, rfl, rfl, h1.2⟩
theorem op_assign {α : Type} {K : Kn α} {a : α} {x : Operand} (hd : Nat.blt d n = true) (hx : Arg N x (VA.k K a)) :
    OpSpec P n ⟨some d, .assign x, ty, pos, af, g⟩ N [Ent.t d (VA.k K a)] := op_pure hd fun θ S act w hN => by
  obtain ⟨_, h1⟩ := hx θ S act w hN
  exact ⟨act.eval x, rfl, rfl, h1.2⟩
/-- What holds of a value without a block of its own. -/
def Plain (A : VA) : Prop := ∀ {θ : Nat → Nat} {S : Blk} {ob : Option Nat} {w : World} {v : Value}, A.sem θ S ob w v → ob = none
theorem op_moveA {A : VA} {x : Operand} (hd : Nat.blt d n = true) (hp : Plain A) (hx : Arg N x A) :
    OpSpec P n ⟨some d, .move x, ty, pos, af, g⟩ N [Ent.t d A] := op_pure hd fun θ S act w hN => by
  obtain ⟨ob, h1⟩ := hx θ S act w hN
  obtain rfl := hp h1
  exact ⟨act.eval x, rfl, h1⟩
theorem op_assignA {A : VA} {x : Operand} (hd : Nat.blt d n = true) (hp : Plain A) (hx : Arg N x A) :
    OpSpec P n ⟨some d, .assign x, ty, pos, af, g⟩ N [Ent.t d A] := op_pure hd fun θ S act w hN => by
  obtain ⟨ob, h1⟩ := hx θ S act w hN
  obtain rfl := hp h1
  exact ⟨act.eval x, rfl, h1⟩
theorem op_pick {α : Type} {K : Kn α} {b : Bool} {a r : α} {x y z : Operand} (hd : Nat.blt d n = true) (hx : Arg N x (VA.k kbool b)) (hy : b = true → Arg N y (VA.k K a)) (hz : b = false → Arg N z (VA.k K r)) :
    OpSpec P n ⟨some d, .pick x y z, ty, pos, af, g⟩ N [Ent.t d (VA.k K (cond b a r))] := op_pure hd fun θ S act w hN => by
  obtain ⟨_, h1⟩ := hx θ S act w hN
  have e1 := k_bool h1
  cases b with
  | true =>
    obtain ⟨_, h2⟩ := hy rfl θ S act w hN
    exact ⟨act.eval y, by clear h1 h2 hx hy hz hN; generalize act.eval = ρ at *; simp [execOp, e1, go_sem], rfl, h2.2⟩
  | false =>
    obtain ⟨_, h2⟩ := hz rfl θ S act w hN
    exact ⟨act.eval z, by clear h1 h2 hx hy hz hN; generalize act.eval = ρ at *; simp [execOp, e1, go_sem], rfl, h2.2⟩
/-- A number as one of another kind. -/
theorem op_conv {k k' : IntKind} {a : Int} {x : Operand} (hd : Nat.blt d n = true) (ht : P.underlying t = some (.int k)) (ht' : P.underlying t' = some (.int k')) (hx : Arg N x (VA.k (kint k) a)) :
    OpSpec P n ⟨some d, .convert t t' x, ty, pos, af, g⟩ N [Ent.t d (VA.k (kint k') (k'.wrap a))] := op_pure hd fun θ S act w hN => by
  obtain ⟨_, h1⟩ := hx θ S act w hN
  refine ⟨_, ?_, mk_int _ _ _ _ _⟩
  have e1 := k_int h1
  clear h1 hx hN
  generalize act.eval = ρ at *
  simp [execOp, e1, convert, Conv.intToInt, run_underlying ht, run_underlying ht', go_sem]
theorem op_len_str {a : ByteArray} {x : Operand} {at_ : Array TypeId} (hd : Nat.blt d n = true) (h0 : at_[0]? = some t) (ht : P.underlying t = some .string) (hx : Arg N x (VA.k kstr a)) :
    OpSpec P n ⟨some d, .call { callee := .builtin .len, args := #[x], argTypes := at_ }, ty, pos, af, g⟩ N [Ent.t d (VA.k (kint .i64) (a.size : Int))] := op_pure hd fun θ S act w hN => by
  obtain ⟨_, h1⟩ := hx θ S act w hN
  refine ⟨_, ?_, mk_int _ _ _ _ _⟩
  have e1 := k_str h1
  clear h1 hx hN
  generalize act.eval = ρ at *
  simp [execOp, resolve, invoke, builtin, Builtin.len_, e1, h0, run_underlying ht, go_sem, goInt]
theorem op_index_str {a : ByteArray} {i r : Int} {x y : Operand} (hd : Nat.blt d n = true) (ht : P.underlying t = some .string) (hi : bidx a i = some r) (hx : Arg N x (VA.k kstr a)) (hy : Arg N y (VA.k (kint .i64) i)) :
    OpSpec P n ⟨some d, .index t x y, ty, pos, af, g⟩ N [Ent.t d (VA.k (kint .u8) r)] := op_pure hd fun θ S act w hN => by
  obtain ⟨_, h1⟩ := hx θ S act w hN
  obtain ⟨_, h2⟩ := hy θ S act w hN
  refine ⟨_, ?_, mk_int _ _ _ _ _⟩
  unfold bidx at hi
  split at hi
  · cases hi
  · rename_i h0
    obtain ⟨b, hb, rfl⟩ := Option.map_eq_some_iff.1 hi
    have hb' : a[i.toNat]? = some b := by
      rw [← hb]
      have : a.data.toList[i.toNat]? = a.data[i.toNat]? := by simp
      rw [this]
      rfl
    have h0' : 0 ≤ i := by omega
    have e1 := k_str h1
    have e2 := k_int h2
    clear h1 h2 hx hy hN
    generalize act.eval = ρ at *
    simp [execOp, Instr.index, e1, e2, run_underlying ht, h0', hb', asIntOf, go_sem]
end
end Go.Proofs.Ytedgkcdofiildaa.Sl
