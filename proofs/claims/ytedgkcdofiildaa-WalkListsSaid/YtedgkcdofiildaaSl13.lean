/- Texts put together; division; the greater of two. -/
import Derived.Test.YtedgkcdofiildaaSl12
set_option linter.unusedVariables false
set_option linter.unusedSimpArgs false
namespace Go.Proofs.Ytedgkcdofiildaa.Sl
open Go Go.RowKit
def divok (y : Int) : Option Unit := if y = 0 then none else some ()
theorem divok_spec {y : Int} {z : Unit} (h : divok y = some z) : y ≠ 0 := by
  unfold divok at h
  split at h
  · cases h
  · assumption
def cat (x y : ByteArray) : Option ByteArray := if x.size + y.size ≤ 9223372036854775807 then some (x ++ y) else none
def imax2 (x y : Int) : Int := if y > x then y else x
def imin2 (x y : Int) : Int := if y < x then y else x
section
variable {P : Program} {n d : Nat} {ty t t' : TypeId} {pos : String} {af : Array Edge} {g : Option (Nat × Bool)} {N : Ent → Prop}
theorem op_cat {a b r : ByteArray} {x y : Operand} (hd : Nat.blt d n = true) (hr : cat a b = some r) (hx : Arg N x (VA.k kstr a)) (hy : Arg N y (VA.k kstr b)) :
    OpSpec P n ⟨some d, .binOp .add t x y t', ty, pos, af, g⟩ N [Ent.t d (VA.k kstr r)] := op_pure hd fun θ S act w hN => by
  obtain ⟨_, h1⟩ := hx θ S act w hN
  obtain ⟨_, h2⟩ := hy θ S act w hN
  unfold cat at hr
  split at hr
  · rename_i hle
    cases hr
    refine ⟨_, ?_, mk_str _ _ _ _⟩
    have e1 := k_str h1
    have e2 := k_str h2
    clear h1 h2 hx hy hN
    generalize act.eval = ρ at *
    have hm : ¬ (((a.size + b.size : Nat) : Int) > IntKind.i64.max) := by
      show ¬ (((a.size + b.size : Nat) : Int) > 2 ^ 63 - 1)
      omega
    simp only [execOp, e1, e2, guard_str, binOp, Op.stringOp, hm, if_false, Sem.run_bind, Sem.run_pure, Result.andThen_ok]
  · cases hr
theorem op_max2 {k : IntKind} {a b : Int} {x y : Operand} {at_ : Array TypeId} (hd : Nat.blt d n = true) (hx : Arg N x (VA.k (kint k) a)) (hy : Arg N y (VA.k (kint k) b)) :
    OpSpec P n ⟨some d, .call { callee := .builtin .max, args := #[x, y], argTypes := at_ }, ty, pos, af, g⟩ N [Ent.t d (VA.k (kint k) (imax2 a b))] := op_pure hd fun θ S act w hN => by
  obtain ⟨_, h1⟩ := hx θ S act w hN
  obtain ⟨_, h2⟩ := hy θ S act w hN
  refine ⟨_, ?_, mk_int _ _ _ _ _⟩
  have e1 := k_int h1
  have e2 := k_int h2
  clear h1 h2 hx hy hN
  generalize act.eval = ρ at *
  simp [execOp, resolve, invoke, builtin, Builtin.max_, Builtin.max2, e1, e2, imax2, Sem.run_bind, Sem.run_pure, Result.andThen_ok]
end
end Go.Proofs.Ytedgkcdofiildaa.Sl
