/- Keys taken out of a map; contracts out of plain calls. -/
import Derived.Test.YtedgkcdofiildaaSl17
set_option linter.unusedVariables false
set_option linter.unusedSimpArgs false
set_option linter.unnecessarySimpa false
set_option linter.deprecated false
namespace Go.Proofs.Ytedgkcdofiildaa.Sl
open Go Go.RowKit Go.WideMaps Go.Maps
section
variable {P : Program} {n d : Nat} {ty t t' : TypeId} {pos : String} {af : Array Edge} {g : Option (Nat × Bool)} {N : Ent → Prop}
theorem op_delete {α : Type} {kt : TypeId} {K : Kn α} {z : α} {m r : GM α} {s : ByteArray} {id : Nat} {o x : Operand} (hM : MT P t kt K z) (hr : gdel m s = some r) (ho : Arg N o (VA.mp false id)) (hm : N (Ent.h id (HE.map P kt K m))) (hx : Arg N x (VA.k kstr s)) :
    OpSpec P n ⟨none, .call { callee := .builtin .delete, args := #[o, x], argTypes := #[t, kt] }, ty, pos, af, g⟩ N [Ent.h id (HE.map P kt K r)] := by
  rintro c Γ a w Q rfl hN ⟨h1, h2, h3, θ, S, h4, h5⟩
  have hN2 := sems hN h5
  obtain ⟨_, _, e1⟩ := ho θ S a w hN2
  obtain ⟨_, hx'⟩ := hx θ S a w hN2
  obtain ⟨ob, ⟨rfl, hmap⟩, hav, h6⟩ := sat_take (hN _ hm) h5
  have hfree := hav _ rfl
  have e2 := k_str hx'
  have hmap' : MapS P kt K S w (θ id) m := hmap
  obtain ⟨w', hrun, hm', ht⟩ := hmap'.del hM hr hfree.1 ty
  have e1' : a.eval o = .map (some (θ id)) := e1
  have hrun' : ∃ v, (execOp a.eval ⟨none, .call { callee := .builtin .delete, args := #[o, x], argTypes := #[t, kt] }, ty, pos, af, g⟩).run P w = .ok (.value v) w' := by
    clear hN hN2 ho hx hx' e1 h1 h2 h5 h6
    generalize a.eval = ρ at *
    exact ⟨_, by simp [execOp, resolve, invoke, Deferred.ofValue, builtin, e1', e2, hrun, Sem.run_bind, Sem.run_pure, Result.andThen_ok]; rfl⟩
  obtain ⟨v, hrun'⟩ := hrun'
  unfold Oper.wp
  rw [hrun']
  exact inv_map h1 h2 h3 h4 hfree h6 ht hm'
end
/-- A contract out of what is known of a call that turns nothing. -/
theorem con_plain {P : Program} {f : FuncId} {As : List VA} {A : VA} (h : ∀ θ S w vs, argSat θ S w As vs → ∃ v, Calls P f vs.toArray w (fun e w' => e = .returned v ∧ w' = w) ∧ A.sem θ S none w v) : Con P f As [A] := fun θ S w vs hS ha => by
  obtain ⟨v, hc, hA⟩ := h θ S w vs ha
  refine hc.mono ?_
  rintro e w' ⟨rfl, rfl⟩
  refine ⟨[v], fun _ => False, rfl, Fr.refl _ _, fun b hb => hb.elim, none, ?_, fun b hb => (by cases hb), trivial⟩
  exact A.move hA (Agree.refl _ _) (fun b hb => .inl hb) (fun b hb => rfl) (fun k _ => rfl)
theorem arg_str {θ : Nat → Nat} {S : Blk} {w : World} {x : ByteArray} {v : Value} (h : (VA.k kstr x).sem θ S none w v) : v = .string x := by
  obtain ⟨_, cs, rfl, rfl⟩ := h; rfl
theorem arg_int {θ : Nat → Nat} {S : Blk} {w : World} {k : IntKind} {x : Int} {v : Value} (h : (VA.k (kint k) x).sem θ S none w v) : v = .int k x := by
  obtain ⟨_, cs, rfl, rfl⟩ := h; rfl
theorem va_int {θ : Nat → Nat} {S : Blk} {w : World} (k : IntKind) (x : Int) : (VA.k (kint k) x).sem θ S none w (.int k x) := ⟨rfl, _, rfl, rfl⟩
end Go.Proofs.Ytedgkcdofiildaa.Sl
