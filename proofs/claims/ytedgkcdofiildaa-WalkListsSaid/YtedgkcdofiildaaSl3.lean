/- Operations on memory: fields, boxes, elements, rows of the frame's own. -/
import Derived.Test.YtedgkcdofiildaaSl2
import Derived.Maps.AppendAt
import Derived.Laws.MakeOwn
set_option linter.unusedVariables false
set_option linter.unusedSimpArgs false
namespace Go.Proofs.Ytedgkcdofiildaa.Sl
open Go Go.RowKit
/-- Type t's values are of kind K. -/
structure TK {α : Type} (P : Program) (t : TypeId) (K : Kn α) : Prop where
  agg : ∀ w, (isAgg t).run P w = .ok K.agg w
  size : ∀ w, (sizeOf t).run P w = .ok K.sz w
  flat : K.agg = false → K.sz = 1
  pos : 0 < K.sz
def aggD : TypeDesc → Bool | .struct _ | .array _ _ => true | _ => false
theorem tk_of {α : Type} {P : Program} {t : TypeId} {K : Kn α} {d : TypeDesc} {i : TypeInfo} (h : P.underlying t = some d) (hi : P.info? t = some i) (ha : aggD d = K.agg) (hs : i.size = K.sz) (hf : K.agg = false → K.sz = 1) (hp : 0 < K.sz) : TK P t K where
  agg := fun w => by
    unfold isAgg
    rw [Sem.run_bind, run_underlying h, Result.andThen_ok, ← ha]
    cases d <;> rfl
  size := fun w => by
    unfold sizeOf typeInfo
    simp [Sem.run_bind, hi, hs]
  flat := hf
  pos := hp
/-- A part of a value, from cell off on. -/
structure Fld {α β : Type} (K : Kn α) (off : Nat) (K' : Kn β) (get : α → β) (set : α → β → α) : Prop where
  get : ∀ {S : Blk} {w : World} {x : α} {cs : List Value}, K.R S w x cs → K'.R S w (get x) ((cs.drop off).take K'.sz)
  set : ∀ {S : Blk} {w : World} {x : α} {cs : List Value} {y : β} {c : List Value}, K.R S w x cs → K'.R S w y c → K.R S w (set x y) (cs.take off ++ c ++ cs.drop (off + K'.sz))
  le : off + K'.sz ≤ K.sz
theorem Fld.whole {α : Type} (K : Kn α) : Fld K 0 K (fun x => x) (fun _ y => y) where
  get := fun {S w x cs} h => by rw [List.drop_zero, List.take_of_length_le (by rw [K.len h]; exact Nat.le_refl _)]; exact h
  set := fun {S w x cs y c} h h' => by
    have e : cs.drop (0 + K.sz) = [] := List.drop_eq_nil_of_le (by rw [K.len h]; omega)
    rw [e, List.take_zero, List.nil_append, List.append_nil]; exact h'
  le := by omega
theorem Fld.fst {α β : Type} (a : Kn α) (b : Kn β) : Fld (kpair a b) 0 a (·.1) (fun x y => (y, x.2)) where
  get := by
    rintro S w x cs ⟨c0, c1, rfl, h0, h1⟩
    rw [List.drop_zero, List.take_append_of_le_length (by rw [a.len h0]; exact Nat.le_refl _), List.take_of_length_le (by rw [a.len h0]; exact Nat.le_refl _)]
    exact h0
  set := by
    rintro S w x cs y c ⟨c0, c1, rfl, h0, h1⟩ hy
    refine ⟨c, c1, ?_, hy, h1⟩
    rw [List.take_zero, List.nil_append, Nat.zero_add, ← a.len h0, List.drop_left]
  le := by show 0 + a.sz ≤ a.sz + b.sz; omega
theorem drop_app (a b : List Value) (k : Nat) : (a ++ b).drop (a.length + k) = b.drop k := by
  rw [List.drop_append, List.drop_eq_nil_of_le (by omega), List.nil_append]; congr 1; omega
theorem take_app (a b : List Value) (k : Nat) : (a ++ b).take (a.length + k) = a ++ b.take k := by
  rw [List.take_append, List.take_of_length_le (by omega)]; congr 2; omega
theorem Fld.snd {α β γ : Type} {a : Kn α} {b : Kn β} {off : Nat} {K' : Kn γ} {get : β → γ} {set : β → γ → β} (h : Fld b off K' get set) : Fld (kpair a b) (a.sz + off) K' (fun x => get x.2) (fun x y => (x.1, set x.2 y)) where
  get := by
    rintro S w x cs ⟨c0, c1, rfl, h0, h1⟩
    have := h.get h1
    rw [show (c0 ++ c1).drop (a.sz + off) = c1.drop off by rw [← a.len h0, drop_app]]
    exact this
  set := by
    rintro S w x cs y c ⟨c0, c1, rfl, h0, h1⟩ hy
    refine ⟨c0, _, ?_, h0, h.set h1 hy⟩
    rw [show (c0 ++ c1).take (a.sz + off) = c0 ++ c1.take off by rw [← a.len h0, take_app], show (c0 ++ c1).drop (a.sz + off + K'.sz) = c1.drop (off + K'.sz) by rw [← a.len h0, Nat.add_assoc, drop_app]]
    simp
  le := by have := h.le; show a.sz + off + K'.sz ≤ a.sz + b.sz; omega
theorem Fld.iso {α β γ : Type} {d : Kn α} {f : β → α} {off : Nat} {K' : Kn γ} {get : α → γ} {set : α → γ → α} (h : Fld d off K' get set) (get' : β → γ) (set' : β → γ → β) (hg : ∀ x, get (f x) = get' x) (hs : ∀ x y, f (set' x y) = set (f x) y) : Fld (kiso d f) off K' get' set' where
  get := fun {S w x cs} hx => by
    have h1 : d.R S w (f x) cs := hx
    have := h.get h1
    rw [hg] at this; exact this
  set := fun {S w x cs y c} hx hy => by
    have h1 : d.R S w (f x) cs := hx
    have := h.set h1 hy
    rw [← hs] at this; exact this
  le := h.le
/-- A part of a part. -/
theorem Fld.comp {α β γ : Type} {K : Kn α} {o1 : Nat} {K1 : Kn β} {g1 : α → β} {s1 : α → β → α} {o2 : Nat} {K2 : Kn γ} {g2 : β → γ} {s2 : β → γ → β} (h1 : Fld K o1 K1 g1 s1) (h2 : Fld K1 o2 K2 g2 s2) : Fld K (o1 + o2) K2 (fun x => g2 (g1 x)) (fun x y => s1 x (s2 (g1 x) y)) where
  get := fun {S w x cs} h => by
    have := h2.get (h1.get h)
    have hl := K.len h
    have l1 := h1.le
    have l2 := h2.le
    rw [List.drop_take, List.drop_drop, List.take_take, Nat.min_eq_left (by omega)] at this
    exact this
  set := fun {S w x cs y c} h hy => by
    have := h1.set h (h2.set (h1.get h) hy)
    have hl := K.len h
    have hc := K2.len hy
    have l1 := h1.le
    have l2 := h2.le
    have e : cs.take o1 ++ (((cs.drop o1).take K1.sz).take o2 ++ c ++ ((cs.drop o1).take K1.sz).drop (o2 + K2.sz)) ++ cs.drop (o1 + K1.sz) = cs.take (o1 + o2) ++ c ++ cs.drop (o1 + o2 + K2.sz) := by
      rw [List.take_take, Nat.min_eq_left (by omega), List.drop_take, List.drop_drop, List.take_add]
      have e2 : ((cs.drop (o1 + (o2 + K2.sz))).take (K1.sz - (o2 + K2.sz))) ++ cs.drop (o1 + K1.sz) = cs.drop (o1 + o2 + K2.sz) := by
        rw [show cs.drop (o1 + K1.sz) = (cs.drop (o1 + (o2 + K2.sz))).drop (K1.sz - (o2 + K2.sz)) by rw [List.drop_drop]; congr 1; omega, List.take_append_drop, Nat.add_assoc]
      simp only [List.append_assoc]
      rw [e2]
    rw [e] at this
    exact this
  le := by have := h1.le; have := h2.le; omega
theorem k_cells {α : Type} {K : Kn α} {θ : Nat → Nat} {S : Blk} {ob : Option Nat} {w : World} {x : α} {v : Value} (h : (VA.k K x).sem θ S ob w v) (hf : K.agg = false → K.sz = 1) : ∃ cs, K.R S w x cs ∧ v = K.mk_ cs ∧ v.cells.toList = cs := by
  obtain ⟨_, cs, h1, rfl⟩ := h
  refine ⟨cs, h1, rfl, ?_⟩
  have hl := K.len h1
  have ho := K.one h1
  unfold Kn.mk_
  cases hk : K.agg with
  | true => simp [Value.cells]
  | false =>
    rw [hf hk] at hl
    match cs, hl, ho with
    | [u], _, ho =>
      have h2 := ho u (by simp)
      cases u <;> simp_all [Value.cells, Value.oneCell']
theorem run_part {α : Type} {P : Program} {t : TypeId} {K : Kn α} (hk : TK P t K) {S : Blk} {w w' : World} {y : α} {cs : List Value} {off : Nat} (h : K.R S w' y ((cs.drop off).take K.sz)) (hle : off + K.sz ≤ cs.length) :
    (part t cs.toArray off).run P w = .ok (K.mk_ ((cs.drop off).take K.sz)) w := by
  unfold part Kn.mk_
  cases ha : K.agg with
  | true =>
    have e : cs.toArray.extract off (off + K.sz) = ((cs.drop off).take K.sz).toArray := by
      simp [List.extract_toArray]
    simp [Sem.run_bind, hk.agg, hk.size, ha, e]
  | false =>
    have h1 := hk.flat ha
    rw [h1] at h hle ⊢
    have e : cs.toArray[off]? = some (cs[off]'(by omega)) := by simp
    have e2 : ((cs.drop off).take 1) = [cs[off]'(by omega)] := by
      rw [List.take_one, List.head?_drop, List.getElem?_eq_getElem (by omega)]
      rfl
    simp [Sem.run_bind, hk.agg, ha, e, e2]
section
variable {P : Program} {n d : Nat} {ty t t' : TypeId} {pos : String} {af : Array Edge} {g : Option (Nat × Bool)} {N : Ent → Prop}
theorem op_field {α β : Type} {K : Kn α} {K' : Kn β} {x : α} {get : α → β} {set : α → β → α} {o : Operand} {fs : Array Field} {f : Field} {j : Nat} (hd : Nat.blt d n = true) (ha : K.agg = true)
    (hF : Fld K f.offset K' get set) (hk : TK P f.type K') (hu : P.underlying t = some (.struct fs)) (hf : fs[j]? = some f) (hx : Arg N o (VA.k K x)) :
    OpSpec P n ⟨some d, .field t o j, ty, pos, af, g⟩ N [Ent.t d (VA.k K' (get x))] := op_pure hd fun θ S act w hN => by
  obtain ⟨_, h1⟩ := hx θ S act w hN
  obtain ⟨_, cs, hr, e1⟩ := h1
  have e2 : act.eval o = .agg cs.toArray := by rw [e1]; unfold Kn.mk_; rw [ha]
  have hl := K.len hr
  have hg := hF.get hr
  have hp := run_part (w := w) hk hg (by rw [hl]; exact hF.le)
  refine ⟨_, ?_, rfl, _, hg, rfl⟩
  clear hx hN e1
  generalize act.eval = ρ at *
  simp [execOp, Instr.field, e2, run_underlying hu, hf, asAgg, hp, Sem.run_bind, Sem.run_pure, Result.andThen_ok]
end
end Go.Proofs.Ytedgkcdofiildaa.Sl
