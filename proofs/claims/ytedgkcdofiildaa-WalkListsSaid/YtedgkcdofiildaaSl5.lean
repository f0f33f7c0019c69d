/- Boxes written; elements of rows that are read; lengths; parts of rows. -/
import Derived.Test.YtedgkcdofiildaaSl4
set_option linter.unusedVariables false
set_option linter.unusedSimpArgs false
namespace Go.Proofs.Ytedgkcdofiildaa.Sl
open Go Go.RowKit
/-- A pointer to something that is only read. -/
def VA.pt {α : Type} (K : Kn α) (y : α) : VA where
  ids := []
  sem := fun _ S ob w v => ob = none ∧ ∃ ad, v = .pointer (some ad) ∧ S ad.block ∧ ∃ cs, K.R S w y cs ∧ ∀ i u, cs[i]? = some u → w.cell? (ad.add i) = some u
  move := by
    rintro θ θ' S S' ob w w' v ⟨h0, ad, h1, h2, cs, h3, h4⟩ hA hS _ _
    refine ⟨h0, ad, h1, hS _ h2, cs, K.move h3 hA hS, fun i u hi => ?_⟩
    rw [World.cell?_of_block (w := w) (w' := w') (by rw [show (ad.add i).block = ad.block by unfold Addr.add; split <;> rfl]; exact hA _ h2)]
    exact h4 i u hi
section
variable {P : Program} {n d : Nat} {ty t t' : TypeId} {pos : String} {af : Array Edge} {g : Option (Nat × Bool)} {N : Ent → Prop}
theorem op_loadp {α : Type} {K : Kn α} {x : α} {o : Operand} (hd : Nat.blt d n = true) (hk : TK P t K) (hp : Arg N o (VA.pt K x)) :
    OpSpec P n ⟨some d, .load t o, ty, pos, af, g⟩ N [Ent.t d (VA.k K x)] := op_pure hd fun θ S act w hN => by
  obtain ⟨_, _, ad, e1, _, cs, hr, hc⟩ := hp θ S act w hN
  have hl := run_loadVar_at (w := w) (ad := ad) hk (K.len hr) hc
  refine ⟨_, ?_, rfl, _, hr, rfl⟩
  clear hp hN
  generalize act.eval = ρ at *
  simp [execOp, Instr.loadAt, Instr.sureAddr, e1, hl, Sem.run_bind, Sem.run_pure, Result.andThen_ok]
theorem op_fieldAddrp {α β : Type} {K : Kn α} {K' : Kn β} {x : α} {get : α → β} {set : α → β → α} {o : Operand} {fs : Array Field} {f : Field} {j : Nat} (hd : Nat.blt d n = true) (hF : Fld K f.offset K' get set) (hu : P.underlying t = some (.struct fs)) (hf : fs[j]? = some f) (hk : TK P f.type K') (hp : Arg N o (VA.pt K x)) :
    OpSpec P n ⟨some d, .fieldAddr t o j, ty, pos, af, g⟩ N [Ent.t d (VA.pt K' (get x))] := op_pure hd fun θ S act w hN => by
  obtain ⟨_, _, ad, e1, hs, cs, hr, hc⟩ := hp θ S act w hN
  have hpos := hk.pos
  have hl := K.len hr
  refine ⟨.pointer (some (ad.add f.offset)), ?_, rfl, ad.add f.offset, rfl, ?_, _, hF.get hr, fun i u hu => ?_⟩
  · clear hp hN
    generalize act.eval = ρ at *
    simp [execOp, Instr.fieldAt, Instr.sureAddr, e1, run_underlying hu, hf, fieldPlace, hk.size, Nat.pos_iff_ne_zero.1 hpos, Sem.run_bind, Sem.run_pure, Result.andThen_ok]
  · rw [show (ad.add f.offset).block = ad.block by unfold Addr.add; split <;> rfl]; exact hs
  · rw [Addr.add_add]
    refine hc _ _ ?_
    rw [List.getElem?_take] at hu
    split at hu
    · rw [List.getElem?_drop] at hu; exact hu
    · cases hu
theorem k_slice {α : Type} {K : Kn α} {θ : Nat → Nat} {S : Blk} {ob : Option Nat} {w : World} {xs : List α} {v : Value} (h : (VA.k (kslice K) xs).sem θ S ob w v) : ∃ A c, v = .slice A xs.length c ∧ xs.length ≤ c ∧ c ≤ maxLen ∧ Row K S w A xs := by
  obtain ⟨_, cs, ⟨A, c, rfl, h1, h2, h3⟩, rfl⟩ := h
  exact ⟨A, c, rfl, h1, h2, h3⟩
theorem mk_slice {α : Type} {K : Kn α} {θ : Nat → Nat} {S : Blk} {w : World} {xs : List α} {A : Option Addr} {m c : Nat} (hn : xs.length = m) (h1 : m ≤ c) (h2 : c ≤ maxLen) (hr : Row K S w A xs) : (VA.k (kslice K) xs).sem θ S none w (.slice A m c) :=
  ⟨rfl, [.slice A m c], ⟨A, c, by rw [hn], by omega, h2, hr⟩, rfl⟩
theorem idx_spec {α : Type} {l : List α} {i : Int} {x : α} (h : idx l i = some x) : 0 ≤ i ∧ i < l.length ∧ l[i.toNat]? = some x := by
  unfold idx at h
  split at h
  · cases h
  · have := (List.getElem?_eq_some_iff.1 h).1
    exact ⟨by omega, by omega, h⟩
theorem op_indexAddr {α : Type} {K : Kn α} {xs : List α} {x : α} {i : Int} {o y : Operand} {e : TypeId} (hd : Nat.blt d n = true) (hu : P.underlying t = some (.slice e)) (hk : TK P e K) (hi : idx xs i = some x) (ho : Arg N o (VA.k (kslice K) xs)) (hy : Arg N y (VA.k (kint .i64) i)) :
    OpSpec P n ⟨some d, .indexAddr t o y, ty, pos, af, g⟩ N [Ent.t d (VA.pt K x)] := op_pure hd fun θ S act w hN => by
  obtain ⟨_, h1⟩ := ho θ S act w hN
  obtain ⟨_, h2⟩ := hy θ S act w hN
  obtain ⟨A, c, e1, _, _, hr⟩ := k_slice h1
  have e2 := k_int h2
  obtain ⟨i0, i1, i2⟩ := idx_spec hi
  obtain ⟨ad, rfl, hs, hel⟩ := hr (by omega)
  obtain ⟨cs, hc1, hc2⟩ := hel _ _ i2
  refine ⟨.pointer (some (ad.add (i.toNat * K.sz))), ?_, rfl, _, rfl, ?_, cs, hc1, fun j u hj => ?_⟩
  · clear h1 h2 ho hy hN
    generalize act.eval = ρ at *
    simp [execOp, Instr.indexAt, e1, e2, run_underlying hu, asIntOf, i0, i1, hk.size, Sem.run_bind, Sem.run_pure, Result.andThen_ok]
  · rw [show (ad.add (i.toNat * K.sz)).block = ad.block by unfold Addr.add; split <;> rfl]; exact hs
  · rw [Addr.add_add]; exact hc2 j u hj
theorem op_len {α : Type} {K : Kn α} {xs : List α} {x : Operand} {at_ : Array TypeId} {e : TypeId} (hd : Nat.blt d n = true) (h0 : at_[0]? = some t) (ht : P.underlying t = some (.slice e)) (hx : Arg N x (VA.k (kslice K) xs)) :
    OpSpec P n ⟨some d, .call { callee := .builtin .len, args := #[x], argTypes := at_ }, ty, pos, af, g⟩ N [Ent.t d (VA.k (kint .i64) (xs.length : Int))] := op_pure hd fun θ S act w hN => by
  obtain ⟨_, h1⟩ := hx θ S act w hN
  obtain ⟨A, c, e1, _⟩ := k_slice h1
  refine ⟨_, ?_, mk_int _ _ _ _ _⟩
  clear h1 hx hN
  generalize act.eval = ρ at *
  simp [execOp, resolve, invoke, builtin, Builtin.len_, e1, h0, run_underlying ht, goInt, Sem.run_bind, Sem.run_pure, Result.andThen_ok]
theorem own_slice {α : Type} {e : TypeId} {K : Kn α} {θ : Nat → Nat} {S : Blk} {ob : Option Nat} {w : World} {xs : List α} {v : Value} (h : (VA.own e K xs).sem θ S ob w v) : ∃ A c, v = .slice A xs.length c := by
  obtain ⟨_, inner, ho, _⟩ := h
  rcases ho.2 with ⟨rfl, h0⟩ | ⟨g, cap, cur, rfl, _⟩
  · exact ⟨none, 0, by rw [h0]⟩
  · exact ⟨_, _, rfl⟩
theorem op_len_own {α : Type} {K : Kn α} {xs : List α} {x : Operand} {at_ : Array TypeId} {e q : TypeId} (hd : Nat.blt d n = true) (h0 : at_[0]? = some t) (ht : P.underlying t = some (.slice e)) (hx : Arg N x (VA.own q K xs)) :
    OpSpec P n ⟨some d, .call { callee := .builtin .len, args := #[x], argTypes := at_ }, ty, pos, af, g⟩ N [Ent.t d (VA.k (kint .i64) (xs.length : Int))] := op_pure hd fun θ S act w hN => by
  obtain ⟨_, h1⟩ := hx θ S act w hN
  obtain ⟨A, c, e1⟩ := own_slice h1
  refine ⟨_, ?_, mk_int _ _ _ _ _⟩
  clear h1 hx hN
  generalize act.eval = ρ at *
  simp [execOp, resolve, invoke, builtin, Builtin.len_, e1, h0, run_underlying ht, goInt, Sem.run_bind, Sem.run_pure, Result.andThen_ok]
/-- x[lo:hi] with both bounds given as the model sees them. -/
def sub {α : Type} (l : List α) (lo hi : Int) : Option (List α) := if 0 ≤ lo ∧ lo ≤ hi ∧ hi ≤ l.length then some ((l.drop lo.toNat).take (hi - lo).toNat) else none
theorem Row.sub {α : Type} {K : Kn α} {S : Blk} {w : World} {A : Option Addr} {xs : List α} (h : Row K S w A xs) (l m : Nat) (hlm : l + m ≤ xs.length) : Row K S w (A.map (·.add (l * K.sz))) ((xs.drop l).take m) := fun h0 => by
  have hlen : ((xs.drop l).take m).length = m := by simp; omega
  rw [hlen] at h0
  obtain ⟨ad, rfl, hs, hr⟩ := h (by omega)
  refine ⟨ad.add (l * K.sz), rfl, ?_, fun j p hj => ?_⟩
  · rw [show (ad.add (l * K.sz)).block = ad.block by unfold Addr.add; split <;> rfl]; exact hs
  · rw [List.getElem?_take] at hj
    split at hj
    · rw [List.getElem?_drop] at hj
      obtain ⟨cs, h1, h2⟩ := hr _ _ hj
      refine ⟨cs, h1, fun i u hi => ?_⟩
      rw [Addr.add_add, ← h2 i u hi]
      congr 2
      rw [Nat.add_mul]; omega
    · cases hj
def Bnd (N : Ent → Prop) (o : Option Operand) (x : Option Int) : Prop := match o, x with
  | none, none => True
  | some y, some i => Arg N y (VA.k (kint .i64) i)
  | _, _ => False
def SBnd (ρ : Operand → Value) (o : Option Operand) (x : Option Int) : Prop := o.map ρ = x.map fun i => .int .i64 i
theorem Bnd.run {o : Option Operand} {x : Option Int} (h : Bnd N o x) {θ : Nat → Nat} {S : Blk} {a : Act} {w : World} (hN : ∀ e, N e → ∃ ob, e.sem θ S ob a w) : SBnd a.eval o x := by
  cases o <;> cases x <;> simp only [Bnd] at h
  · rfl
  · obtain ⟨_, h1⟩ := h θ S a w hN
    simp [SBnd, k_int h1]
theorem run_sliceBounds {isS : Bool} {len cap : Nat} {lo hi : Option Int} (w : World) (h1 : 0 ≤ lo.getD 0) (h2 : lo.getD 0 ≤ hi.getD len) (h3 : hi.getD len ≤ cap) (hlen : len ≤ cap) :
    (Instr.sliceBounds isS len cap (lo.map (Value.int .i64)) (hi.map (Value.int .i64)) none).run P w = .ok ((lo.getD 0).toNat, (hi.getD len).toNat, cap) w := by
  cases lo with
  | none =>
    cases hi with
    | none => simp [Instr.sliceBounds, Sem.run_bind, Sem.run_pure, Result.andThen_ok]
    | some h =>
      simp only [Option.getD_some, Option.getD_none] at h1 h2 h3
      simp [Instr.sliceBounds, Instr.sliceBound, asIntOf, h2, h3, Sem.run_bind, Sem.run_pure, Result.andThen_ok]
  | some l =>
    cases hi with
    | none =>
      simp only [Option.getD_some, Option.getD_none] at h1 h2 h3
      simp [Instr.sliceBounds, Instr.sliceBound, asIntOf, h1, h2, h3, Sem.run_bind, Sem.run_pure, Result.andThen_ok]
    | some h =>
      simp only [Option.getD_some, Option.getD_none] at h1 h2 h3
      have h4 : 0 ≤ h := by omega
      have h5 : l ≤ (h.toNat : Int) := by omega
      simp [Instr.sliceBounds, Instr.sliceBound, asIntOf, h1, h3, h4, h5, Sem.run_bind, Sem.run_pure, Result.andThen_ok]
      intro hm
      omega
theorem sub_spec {α : Type} {l r : List α} {lo hi : Int} (h : sub l lo hi = some r) : 0 ≤ lo ∧ lo ≤ hi ∧ hi ≤ l.length ∧ r = (l.drop lo.toNat).take (hi - lo).toNat ∧ (r.length : Int) = hi - lo := by
  unfold sub at h
  split at h
  · rename_i hc
    cases h
    refine ⟨hc.1, hc.2.1, hc.2.2, rfl, ?_⟩
    simp; omega
  · cases h
theorem op_slice {α : Type} {K : Kn α} {xs r : List α} {o : Operand} {lo hi : Option Operand} {l h : Option Int} {e : TypeId} (hd : Nat.blt d n = true) (hu : P.underlying t = some (.slice e)) (hk : TK P e K) (hs : sub xs (l.getD 0) (h.getD xs.length) = some r) (ho : Arg N o (VA.k (kslice K) xs)) (hl : Bnd N lo l) (hh : Bnd N hi h) :
    OpSpec P n ⟨some d, .slice t o lo hi none, ty, pos, af, g⟩ N [Ent.t d (VA.k (kslice K) r)] := op_pure hd fun θ S act w hN => by
  obtain ⟨_, h1⟩ := ho θ S act w hN
  obtain ⟨A, c, e1, hc, hm, hr⟩ := k_slice h1
  have e2 := hl.run hN
  have e3 := hh.run hN
  obtain ⟨s1, s2, s3, rfl, s5⟩ := sub_spec hs
  have hb := run_sliceBounds (P := P) (isS := true) (len := xs.length) (cap := c) w s1 s2 (by omega) hc
  have hrow : Row K S w (if c = (l.getD 0).toNat then A else A.map (·.add ((l.getD 0).toNat * K.sz))) ((xs.drop (l.getD 0).toNat).take (h.getD xs.length - l.getD 0).toNat) := by
    split
    · intro h0
      simp at h0
      omega
    · exact hr.sub _ _ (by omega)
  refine ⟨.slice (if c = (l.getD 0).toNat then A else A.map (·.add ((l.getD 0).toNat * K.sz))) ((h.getD xs.length).toNat - (l.getD 0).toNat) (c - (l.getD 0).toNat), ?_, mk_slice ?_ ?_ ?_ hrow⟩
  · clear h1 ho hN hl hh
    generalize act.eval = ρ at *
    simp only [SBnd] at e2 e3
    simp [execOp, Instr.sliceAt, Instr.slice, e1, e2, e3, run_underlying hu, hb, hk.size, Sem.run_bind, Sem.run_pure, Result.andThen_ok]
  · simp; omega
  · omega
  · omega
def ssub (s : ByteArray) (lo hi : Int) : Option ByteArray := if 0 ≤ lo ∧ lo ≤ hi ∧ hi ≤ s.size then some (s.extract lo.toNat hi.toNat) else none
theorem op_slice_str {s r : ByteArray} {o : Operand} {lo hi : Option Operand} {l h : Option Int} (hd : Nat.blt d n = true) (hu : P.underlying t = some .string) (hs : ssub s (l.getD 0) (h.getD s.size) = some r) (ho : Arg N o (VA.k kstr s)) (hl : Bnd N lo l) (hh : Bnd N hi h) :
    OpSpec P n ⟨some d, .slice t o lo hi none, ty, pos, af, g⟩ N [Ent.t d (VA.k kstr r)] := op_pure hd fun θ S act w hN => by
  obtain ⟨_, h1⟩ := ho θ S act w hN
  have e1 := k_str h1
  have e2 := hl.run hN
  have e3 := hh.run hN
  unfold ssub at hs
  split at hs
  · rename_i hc
    cases hs
    have hb := run_sliceBounds (P := P) (isS := false) (len := s.size) (cap := s.size) w hc.1 hc.2.1 hc.2.2 (Nat.le_refl _)
    refine ⟨_, ?_, mk_str _ _ _ _⟩
    clear h1 ho hN hl hh
    generalize act.eval = ρ at *
    simp only [SBnd] at e2 e3
    simp [execOp, Instr.sliceAt, Instr.slice, e1, e2, e3, run_underlying hu, hb, Sem.run_bind, Sem.run_pure, Result.andThen_ok]
  · cases hs
end
end Go.Proofs.Ytedgkcdofiildaa.Sl
