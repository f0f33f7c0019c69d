/- The walk over a frame's text: one law for each form of code; what an operation adds to what is known. -/
import Derived.Test.YtedgkcdofiildaaSl0
set_option linter.unusedVariables false
set_option linter.unusedSimpArgs false
namespace Go.Proofs.Ytedgkcdofiildaa.Sl
open Go Go.RowKit
def Goes (P : Program) (c : Ctx) (Γ : List Ent) (k : Code) (Q : Exit → Act → World → Prop) : Prop := ∀ a w, Inv c Γ a w → k.wp P Q a w
def GoesO (P : Program) (c : Ctx) (Γ : List Ent) (ops : Array Oper) (l : List Oper) (Q : Exit → Act → World → Prop) : Prop := ∀ a w, Inv c Γ a w → wpList P ops Q l a w
def Ends (c : Ctx) (Γ : List Ent) (Q : Exit → Act → World → Prop) (e : Exit) : Prop := ∀ a w, Inv c Γ a w → Q e a w
section
variable {P : Program} {c : Ctx} {Γ Δ : List Ent} {Q : Exit → Act → World → Prop}
theorem goes_sub {k : Code} (Δ : List Ent) (hs : Told Γ Δ) (h : Goes P c Δ k Q) : Goes P c Γ k Q := fun a w hi => h a w (hi.sub hs.sub)
theorem goesO_sub {ops : Array Oper} {l : List Oper} (Δ : List Ent) (hs : Told Γ Δ) (h : GoesO P c Δ ops l Q) : GoesO P c Γ ops l Q := fun a w hi => h a w (hi.sub hs.sub)
theorem ends_sub {e : Exit} (Δ : List Ent) (hs : Told Γ Δ) (h : Ends c Δ Q e) : Ends c Γ Q e := fun a w hi => h a w (hi.sub hs.sub)
theorem goes_seq {x y : Code} (h : Goes P c Γ x (Exit.then (y.wp P Q) Q)) : Goes P c Γ (.seq x y) Q := fun a w hi => wp_seq (h a w hi)
theorem goes_skip (h : Ends c Γ Q .normal) : Goes P c Γ .skip Q := fun a w hi => wp_skip (h a w hi)
theorem goes_label {l : Nat} (h : Ends c Γ Q .normal) : Goes P c Γ (.label l) Q := fun a w hi => wp_label (h a w hi)
theorem goes_exit {id : Nat} (h : Ends c Γ Q (.exit id)) : Goes P c Γ (.exit id) Q := fun a w hi => wp_exit (h a w hi)
theorem goes_goto {l : Nat} (h : Ends c Γ Q (.goto l)) : Goes P c Γ (.goto l) Q := fun a w hi => wp_goto (h a w hi)
theorem goes_ret (h : Ends c Γ Q .ret) : Goes P c Γ .ret Q := fun a w hi => wp_ret (h a w hi)
theorem goes_block {id : Nat} {k : Code} (h : Goes P c Γ k (Exit.inBlock id Q)) : Goes P c Γ (.block id k) Q := fun a w hi => wp_block (h a w hi)
theorem goes_region {id : Nat} {l : List Oper} (h : GoesO P c Γ l.toArray l Q) : Goes P c Γ (.region id l.toArray false) Q := fun a w hi => wp_region_lit (h a w hi)
theorem goesO_nil {ops : Array Oper} (h : Ends c Γ Q .normal) : GoesO P c Γ ops [] Q := fun a w hi => wpList_nil (h a w hi)
theorem ends_then {y : Code} (h : Goes P c Γ y Q) : Ends c Γ (Exit.then (y.wp P Q) Q) .normal := fun a w hi => h a w hi
theorem ends_then_exit {K : Act → World → Prop} {id : Nat} (h : Ends c Γ Q (.exit id)) : Ends c Γ (Exit.then K Q) (.exit id) := h
theorem ends_then_goto {K : Act → World → Prop} {id : Nat} (h : Ends c Γ Q (.goto id)) : Ends c Γ (Exit.then K Q) (.goto id) := h
theorem ends_then_ret {K : Act → World → Prop} (h : Ends c Γ Q .ret) : Ends c Γ (Exit.then K Q) .ret := h
theorem ends_block {id : Nat} (h : Ends c Γ Q .normal) : Ends c Γ (Exit.inBlock id Q) .normal := h
theorem ends_block_exit {id : Nat} (h : Ends c Γ Q .normal) : Ends c Γ (Exit.inBlock id Q) (.exit id) := fun a w hi => by
  show (if id = id then Q .normal a w else Q (.exit id) a w)
  rw [if_pos rfl]; exact h a w hi
theorem ends_block_ne {id i : Nat} (hne : Nat.beq i id = false) (h : Ends c Γ Q (.exit i)) : Ends c Γ (Exit.inBlock id Q) (.exit i) := fun a w hi => by
  show (if i = id then Q .normal a w else Q (.exit i) a w)
  rw [if_neg (fun e => by rw [e, Nat.beq_refl] at hne; cases hne)]; exact h a w hi
theorem ends_block_ret {id : Nat} (h : Ends c Γ Q .ret) : Ends c Γ (Exit.inBlock id Q) .ret := h
theorem ends_block_goto {id l : Nat} (h : Ends c Γ Q (.goto l)) : Ends c Γ (Exit.inBlock id Q) (.goto l) := h
end
/-! ### values -/
/-- What one value's cells say. -/
structure Kn (α : Type) where
  sz : Nat
  agg : Bool
  R : Blk → World → α → List Value → Prop
  len : ∀ {S : Blk} {w : World} {x : α} {cs : List Value}, R S w x cs → cs.length = sz
  one : ∀ {S : Blk} {w : World} {x : α} {cs : List Value}, R S w x cs → ∀ u, u ∈ cs → u.oneCell' = true
  move : ∀ {S S' : Blk} {w w' : World} {x : α} {cs : List Value}, R S w x cs → Agree S w w' → (∀ b, S b → S' b) → R S' w' x cs
def Kn.mk_ {α : Type} (K : Kn α) (cs : List Value) : Value := match K.agg with | true => .agg cs.toArray | false => cs.headD undef
def Kn.scalar {α : Type} (enc : α → Value) (h1 : ∀ x, (enc x).oneCell' = true) : Kn α where
  sz := 1
  agg := false
  R := fun _ _ x cs => cs = [enc x]
  len := fun h => by rw [h]; rfl
  one := fun h u hu => by rw [h] at hu; rw [List.mem_singleton.1 hu]; exact h1 _
  move := fun h _ _ => h
def kint (k : IntKind) : Kn Int := Kn.scalar (Value.int k) (fun _ => rfl)
def kbool : Kn Bool := Kn.scalar Value.bool (fun _ => rfl)
def kstr : Kn ByteArray := Kn.scalar Value.string (fun _ => rfl)
/-- Elements in line, from an address on. -/
def Row {α : Type} (K : Kn α) (S : Blk) (w : World) (A : Option Addr) (xs : List α) : Prop :=
  0 < xs.length → ∃ ad, A = some ad ∧ S ad.block ∧ ∀ j p, xs[j]? = some p → ∃ cs, K.R S w p cs ∧ ∀ i u, cs[i]? = some u → w.cell? (ad.add (j * K.sz + i)) = some u
theorem Row.move {α : Type} {K : Kn α} {S S' : Blk} {w w' : World} {A : Option Addr} {xs : List α} (h : Row K S w A xs) (hA : Agree S w w') (hS : ∀ b, S b → S' b) : Row K S' w' A xs := fun h0 => by
  obtain ⟨ad, e, hs, hr⟩ := h h0
  refine ⟨ad, e, hS _ hs, fun j p hj => ?_⟩
  obtain ⟨cs, h1, h2⟩ := hr j p hj
  refine ⟨cs, K.move h1 hA hS, fun i u hi => ?_⟩
  rw [World.cell?_of_block (w := w) (w' := w') (by rw [show (ad.add (j * K.sz + i)).block = ad.block by unfold Addr.add; split <;> rfl]; exact hA _ hs)]
  exact h2 i u hi
theorem Row.nil {α : Type} (K : Kn α) (S : Blk) (w : World) (A : Option Addr) : Row K S w A [] := fun h => by simp at h
def kslice {α : Type} (K : Kn α) : Kn (List α) where
  sz := 1
  agg := false
  R := fun S w xs cs => ∃ A c, cs = [.slice A xs.length c] ∧ xs.length ≤ c ∧ c ≤ maxLen ∧ Row K S w A xs
  len := by rintro S w x cs ⟨A, c, rfl, _⟩; rfl
  one := by rintro S w x cs ⟨A, c, rfl, _⟩ u hu; rw [List.mem_singleton.1 hu]; rfl
  move := by rintro S S' w w' x cs ⟨A, c, rfl, hl, hm, hr⟩ hA hS; exact ⟨A, c, rfl, hl, hm, hr.move hA hS⟩
def kpair {α β : Type} (a : Kn α) (b : Kn β) : Kn (α × β) where
  sz := a.sz + b.sz
  agg := true
  R := fun S w x cs => ∃ c0 c1, cs = c0 ++ c1 ∧ a.R S w x.1 c0 ∧ b.R S w x.2 c1
  len := by rintro S w x cs ⟨c0, c1, rfl, h0, h1⟩; rw [List.length_append, a.len h0, b.len h1]
  one := by
    rintro S w x cs ⟨c0, c1, rfl, h0, h1⟩ u hu
    rcases List.mem_append.1 hu with hu | hu
    · exact a.one h0 u hu
    · exact b.one h1 u hu
  move := by rintro S S' w w' x cs ⟨c0, c1, rfl, h0, h1⟩ hA hS; exact ⟨c0, c1, rfl, a.move h0 hA hS, b.move h1 hA hS⟩
/-- A Lean structure by its fields; alone: a struct of one field. -/
def kiso {α β : Type} (d : Kn α) (f : β → α) : Kn β where
  sz := d.sz
  agg := true
  R := fun S w x cs => d.R S w (f x) cs
  len := d.len
  one := d.one
  move := d.move
namespace VA
def k {α : Type} (K : Kn α) (x : α) : VA where
  ids := []
  sem := fun _ S ob w v => ob = none ∧ ∃ cs, K.R S w x cs ∧ v = K.mk_ cs
  move := by rintro θ θ' S S' ob w w' v ⟨h0, cs, h1, h2⟩ hA hS _ _; exact ⟨h0, cs, K.move h1 hA hS, h2⟩
/-- A value as it is. -/
def v (x : Value) : VA where
  ids := []
  sem := fun _ _ ob _ v => ob = none ∧ v = x
  move := fun h _ _ _ _ => h
/-- A pointer into a box. -/
def ptr (id off : Nat) : VA where
  ids := [id]
  sem := fun θ _ ob _ v => ob = none ∧ v = .pointer (some ⟨θ id, off, none⟩)
  move := by rintro θ θ' S S' ob w w' v ⟨h0, h⟩ _ _ _ hi; exact ⟨h0, by rw [hi id (by simp)]; exact h⟩
def map (id : Nat) : VA where
  ids := [id]
  sem := fun θ _ ob _ v => ob = none ∧ v = .map (some (θ id))
  move := by rintro θ θ' S S' ob w w' v ⟨h0, h⟩ _ _ _ hi; exact ⟨h0, by rw [hi id (by simp)]; exact h⟩
def any : VA where
  ids := []
  sem := fun _ _ ob _ _ => ob = none
  move := fun h _ _ _ _ => h
/-- A row of the frame's own: a block that nothing else names. -/
def own {α : Type} (e : TypeId) (K : Kn α) (xs : List α) : VA where
  ids := []
  sem := fun _ S ob w v => ob = v.ownBlock ∧ ∃ inner, w.ownsRow 0 e K.sz v xs.length inner ∧ ∀ j p, xs[j]? = some p → K.R S w p ((inner.drop (j * K.sz)).take K.sz)
  move := by
    rintro θ θ' S S' ob w w' v ⟨h0, inner, ho, hr⟩ hA hS hb _
    refine ⟨h0, inner, ?_, fun j p hj => K.move (hr j p hj) hA hS⟩
    obtain ⟨h1, h2⟩ := ho
    refine ⟨h1, ?_⟩
    rcases h2 with h2 | ⟨g, cap, cur, rfl, hg, hh, r⟩
    · exact .inl h2
    · exact .inr ⟨g, cap, cur, rfl, hg, (hb g (by rw [h0]; rfl)).trans hh, r⟩
end VA
/-! ### the parts -/
namespace Ent
def t (d : Nat) (A : VA) : Ent where
  key := d
  slots := [d]
  ids := A.ids
  sem := fun θ S ob a w => A.sem θ S ob w (a.tmps.getD d undef)
  move := fun h hA hS hb ht hi => by rw [ht d (by simp)]; exact A.move h hA hS hb hi
/-- Component j of the tuple in slot d. -/
def c (d j : Nat) (A : VA) : Ent where
  key := 3000000 + 1000 * d + j
  slots := [d]
  ids := A.ids
  sem := fun θ S ob a w => ∃ vs v, a.tmps.getD d undef = .tuple vs ∧ vs[j]? = some v ∧ A.sem θ S ob w v
  move := by
    rintro θ θ' S S' ob a a' w w' ⟨vs, v, h1, h2, h3⟩ hA hS hb ht hi
    exact ⟨vs, v, by rw [ht d (by simp)]; exact h1, h2, A.move h3 hA hS hb hi⟩
/-- A number's name is given to a block. -/
def bind (id : Nat) : Ent where
  key := 1000000 + id
  slots := []
  ids := []
  sem := fun _ _ ob _ _ => ob = none
  move := fun h _ _ _ _ _ => h
end Ent
/-- What a block holds that the frame alone may write. -/
structure HE where
  ids : List Nat
  sem : (Nat → Nat) → Nat → Blk → World → Prop
  move : ∀ {θ θ' : Nat → Nat} {b : Nat} {S S' : Blk} {w w' : World}, sem θ b S w → Agree S w w' → (∀ b, S b → S' b) → w'.heap[b]? = w.heap[b]? → (∀ k, k ∈ ids → θ' k = θ k) → sem θ' b S' w'
def HE.box {α : Type} (e : TypeId) (K : Kn α) (x : α) : HE where
  ids := []
  sem := fun _ b S w => ∃ cs, w.heap[b]? = some (.cells cs e (0, 0)) ∧ K.R S w x cs.toList
  move := by rintro θ θ' b S S' w w' ⟨cs, h1, h2⟩ hA hS hb _; exact ⟨cs, hb.trans h1, K.move h2 hA hS⟩
def Ent.h (id : Nat) (H : HE) : Ent where
  key := 2000000 + id
  slots := []
  ids := id :: H.ids
  sem := fun θ S ob _ w => ob = some (θ id) ∧ H.sem θ (θ id) S w
  move := by
    rintro θ θ' S S' ob a a' w w' ⟨h0, h⟩ hA hS hb _ hi
    have : θ' id = θ id := hi id (by simp)
    exact ⟨by rw [this]; exact h0, by rw [this]; exact H.move h hA hS (hb _ h0) (fun k hk => hi k (List.mem_cons_of_mem _ hk))⟩
/-! ### operations -/
/-- With what N tells, operation o adds Δ. -/
def OpSpec (P : Program) (n : Nat) (o : Oper) (N : Ent → Prop) (Δ : List Ent) : Prop :=
  ∀ (c : Ctx) (Γ : List Ent) (a : Act) (w : World) (Q : Exit → Act → World → Prop), c.n = n → (∀ e, N e → Has [] Γ e) → Inv c Γ a w → o.wp P a w (fun a' w' => Inv c (Δ ++ Γ) a' w') Q
/-- An operand of which A holds. -/
def Arg (N : Ent → Prop) (x : Operand) (A : VA) : Prop :=
  ∀ (θ : Nat → Nat) (S : Blk) (a : Act) (w : World), (∀ e, N e → ∃ ob, e.sem θ S ob a w) → ∃ ob, A.sem θ S ob w (a.eval x)
theorem Arg.t {N : Ent → Prop} {s : Nat} {A : VA} (h : N (Ent.t s A)) : Arg N (.tmp s) A := fun θ S a w hN => hN _ h
theorem Arg.int {N : Ent → Prop} (k : IntKind) (n : Int) : Arg N (.const (.int k n)) (VA.k (kint k) n) := fun θ S a w hN => ⟨none, rfl, _, rfl, rfl⟩
theorem Arg.bool {N : Ent → Prop} (b : Bool) : Arg N (.const (.bool b)) (VA.k kbool b) := fun θ S a w hN => ⟨none, rfl, _, rfl, rfl⟩
theorem Arg.str {N : Ent → Prop} (s : ByteArray) : Arg N (.const (.string s)) (VA.k kstr s) := fun θ S a w hN => ⟨none, rfl, _, rfl, rfl⟩
theorem Arg.nil {α : Type} {N : Ent → Prop} (K : Kn α) : Arg N (.const (.slice none 0 0)) (VA.k (kslice K) []) := fun θ S a w hN => ⟨none, rfl, _, ⟨none, 0, rfl, Nat.le_refl _, Nat.zero_le _, Row.nil _ _ _ _⟩, rfl⟩
theorem Arg.own {α : Type} {N : Ent → Prop} (e : TypeId) (K : Kn α) : Arg N (.const (.slice none 0 0)) (VA.own e K []) := fun θ S a w hN => ⟨none, rfl, [], World.ownsRow_nil _ _ _ _, fun j p h => by simp at h⟩
theorem Arg.v {N : Ent → Prop} (x : Value) : Arg N (.const x) (VA.v x) := fun θ S a w hN => ⟨none, rfl, rfl⟩
theorem sems {θ : Nat → Nat} {S : Blk} {a : Act} {w : World} {Γ : List Ent} {av : Blk} {N : Ent → Prop} (hN : ∀ e, N e → Has [] Γ e) (h : sat θ S a w [] Γ av) : ∀ e, N e → ∃ ob, e.sem θ S ob a w := fun e he => by
  obtain ⟨ob, h1, _, _⟩ := sat_take (hN e he) h
  exact ⟨ob, h1⟩
theorem dead_nil (e : Ent) : dead [] e = false := by
  unfold dead
  simp
/-- Something without a block of its own is put on. -/
theorem sat_cons {θ : Nat → Nat} {S : Blk} {a : Act} {w : World} {e : Ent} {Γ : List Ent} {av : Blk} (h1 : e.sem θ S none a w) (h2 : sat θ S a w [e.key] Γ av) : sat θ S a w [] (e :: Γ) av := by
  unfold sat
  rw [if_neg (by rw [dead_nil]; decide)]
  exact ⟨none, h1, fun b hb => (by cases hb), sat_mono h2 (fun k hk => hk) (fun b hb => ⟨hb, by simp⟩)⟩
theorem put_getD_self {a : Act} {d : Nat} {v : Value} (h : d < a.tmps.size) : (a.put (some d) v).tmps.getD d undef = v := by
  simp [Act.put, Array.getD_eq_getD_getElem?, h]
theorem put_getD_ne {a : Act} {d t : Nat} {v : Value} (h : t ≠ d) : (a.put (some d) v).tmps.getD t undef = a.tmps.getD t undef := by
  simp only [Act.put, Array.getD_eq_getD_getElem?, Array.getElem?_setIfInBounds]
  rw [if_neg (fun e => h e.symm)]
theorem put_size {a : Act} {d : Option Nat} {v : Value} : (a.put d v).tmps.size = a.tmps.size := by
  cases d <;> simp [Act.put]
theorem put_defers {a : Act} {d : Option Nat} {v : Value} : (a.put d v).defers = a.defers := by cases d <;> rfl
theorem blt_lt {d n : Nat} (h : Nat.blt d n = true) : d < n := Nat.le_of_ble_eq_true h
theorem inv_put {c : Ctx} {Γ : List Ent} {a : Act} {w w' : World} {d : Nat} {A : VA} {v : Value} {θ : Nat → Nat} {S : Blk} (hd : Nat.blt d c.n = true) (h1 : a.defers = []) (h2 : a.tmps.size = c.n ∧ c.n ≤ 1000000) (h3 : Fr c.X c.w0 w') (h4 : SOk c S w')
    (h5 : sat θ S a w [] Γ (free c S w)) (hw : w'.heap = w.heap) (hA : A.sem θ S none w' v) : Inv c (Ent.t d A :: Γ) (a.put (some d) v) w' := by
  refine ⟨by rw [put_defers]; exact h1, by rw [put_size]; exact h2, h3, θ, S, h4, sat_cons ?_ ?_⟩
  · show A.sem θ S none w' ((a.put (some d) v).tmps.getD d undef)
    rw [put_getD_self (by rw [h2.1]; exact blt_lt hd)]
    exact hA
  · refine sat_mono (sat_move (ks := [d]) (sat_mono h5 (fun k hk => by cases hk) (fun b hb => hb)) (fun b hb => by rw [hw]) (fun b hb => hb) (fun b hb => by rw [hw]) (fun t ht => put_getD_ne (by simpa using ht)) (fun k _ => rfl)) (fun k hk => hk) (fun b hb => ?_)
    obtain ⟨f1, f2, f3⟩ := hb
    exact ⟨f1, by rw [hw]; exact f2, f3⟩
/-- An operation that only computes. -/
theorem op_pure {P : Program} {n d : Nat} {op : Op} {ty : TypeId} {pos : String} {af : Array Edge} {g : Option (Nat × Bool)} {N : Ent → Prop} {A : VA} (hd : Nat.blt d n = true)
    (h : ∀ θ S a w, (∀ e, N e → ∃ ob, e.sem θ S ob a w) → ∃ v, (execOp a.eval ⟨some d, op, ty, pos, af, g⟩).run P w = .ok (.value v) w ∧ A.sem θ S none w v) : OpSpec P n ⟨some d, op, ty, pos, af, g⟩ N [Ent.t d A] := by
  rintro c Γ a w Q rfl hN ⟨h1, h2, h3, θ, S, h4, h5⟩
  obtain ⟨v, hr, hA⟩ := h θ S a w (sems hN h5)
  unfold Oper.wp
  rw [hr]
  exact inv_put hd h1 h2 h3 h4 h5 rfl hA
section
variable {P : Program} {c : Ctx} {Γ : List Ent} {Q : Exit → Act → World → Prop} {ops : Array Oper} {rest : List Oper} {o : Oper}
theorem go1 {e : Ent} (h : OpSpec P c.n o (Has [] Γ) [e]) (hg : o.guard = none) (next : GoesO P c (e :: Γ) ops rest Q) : GoesO P c Γ ops (o :: rest) Q :=
  fun a w hi => wpList_plain hg fun K hK => Oper.wp_mono (fun a' w' h' => hK a' w' (next a' w' h')) (h c Γ a w Q rfl (fun _ he => he) hi)
theorem goN {Δ : List Ent} (h : OpSpec P c.n o (Has [] Γ) Δ) (hg : o.guard = none) (next : GoesO P c (Δ ++ Γ) ops rest Q) : GoesO P c Γ ops (o :: rest) Q :=
  fun a w hi => wpList_plain hg fun K hK => Oper.wp_mono (fun a' w' h' => hK a' w' (next a' w' h')) (h c Γ a w Q rfl (fun _ he => he) hi)
end
section
variable {θ : Nat → Nat} {S : Blk} {a : Act} {w : World} {e : Ent} {Γ : List Ent} {av : Blk} {ks : List Nat}
theorem sat_consK (hd : dead ks e = false) (h1 : e.sem θ S none a w) (h2 : sat θ S a w (e.key :: ks) Γ av) : sat θ S a w ks (e :: Γ) av := by
  unfold sat
  rw [if_neg (by rw [hd]; decide)]
  exact ⟨none, h1, fun b hb => (by cases hb), sat_mono h2 (fun k hk => hk) (fun b hb => ⟨hb, by simp⟩)⟩
theorem sat_consB {b : Nat} (hd : dead ks e = false) (h1 : e.sem θ S (some b) a w) (hb : av b) (h2 : sat θ S a w (e.key :: ks) Γ (fun x => av x ∧ x ≠ b)) : sat θ S a w ks (e :: Γ) av := by
  unfold sat
  rw [if_neg (by rw [hd]; decide)]
  exact ⟨some b, h1, fun x hx => by cases hx; exact hb, sat_mono h2 (fun k hk => hk) (fun x hx => ⟨hx.1, fun e => hx.2 (by cases e; rfl)⟩)⟩
theorem sat_consO {ob : Option Nat} (hd : dead ks e = false) (h1 : e.sem θ S ob a w) (hb : ∀ b, ob = some b → av b) (h2 : sat θ S a w (e.key :: ks) Γ (fun x => av x ∧ ob ≠ some x)) : sat θ S a w ks (e :: Γ) av := by
  unfold sat
  rw [if_neg (by rw [hd]; decide)]
  exact ⟨ob, h1, hb, h2⟩
end
theorem dead_iff {ks : List Nat} {e : Ent} (h : ∀ k, k ∈ ks → k ∉ e.deps) : dead ks e = false := by
  rw [Bool.eq_false_iff]
  intro hd
  obtain ⟨k, h1, h2⟩ := List.any_eq_true.1 hd
  exact h k (by simpa using h2) h1
end Go.Proofs.Ytedgkcdofiildaa.Sl
