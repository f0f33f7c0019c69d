/- Stores; struct values built; rows of the frame's own: made, appended to, settled. -/
import Derived.Test.YtedgkcdofiildaaSl5
set_option linter.unusedVariables false
set_option linter.unusedSimpArgs false
namespace Go.Proofs.Ytedgkcdofiildaa.Sl
open Go Go.RowKit
theorem setRow_size (w : World) (b : Nat) (cs : Array Value) : (w.setRow b cs).heap.size = w.heap.size := by simp [World.setRow]
theorem setRow_ne (w : World) (b k : Nat) (cs : Array Value) (h : k ≠ b) : (w.setRow b cs).heap[k]? = w.heap[k]? := setRow_other w b k cs h
theorem Fr.setRow {c : Ctx} {w : World} (h : Fr c.X c.w0 w) {b : Nat} (hb : c.w0.heap.size ≤ b ∨ b ∈ c.X) (cs : Array Value) : Fr c.X c.w0 (w.setRow b cs) :=
  ⟨h.os, h.tape, h.output, by rw [setRow_size]; exact h.size, fun k hk hx => (setRow_ne w b k cs (by rintro rfl; rcases hb with hb | hb; omega; exact hx hb)).trans (h.block k hk hx)⟩
section
variable {P : Program} {n d : Nat} {ty t t' : TypeId} {pos : String} {af : Array Edge} {g : Option (Nat × Bool)} {N : Ent → Prop}
theorem op_store {α β : Type} {id off : Nat} {e : TypeId} {K : Kn α} {K' : Kn β} {x : α} {y : β} {get : α → β} {set : α → β → α} {o z : Operand} (hF : Fld K off K' get set) (hk : TK P t K') (hp : Arg N o (VA.ptr id off)) (hb : N (Ent.h id (HE.box e K x))) (hz : Arg N z (VA.k K' y)) :
    OpSpec P n ⟨none, .store t o z, ty, pos, af, g⟩ N [Ent.h id (HE.box e K (set x y))] := by
  rintro c Γ a w Q rfl hN ⟨h1, h2, h3, θ, S, h4, h5⟩
  have hN2 := sems hN h5
  obtain ⟨_, _, e1⟩ := hp θ S a w hN2
  obtain ⟨_, hv⟩ := hz θ S a w hN2
  obtain ⟨cv, hr', _, hcv⟩ := k_cells hv hk.flat
  obtain ⟨ob, ⟨rfl, cs, hc, hr⟩, hav, h6⟩ := sat_take (hN _ hb) h5
  have hfree := hav _ rfl
  have hlen := K.len hr
  have hle := hF.le
  have hvs : (a.eval z).cells.size = K'.sz := by rw [← Array.length_toList, hcv]; exact K'.len hr'
  have hst := run_storeVar_at (P := P) (b := θ id) (off := off) (v := a.eval z) hk hvs (by rw [hcv]; exact K'.one hr') hc (by rw [← Array.length_toList, hlen]; exact hle)
  rw [hcv] at hst
  have hrun : (execOp a.eval ⟨none, .store t o z, ty, pos, af, g⟩).run P w = .ok .skip (w.setRow (θ id) (cs.toList.take off ++ cv ++ cs.toList.drop (off + K'.sz)).toArray) := by
    clear hv hN hN2 hp hz h1 h2 h5 h6 hcv hvs
    generalize a.eval = ρ at *
    simp [execOp, Instr.storeAt, Instr.sureAddr, e1, hst, Sem.run_bind, Sem.run_pure, Result.andThen_ok]
  unfold Oper.wp
  rw [hrun]
  have hne : ∀ b, S b → b ≠ θ id := fun b hs e => hfree.1 (e ▸ hs)
  have hag : Agree S w (w.setRow (θ id) (cs.toList.take off ++ cv ++ cs.toList.drop (off + K'.sz)).toArray) := fun b hs => setRow_ne _ _ _ _ (hne b hs)
  show Inv c _ (a.put none undef) _
  refine ⟨h1, h2, h3.setRow hfree.2.2 _, θ, S, h4.grow (by rw [setRow_size]; exact Nat.le_refl _), ?_⟩
  refine sat_consB (b := θ id) (dead_nil _) ?_ ⟨hfree.1, by rw [setRow_size]; exact hfree.2.1, hfree.2.2⟩ ?_
  · exact ⟨rfl, _, setRow_heap w _ _ _ e (0, 0) hc, by simpa using K.move (hF.set hr hr') hag (fun b hb => hb)⟩
  · refine sat_mono (sat_move h6 hag (fun b hb => hb) (fun b hb => setRow_ne _ _ _ _ (fun e => hb.2 (by rw [e]))) (fun t _ => rfl) (fun k _ => rfl)) (fun k hk => hk) (fun b hb => ⟨⟨hb.1.1, by rw [setRow_size]; exact hb.1.2.1, hb.1.2.2⟩, fun e => hb.2 (by rw [e])⟩)
theorem op_extract {j : Nat} {A : VA} {s : Nat} (hd : Nat.blt d n = true) (hA : Plain A) (h : N (Ent.c s j A)) :
    OpSpec P n ⟨some d, .extract (.tmp s) j, ty, pos, af, g⟩ N [Ent.t d A] := op_pure hd fun θ S act w hN => by
  obtain ⟨ob, vs, v, e1, e2, h3⟩ := hN _ h
  obtain rfl := hA h3
  refine ⟨v, ?_, h3⟩
  have e1' : act.eval (.tmp s) = .tuple vs := e1
  clear e1 hN
  generalize act.eval = ρ at *
  simp [execOp, Instr.extract, e1', e2, Sem.run_bind, Sem.run_pure, Result.andThen_ok]
/-- A component that has a block of its own: it leaves the tuple. -/
theorem op_extract_own {j : Nat} {A : VA} {s : Nat} (hd : Nat.blt d n = true) (hds : Nat.beq d s = false) (hj : Nat.blt j 1000 = true) (h : N (Ent.c s j A)) :
    OpSpec P n ⟨some d, .extract (.tmp s) j, ty, pos, af, g⟩ N [Ent.t d A, Ent.c s j VA.any] := by
  rintro c Γ a w Q rfl hN ⟨h1, h2, h3, θ, S, h4, h5⟩
  obtain ⟨ob, ⟨vs, v, e1, e2, hA⟩, hav, h6⟩ := sat_take (hN _ h) h5
  have e1' : a.eval (.tmp s) = .tuple vs := e1
  have hrun : (execOp a.eval ⟨some d, .extract (.tmp s) j, ty, pos, af, g⟩).run P w = .ok (.value v) w := by
    clear hN h1 h2 h5 h6 e1
    generalize a.eval = ρ at *
    simp [execOp, Instr.extract, e1', e2, Sem.run_bind, Sem.run_pure, Result.andThen_ok]
  have hdn := blt_lt hd
  have hne : d ≠ s := fun e => by rw [e, Nat.beq_refl] at hds; cases hds
  unfold Oper.wp
  rw [hrun]
  show Inv c _ (a.put (some d) v) w
  refine ⟨by rw [put_defers]; exact h1, by rw [put_size]; exact h2, h3, θ, S, h4, ?_⟩
  refine sat_consO (ob := ob) (dead_nil _) ?_ hav (sat_consK ?_ ?_ ?_)
  · show A.sem θ S ob w ((a.put (some d) v).tmps.getD d undef)
    rw [put_getD_self (by omega)]
    exact hA
  · refine dead_iff (fun k hk => ?_)
    simp only [Ent.t, List.mem_singleton] at hk
    simp only [Ent.deps, Ent.c, VA.any, List.map_nil, List.append_nil, List.mem_cons, List.not_mem_nil, or_false]
    omega
  · refine ⟨vs, v, ?_, e2, rfl⟩
    rw [put_getD_ne (fun e => hne e.symm)]
    exact e1
  · have h7 := sat_mono h6 (ks' := [(Ent.c s j A).key, d]) (fun k hk => by simp at hk; simp [hk]) (fun b hb => hb)
    exact sat_mono (sat_move h7 (Agree.refl _ _) (fun b hb => hb) (fun b hb => rfl) (fun t ht => put_getD_ne (fun e => ht (by simp [e]))) (fun k hk => rfl)) (fun k hk => hk) (fun b hb => hb)
end
/-! ### the frame's own rows -/
theorem own_block {α : Type} {e : TypeId} {K : Kn α} {θ : Nat → Nat} {S : Blk} {ob : Option Nat} {w : World} {xs : List α} {v : Value} (h : (VA.own e K xs).sem θ S ob w v) : ob = v.ownBlock := h.1
/-- What is the frame's own reads as a row, once its block is settled. -/
theorem own_reads {α : Type} {e : TypeId} {K : Kn α} {θ : Nat → Nat} {S S' : Blk} {ob : Option Nat} {w : World} {xs : List α} {v : Value} (h : (VA.own e K xs).sem θ S ob w v) (hS : ∀ b, S b → S' b) (hob : ∀ b, ob = some b → S' b) (hp : 0 < K.sz) : (VA.k (kslice K) xs).sem θ S' none w v := by
  obtain ⟨h0, inner, ho, hr⟩ := h
  have hl := ho.1
  rcases ho.2 with ⟨rfl, h1⟩ | ⟨g, cap, cur, rfl, hg, hh, h2, h3, h4, h5⟩
  · refine mk_slice h1 (Nat.le_refl _) (Nat.zero_le _) ?_
    rw [List.eq_nil_of_length_eq_zero h1]; exact Row.nil _ _ _ _
  · refine mk_slice rfl h2 h3 (fun hx => ⟨⟨g, 0, none⟩, rfl, hob g h0, fun j p hj => ?_⟩)
    refine ⟨_, K.move (hr j p hj) (Agree.refl _ _) hS, fun i u hi => ?_⟩
    rw [add_add, Nat.zero_add, cell_of_row w g _ cur e (0, 0) hh]
    rw [List.getElem?_take] at hi
    split at hi
    · rw [List.getElem?_drop, ← h5, List.getElem?_take] at hi
      split at hi
      · simpa using hi
      · cases hi
    · cases hi
theorem Fr.grown {c : Ctx} {w w' : World} (h : Fr c.X c.w0 w) {row : Option Nat} (hg : w.grownBy w' row) (hb : ∀ b, row = some b → c.w0.heap.size ≤ b ∨ b ∈ c.X) : Fr c.X c.w0 w' :=
  ⟨hg.os.trans h.os, hg.tape.trans h.tape, hg.output.trans h.output, Nat.le_trans h.size hg.size, fun k hk hx => (hg.block k (Nat.lt_of_lt_of_le hk h.size) (fun e => by rcases hb k e.symm with hb | hb; omega; exact hx hb)).trans (h.block k hk hx)⟩
section
variable {P : Program} {c : Ctx} {Γ : List Ent} {Q : Exit → Act → World → Prop} {ops : Array Oper} {l : List Oper}
theorem inv_settle {α : Type} {a : Act} {w : World} {s : Nat} {e : TypeId} {K : Kn α} {xs : List α} (hp : 0 < K.sz) (h : Has [] Γ (Ent.t s (VA.own e K xs))) (hi : Inv c Γ a w) : Inv c (Ent.t s (VA.k (kslice K) xs) :: Γ) a w := by
  obtain ⟨h1, h2, h3, θ, S, h4, h5⟩ := hi
  obtain ⟨ob, hs, hav, h6⟩ := sat_take h h5
  refine ⟨h1, h2, h3, θ, (fun b => S b ∨ ob = some b), fun b hb => ?_, sat_cons (own_reads (θ := θ) hs (fun b hb => .inl hb) (fun b hb => .inr hb) hp) ?_⟩
  · rcases hb with hb | hb
    · exact h4 b hb
    · have := hav b hb
      exact ⟨this.2.1, .inr this.2.2⟩
  · refine sat_mono (sat_move h6 (Agree.refl _ _) (fun b hb => .inl hb) (fun b _ => rfl) (fun t _ => rfl) (fun k _ => rfl)) (fun k hk => hk) (fun b hb => ⟨fun hS => ?_, hb.1.2⟩)
    rcases hS with hS | hS
    · exact hb.1.1 hS
    · exact hb.2 hS
theorem goesO_settle {α : Type} {e : TypeId} {K : Kn α} {xs : List α} (s : Nat) (hp : Nat.blt 0 K.sz = true) (h : findE [] Γ s = some (Ent.t s (VA.own e K xs))) (next : GoesO P c (Ent.t s (VA.k (kslice K) xs) :: Γ) ops l Q) : GoesO P c Γ ops l Q := fun a w hi => next a w (inv_settle (blt_lt hp) (has_find h) hi)
theorem goes_settle {α : Type} {e : TypeId} {K : Kn α} {xs : List α} {k : Code} (s : Nat) (hp : Nat.blt 0 K.sz = true) (h : findE [] Γ s = some (Ent.t s (VA.own e K xs))) (next : Goes P c (Ent.t s (VA.k (kslice K) xs) :: Γ) k Q) : Goes P c Γ k Q := fun a w hi => next a w (inv_settle (blt_lt hp) (has_find h) hi)
theorem ends_settle {α : Type} {e : TypeId} {K : Kn α} {xs : List α} {x : Exit} (s : Nat) (hp : Nat.blt 0 K.sz = true) (h : findE [] Γ s = some (Ent.t s (VA.own e K xs))) (next : Ends c (Ent.t s (VA.k (kslice K) xs) :: Γ) Q x) : Ends c Γ Q x := fun a w hi => next a w (inv_settle (blt_lt hp) (has_find h) hi)
end
/-! ### append -/
/-- What an append finds of its second operand. -/
def Reads {α : Type} (K : Kn α) (S : Blk) (w : World) (v : Value) (ys : List α) : Prop :=
  ∃ A c, v = .slice A ys.length c ∧ (0 < ys.length → ∃ ad, A = some ad ∧ ∀ j p, ys[j]? = some p → ∃ cs, K.R S w p cs ∧ ∀ i u, cs[i]? = some u → w.cell? (ad.add (j * K.sz + i)) = some u)
theorem reads_k {α : Type} {K : Kn α} {θ : Nat → Nat} {S : Blk} {ob : Option Nat} {w : World} {xs : List α} {v : Value} (h : (VA.k (kslice K) xs).sem θ S ob w v) : Reads K S w v xs := by
  obtain ⟨A, c, rfl, h1, h2, h3⟩ := k_slice h
  refine ⟨A, c, rfl, fun hx => ?_⟩
  obtain ⟨ad, e, _, hr⟩ := h3 hx
  exact ⟨ad, e, hr⟩
theorem reads_own {α : Type} {e : TypeId} {K : Kn α} {θ : Nat → Nat} {S : Blk} {ob : Option Nat} {w : World} {xs : List α} {v : Value} (h : (VA.own e K xs).sem θ S ob w v) : Reads K S w v xs := by
  obtain ⟨h0, inner, ho, hr⟩ := h
  have hl := ho.1
  rcases ho.2 with ⟨rfl, h1⟩ | ⟨g, cap, cur, rfl, hg, hh, h2, h3, h4, h5⟩
  · exact ⟨none, 0, by rw [h1], fun hx => by omega⟩
  · refine ⟨_, _, rfl, fun hx => ⟨_, rfl, fun j p hj => ⟨_, hr j p hj, fun i u hi => ?_⟩⟩⟩
    rw [add_add, Nat.zero_add, cell_of_row w g _ cur e (0, 0) hh]
    rw [List.getElem?_take] at hi
    split at hi
    · rw [List.getElem?_drop, ← h5, List.getElem?_take] at hi
      split at hi
      · simpa using hi
      · cases hi
    · cases hi
/-- The cells of several elements, in line. -/
theorem cells_line {α : Type} {K : Kn α} {S : Blk} {w : World} {ad : Addr} : ∀ (ys : List α) (o : Nat), (∀ j p, ys[j]? = some p → ∃ cs, K.R S w p cs ∧ ∀ i u, cs[i]? = some u → w.cell? (ad.add (o + j * K.sz + i)) = some u) →
    ∃ news : List Value, news.length = ys.length * K.sz ∧ (∀ j u, news[j]? = some u → w.cell? (ad.add (o + j)) = some u) ∧ (∀ u ∈ news, u.oneCell' = true) ∧ ∀ j p, ys[j]? = some p → K.R S w p ((news.drop (j * K.sz)).take K.sz)
  | [], o, _ => ⟨[], by simp, fun j u h => by simp at h, fun u h => by simp at h, fun j p h => by simp at h⟩
  | y :: ys, o, h => by
    obtain ⟨cs, h1, h2⟩ := h 0 y rfl
    have hl := K.len h1
    obtain ⟨news, n1, n2, n3, n4⟩ := cells_line ys (o + K.sz) (fun j p hj => by
      obtain ⟨cs, g1, g2⟩ := h (j + 1) p hj
      refine ⟨cs, g1, fun i u hi => ?_⟩
      rw [← g2 i u hi]; congr 2; rw [Nat.add_mul, Nat.one_mul]; omega)
    refine ⟨cs ++ news, by rw [List.length_append, n1, hl, List.length_cons, Nat.add_mul, Nat.one_mul]; omega, fun j u hj => ?_, fun u hu => ?_, fun j p hj => ?_⟩
    · rcases Nat.lt_or_ge j cs.length with hlt | hge
      · rw [List.getElem?_append_left hlt] at hj
        rw [← h2 j u hj]; congr 2; omega
      · rw [List.getElem?_append_right hge] at hj
        rw [← n2 _ u hj]; congr 2; omega
    · rcases List.mem_append.1 hu with hu | hu
      · exact K.one h1 u hu
      · exact n3 u hu
    · cases j with
      | zero =>
        cases hj
        rw [Nat.zero_mul, List.drop_zero, ← hl, List.take_left]
        exact h1
      | succ j =>
        have := n4 j p hj
        rw [Nat.add_mul, Nat.one_mul, show j * K.sz + K.sz = cs.length + j * K.sz by omega, drop_app]
        exact this
/-- What a call of append needs to know of the element's type. -/
structure AT {α : Type} (P : Program) (t e : TypeId) (K : Kn α) (bytes : Nat) : Prop where
  u : P.underlying t = some (.slice e)
  i : ∃ i z, P.info? e = some i ∧ i.zero = some z ∧ i.size = K.sz ∧ i.bytes = bytes ∧ z.cells.size = K.sz
  pos : 0 < K.sz
  pb : 0 < bytes
/-- The bound up to which a row may grow here. -/
def room (bytes n : Nat) : Bool := Nat.ble (n * bytes) 140737488355328
def app {α : Type} (bytes : Nat) (xs ys : List α) : Option (List α) := if room bytes (xs.length + ys.length) = true then some (xs ++ ys) else none
theorem run_append_none {P : Program} {t ty e : TypeId} {i : TypeInfo} (ht : P.underlying t = some (.slice e)) (hi : P.info? e = some i) {base size : Nat} {w : World} {v : Value} {n : Nat} {xs : List Value} (hown : w.ownsRow base e size v n xs) (c : Nat) :
    (Builtin.append_ #[t, t] ty #[v, .slice none 0 c]).run P w = .ok v w := by
  rcases hown.2 with ⟨rfl, rfl⟩ | ⟨g, cap, cur, rfl, _, _, hnc, _⟩
  · simp [Builtin.append_, run_underlying ht, sizeOf, typeInfo, hi, Builtin.lenOf, Builtin.firstCells]
  · simp [Builtin.append_, run_underlying ht, sizeOf, typeInfo, hi, Builtin.lenOf, Builtin.firstCells, hnc, storeCells]
theorem run_append_own_k {α : Type} {P : Program} {t ty e : TypeId} {K : Kn α} {bytes : Nat} (hT : AT P t e K bytes) {θ : Nat → Nat} {S : Blk} {ob : Option Nat} {w : World} {xs ys : List α} {v x : Value} (h : (VA.own e K xs).sem θ S ob w v) (hx : Reads K S w x ys) (hroom : room bytes (xs.length + ys.length) = true)
    (hob : ∀ b, ob = some b → ¬ S b) (hSb : ∀ b, S b → b < w.heap.size) :
    ∃ v' w', (Builtin.append_ #[t, t] ty #[v, x]).run P w = .ok v' w' ∧ (VA.own e K (xs ++ ys)).sem θ S v'.ownBlock w' v' ∧ w.grownBy w' ob ∧ (v'.ownBlock = ob ∨ v'.ownBlock = some w.heap.size) := by
  obtain ⟨rfl, inner, ho, hr⟩ := h
  obtain ⟨i, z, hi, hz, hs, hby, hzs⟩ := hT.i
  have hby' : (xs.length + ys.length) * bytes ≤ 140737488355328 := Nat.le_of_ble_eq_true hroom
  have h63 : xs.length + ys.length ≤ maxLen := by
    have := Nat.le_mul_of_pos_right (xs.length + ys.length) hT.pb
    unfold maxLen; omega
  obtain ⟨A, c, rfl, hread⟩ := hx
  have hil := ho.1
  by_cases h0 : 0 < ys.length
  · obtain ⟨ad, rfl, hel⟩ := hread h0
    obtain ⟨news, n1, n2, n3, n4⟩ := cells_line ys 0 (fun j p hj => by
      obtain ⟨cs, g1, g2⟩ := hel j p hj
      exact ⟨cs, g1, fun i u hi => by rw [Nat.zero_add]; exact g2 i u hi⟩)
    obtain ⟨v', w', hrun, hown, hg, _, hat⟩ := run_append_own_at (P := P) w 0 t ty e i z K.sz bytes hT.u hi hz hs hby hzs hT.pos v xs.length inner ho ad ys.length c news n1 (fun j u hj => by have := n2 j u hj; rw [Nat.zero_add] at this; exact this) n3 h63 hby' (Nat.zero_le _)
    refine ⟨v', w', hrun, ⟨rfl, inner ++ news, by rw [List.length_append]; exact hown, fun j p hj => ?_⟩, hg, hat⟩
    have hag : Agree S w w' := fun b hb => hg.block b (hSb b hb) (fun e => hob b e.symm hb)
    rcases Nat.lt_or_ge j xs.length with hlt | hge
    · rw [List.getElem?_append_left hlt] at hj
      have hle : j * K.sz + K.sz ≤ inner.length := by rw [hil, ← Nat.succ_mul]; exact Nat.mul_le_mul_right _ hlt
      rw [List.drop_append_of_le_length (by omega), List.take_append_of_le_length (by rw [List.length_drop]; omega)]
      exact K.move (hr j p hj) hag (fun b hb => hb)
    · rw [List.getElem?_append_right hge] at hj
      rw [show j * K.sz = inner.length + (j - xs.length) * K.sz by rw [hil, ← Nat.add_mul]; congr 1; omega, drop_app]
      exact K.move (n4 _ p hj) hag (fun b hb => hb)
  · have hy : ys = [] := List.eq_nil_of_length_eq_zero (by omega)
    subst hy
    have hrun : (Builtin.append_ #[t, t] ty #[v, .slice A 0 c]).run P w = .ok v w := by
      cases A with
      | none => exact run_append_none hT.u hi ho c
      | some ad =>
        rcases ho.2 with ⟨rfl, hn⟩ | ⟨g, cap, cur, rfl, _, hh, hnc, hcm, hcs, _⟩
        · simp [Builtin.append_, run_underlying hT.u, sizeOf, typeInfo, hi, Builtin.lenOf, Builtin.firstCells, loadCells, loadCellsFrom]
        · simp [Builtin.append_, run_underlying hT.u, sizeOf, typeInfo, hi, Builtin.lenOf, Builtin.firstCells, hnc, storeCells, loadCells, loadCellsFrom]
    refine ⟨v, w, hrun, ⟨rfl, inner, by rw [List.append_nil]; exact ho, fun j p hj => by rw [List.append_nil] at hj; exact hr j p hj⟩, ⟨rfl, rfl, rfl, Nat.le_refl _, fun k _ _ => rfl⟩, .inl rfl⟩
end Go.Proofs.Ytedgkcdofiildaa.Sl
