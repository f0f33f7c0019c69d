/- Appends; rows and struct values from their parts; own rows handed on. -/
import Derived.Test.YtedgkcdofiildaaSl6
import Derived.Great.BuildSlice
set_option linter.unusedVariables false
set_option linter.unusedSimpArgs false
namespace Go.Proofs.Ytedgkcdofiildaa.Sl
open Go Go.RowKit
section
variable {P : Program} {n d : Nat} {ty t t' : TypeId} {pos : String} {af : Array Edge} {g : Option (Nat × Bool)} {N : Ent → Prop}
def ReadsArg {α : Type} (N : Ent → Prop) (K : Kn α) (x : Operand) (ys : List α) : Prop := ∀ (θ : Nat → Nat) (S : Blk) (a : Act) (w : World), (∀ e, N e → ∃ ob, e.sem θ S ob a w) → Reads K S w (a.eval x) ys
theorem ReadsArg.k {α : Type} {K : Kn α} {x : Operand} {ys : List α} (h : Arg N x (VA.k (kslice K) ys)) : ReadsArg N K x ys := fun θ S a w hN => by
  obtain ⟨_, h1⟩ := h θ S a w hN
  exact reads_k h1
theorem ReadsArg.own {α : Type} {e : TypeId} {K : Kn α} {x : Operand} {ys : List α} (h : Arg N x (VA.own e K ys)) : ReadsArg N K x ys := fun θ S a w hN => by
  obtain ⟨_, h1⟩ := h θ S a w hN
  exact reads_own h1
theorem own_lt_size {α : Type} {e : TypeId} {K : Kn α} {θ : Nat → Nat} {S : Blk} {ob : Option Nat} {w : World} {xs : List α} {v : Value} (h : (VA.own e K xs).sem θ S ob w v) : ∀ b, ob = some b → b < w.heap.size := fun b hb => by
  obtain ⟨rfl, inner, ho, _⟩ := h
  exact (ho.lt b hb).2
theorem run_app_op {ρ : Operand → Value} {x y : Operand} {w w' : World} {v : Value} (h : (Builtin.append_ #[t, t] ty #[ρ x, ρ y]).run P w = .ok v w') :
    (execOp ρ ⟨some d, .call { callee := .builtin .append, args := #[x, y], argTypes := #[t, t] }, ty, pos, af, g⟩).run P w = .ok (.value v) w' := by
  simp [execOp, resolve, invoke, builtin, h, Sem.run_bind, Sem.run_pure, Result.andThen_ok]
/-- append onto a row of the frame's own; the old slot is struck. -/
theorem op_append {α : Type} {e : TypeId} {K : Kn α} {bytes : Nat} {xs ys r : List α} {s : Nat} {x : Operand} (hd : Nat.blt d n = true) (hds : Nat.beq s d = false) (hT : AT P t e K bytes) (hr : app bytes xs ys = some r) (hs : N (Ent.t s (VA.own e K xs))) (hx : ReadsArg N K x ys) :
    OpSpec P n ⟨some d, .call { callee := .builtin .append, args := #[.tmp s, x], argTypes := #[t, t] }, ty, pos, af, g⟩ N [Ent.t d (VA.own e K r), Ent.t s VA.any] := by
  rintro c Γ a w Q rfl hN ⟨h1, h2, h3, θ, S, h4, h5⟩
  unfold app at hr
  split at hr
  · rename_i hroom
    cases hr
    have hread := hx θ S a w (sems hN h5)
    obtain ⟨ob, ho, hav, h6⟩ := sat_take (hN _ hs) h5
    obtain ⟨v', w', hrun, hown, hg, hat⟩ := run_append_own_k (ty := ty) (θ := θ) hT ho hread hroom (fun b hb => (hav b hb).1) (fun b hb => (h4 b hb).1)
    have hrun' := run_app_op (ρ := a.eval) (x := .tmp s) (y := x) (d := d) (pos := pos) (af := af) (g := g) hrun
    have hdn := blt_lt hd
    have hne : s ≠ d := fun e => by rw [e, Nat.beq_refl] at hds; cases hds
    have hlt := own_lt_size hown
    have hag : Agree S w w' := fun b hb => hg.block b (h4 b hb).1 (fun e => (hav b e.symm).1 hb)
    unfold Oper.wp
    rw [hrun']
    show Inv c _ (a.put (some d) v') w'
    refine ⟨by rw [put_defers]; exact h1, by rw [put_size]; exact h2, h3.grown hg (fun b hb => (hav b hb).2.2), θ, S, h4.grow hg.size, ?_⟩
    refine sat_consO (ob := v'.ownBlock) (dead_nil _) ?_ (fun b hb => ?_) (sat_consK ?_ rfl ?_)
    · show (VA.own e K (xs ++ ys)).sem θ S _ w' ((a.put (some d) v').tmps.getD d undef)
      rw [put_getD_self (by omega)]
      exact hown
    · refine ⟨fun hS => ?_, hlt b hb, ?_⟩
      · rcases hat with hat | hat
        · exact (hav b (hat ▸ hb)).1 hS
        · rw [hat] at hb; cases hb
          have := (h4 _ hS).1; omega
      · rcases hat with hat | hat
        · exact (hav b (hat ▸ hb)).2.2
        · rw [hat] at hb; cases hb
          exact .inl h3.size
    · refine dead_iff (fun k hk => ?_)
      simp only [Ent.t, List.mem_singleton] at hk
      simp only [Ent.deps, Ent.t, VA.any, List.map_nil, List.append_nil, List.mem_cons, List.not_mem_nil, or_false]
      omega
    · have h7 := sat_mono h6 (ks' := [s, d]) (fun k hk => by simp [Ent.t] at hk; simp [hk]) (fun b hb => hb)
      refine sat_mono (sat_move h7 hag (fun b hb => hb) (fun b hb => hg.block b hb.1.2.1 (fun e => hb.2 e.symm)) (fun t ht => put_getD_ne (fun e => ht (by simp [e]))) (fun k hk => rfl)) (fun k hk => hk) (fun b hb => ⟨⟨hb.1.1, by have := hg.size; have := hb.1.2.1; omega, hb.1.2.2⟩, fun e => ?_⟩)
      rcases hat with hat | hat
      · exact hb.2 (hat ▸ e)
      · rw [hat] at e; cases e
        have := hb.1.2.1; omega
  · cases hr
/-- append onto nil. -/
theorem op_append_nil {α : Type} {e : TypeId} {K : Kn α} {bytes : Nat} {ys r : List α} {x : Operand} (hd : Nat.blt d n = true) (hT : AT P t e K bytes) (hr : app bytes [] ys = some r) (hx : ReadsArg N K x ys) :
    OpSpec P n ⟨some d, .call { callee := .builtin .append, args := #[.const (.slice none 0 0), x], argTypes := #[t, t] }, ty, pos, af, g⟩ N [Ent.t d (VA.own e K r)] := by
  rintro c Γ a w Q rfl hN ⟨h1, h2, h3, θ, S, h4, h5⟩
  unfold app at hr
  split at hr
  · rename_i hroom
    cases hr
    have hread := hx θ S a w (sems hN h5)
    have ho : (VA.own e K ([] : List α)).sem θ S none w (.slice none 0 0) := ⟨rfl, [], World.ownsRow_nil _ _ _ _, fun j p h => by simp at h⟩
    obtain ⟨v', w', hrun, hown, hg, hat⟩ := run_append_own_k (ty := ty) (θ := θ) hT ho hread hroom (fun b hb => by cases hb) (fun b hb => (h4 b hb).1)
    have hrun' := run_app_op (ρ := a.eval) (x := .const (.slice none 0 0)) (y := x) (d := d) (pos := pos) (af := af) (g := g) hrun
    have hdn := blt_lt hd
    have hlt := own_lt_size hown
    have hag : Agree S w w' := fun b hb => hg.block b (h4 b hb).1 (by simp)
    unfold Oper.wp
    rw [hrun']
    show Inv c _ (a.put (some d) v') w'
    refine ⟨by rw [put_defers]; exact h1, by rw [put_size]; exact h2, h3.grown hg (fun b hb => by cases hb), θ, S, h4.grow hg.size, ?_⟩
    refine sat_consO (ob := v'.ownBlock) (dead_nil _) ?_ (fun b hb => ?_) ?_
    · show (VA.own e K ([] ++ ys)).sem θ S _ w' ((a.put (some d) v').tmps.getD d undef)
      rw [put_getD_self (by omega)]
      exact hown
    · rcases hat with hat | hat
      · rw [hat] at hb; cases hb
      · rw [hat] at hb; cases hb
        exact ⟨fun hS => (by have := (h4 _ hS).1; omega), hlt _ hat, .inl h3.size⟩
    · refine sat_mono (sat_move (ks := [d]) (sat_mono h5 (fun k hk => by cases hk) (fun b hb => hb)) hag (fun b hb => hb) (fun b hb => hg.block b hb.2.1 (by simp)) (fun t ht => put_getD_ne (fun e => ht (by simp [e]))) (fun k hk => rfl)) (fun k hk => hk) (fun b hb => ⟨⟨hb.1, by have := hg.size; have := hb.2.1; omega, hb.2.2⟩, fun e => ?_⟩)
      rcases hat with hat | hat
      · rw [hat] at e; cases e
      · rw [hat] at e; cases e
        have := hb.2.1; omega
  · cases hr
theorem op_mv {A : VA} {s : Nat} {op : Op} (hop : op = .move (.tmp s) ∨ op = .assign (.tmp s)) (hd : Nat.blt d n = true) (hds : Nat.beq s d = false) (hs : N (Ent.t s A)) :
    OpSpec P n ⟨some d, op, ty, pos, af, g⟩ N [Ent.t d A, Ent.t s VA.any] := by
  rintro c Γ a w Q rfl hN ⟨h1, h2, h3, θ, S, h4, h5⟩
  obtain ⟨ob, ho, hav, h6⟩ := sat_take (hN _ hs) h5
  have hdn := blt_lt hd
  have hne : s ≠ d := fun e => by rw [e, Nat.beq_refl] at hds; cases hds
  have hrun : (execOp a.eval ⟨some d, op, ty, pos, af, g⟩).run P w = .ok (.value (a.eval (.tmp s))) w := by rcases hop with rfl | rfl <;> rfl
  unfold Oper.wp
  rw [hrun]
  show Inv c _ (a.put (some d) _) w
  refine ⟨by rw [put_defers]; exact h1, by rw [put_size]; exact h2, h3, θ, S, h4, ?_⟩
  refine sat_consO (ob := ob) (dead_nil _) ?_ hav (sat_consK ?_ rfl ?_)
  · show A.sem θ S ob w ((a.put (some d) _).tmps.getD d undef)
    rw [put_getD_self (by omega)]
    exact ho
  · refine dead_iff (fun k hk => ?_)
    simp only [Ent.t, List.mem_singleton] at hk
    simp only [Ent.deps, Ent.t, VA.any, List.map_nil, List.append_nil, List.mem_cons, List.not_mem_nil, or_false]
    omega
  · have h7 := sat_mono h6 (ks' := [s, d]) (fun k hk => by simp [Ent.t] at hk; simp [hk]) (fun b hb => hb)
    exact sat_mono (sat_move h7 (Agree.refl _ _) (fun b hb => hb) (fun b hb => rfl) (fun t ht => put_getD_ne (fun e => ht (by simp [e]))) (fun k hk => rfl)) (fun k hk => hk) (fun b hb => hb)
/-- A nil row is the frame's own. -/
theorem op_assign_nil {α : Type} {op : Op} (e : TypeId) (K : Kn α) (hop : op = .move (.const (.slice none 0 0)) ∨ op = .assign (.const (.slice none 0 0))) (hd : Nat.blt d n = true) :
    OpSpec P n ⟨some d, op, ty, pos, af, g⟩ N [Ent.t d (VA.own e K [])] := op_pure hd fun θ S act w hN =>
  ⟨.slice none 0 0, by rcases hop with rfl | rfl <;> rfl, rfl, [], World.ownsRow_nil _ _ _ _, fun j p h => by simp at h⟩
/-! ### rows from their parts -/
inductive Parts {α : Type} (N : Ent → Prop) (K : Kn α) : Nat → List (Nat × Operand) → List α → Prop
  | nil (k : Nat) : Parts N K k [] []
  | cons {k : Nat} {x : Operand} {y : α} {ps : List (Nat × Operand)} {ys : List α} : Arg N x (VA.k K y) → Parts N K (k + 1) ps ys → Parts N K k ((k, x) :: ps) (y :: ys)
theorem fold_splice : ∀ (vs : List Value) (o k : Nat) (cur : Array Value), o + k + vs.length ≤ cur.size →
    (vs.zipIdx k).foldl (fun cs (c, j) => cs.setIfInBounds (o + j) c) cur = (cur.toList.take (o + k) ++ vs ++ cur.toList.drop (o + k + vs.length)).toArray
  | [], o, k, cur, h => by simp
  | v :: vs, o, k, cur, h => by
    simp only [List.length_cons] at h
    rw [List.zipIdx_cons, List.foldl_cons, fold_splice vs o (k + 1) _ (by simp; omega)]
    apply Array.toList_inj.1
    simp only [Array.toList_setIfInBounds, List.length_cons]
    have e1 : (cur.toList.set (o + k) v).take (o + (k + 1)) = cur.toList.take (o + k) ++ [v] := by
      rw [show o + (k + 1) = (o + k) + 1 by omega, List.take_succ_eq_append_getElem (by simp; omega), List.take_set_of_le (by omega)]
      simp
    have e2 : (cur.toList.set (o + k) v).drop (o + (k + 1) + vs.length) = cur.toList.drop (o + k + (vs.length + 1)) := by
      rw [List.drop_set_of_lt (by omega)]; congr 1; omega
    rw [e1, e2]
    simp
theorem fold_splice_arr (v : Value) (o : Nat) (cur : Array Value) (h : o + v.cells.size ≤ cur.size) :
    v.cells.zipIdx.foldl (fun cs (c, j) => cs.setIfInBounds (o + j) c) cur = (cur.toList.take o ++ v.cells.toList ++ cur.toList.drop (o + v.cells.size)).toArray := by
  have := fold_splice v.cells.toList o 0 cur (by simpa using h)
  simp only [Nat.add_zero, Array.length_toList] at this
  rw [← this, ← Array.foldl_toList]
  simp
theorem fill_parts {α : Type} {K : Kn α} (hf : K.agg = false → K.sz = 1) {θ : Nat → Nat} {S : Blk} {a : Act} {w : World} (hN : ∀ e, N e → ∃ ob, e.sem θ S ob a w) :
    ∀ {k : Nat} {ps : List (Nat × Operand)} {ys : List α}, Parts N K k ps ys → ∀ (cur : Array Value), (k + ps.length) * K.sz ≤ cur.size →
    ∃ news : List Value, ys.length = ps.length ∧ news.length = ys.length * K.sz ∧ (∀ j p, ys[j]? = some p → K.R S w p ((news.drop (j * K.sz)).take K.sz)) ∧
      Instr.fill (fun i => some (i * K.sz, K.sz)) cur (ps.map fun (i, x) => (i, a.eval x)) = some (cur.toList.take (k * K.sz) ++ news ++ cur.toList.drop ((k + ps.length) * K.sz)).toArray := by
  intro k ps ys h
  induction h with
  | nil k => exact fun cur hc => ⟨[], rfl, by simp, fun j p h => by simp at h, by simp [Instr.fill]⟩
  | @cons k x y ps ys hx _ ih =>
    intro cur hc
    obtain ⟨_, hv⟩ := hx θ S a w hN
    obtain ⟨cs, hr, _, hcs⟩ := k_cells hv hf
    have hl := K.len hr
    have hsz : (a.eval x).cells.size = K.sz := by rw [← Array.length_toList, hcs, hl]
    simp only [List.length_cons] at hc
    have e1 : (k + (ps.length + 1)) * K.sz = k * K.sz + K.sz + ps.length * K.sz := by rw [Nat.add_mul, Nat.add_mul, Nat.one_mul]; omega
    have e2 : (k + 1 + ps.length) * K.sz = k * K.sz + K.sz + ps.length * K.sz := by rw [Nat.add_mul, Nat.add_mul, Nat.one_mul]
    have e3 : (k + 1) * K.sz = k * K.sz + K.sz := by rw [Nat.add_mul, Nat.one_mul]
    rw [e1] at hc
    obtain ⟨news, n0, n1, n2, n3⟩ := ih (cur.toList.take (k * K.sz) ++ cs ++ cur.toList.drop (k * K.sz + K.sz)).toArray (by rw [e2]; simp [hl]; omega)
    refine ⟨cs ++ news, by rw [List.length_cons, List.length_cons, n0], by rw [List.length_append, n1, hl, List.length_cons, Nat.add_mul, Nat.one_mul]; omega, fun j p hj => ?_, ?_⟩
    · cases j with
      | zero => cases hj; rw [Nat.zero_mul, List.drop_zero, ← hl, List.take_left]; exact hr
      | succ j => rw [Nat.add_mul, Nat.one_mul, show j * K.sz + K.sz = cs.length + j * K.sz by omega, drop_app]; exact n2 j p hj
    · have hstep := fold_splice_arr (a.eval x) (k * K.sz) cur (by rw [hsz]; omega)
      rw [hcs, hsz] at hstep
      rw [List.map_cons]
      simp only [Instr.fill]
      rw [if_neg (by simp [hsz]; omega), hstep, n3]
      congr 2
      rw [e3, e2, List.length_cons, e1]
      have hA : (cur.toList.take (k * K.sz)).length = k * K.sz := by simp; omega
      have g1 : (cur.toList.take (k * K.sz) ++ cs ++ cur.toList.drop (k * K.sz + K.sz)).take (k * K.sz + K.sz) = cur.toList.take (k * K.sz) ++ cs := by
        rw [List.take_append_of_le_length (by simp [hl]; omega), List.take_of_length_le (by simp [hl]; omega)]
      have g2 : (cur.toList.take (k * K.sz) ++ cs ++ cur.toList.drop (k * K.sz + K.sz)).drop (k * K.sz + K.sz + ps.length * K.sz) = cur.toList.drop (k * K.sz + K.sz + ps.length * K.sz) := by
        rw [show k * K.sz + K.sz + ps.length * K.sz = (cur.toList.take (k * K.sz) ++ cs).length + ps.length * K.sz by rw [List.length_append, hA, hl], drop_app, List.drop_drop]
        congr 1
        rw [List.length_append, hA, hl]
      simp only [List.toList_toArray]
      rw [g1, g2]
      simp
theorem op_buildSlice {α : Type} {e : TypeId} {K : Kn α} {bytes : Nat} {len : Nat} {ps : List (Nat × Operand)} {ys : List α} (hd : Nat.blt d n = true) (hT : AT P t e K bytes) (hf : K.agg = false → K.sz = 1) (hlen : Nat.beq ps.length len = true) (hpos : Nat.blt 0 len = true) (hsm : Nat.ble (len * K.sz) 16777216 = true) (hp : Parts N K 0 ps ys) :
    OpSpec P n ⟨some d, .buildSlice t len ps.toArray, ty, pos, af, g⟩ N [Ent.t d (VA.own e K ys)] := by
  rintro c Γ a w Q rfl hN ⟨h1, h2, h3, θ, S, h4, h5⟩
  obtain ⟨i, z, hi, hz, hs, hby, hzs⟩ := hT.i
  have hlen' : ps.length = len := Nat.eq_of_beq_eq_true hlen
  have hpos' := blt_lt hpos
  have hsm' : len * K.sz ≤ 16777216 := Nat.le_of_ble_eq_true hsm
  have hK := hT.pos
  obtain ⟨news, n0, n1, n2, n3⟩ := fill_parts hf (sems hN h5) hp ((Array.range (len * i.size)).map (z.cells[· % z.cells.size]!)) (by rw [hs]; simp [hlen'])
  have hcells : (Array.map (fun x => z.cells[x % z.cells.size]!) (Array.range (len * i.size))).size = len * K.sz := by simp [hs]
  rw [List.drop_of_length_le (by rw [Array.length_toList, hcells, Nat.zero_add, hlen']; exact Nat.le_refl _), Nat.zero_mul, List.take_zero, List.nil_append, List.append_nil] at n3
  have hrun : (execOp a.eval ⟨some d, .buildSlice t len ps.toArray, ty, pos, af, g⟩).run P w = .ok (.value (.slice (some ⟨w.heap.size, 0, none⟩) len len)) (w.alloc (.cells news.toArray e)) := by
    have := run_buildSlice (P := P) w t e len (ps.map fun (i, x) => (i, a.eval x)).toArray news.toArray i z hT.u hi hz (by rw [hs]; omega) (by
      rw [hs]; exact Nat.pos_iff_ne_zero.1 (Nat.mul_pos hpos' hK)) (by rw [hs] at n3 ⊢; simpa using n3)
    clear hN h1 h2 h5 n3
    generalize a.eval = ρ at *
    simp only [execOp, List.map_toArray, Sem.run_bind, Sem.run_pure, this, Result.andThen_ok]
  have hlm : len ≤ maxLen := by have := Nat.le_mul_of_pos_right len hK; unfold maxLen; omega
  have hrow := World.ownsRow_lit (base := 0) (e := e) (size := K.sz) w news.toArray len (Nat.zero_le _) hlm (by simp [n1, n0, hlen'])
  have hdn := blt_lt hd
  unfold Oper.wp
  rw [hrun]
  show Inv c _ (a.put (some d) _) _
  refine ⟨by rw [put_defers]; exact h1, by rw [put_size]; exact h2, h3.alloc _, θ, S, h4.grow (by simp), ?_⟩
  refine sat_consB (b := w.heap.size) (dead_nil _) ?_ ⟨fun hS => (by have := (h4 _ hS).1; omega), by simp, .inl h3.size⟩ ?_
  · show (VA.own e K ys).sem θ S _ _ ((a.put (some d) _).tmps.getD d undef)
    rw [put_getD_self (by omega)]
    refine ⟨rfl, news, by rw [n0, hlen']; simpa using hrow, fun j p hj => K.move (n2 j p hj) (agree_alloc h4 _) (fun b hb => hb)⟩
  · refine sat_mono (sat_move (ks := [d]) (sat_mono h5 (fun k hk => by cases hk) (fun b hb => hb)) (agree_alloc h4 _) (fun b hb => hb) (fun b hb => Below.heap_alloc _ _ _ hb.2.1) (fun t ht => put_getD_ne (fun e => ht (by simp [e]))) (fun k hk => rfl)) (fun k hk => hk) (fun b hb => ⟨⟨hb.1, by have := hb.2.1; simp; omega, hb.2.2⟩, by have := hb.2.1; omega⟩)
/-! ### struct values from their parts -/
/-- Type t's zero value is x. -/
def ZK {α : Type} (P : Program) (t : TypeId) (K : Kn α) (x : α) : Prop := ∃ i v, P.info? t = some i ∧ i.zero = some v ∧ ∀ S w, K.R S w x v.cells.toList
inductive FParts {α : Type} (N : Ent → Prop) (P : Program) (K : Kn α) (fs : Array Field) : List (Nat × Operand) → α → α → Prop
  | nil (x : α) : FParts N P K fs [] x x
  | cons {β : Type} {j : Nat} {f : Field} {o : Operand} {K' : Kn β} {get : α → β} {set : α → β → α} {x z : α} {y : β} {ps : List (Nat × Operand)} : fs[j]? = some f → TK P f.type K' → Fld K f.offset K' get set → Arg N o (VA.k K' y) → FParts N P K fs ps (set x y) z → FParts N P K fs ((j, o) :: ps) x z
theorem tk_info {α : Type} {P : Program} {t : TypeId} {K : Kn α} (h : TK P t K) : ∃ i, P.info? t = some i ∧ i.size = K.sz := by
  have := h.size default
  unfold sizeOf typeInfo at this
  cases hi : P.info? t with
  | none => simp [Sem.run_bind, hi, stuck] at this
  | some i => exact ⟨i, rfl, by simpa [Sem.run_bind, hi] using this⟩
end
end Go.Proofs.Ytedgkcdofiildaa.Sl
