/- Elements of the frame's own rows; rows that are made; tuples under another slot. -/
import Derived.Test.YtedgkcdofiildaaSl13
import Derived.Laws.MakeOwn
set_option linter.unusedVariables false
set_option linter.unusedSimpArgs false
set_option linter.unnecessarySimpa false
set_option linter.deprecated false
namespace Go.Proofs.Ytedgkcdofiildaa.Sl
open Go Go.RowKit
/-- Slot d points at cell p of the own row in slot s. -/
def Ent.oe (d s p : Nat) : Ent where
  key := d
  slots := [d, s]
  ids := []
  sem := fun _ _ ob a _ => ob = none ∧ ∃ g n c, a.tmps.getD s undef = .slice (some ⟨g, 0, none⟩) n c ∧ a.tmps.getD d undef = .pointer (some ⟨g, p, none⟩)
  move := by
    rintro θ θ' S S' ob a a' w w' ⟨h0, g, n, c, h1, h2⟩ _ _ _ ht _
    exact ⟨h0, g, n, c, by rw [ht s (by simp)]; exact h1, by rw [ht d (by simp)]; exact h2⟩
section
variable {P : Program} {n d : Nat} {ty t t' : TypeId} {pos : String} {af : Array Edge} {g : Option (Nat × Bool)} {N : Ent → Prop}
theorem own_cur {α : Type} {e : TypeId} {K : Kn α} {θ : Nat → Nat} {S : Blk} {ob : Option Nat} {w : World} {xs : List α} {v : Value} (h : (VA.own e K xs).sem θ S ob w v) (h0 : 0 < xs.length) :
    ∃ g cap cur, v = .slice (some ⟨g, 0, none⟩) xs.length cap ∧ ob = some g ∧ w.heap[g]? = some (.cells cur e (0, 0)) ∧ xs.length ≤ cap ∧ cap ≤ maxLen ∧ cur.size = cap * K.sz ∧ ∀ j p, xs[j]? = some p → K.R S w p ((cur.toList.drop (j * K.sz)).take K.sz) := by
  obtain ⟨e0, inner, ho, hr⟩ := h
  rcases ho.2 with ⟨rfl, h1⟩ | ⟨g, cap, cur, rfl, hg, hh, h2, h3, h4, h5⟩
  · omega
  · refine ⟨g, cap, cur, rfl, e0, hh, h2, h3, h4, fun j p hj => ?_⟩
    have := hr j p hj
    have hlt := (List.getElem?_eq_some_iff.1 hj).1
    rw [← h5, List.drop_take, List.take_take, Nat.min_eq_left (by have : j * K.sz + K.sz ≤ xs.length * K.sz := (by rw [← Nat.succ_mul]; exact Nat.mul_le_mul_right _ hlt); omega)] at this
    exact this
theorem inv_put_e {c : Ctx} {Γ : List Ent} {a : Act} {w w' : World} {d : Nat} {e : Ent} {v : Value} {θ : Nat → Nat} {S : Blk} (hd : Nat.blt d c.n = true) (hk : e.key = d) (h1 : a.defers = []) (h2 : a.tmps.size = c.n ∧ c.n ≤ 1000000) (h3 : Fr c.X c.w0 w') (h4 : SOk c S w')
    (h5 : sat θ S a w [] Γ (free c S w)) (hw : w'.heap = w.heap) (hA : e.sem θ S none (a.put (some d) v) w') : Inv c (e :: Γ) (a.put (some d) v) w' := by
  refine ⟨by rw [put_defers]; exact h1, by rw [put_size]; exact h2, h3, θ, S, h4, sat_cons hA ?_⟩
  rw [hk]
  refine sat_mono (sat_move (ks := [d]) (sat_mono h5 (fun k hk => by cases hk) (fun b hb => hb)) (fun b hb => by rw [hw]) (fun b hb => hb) (fun b hb => by rw [hw]) (fun t ht => put_getD_ne (by simpa using ht)) (fun k _ => rfl)) (fun k hk => hk) (fun b hb => ?_)
  obtain ⟨f1, f2, f3⟩ := hb
  exact ⟨f1, by rw [hw]; exact f2, f3⟩
/-- The slot that an operand names, or the one that it repeats. -/
def Slot (N : Ent → Prop) (x s : Nat) : Prop := x = s ∨ N (Ent.same x s)
theorem Slot.of {N : Ent → Prop} {s : Nat} : Slot N s s := .inl rfl
theorem Slot.same {N : Ent → Prop} {x s : Nat} (h : N (Ent.same x s)) : Slot N x s := .inr h
theorem Slot.eval {N : Ent → Prop} {x s : Nat} (h : Slot N x s) {θ : Nat → Nat} {S : Blk} {a : Act} {w : World} (hN : ∀ e, N e → ∃ ob, e.sem θ S ob a w) : a.tmps.getD x undef = a.tmps.getD s undef := by
  rcases h with rfl | h
  · rfl
  · obtain ⟨_, _, e⟩ := hN _ h
    exact e
theorem op_indexAddr_own {α : Type} {K : Kn α} {xs : List α} {x : α} {i : Int} {q s : Nat} {y : Operand} {e e' : TypeId} (hd : Nat.blt d n = true) (hds : Nat.beq s d = false) (hu : P.underlying t = some (.slice e)) (hk : TK P e K) (hi : idx xs i = some x) (hq : Slot N q s) (ho : N (Ent.t s (VA.own e' K xs))) (hy : Arg N y (VA.k (kint .i64) i)) :
    OpSpec P n ⟨some d, .indexAddr t (.tmp q) y, ty, pos, af, g⟩ N [Ent.oe d s (i.toNat * K.sz)] := by
  rintro c Γ a w Q rfl hN ⟨h1, h2, h3, θ, S, h4, h5⟩
  have hN2 := sems hN h5
  obtain ⟨_, hv⟩ := hy θ S a w hN2
  obtain ⟨ob, hw⟩ := hN2 _ ho
  obtain ⟨i0, i1, i2⟩ := idx_spec hi
  obtain ⟨g', cap, cur, e1, e2, e3, e4, e5, e6, e7⟩ := own_cur (θ := θ) hw (by omega)
  have e1' : a.eval (.tmp q) = .slice (some ⟨g', 0, none⟩) xs.length cap := by
    show a.tmps.getD q undef = _
    rw [hq.eval hN2]; exact e1
  have e8 := k_int hv
  have hne : s ≠ d := fun e => by rw [e, Nat.beq_refl] at hds; cases hds
  have hrun : (execOp a.eval ⟨some d, .indexAddr t (.tmp q) y, ty, pos, af, g⟩).run P w = .ok (.value (.pointer (some ⟨g', i.toNat * K.sz, none⟩))) w := by
    clear hN hN2 hy h5 h1 h2 hw e1
    generalize a.eval = ρ at *
    simp [execOp, Instr.indexAt, e1', e8, run_underlying hu, asIntOf, i0, i1, hk.size, add_add, Sem.run_bind, Sem.run_pure, Result.andThen_ok]
  unfold Oper.wp
  rw [hrun]
  have hdn := blt_lt hd
  refine inv_put_e (θ := θ) (S := S) hd rfl h1 h2 h3 h4 h5 rfl ⟨rfl, g', xs.length, cap, ?_, ?_⟩
  · rw [put_getD_ne hne]; exact e1
  · rw [put_getD_self (by omega)]
theorem op_fieldAddr_oe {β : Type} {K' : Kn β} {q s p : Nat} {fs : Array Field} {f : Field} {j : Nat} (hd : Nat.blt d n = true) (hds : Nat.beq s d = false) (hu : P.underlying t = some (.struct fs)) (hf : fs[j]? = some f) (hk : TK P f.type K') (hp : N (Ent.oe q s p)) :
    OpSpec P n ⟨some d, .fieldAddr t (.tmp q) j, ty, pos, af, g⟩ N [Ent.oe d s (p + f.offset)] := by
  rintro c Γ a w Q rfl hN ⟨h1, h2, h3, θ, S, h4, h5⟩
  obtain ⟨_, _, g', n', c', e1, e2⟩ := (sems hN h5) _ hp
  have e2' : a.eval (.tmp q) = .pointer (some ⟨g', p, none⟩) := e2
  have hpos := hk.pos
  have hne : s ≠ d := fun e => by rw [e, Nat.beq_refl] at hds; cases hds
  have hrun : (execOp a.eval ⟨some d, .fieldAddr t (.tmp q) j, ty, pos, af, g⟩).run P w = .ok (.value (.pointer (some ⟨g', p + f.offset, none⟩))) w := by
    clear hN h5 h1 h2 e1 e2
    generalize a.eval = ρ at *
    simp [execOp, Instr.fieldAt, Instr.sureAddr, e2', run_underlying hu, hf, fieldPlace, hk.size, Nat.pos_iff_ne_zero.1 hpos, add_add, Sem.run_bind, Sem.run_pure, Result.andThen_ok]
  unfold Oper.wp
  rw [hrun]
  have hdn := blt_lt hd
  refine inv_put_e (θ := θ) (S := S) hd rfl h1 h2 h3 h4 h5 rfl ⟨rfl, g', n', c', ?_, ?_⟩
  · rw [put_getD_ne hne]; exact e1
  · rw [put_getD_self (by omega)]
theorem op_load_oe {α β : Type} {K : Kn α} {K' : Kn β} {get : α → β} {set : α → β → α} {xs : List α} {x : α} {q s off : Nat} {i : Int} {e : TypeId} (hd : Nat.blt d n = true) (hF : Fld K off K' get set) (hk : TK P t K') (hi : idx xs i = some x) (ho : N (Ent.t s (VA.own e K xs))) (hp : N (Ent.oe q s (i.toNat * K.sz + off))) :
    OpSpec P n ⟨some d, .load t (.tmp q), ty, pos, af, g⟩ N [Ent.t d (VA.k K' (get x))] := op_pure hd fun θ S act w hN => by
  obtain ⟨_, _, g', n', c', e1, e2⟩ := hN _ hp
  obtain ⟨ob, hw⟩ := hN _ ho
  obtain ⟨i0, i1, i2⟩ := idx_spec hi
  obtain ⟨g2, cap, cur, e3, _, e4, e5, e6, e7, e8⟩ := own_cur (θ := θ) hw (by omega)
  have hgg : g2 = g' := by
    have := e3.symm.trans e1
    injection this with h _ _
    injection h with h
    injection h
  subst hgg
  have hr := hF.get (e8 _ _ i2)
  have e2' : act.eval (.tmp q) = .pointer (some ⟨g2, i.toNat * K.sz + off, none⟩) := e2
  have hle := hF.le
  have hl := run_loadVar_at (w := w) (ad := ⟨g2, i.toNat * K.sz + off, none⟩) hk (K'.len hr) (fun j u hu => by
    rw [add_add, cell_of_row w g2 _ cur e (0, 0) e4]
    rw [List.getElem?_take] at hu
    split at hu
    · rw [List.getElem?_drop, List.getElem?_take] at hu
      split at hu
      · rw [List.getElem?_drop] at hu
        rw [← Array.getElem?_toList, ← hu]
        congr 1
        omega
      · cases hu
    · cases hu)
  refine ⟨_, ?_, rfl, _, hr, rfl⟩
  clear hN hw e1 e2 e3
  generalize act.eval = ρ at *
  simp [execOp, Instr.loadAt, Instr.sureAddr, e2', hl, Sem.run_bind, Sem.run_pure, Result.andThen_ok]
theorem splice_mid (l : List Value) (a off sz m : Nat) (c : List Value) (hc : c.length = m) (hm : off + m ≤ sz) (hl : a + sz ≤ l.length) :
    ((l.take (a + off) ++ c ++ l.drop (a + off + m)).drop a).take sz = ((l.drop a).take sz).take off ++ c ++ ((l.drop a).take sz).drop (off + m) := by
  obtain ⟨p, r, rfl, hp⟩ : ∃ p r, l = p ++ r ∧ p.length = a := ⟨l.take a, l.drop a, (List.take_append_drop a l).symm, by simp; omega⟩
  subst hp
  subst hc
  simp only [List.length_append] at hl
  have e0 : (p ++ r).drop p.length = r := by have := drop_app p r 0; simpa using this
  rw [take_app, Nat.add_assoc, drop_app, e0, List.append_assoc, List.append_assoc]
  have e1 : (p ++ (r.take off ++ (c ++ r.drop (off + c.length)))).drop p.length = r.take off ++ (c ++ r.drop (off + c.length)) := by
    have := drop_app p (r.take off ++ (c ++ r.drop (off + c.length))) 0
    simpa using this
  have e2 : (r.take off).length = off := by simp; omega
  rw [e1, List.take_take, Nat.min_eq_left (by omega), List.take_append, e2, List.take_of_length_le (by rw [e2]; omega), List.take_append, List.take_of_length_le (show c.length ≤ sz - off by omega), List.append_assoc, List.drop_take]
  congr 3
  omega
/-- x[i].f = z, in a row of the frame's own. -/
theorem op_store_oe {α β : Type} {K : Kn α} {K' : Kn β} {get : α → β} {set : α → β → α} {xs : List α} {x : α} {y : β} {z : Operand} {q s off : Nat} {i : Int} {e : TypeId} (hF : Fld K off K' get set) (hk : TK P t K') (hi : idx xs i = some x) (ho : N (Ent.t s (VA.own e K xs))) (hp : N (Ent.oe q s (i.toNat * K.sz + off))) (hz : Arg N z (VA.k K' y)) :
    OpSpec P n ⟨none, .store t (.tmp q) z, ty, pos, af, g⟩ N [Ent.t s (VA.own e K (xs.set i.toNat (set x y)))] := by
  rintro c Γ a w Q rfl hN ⟨h1, h2, h3, θ, S, h4, h5⟩
  have hN2 := sems hN h5
  obtain ⟨_, _, g', n', c', e1, e2⟩ := hN2 _ hp
  obtain ⟨_, hv⟩ := hz θ S a w hN2
  obtain ⟨cv, hr', _, hcv⟩ := k_cells hv hk.flat
  obtain ⟨ob, hw, hav, h6⟩ := sat_take (hN _ ho) h5
  obtain ⟨i0, i1, i2⟩ := idx_spec hi
  obtain ⟨g2, cap, cur, e3, rfl, e4, e5, e6, e7, e8⟩ := own_cur (θ := θ) hw (by omega)
  have hgg : g2 = g' := by
    have := e3.symm.trans e1
    injection this with h _ _
    injection h with h
    injection h
  subst hgg
  have hfree := hav _ rfl
  have hle := hF.le
  have hil : i.toNat * K.sz + K.sz ≤ cap * K.sz := by rw [← Nat.succ_mul]; exact Nat.mul_le_mul_right _ (by omega)
  have hvs : (a.eval z).cells.size = K'.sz := by rw [← Array.length_toList, hcv]; exact K'.len hr'
  have hst := run_storeVar_at (P := P) (b := g2) (off := i.toNat * K.sz + off) (v := a.eval z) hk hvs (by rw [hcv]; exact K'.one hr') e4 (by rw [e7]; omega)
  rw [hcv] at hst
  have e2' : a.eval (.tmp q) = .pointer (some ⟨g2, i.toNat * K.sz + off, none⟩) := e2
  have hrun : (execOp a.eval ⟨none, .store t (.tmp q) z, ty, pos, af, g⟩).run P w = .ok .skip (w.setRow g2 (cur.toList.take (i.toNat * K.sz + off) ++ cv ++ cur.toList.drop (i.toNat * K.sz + off + K'.sz)).toArray) := by
    clear hv hN hN2 hp hz h1 h2 h5 h6 hcv hvs e1 e2 e3 hw
    generalize a.eval = ρ at *
    simp [execOp, Instr.storeAt, Instr.sureAddr, e2', hst, Sem.run_bind, Sem.run_pure, Result.andThen_ok]
  unfold Oper.wp
  rw [hrun]
  have hne : ∀ b, S b → b ≠ g2 := fun b hs e => hfree.1 (e ▸ hs)
  have hag : Agree S w (w.setRow g2 (cur.toList.take (i.toNat * K.sz + off) ++ cv ++ cur.toList.drop (i.toNat * K.sz + off + K'.sz)).toArray) := fun b hs => setRow_ne _ _ _ _ (hne b hs)
  have hcl : cv.length = K'.sz := K'.len hr'
  show Inv c _ (a.put none undef) _
  refine ⟨h1, h2, h3.setRow hfree.2.2 _, θ, S, h4.grow (by rw [setRow_size]; exact Nat.le_refl _), ?_⟩
  refine sat_consB (b := g2) (dead_nil _) ?_ ⟨hfree.1, by rw [setRow_size]; exact hfree.2.1, hfree.2.2⟩ ?_
  · have hlen : cur.toList.length = cap * K.sz := by rw [Array.length_toList, e7]
    have hnew : (cur.toList.take (i.toNat * K.sz + off) ++ cv ++ cur.toList.drop (i.toNat * K.sz + off + K'.sz)).length = cap * K.sz := by simp [hcl]; omega
    refine ⟨?_, (cur.toList.take (i.toNat * K.sz + off) ++ cv ++ cur.toList.drop (i.toNat * K.sz + off + K'.sz)).take (xs.length * K.sz), ?_, fun j p hj => ?_⟩
    · show some g2 = (a.tmps.getD s undef).ownBlock
      rw [show a.tmps.getD s undef = .slice (some ⟨g2, 0, none⟩) xs.length cap from e3]; rfl
    · rw [List.length_set]
      refine ⟨by rw [List.length_take, hnew]; exact Nat.min_eq_left (Nat.mul_le_mul_right _ e5), .inr ⟨g2, cap, _, e3, Nat.zero_le _, setRow_heap w _ _ _ e (0, 0) e4, e5, e6, ?_, ?_⟩⟩
      · rw [List.size_toArray]; exact hnew
      · rfl
    · have hjl := (List.getElem?_eq_some_iff.1 hj).1
      rw [List.length_set] at hjl
      have hjb : j * K.sz + K.sz ≤ xs.length * K.sz := by rw [← Nat.succ_mul]; exact Nat.mul_le_mul_right _ hjl
      rw [List.drop_take, List.take_take, Nat.min_eq_left (by omega)]
      by_cases e9 : j = i.toNat
      · subst e9
        rw [List.getElem?_set_self (by omega)] at hj
        cases hj
        have h10 := hF.set (e8 _ _ i2) hr'
        have h11 := splice_mid cur.toList (i.toNat * K.sz) off K.sz K'.sz cv hcl hle (by rw [hlen]; exact hil)
        rw [h11]
        exact K.move h10 hag (fun b hb => hb)
      · rw [List.getElem?_set_ne (fun e => e9 e.symm)] at hj
        have h10 := e8 _ _ hj
        have h11 : ((cur.toList.take (i.toNat * K.sz + off) ++ cv ++ cur.toList.drop (i.toNat * K.sz + off + K'.sz)).drop (j * K.sz)).take K.sz = (cur.toList.drop (j * K.sz)).take K.sz := by
          apply List.ext_getElem?
          intro m
          rw [List.getElem?_take, List.getElem?_take]
          split
          · rename_i hm
            rw [List.getElem?_drop, List.getElem?_drop]
            rcases Nat.lt_or_ge j i.toNat with hlt | hge
            · have : j * K.sz + K.sz ≤ i.toNat * K.sz := by rw [← Nat.succ_mul]; exact Nat.mul_le_mul_right _ hlt
              rw [List.append_assoc, List.getElem?_append_left (by simp; omega), List.getElem?_take, if_pos (by omega)]
            · have : i.toNat * K.sz + K.sz ≤ j * K.sz := by rw [← Nat.succ_mul]; exact Nat.mul_le_mul_right _ (by omega)
              rw [List.getElem?_append_right (by simp [hcl]; omega), List.getElem?_drop]
              congr 1
              simp [hcl]; omega
          · rfl
        rw [h11]
        exact K.move h10 hag (fun b hb => hb)
  · refine sat_mono (sat_move h6 hag (fun b hb => hb) (fun b hb => setRow_ne _ _ _ _ (fun e => hb.2 (by rw [e]))) (fun t _ => rfl) (fun k _ => rfl)) (fun k hk => hk) (fun b hb => ⟨⟨hb.1.1, by rw [setRow_size]; exact hb.1.2.1, hb.1.2.2⟩, fun e => hb.2 (by rw [e])⟩)
theorem op_extract_same {j : Nat} {A : VA} {q s : Nat} (hd : Nat.blt d n = true) (hA : Plain A) (hq : N (Ent.same q s)) (h : N (Ent.c s j A)) :
    OpSpec P n ⟨some d, .extract (.tmp q) j, ty, pos, af, g⟩ N [Ent.t d A] := op_pure hd fun θ S act w hN => by
  obtain ⟨ob, vs, v, e1, e2, h3⟩ := hN _ h
  obtain ⟨_, _, e0⟩ := hN _ hq
  obtain rfl := hA h3
  refine ⟨v, ?_, h3⟩
  have e1' : act.eval (.tmp q) = .tuple vs := e0.trans e1
  clear e1 hN e0
  generalize act.eval = ρ at *
  simp [execOp, Instr.extract, e1', e2, Sem.run_bind, Sem.run_pure, Result.andThen_ok]
theorem op_extract_own_same {j : Nat} {A : VA} {q s : Nat} (hd : Nat.blt d n = true) (hds : Nat.beq d s = false) (hj : Nat.blt j 1000 = true) (hq : N (Ent.same q s)) (h : N (Ent.c s j A)) :
    OpSpec P n ⟨some d, .extract (.tmp q) j, ty, pos, af, g⟩ N [Ent.t d A, Ent.c s j VA.any] := by
  rintro c Γ a w Q rfl hN ⟨h1, h2, h3, θ, S, h4, h5⟩
  obtain ⟨_, _, e0⟩ := (sems hN h5) _ hq
  obtain ⟨ob, ⟨vs, v, e1, e2, hA⟩, hav, h6⟩ := sat_take (hN _ h) h5
  have e1' : a.eval (.tmp q) = .tuple vs := e0.trans e1
  have hrun : (execOp a.eval ⟨some d, .extract (.tmp q) j, ty, pos, af, g⟩).run P w = .ok (.value v) w := by
    clear hN h1 h2 h5 h6 e1 e0
    generalize a.eval = ρ at *
    simp [execOp, Instr.extract, e1', e2, Sem.run_bind, Sem.run_pure, Result.andThen_ok]
  have hdn := blt_lt hd
  have hne : d ≠ s := fun e => by rw [e, Nat.beq_refl] at hds; cases hds
  unfold Oper.wp
  rw [hrun]
  show Inv c _ (a.put (some d) v) w
  refine ⟨by rw [put_defers]; exact h1, by rw [put_size]; exact h2, h3, θ, S, h4, ?_⟩
  refine sat_consO (ob := ob) (dead_nil _) ?_ hav (sat_consK ?_ ?_ ?_)
  · show A.sem θ S ob w ((a.put (some d) v).tmps.getD d undef)
    rw [put_getD_self (by omega)]
    exact hA
  · refine dead_iff (fun k hk => ?_)
    simp only [Ent.t, List.mem_singleton] at hk
    simp only [Ent.deps, Ent.c, VA.any, List.map_nil, List.append_nil, List.mem_cons, List.not_mem_nil, or_false]
    omega
  · refine ⟨vs, v, ?_, e2, rfl⟩
    rw [put_getD_ne (fun e => hne e.symm)]
    exact e1
  · have h7 := sat_mono h6 (ks' := [(Ent.c s j A).key, d]) (fun k hk => by simp at hk; simp [hk]) (fun b hb => hb)
    exact sat_mono (sat_move h7 (Agree.refl _ _) (fun b hb => hb) (fun b hb => rfl) (fun t ht => put_getD_ne (fun e => ht (by simp [e]))) (fun k hk => rfl)) (fun k hk => hk) (fun b hb => hb)
/-- make([]T, n). -/
def mkrow {α : Type} (bytes : Nat) (z : α) (m : Int) : Option (List α) := if 0 ≤ m ∧ m * bytes ≤ 140737488355328 then some (List.replicate m.toNat z) else none
theorem op_makeSlice {α : Type} {e : TypeId} {K : Kn α} {bytes : Nat} {z : α} {r : List α} {m : Int} {x y : Operand} (hd : Nat.blt d n = true) (hT : AT P t e K bytes) (hz : ZK P e K z) (hr : mkrow bytes z m = some r) (hx : Arg N x (VA.k (kint .i64) m)) (hy : Arg N y (VA.k (kint .i64) m)) :
    OpSpec P n ⟨some d, .makeSlice t x y, ty, pos, af, g⟩ N [Ent.t d (VA.own e K r)] := by
  rintro c Γ a w Q rfl hN ⟨h1, h2, h3, θ, S, h4, h5⟩
  obtain ⟨_, hvx⟩ := hx θ S a w (sems hN h5)
  obtain ⟨_, hvy⟩ := hy θ S a w (sems hN h5)
  obtain ⟨i, z0, hi, hz0, hs, hby, hzs⟩ := hT.i
  obtain ⟨i', v', hi', hv', hzr⟩ := hz
  rw [hi] at hi'; cases hi'
  rw [hz0] at hv'; cases hv'
  unfold mkrow at hr
  split at hr
  · rename_i hc
    cases hr
    obtain ⟨m0, hm⟩ := hc
    have hpb := hT.pb
    have hle : m ≤ m * bytes := by
      have := Int.mul_le_mul_of_nonneg_left (show (1 : Int) ≤ bytes by omega) m0
      omega
    have hrun0 := run_make (P := P) w t e i z0 hT.u hi hz0 .i64 .i64 m m m0 (Int.le_refl _) (by rw [hby, Int.mul_comm]; omega) (by omega)
    have hrun : (execOp a.eval ⟨some d, .makeSlice t x y, ty, pos, af, g⟩).run P w = .ok (.value (.slice (some ⟨w.heap.size, 0, none⟩) m.toNat m.toNat)) (w.alloc (.cells (madeCells z0.cells (m.toNat * i.size)) e)) := by
      have ex := k_int hvx
      have ey := k_int hvy
      clear hvx hvy hN hx hy h5 h1 h2
      generalize a.eval = ρ at *
      simp [execOp, ex, ey, hrun0, Sem.run_bind, Sem.run_pure, Result.andThen_ok]
    have hlm : m.toNat ≤ maxLen := by unfold maxLen; omega
    have hrow := World.ownsRow_lit (base := 0) (e := e) (size := K.sz) w (madeCells z0.cells (m.toNat * i.size)) m.toNat (Nat.zero_le _) hlm (by rw [size_madeCells, hs])
    have hdn := blt_lt hd
    unfold Oper.wp
    rw [hrun]
    show Inv c _ (a.put (some d) _) _
    refine ⟨by rw [put_defers]; exact h1, by rw [put_size]; exact h2, h3.alloc _, θ, S, h4.grow (by simp), ?_⟩
    refine sat_consB (b := w.heap.size) (dead_nil _) ?_ ⟨fun hS => (by have := (h4 _ hS).1; omega), by simp, .inl h3.size⟩ ?_
    · show (VA.own e K (List.replicate m.toNat z)).sem θ S _ _ ((a.put (some d) _).tmps.getD d undef)
      rw [put_getD_self (by omega)]
      refine ⟨rfl, (madeCells z0.cells (m.toNat * i.size)).toList, by rw [List.length_replicate]; exact hrow, fun j p hj => ?_⟩
      have hjl := (List.getElem?_eq_some_iff.1 hj).1
      rw [List.length_replicate] at hjl
      have hp : p = z := by
        have := List.getElem?_replicate (a := z) (n := m.toNat) (i := j)
        rw [this, if_pos hjl] at hj
        cases hj; rfl
      subst hp
      have hjb : j * K.sz + K.sz ≤ m.toNat * K.sz := by rw [← Nat.succ_mul]; exact Nat.mul_le_mul_right _ hjl
      have e9 : ((madeCells z0.cells (m.toNat * i.size)).toList.drop (j * K.sz)).take K.sz = z0.cells.toList := by
        apply List.ext_getElem?
        intro q
        rw [List.getElem?_take]
        split
        · rename_i hq
          rw [List.getElem?_drop]
          have hsz := size_madeCells z0.cells (m.toNat * i.size)
          rw [List.getElem?_eq_getElem (by rw [Array.length_toList, hsz, hs]; omega), List.getElem?_eq_getElem (by rw [Array.length_toList, hzs]; omega)]
          congr 1
          simp only [madeCells, Array.getElem_toList, Array.getElem_map, Array.getElem_range, hzs]
          have e10 : (j * K.sz + q) % K.sz = q := by rw [Nat.mul_comm, Nat.mul_add_mod, Nat.mod_eq_of_lt hq]
          rw [e10, getElem!_pos z0.cells q (by omega)]
        · rename_i hq
          rw [List.getElem?_eq_none (by rw [Array.length_toList, hzs]; omega)]
      rw [e9]
      exact hzr _ _
    · refine sat_mono (sat_move (ks := [d]) (sat_mono h5 (fun k hk => by cases hk) (fun b hb => hb)) (agree_alloc h4 _) (fun b hb => hb) (fun b hb => Below.heap_alloc _ _ _ hb.2.1) (fun t ht => put_getD_ne (fun e => ht (by simp [e]))) (fun k hk => rfl)) (fun k hk => hk) (fun b hb => ⟨⟨hb.1, by have := hb.2.1; simp; omega, hb.2.2⟩, by have := hb.2.1; omega⟩)
  · cases hr
end
end Go.Proofs.Ytedgkcdofiildaa.Sl
