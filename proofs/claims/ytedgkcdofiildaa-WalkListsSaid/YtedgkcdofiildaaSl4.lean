/- Boxes: made, read, written; elements of rows that are read. -/
import Derived.Test.YtedgkcdofiildaaSl3
set_option linter.unusedVariables false
set_option linter.unusedSimpArgs false
namespace Go.Proofs.Ytedgkcdofiildaa.Sl
open Go Go.RowKit
theorem add_add (b o k : Nat) : (⟨b, o, none⟩ : Addr).add k = ⟨b, o + k, none⟩ := by unfold Addr.add; split <;> simp_all
theorem run_loadVar_at {α : Type} {P : Program} {t : TypeId} {K : Kn α} (hk : TK P t K) {w : World} {ad : Addr} {cs : List Value} (hl : cs.length = K.sz) (hc : ∀ i u, cs[i]? = some u → w.cell? (ad.add i) = some u) : (loadVar t ad).run P w = .ok (K.mk_ cs) w := by
  unfold loadVar Kn.mk_
  cases ha : K.agg with
  | true =>
    have := run_loadCells_list (P := P) w ad cs hc
    rw [hl] at this
    simp [Sem.run_bind, hk.agg, hk.size, ha, this]
  | false =>
    have h1 := hk.flat ha
    rw [h1] at hl
    match cs, hl with
    | [u], _ =>
      have h2 := hc 0 u rfl
      rw [show ad.add 0 = ad by simp [Addr.add]] at h2
      simp [Sem.run_bind, hk.agg, ha, run_load, h2]
theorem run_storeVar_at {α : Type} {P : Program} {t e : TypeId} {K : Kn α} (hk : TK P t K) {w : World} {b off : Nat} {v : Value} {cur : Array Value} (hv : v.cells.size = K.sz) (h1 : ∀ u, u ∈ v.cells.toList → u.oneCell' = true) (hg : w.heap[b]? = some (.cells cur e (0, 0))) (hle : off + K.sz ≤ cur.size) :
    (storeVar t ⟨b, off, none⟩ v).run P w = .ok () (w.setRow b (cur.toList.take off ++ v.cells.toList ++ cur.toList.drop (off + K.sz)).toArray) := by
  have := run_storeCells_at (P := P) b off e v.cells.toList 0 cur w hg (by simp; omega) h1
  simp only [Nat.add_zero, Array.length_toList, hv] at this
  unfold storeVar
  simp [Sem.run_bind, hk.size, hv, this]
section
variable {P : Program} {n d : Nat} {ty t t' : TypeId} {pos : String} {af : Array Edge} {g : Option (Nat × Bool)} {N : Ent → Prop}
theorem op_load {α β : Type} {id off : Nat} {e : TypeId} {K : Kn α} {K' : Kn β} {x : α} {get : α → β} {set : α → β → α} {o : Operand} (hd : Nat.blt d n = true) (hF : Fld K off K' get set) (hk : TK P t K') (hp : Arg N o (VA.ptr id off)) (hb : N (Ent.h id (HE.box e K x))) :
    OpSpec P n ⟨some d, .load t o, ty, pos, af, g⟩ N [Ent.t d (VA.k K' (get x))] := op_pure hd fun θ S act w hN => by
  obtain ⟨_, _, e1⟩ := hp θ S act w hN
  obtain ⟨_, _, cs, hc, hr⟩ := hN _ hb
  have hg := hF.get hr
  have hl := run_loadVar_at (w := w) (ad := ⟨θ id, off, none⟩) hk (K'.len hg) (fun i u hu => by
    rw [add_add, cell_of_row w (θ id) (off + i) cs e (0, 0) hc]
    rw [List.getElem?_take] at hu
    split at hu
    · rw [List.getElem?_drop] at hu
      simpa using hu
    · cases hu)
  refine ⟨_, ?_, rfl, _, hg, rfl⟩
  clear hp hN
  generalize act.eval = ρ at *
  simp [execOp, Instr.loadAt, Instr.sureAddr, e1, hl, Sem.run_bind, Sem.run_pure, Result.andThen_ok]
theorem op_fieldAddr {β : Type} {id off : Nat} {K' : Kn β} {o : Operand} {fs : Array Field} {f : Field} {j : Nat} (hd : Nat.blt d n = true) (hu : P.underlying t = some (.struct fs)) (hf : fs[j]? = some f) (hk : TK P f.type K') (hp : Arg N o (VA.ptr id off)) :
    OpSpec P n ⟨some d, .fieldAddr t o j, ty, pos, af, g⟩ N [Ent.t d (VA.ptr id (off + f.offset))] := op_pure hd fun θ S act w hN => by
  obtain ⟨_, _, e1⟩ := hp θ S act w hN
  refine ⟨_, ?_, rfl, rfl⟩
  have hpos := hk.pos
  clear hp hN
  generalize act.eval = ρ at *
  simp [execOp, Instr.fieldAt, Instr.sureAddr, e1, run_underlying hu, hf, fieldPlace, hk.size, Nat.pos_iff_ne_zero.1 hpos, add_add, Sem.run_bind, Sem.run_pure, Result.andThen_ok]
theorem op_nilCheck {id off : Nat} {o : Operand} (hd : Nat.blt d n = true) (hp : Arg N o (VA.ptr id off)) : OpSpec P n ⟨some d, .nilCheck o, ty, pos, af, g⟩ N [Ent.t d (VA.ptr id off)] := op_pure hd fun θ S act w hN => by
  obtain ⟨_, _, e1⟩ := hp θ S act w hN
  refine ⟨_, ?_, rfl, rfl⟩
  clear hp hN
  generalize act.eval = ρ at *
  simp [execOp, e1, Sem.run_pure]
theorem SOk.grow {c : Ctx} {S : Blk} {w w' : World} (h : SOk c S w) (hs : w.heap.size ≤ w'.heap.size) : SOk c S w' := fun b hb => ⟨by have := (h b hb).1; omega, (h b hb).2⟩
theorem Fr.alloc {X : List Nat} {w0 w : World} (h : Fr X w0 w) (o : Obj) : Fr X w0 (w.alloc o) :=
  h.trans ⟨rfl, rfl, rfl, by simp, fun k hk _ => Below.heap_alloc _ _ _ hk⟩
theorem agree_alloc {c : Ctx} {S : Blk} {w : World} (h : SOk c S w) (o : Obj) : Agree S w (w.alloc o) := fun b hb => Below.heap_alloc _ _ _ (h b hb).1
/-- A box is made; θ names its block. -/
theorem inv_new {c : Ctx} {Γ : List Ent} {a : Act} {w : World} {d id : Nat} {H : HE} {θ : Nat → Nat} {S : Blk} {o : Obj} {v : Value} (hd : Nat.blt d c.n = true) (h1 : a.defers = []) (h2 : a.tmps.size = c.n ∧ c.n ≤ 1000000) (h3 : Fr c.X c.w0 w) (h4 : SOk c S w)
    (h5 : sat θ S a w [] Γ (free c S w)) (A : VA) (hA : ∀ θ' : Nat → Nat, θ' id = w.heap.size → A.sem θ' S none (w.alloc o) v) (hH : ∀ θ' : Nat → Nat, θ' id = w.heap.size → (∀ k, k ≠ id → θ' k = θ k) → H.sem θ' w.heap.size S (w.alloc o)) :
    Inv c ([Ent.t d A, Ent.h id H, Ent.bind id] ++ Γ) (a.put (some d) v) (w.alloc o) := by
  have hdn := blt_lt hd
  obtain ⟨h2, hn⟩ := h2
  refine ⟨by rw [put_defers]; exact h1, ⟨by rw [put_size]; exact h2, hn⟩, h3.alloc o, (fun k => if k = id then w.heap.size else θ k), S, h4.grow (by simp), ?_⟩
  refine sat_consK (dead_nil _) ?_ (sat_consB (b := w.heap.size) ?_ ?_ ?_ (sat_consK ?_ rfl ?_))
  · show A.sem _ S none _ ((a.put (some d) _).tmps.getD d undef)
    rw [put_getD_self (by omega)]
    exact hA _ (by simp)
  · refine dead_iff (fun k hk => ?_)
    simp only [Ent.t, List.mem_singleton] at hk
    simp only [Ent.deps, Ent.h, List.map_cons, List.nil_append, List.mem_cons, List.mem_map]
    rintro (h | h | ⟨x, _, h⟩) <;> omega
  · refine ⟨by simp, ?_⟩
    show H.sem _ (if id = id then w.heap.size else θ id) S (w.alloc o)
    rw [if_pos rfl]
    exact hH _ (by simp) (fun k hk => by simp [hk])
  · refine ⟨fun hS => ?_, by simp, .inl h3.size⟩
    have := (h4 _ hS).1
    omega
  · refine dead_iff (fun k hk => ?_)
    simp only [Ent.t, Ent.h, List.mem_cons, List.not_mem_nil, or_false] at hk
    simp only [Ent.deps, Ent.bind, List.map_nil, List.nil_append, List.mem_cons, List.not_mem_nil, or_false]
    omega
  · refine sat_mono (sat_move (ks := [1000000 + id, 2000000 + id, d]) (sat_mono h5 (fun k hk => by cases hk) (fun b hb => hb)) (agree_alloc h4 o) (fun b hb => hb) (fun b hb => Below.heap_alloc _ _ _ hb.2.1) (fun t ht => put_getD_ne (fun e => ht (by simp [e]))) (fun k hk => ?_)) (fun k hk => hk) (fun b hb => ?_)
    · have : k ≠ id := fun e => hk (by simp [e])
      simp [this]
    · exact ⟨⟨hb.1, by have := hb.2.1; simp; omega, hb.2.2⟩, by have := hb.2.1; omega⟩
theorem inv_box {c : Ctx} {Γ : List Ent} {a : Act} {w : World} {d id : Nat} {H : HE} {θ : Nat → Nat} {S : Blk} {o : Obj} (hd : Nat.blt d c.n = true) (h1 : a.defers = []) (h2 : a.tmps.size = c.n ∧ c.n ≤ 1000000) (h3 : Fr c.X c.w0 w) (h4 : SOk c S w)
    (h5 : sat θ S a w [] Γ (free c S w)) (A : VA) (hA : ∀ θ' : Nat → Nat, θ' id = w.heap.size → A.sem θ' S none (w.alloc o) (.pointer (some ⟨w.heap.size, 0, none⟩))) (hH : ∀ θ' : Nat → Nat, θ' id = w.heap.size → (∀ k, k ≠ id → θ' k = θ k) → H.sem θ' w.heap.size S (w.alloc o)) :
    Inv c ([Ent.t d A, Ent.h id H, Ent.bind id] ++ Γ) (a.put (some d) (.pointer (some ⟨w.heap.size, 0, none⟩))) (w.alloc o) := inv_new hd h1 h2 h3 h4 h5 A hA hH
theorem op_box {α : Type} {e : TypeId} {K : Kn α} {x : α} {o : Operand} (id : Nat) (hd : Nat.blt d n = true) (hf : K.agg = false → K.sz = 1) (hx : Arg N o (VA.k K x)) :
    OpSpec P n ⟨some d, .box e o, ty, pos, af, g⟩ N [Ent.t d (VA.ptr id 0), Ent.h id (HE.box e K x), Ent.bind id] := by
  rintro c Γ a w Q rfl hN ⟨h1, h2, h3, θ, S, h4, h5⟩
  obtain ⟨_, hv⟩ := hx θ S a w (sems hN h5)
  obtain ⟨cs, hr, _, hc⟩ := k_cells hv hf
  have hrun : (execOp a.eval ⟨some d, .box e o, ty, pos, af, g⟩).run P w = .ok (.value (.pointer (some ⟨w.heap.size, 0, none⟩))) (w.alloc (.cells (a.eval o).cells e)) := by
    clear hv hN hx h1 h2 h5
    generalize a.eval = ρ at *
    simp [execOp, Instr.box, newVar, newRow, newObj, Sem.run_bind, Sem.run_pure, Result.andThen_ok]
    rfl
  unfold Oper.wp
  rw [hrun]
  refine inv_box hd h1 h2 h3 h4 h5 _ (fun θ' h => ⟨rfl, by rw [h]⟩) (fun θ' _ _ => ⟨_, heap_alloc_new w _, ?_⟩)
  rw [hc]
  exact K.move hr (agree_alloc h4 _) (fun b hb => hb)
end
end Go.Proofs.Ytedgkcdofiildaa.Sl
