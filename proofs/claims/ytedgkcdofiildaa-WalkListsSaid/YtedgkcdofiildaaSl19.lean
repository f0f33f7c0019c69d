/- A closure that calls itself, counts in a captured variable and writes a captured map: walk.Count's. -/
import Derived.Test.YtedgkcdofiildaaSl18
set_option linter.unusedVariables false
set_option linter.unusedSimpArgs false
set_option linter.unnecessarySimpa false
set_option linter.deprecated false
namespace Go.Proofs.Ytedgkcdofiildaa.Sl
open Go Go.RowKit Go.WideMaps Go.Maps
/-- This very value, of which A holds. -/
def VA.fx (v0 : Value) (A : VA) : VA where
  ids := A.ids
  sem := fun θ S ob w v => A.sem θ S ob w v ∧ v = v0
  move := fun h hA hS hb hi => ⟨A.move h.1 hA hS hb hi, h.2⟩
theorem Arg.fx {N : Ent → Prop} {x : Operand} {v0 : Value} {A : VA} (h : Arg N x (VA.fx v0 A)) : Arg N x A := fun θ S a w hN => by
  obtain ⟨ob, h1⟩ := h θ S a w hN
  exact ⟨ob, h1.1⟩
/-- A pointer to block b, which is only read and holds the one cell z. -/
def VA.ro (e : TypeId) (b : Nat) (z : Value) : VA where
  ids := []
  sem := fun _ S ob w v => ob = none ∧ v = .pointer (some ⟨b, 0, none⟩) ∧ S b ∧ w.heap[b]? = some (.cells #[z] e (0, 0))
  move := by rintro θ θ' S S' ob w w' v ⟨h0, h1, h2, h3⟩ hA hS _ _; exact ⟨h0, h1, hS _ h2, (hA _ h2).trans h3⟩
section
variable {P : Program} {n d : Nat} {ty t t' : TypeId} {pos : String} {af : Array Edge} {g : Option (Nat × Bool)} {N : Ent → Prop}
theorem op_load_rom {e : TypeId} {b bm id : Nat} {agg : Bool} {o : Operand} (hd : Nat.blt d n = true) (hZ : MZ P t agg) (hp : Arg N o (VA.ro e b (.map (some bm)))) (hi : N (Ent.isb id bm)) : OpSpec P n ⟨some d, .load t o, ty, pos, af, g⟩ N [Ent.t d (VA.mp agg id)] := op_pure hd fun θ S act w hN => by
  obtain ⟨_, _, e1, _, hc⟩ := hp θ S act w hN
  obtain ⟨_, _, e2⟩ := hN _ hi
  have hcell : w.cell? ⟨b, 0, none⟩ = some (.map (some bm)) := by rw [cell_of_row w _ 0 _ e (0, 0) hc]; rfl
  refine ⟨wrapM agg (.map (some bm)), ?_, rfl, by rw [e2]⟩
  have ha := hZ.agg w
  have hs := hZ.size w
  have hl : (loadVar t ⟨b, 0, none⟩).run P w = .ok (wrapM agg (.map (some bm))) w := by
    unfold loadVar wrapM
    cases agg with
    | true =>
      have := run_loadCells_list (P := P) w ⟨b, 0, none⟩ [.map (some bm)] (fun j v hv => by
        cases j with
        | zero => cases hv; rw [show (⟨b, 0, none⟩ : Addr).add 0 = ⟨b, 0, none⟩ by simp [Addr.add]]; exact hcell
        | succ j => simp at hv)
      simp only [List.length_singleton] at this
      simp [Sem.run_bind, ha, hs, this]
    | false => simp [Sem.run_bind, ha, run_load, hcell]
  clear hN hp
  generalize act.eval = ρ at *
  simp [execOp, Instr.loadAt, Instr.sureAddr, e1, hl, Sem.run_bind, Sem.run_pure, Result.andThen_ok]
/-- The zero-th field of what is only read. -/
theorem op_fieldAddr_ro {e : TypeId} {b : Nat} {z : Value} {fs : Array Field} {f : Field} {o : Operand} (hd : Nat.blt d n = true) (hu : P.underlying t = some (.struct fs)) (hf : fs[0]? = some f) (ho : f.offset = 0) {agg : Bool} (hZ : MZ P f.type agg) (hp : Arg N o (VA.ro e b z)) : OpSpec P n ⟨some d, .fieldAddr t o 0, ty, pos, af, g⟩ N [Ent.t d (VA.ro e b z)] := op_pure hd fun θ S act w hN => by
  obtain ⟨_, _, e1, h2, hc⟩ := hp θ S act w hN
  refine ⟨.pointer (some ⟨b, 0, none⟩), ?_, rfl, rfl, h2, hc⟩
  have hs := hZ.size w
  clear hN hp
  generalize act.eval = ρ at *
  simp [execOp, Instr.fieldAt, Instr.sureAddr, e1, run_underlying hu, hf, fieldPlace, hs, ho, Addr.add, Sem.run_bind, Sem.run_pure, Result.andThen_ok]
/-- One cell that is no struct is read. -/
theorem op_load_ro {e : TypeId} {b : Nat} {z : Value} {o : Operand} (hd : Nat.blt d n = true) (ha : ∀ w, (isAgg t).run P w = .ok false w) (hp : Arg N o (VA.ro e b z)) : OpSpec P n ⟨some d, .load t o, ty, pos, af, g⟩ N [Ent.t d (VA.v z)] := op_pure hd fun θ S act w hN => by
  obtain ⟨_, _, e1, _, hc⟩ := hp θ S act w hN
  have hcell : w.cell? ⟨b, 0, none⟩ = some z := by rw [cell_of_row w _ 0 _ e (0, 0) hc]; rfl
  refine ⟨z, ?_, rfl, rfl⟩
  have ha := ha w
  have hl : (loadVar t ⟨b, 0, none⟩).run P w = .ok z w := by
    unfold loadVar
    simp [Sem.run_bind, ha, run_load, hcell]
  clear hN hp
  generalize act.eval = ρ at *
  simp [execOp, Instr.loadAt, Instr.sureAddr, e1, hl, Sem.run_bind, Sem.run_pure, Result.andThen_ok]
end
def selfv (F : FuncId) (bn bd bo : Nat) (v2 v4 : Value) : Value := .func (.func F) #[] #[.pointer (some ⟨bn, 0, none⟩), v2, .pointer (some ⟨bd, 0, none⟩), v4, .pointer (some ⟨bo, 0, none⟩)]
def CntPost (P : Program) (kt e3 : TypeId) (w0 : World) (bn bm : Nat) (r : Int × GM Int) (e : Ending) (w' : World) : Prop :=
  e = .returned (.tuple #[]) ∧ Fr [bn, bm] w0 w' ∧ w'.heap[bn]? = some (.cells #[.int .i64 r.1] e3 (0, 0)) ∧ ∀ S, MapS P kt (kint .i64) S w' bm r.2
def ConCnt {α : Type} (P : Program) (F : FuncId) (kt e3 eS eF : TypeId) (Kp : Kn α) (p : α) (most left n : Int) (m : GM Int) (r : Int × GM Int) : Prop :=
  ∀ (θ : Nat → Nat) (S : Blk) (w : World) (bn bd bm bo : Nat) (v2 v4 : Value), (∀ x, S x → x < w.heap.size) → ¬ S bn → ¬ S bm → bn ≠ bm → bm < w.heap.size → S bd → S bo →
    w.heap[bn]? = some (.cells #[.int .i64 n] e3 (0, 0)) → w.heap[bd]? = some (.cells #[.map (some bm)] eS (0, 0)) → w.heap[bo]? = some (.cells #[selfv F bn bd bo v2 v4] eF (0, 0)) → MapS P kt (kint .i64) S w bm m →
    (VA.pt Kp p).sem θ S none w v2 → (VA.pt (kint .i64) most).sem θ S none w v4 →
    Calls P F #[.int .i64 left, .pointer (some ⟨bn, 0, none⟩), v2, .pointer (some ⟨bd, 0, none⟩), v4, .pointer (some ⟨bo, 0, none⟩)] w (CntPost P kt e3 w bn bm r)
theorem MapS.free {α : Type} {P : Program} {kt : TypeId} {K : Kn α} (hK : KFree K) {S S' : Blk} {w : World} {b : Nat} {m : GM α} (h : MapS P kt K S w b m) : MapS P kt K S' w b m := by
  obtain ⟨f, h1, h2⟩ := h
  refine ⟨f, h1, fun s => ?_⟩
  have := h2 s
  split at this
  · exact this
  · rename_i x hg
    obtain ⟨cs, h3, h4⟩ := this
    exact ⟨cs, hK h3, h4⟩
/-- Two blocks that numbers name have turned. -/
theorem inv_two {c : Ctx} {Γ : List Ent} {a : Act} {w w' : World} {i j d : Nat} {Hi Hj Hi' Hj' : HE} {v : Value} {θ : Nat → Nat} {S : Blk} (hd : Nat.blt d c.n = true) (h1 : a.defers = []) (h2 : a.tmps.size = c.n ∧ c.n ≤ 1000000) (h3 : Fr c.X c.w0 w) (h4 : SOk c S w) (h5 : sat θ S a w [] Γ (free c S w))
    (hi : Has [] Γ (Ent.h i Hi)) (hj : Has [] Γ (Ent.h j Hj)) (hij : ¬ (2000000 + i) ∈ (Ent.h j Hj).deps) (h0i : Hi'.ids = []) (h0j : Hj'.ids = []) (hfr : Fr [θ i, θ j] w w') (hi' : Hi'.sem θ (θ i) S w') (hj' : Hj'.sem θ (θ j) S w') :
    Inv c ([Ent.t d VA.any, Ent.h i Hi', Ent.h j Hj'] ++ Γ) (a.put (some d) v) w' := by
  obtain ⟨obn, ⟨rfl, _⟩, hav, h6⟩ := sat_take hi h5
  obtain ⟨obm, ⟨rfl, _⟩, hav2, h7⟩ := sat_take (hj.kill hij) h6
  have hfn := hav _ rfl
  have hfm := hav2 _ rfl
  have hne : θ i ≠ θ j := fun e => hfm.2 (by rw [e])
  have hdn := blt_lt hd
  have hsz := hfr.size
  have hkeep : ∀ b, b < w.heap.size → b ≠ θ i → b ≠ θ j → w'.heap[b]? = w.heap[b]? := fun b hb h1 h2 => hfr.block b hb (by simp [h1, h2])
  have hag : Agree S w w' := fun b hb => hkeep b (h4 b hb).1 (fun e => hfn.1 (e ▸ hb)) (fun e => hfm.1.1 (e ▸ hb))
  have hX : ∀ b, b < c.w0.heap.size → b ∉ c.X → b ≠ θ i ∧ b ≠ θ j := fun b hb hx => ⟨fun e => by
    rcases hfn.2.2 with h | h
    · rw [← e] at h; omega
    · exact hx (e ▸ h), fun e => by
    rcases hfm.1.2.2 with h | h
    · rw [← e] at h; omega
    · exact hx (e ▸ h)⟩
  have k3s := h3.size
  refine ⟨by rw [put_defers]; exact h1, by rw [put_size]; exact h2, ⟨hfr.os.trans h3.os, hfr.tape.trans h3.tape, hfr.output.trans h3.output, by omega, fun b hb hx => (hkeep b (by omega) (hX b hb hx).1 (hX b hb hx).2).trans (h3.block b hb hx)⟩, θ, S, h4.grow hsz, ?_⟩
  have kn2 := h2.2
  have hfn' : free c S w' (θ i) := ⟨hfn.1, by have := hfn.2.1; omega, hfn.2.2⟩
  have hfm' : free c S w' (θ j) := ⟨hfm.1.1, by have := hfm.1.2.1; omega, hfm.1.2.2⟩
  have hij' : i ≠ j := fun e => hne (by rw [e])
  have hij2 : 2000000 + i ≠ 1000000 + j := fun e => hij (by rw [e]; simp [Ent.deps, Ent.h])
  refine sat_consK (dead_nil _) rfl (sat_consB (b := θ i) ?_ ⟨rfl, hi'⟩ hfn' (sat_consB (b := θ j) ?_ ⟨rfl, hj'⟩ ⟨hfm', hne.symm⟩ ?_))
  · refine dead_iff (fun k hk => ?_)
    simp only [Ent.t, List.mem_singleton] at hk
    simp only [Ent.deps, Ent.h, h0i, List.map_cons, List.map_nil, List.nil_append, List.mem_cons, List.not_mem_nil, or_false]
    omega
  · refine dead_iff (fun k hk => ?_)
    simp only [Ent.t, Ent.h, List.mem_cons, List.not_mem_nil, or_false] at hk
    simp only [Ent.deps, Ent.h, h0j, List.map_cons, List.map_nil, List.nil_append, List.mem_cons, List.not_mem_nil, or_false]
    omega
  · have h8 := sat_mono h7 (ks' := [2000000 + j, 2000000 + i, d]) (fun k hk => by simp [Ent.h] at hk; rcases hk with rfl | rfl <;> simp) (fun b hb => hb)
    refine sat_mono (sat_move h8 hag (fun b hb => hb) (fun b hb => hkeep b hb.1.1.2.1 (fun e => hb.1.2 (by rw [e])) (fun e => hb.2 (by rw [e]))) (fun t ht => put_getD_ne (fun e => ht (by simp [e]))) (fun k _ => rfl)) (fun k hk => hk) (fun b hb => ⟨⟨⟨hb.1.1.1, by have := hb.1.1.2.1; omega, hb.1.1.2.2⟩, fun e => hb.1.2 (by rw [e])⟩, fun e => hb.2 (by rw [e])⟩)
theorem h_ne {θ : Nat → Nat} {S : Blk} {a : Act} {w : World} {Γ : List Ent} {av : Blk} {i j : Nat} {Hi Hj : HE} (h5 : sat θ S a w [] Γ av) (hi : Has [] Γ (Ent.h i Hi)) (hj : Has [] Γ (Ent.h j Hj)) (hij : ¬ (2000000 + i) ∈ (Ent.h j Hj).deps) : θ i ≠ θ j := fun e => by
  obtain ⟨obn, ⟨rfl, _⟩, hav, h6⟩ := sat_take hi h5
  obtain ⟨obm, ⟨rfl, _⟩, hav2, h7⟩ := sat_take (hj.kill hij) h6
  exact (hav2 _ rfl).2 (by rw [e])
section
variable {P : Program} {n d : Nat} {ty t t' : TypeId} {pos : String} {af : Array Edge} {g : Option (Nat × Bool)} {N : Ent → Prop}
/-- It calls itself. -/
theorem op_self {α : Type} {F : FuncId} {kt e3 eS eF : TypeId} {Kp : Kn α} {p : α} {most left n0 : Int} {m : GM Int} {r : Int × GM Int} {bn bd bm bo s : Nat} {v2 v4 : Value} {x : Operand} {at_ : Array TypeId} (hd : Nat.blt d n = true) (hf : Enters P F) (hC : ConCnt P F kt e3 eS eF Kp p most left n0 m r)
    (hs : N (Ent.t s (VA.v (selfv F bn bd bo v2 v4)))) (hb : N (Ent.h 998 (HE.box e3 (kint .i64) n0))) (hbn : N (Ent.isb 998 bn)) (hm : N (Ent.h 999 (HE.map P kt (kint .i64) m))) (hbm : N (Ent.isb 999 bm)) (h2 : N (Ent.t 2 (VA.fx v2 (VA.pt Kp p)))) (h3 : N (Ent.t 3 (VA.ro eS bd (.map (some bm))))) (h4 : N (Ent.t 4 (VA.fx v4 (VA.pt (kint .i64) most)))) (h5 : N (Ent.t 5 (VA.ro eF bo (selfv F bn bd bo v2 v4)))) (hx : Arg N x (VA.k (kint .i64) left)) :
    OpSpec P n ⟨some d, .call { callee := .value (.tmp s), args := #[x], argTypes := at_ }, ty, pos, af, g⟩ N [Ent.t d VA.any, Ent.h 998 (HE.box e3 (kint .i64) r.1), Ent.h 999 (HE.map P kt (kint .i64) r.2)] := by
  rintro c Γ a w Q rfl hN ⟨k1, k2, k3, θ, S, k4, k5⟩
  have hN2 := sems hN k5
  obtain ⟨_, _, es⟩ := hN2 _ hs
  obtain ⟨_, _, en⟩ := hN2 _ hbn
  obtain ⟨_, _, em⟩ := hN2 _ hbm
  obtain ⟨_, f2, e2⟩ := hN2 _ h2
  obtain ⟨_, _, e3', s3, c3⟩ := hN2 _ h3
  obtain ⟨_, f4, e4⟩ := hN2 _ h4
  obtain ⟨_, _, e5', s5, c5⟩ := hN2 _ h5
  obtain ⟨_, hx'⟩ := hx θ S a w hN2
  have ex := k_int hx'
  obtain ⟨obn, ⟨rfl, hbox⟩, hav, _⟩ := sat_take (hN _ hb) k5
  obtain ⟨obm, ⟨rfl, hmap⟩, hav2, _⟩ := sat_take (hN _ hm) k5
  have hne : θ 998 ≠ θ 999 := h_ne k5 (hN _ hb) (hN _ hm) (by simp [Ent.deps, Ent.h, HE.map])
  have hfn := hav _ rfl
  have hfm := hav2 _ rfl
  obtain ⟨cs, hc, hr⟩ := hbox
  have hmap : MapS P kt (kint .i64) S w (θ 999) m := hmap
  obtain rfl : cs = #[.int .i64 n0] := Array.toList_inj.1 hr
  have f2' : (VA.pt Kp p).sem θ S none w v2 := by
    have : (VA.pt Kp p).sem θ S none w (a.tmps.getD 2 undef) := by have := f2; obtain rfl := this.1; exact this
    rw [e2] at this; exact this
  have f4' : (VA.pt (kint .i64) most).sem θ S none w v4 := by
    have : (VA.pt (kint .i64) most).sem θ S none w (a.tmps.getD 4 undef) := by have := f4; obtain rfl := this.1; exact this
    rw [e4] at this; exact this
  unfold Oper.wp
  have hrun := run_callv_op (P := P) (ρ := a.eval) (f := F) (o := .tmp s) (us := []) (vs := [.pointer (some ⟨bn, 0, none⟩), v2, .pointer (some ⟨bd, 0, none⟩), v4, .pointer (some ⟨bo, 0, none⟩)]) (xs := [x]) (at_ := at_) (dst := some d) (ty := ty) (pos := pos) (af := af) (g := g) (w := w) hf es
  rw [hrun, List.map_cons, ex]
  rw [en] at hfn hc hne
  rw [em] at hfm hmap hne
  refine (hC θ S w bn bd bm bo v2 v4 (fun b hb => (k4 b hb).1) hfn.1 hfm.1 hne hfm.2.1 s3 s5 hc c3 c5 hmap f2' f4').mono ?_
  rintro e w' ⟨rfl, hfr, hn', hm'⟩
  exact inv_two hd k1 k2 k3 k4 k5 (hN _ hb) (hN _ hm) (by simp [Ent.deps, Ent.h, HE.map]) rfl rfl (by rw [en, em]; exact hfr) (by rw [en]; exact ⟨_, hn', rfl⟩) (by rw [em]; exact hm' S)
/-- A box that holds the closure itself. -/
def HE.fnb (e : TypeId) (F : FuncId) (i1 i2 i3 i4 i5 : Nat) : HE where
  ids := [i1, i2, i3, i4, i5]
  sem := fun θ b _ w => w.heap[b]? = some (.cells #[selfv F (θ i1) (θ i3) (θ i5) (.pointer (some ⟨θ i2, 0, none⟩)) (.pointer (some ⟨θ i4, 0, none⟩))] e (0, 0))
  move := by rintro θ θ' b S S' w w' h _ _ hb hi; rw [hi i1 (by simp), hi i2 (by simp), hi i3 (by simp), hi i4 (by simp), hi i5 (by simp)]; exact hb.trans h
def VA.fnv (F : FuncId) (i1 i2 i3 i4 i5 : Nat) : VA where
  ids := [i1, i2, i3, i4, i5]
  sem := fun θ _ ob _ v => ob = none ∧ v = selfv F (θ i1) (θ i3) (θ i5) (.pointer (some ⟨θ i2, 0, none⟩)) (.pointer (some ⟨θ i4, 0, none⟩))
  move := by rintro θ θ' S S' ob w w' v ⟨h0, h⟩ _ _ _ hi; exact ⟨h0, by rw [hi i1 (by simp), hi i2 (by simp), hi i3 (by simp), hi i4 (by simp), hi i5 (by simp)]; exact h⟩
theorem op_store_fn {e : TypeId} {F : FuncId} {i1 i2 i3 i4 i5 s1 s2 s3 s4 s5 s id : Nat} {o : Operand} (hs1 : ∀ w, (sizeOf t).run P w = .ok 1 w) (hp : Arg N o (VA.ptr id 0)) (hb : N (Ent.h id (HE.raw e 1))) (hf : N (Ent.mf s F [] [s1, s2, s3, s4, s5])) (g1 : N (Ent.t s1 (VA.ptr i1 0))) (g2 : N (Ent.t s2 (VA.ptr i2 0))) (g3 : N (Ent.t s3 (VA.ptr i3 0))) (g4 : N (Ent.t s4 (VA.ptr i4 0))) (g5 : N (Ent.t s5 (VA.ptr i5 0))) :
    OpSpec P n ⟨none, .store t o (.tmp s), ty, pos, af, g⟩ N [Ent.h id (HE.fnb e F i1 i2 i3 i4 i5)] := by
  rintro c Γ a w Q rfl hN ⟨h1, h2, h3, θ, S, h4, h5⟩
  have hN2 := sems hN h5
  obtain ⟨_, _, e1⟩ := hp θ S a w hN2
  obtain ⟨_, _, ef⟩ := hN2 _ hf
  obtain ⟨_, _, q1⟩ := hN2 _ g1
  obtain ⟨_, _, q2⟩ := hN2 _ g2
  obtain ⟨_, _, q3⟩ := hN2 _ g3
  obtain ⟨_, _, q4⟩ := hN2 _ g4
  obtain ⟨_, _, q5⟩ := hN2 _ g5
  obtain ⟨ob, ⟨rfl, cs, hc, hcl⟩, hav, h6⟩ := sat_take (hN _ hb) h5
  have hfree := hav _ rfl
  have ev : a.eval (.tmp s) = selfv F (θ i1) (θ i3) (θ i5) (.pointer (some ⟨θ i2, 0, none⟩)) (.pointer (some ⟨θ i4, 0, none⟩)) := by
    show a.tmps.getD s undef = _
    rw [ef]
    simp only [List.map_cons, List.map_nil]
    rw [q1, q2, q3, q4, q5]
    rfl
  generalize hz : selfv F (θ i1) (θ i3) (θ i5) (.pointer (some ⟨θ i2, 0, none⟩)) (.pointer (some ⟨θ i4, 0, none⟩)) = z at ev
  have hz1 : z.cells = #[z] := by rw [← hz]; rfl
  have hz2 : z.oneCell' = true := by rw [← hz]; rfl
  have hst := run_storeCells_at (P := P) (θ id) 0 e [z] 0 cs w hc (by simp [hcl]) (fun v hv => by rw [List.mem_singleton.1 hv]; exact hz2)
  have hnew : (cs.toList.take (0 + 0) ++ [z] ++ cs.toList.drop (0 + 0 + [z].length)).toArray = #[z] := by
    rw [List.drop_of_length_le (by simp [hcl])]; simp
  rw [hnew] at hst
  have hrun : (execOp a.eval ⟨none, .store t o (.tmp s), ty, pos, af, g⟩).run P w = .ok .skip (w.setRow (θ id) #[z]) := by
    have hs2 := hs1 w
    clear hN hN2 hp h1 h2 h5 h6 ef q1 q2 q3 q4 q5
    generalize a.eval = ρ at *
    simp [execOp, Instr.storeAt, Instr.sureAddr, e1, ev, storeVar, hz1, hs2, hst, Sem.run_bind, Sem.run_pure, Result.andThen_ok]
  unfold Oper.wp
  rw [hrun]
  have hne : ∀ b, S b → b ≠ θ id := fun b hs e => hfree.1 (e ▸ hs)
  have hag : Agree S w (w.setRow (θ id) #[z]) := fun b hs => setRow_ne _ _ _ _ (hne b hs)
  show Inv c _ (a.put none undef) _
  refine ⟨h1, h2, h3.setRow hfree.2.2 _, θ, S, h4.grow (by rw [setRow_size]; exact Nat.le_refl _), ?_⟩
  refine sat_consB (b := θ id) (dead_nil _) ?_ ⟨hfree.1, by rw [setRow_size]; exact hfree.2.1, hfree.2.2⟩ ?_
  · exact ⟨rfl, by show _ = _; rw [hz]; exact setRow_heap w _ _ _ e (0, 0) hc⟩
  · refine sat_mono (sat_move h6 hag (fun b hb => hb) (fun b hb => setRow_ne _ _ _ _ (fun e => hb.2 (by rw [e]))) (fun t _ => rfl) (fun k _ => rfl)) (fun k hk => hk) (fun b hb => ⟨⟨hb.1.1, by rw [setRow_size]; exact hb.1.2.1, hb.1.2.2⟩, fun e => hb.2 (by rw [e])⟩)
theorem op_load_fn {e : TypeId} {F : FuncId} {i1 i2 i3 i4 i5 id : Nat} {o : Operand} (hd : Nat.blt d n = true) (ha : ∀ w, (isAgg t).run P w = .ok false w) (hp : Arg N o (VA.ptr id 0)) (hb : N (Ent.h id (HE.fnb e F i1 i2 i3 i4 i5))) : OpSpec P n ⟨some d, .load t o, ty, pos, af, g⟩ N [Ent.t d (VA.fnv F i1 i2 i3 i4 i5)] := op_pure hd fun θ S act w hN => by
  obtain ⟨_, _, e1⟩ := hp θ S act w hN
  obtain ⟨_, _, hc⟩ := hN _ hb
  generalize hz : selfv F (θ i1) (θ i3) (θ i5) (.pointer (some ⟨θ i2, 0, none⟩)) (.pointer (some ⟨θ i4, 0, none⟩)) = z
  have hc' : w.heap[θ id]? = some (.cells #[z] e (0, 0)) := by rw [← hz]; exact hc
  have hcell : w.cell? ⟨θ id, 0, none⟩ = some z := by rw [cell_of_row w _ 0 _ e (0, 0) hc']; rfl
  refine ⟨z, ?_, rfl, hz.symm⟩
  have ha := ha w
  have hl : (loadVar t ⟨θ id, 0, none⟩).run P w = .ok z w := by
    unfold loadVar
    simp [Sem.run_bind, ha, run_load, hcell]
  clear hN hp hc hc' hz
  generalize act.eval = ρ at *
  simp [execOp, Instr.loadAt, Instr.sureAddr, e1, hl, Sem.run_bind, Sem.run_pure, Result.andThen_ok]
set_option maxHeartbeats 4000000 in
/-- It is called for the first time. -/
theorem op_callcnt {α : Type} {F : FuncId} {kt e3 e3' eP eS eF : TypeId} {Kp : Kn α} {p : α} {most left n0 : Int} {m : GM Int} {r : Int × GM Int} {i1 i2 i3 i4 i5 im s : Nat} {x : Operand} {at_ : Array TypeId} (hd : Nat.blt d n = true) (hk : Nat.blt 0 Kp.sz = true) (hne : [i1, i2, i3, i4, i5, im].Nodup) (hlt : ∀ k, k ∈ [i1, i2, i3, i4, i5, im] → k < 1000000) (hf : Enters P F) (hC : ConCnt P F kt e3 eS eF Kp p most left n0 m r)
    (hs : N (Ent.t s (VA.fnv F i1 i2 i3 i4 i5))) (h1 : N (Ent.h i1 (HE.box e3 (kint .i64) n0))) (h2 : N (Ent.h i2 (HE.box eP Kp p))) (h3 : N (Ent.h i3 (HE.boxm eS im))) (h4 : N (Ent.h i4 (HE.box e3' (kint .i64) most))) (h5 : N (Ent.h i5 (HE.fnb eF F i1 i2 i3 i4 i5))) (hm : N (Ent.h im (HE.map P kt (kint .i64) m))) (hx : Arg N x (VA.k (kint .i64) left)) :
    OpSpec P n ⟨some d, .call { callee := .value (.tmp s), args := #[x], argTypes := at_ }, ty, pos, af, g⟩ N [Ent.t d VA.any, Ent.h i1 (HE.box e3 (kint .i64) r.1), Ent.h im (HE.map P kt (kint .i64) r.2)] := by
  rintro c Γ a w Q rfl hN ⟨k1, k2, k3, θ, S, k4, k5⟩
  have hN2 := sems hN k5
  obtain ⟨_, _, es⟩ := hN2 _ hs
  obtain ⟨_, hx'⟩ := hx θ S a w hN2
  have ex := k_int hx'
  obtain ⟨_, ⟨rfl, cs1, hc1, hr1⟩, a1, _⟩ := sat_take (hN _ h1) k5
  obtain ⟨_, ⟨rfl, cs2, hc2, hr2⟩, a2, _⟩ := sat_take (hN _ h2) k5
  obtain ⟨_, ⟨rfl, hc3⟩, a3, _⟩ := sat_take (hN _ h3) k5
  obtain ⟨_, ⟨rfl, cs4, hc4, hr4⟩, a4, _⟩ := sat_take (hN _ h4) k5
  obtain ⟨_, ⟨rfl, hc5⟩, a5, _⟩ := sat_take (hN _ h5) k5
  obtain ⟨_, ⟨rfl, hmap⟩, am, _⟩ := sat_take (hN _ hm) k5
  have a1 := a1 _ rfl; have a2 := a2 _ rfl; have a3 := a3 _ rfl; have a4 := a4 _ rfl; have a5 := a5 _ rfl; have am := am _ rfl
  have l1 := hlt i1 (by simp); have l2 := hlt i2 (by simp); have l3 := hlt i3 (by simp); have l4 := hlt i4 (by simp); have l5 := hlt i5 (by simp); have lm := hlt im (by simp)
  simp only [List.nodup_cons, List.mem_cons, List.not_mem_nil, or_false, not_or, List.nodup_nil, and_true, not_false_eq_true] at hne
  obtain ⟨⟨n12, n13, n14, n15, n1m⟩, ⟨n23, n24, n25, n2m⟩, ⟨n34, n35, n3m⟩, ⟨n45, n4m⟩, n5m⟩ := hne
  have d12 := h_ne k5 (hN _ h1) (hN _ h2) (by simp only [Ent.deps, Ent.h, HE.box, List.map_cons, List.map_nil, List.nil_append, List.mem_cons, List.not_mem_nil, or_false]; omega)
  have d13 := h_ne k5 (hN _ h1) (hN _ h3) (by simp only [Ent.deps, Ent.h, HE.boxm, List.map_cons, List.map_nil, List.nil_append, List.mem_cons, List.not_mem_nil, or_false]; omega)
  have d14 := h_ne k5 (hN _ h1) (hN _ h4) (by simp only [Ent.deps, Ent.h, HE.box, List.map_cons, List.map_nil, List.nil_append, List.mem_cons, List.not_mem_nil, or_false]; omega)
  have d15 := h_ne k5 (hN _ h1) (hN _ h5) (by simp only [Ent.deps, Ent.h, HE.fnb, List.map_cons, List.map_nil, List.nil_append, List.mem_cons, List.not_mem_nil, or_false]; omega)
  have q1m : ¬ (2000000 + i1) ∈ (Ent.h im (HE.map P kt (kint .i64) m)).deps := by simp only [Ent.deps, Ent.h, HE.map, List.map_cons, List.map_nil, List.nil_append, List.mem_cons, List.not_mem_nil, or_false]; omega
  have d1m := h_ne k5 (hN _ h1) (hN _ hm) q1m
  have dm2 := h_ne k5 (hN _ hm) (hN _ h2) (by simp only [Ent.deps, Ent.h, HE.box, List.map_cons, List.map_nil, List.nil_append, List.mem_cons, List.not_mem_nil, or_false]; omega)
  have dm3 := h_ne k5 (hN _ hm) (hN _ h3) (by simp only [Ent.deps, Ent.h, HE.boxm, List.map_cons, List.map_nil, List.nil_append, List.mem_cons, List.not_mem_nil, or_false]; omega)
  have dm4 := h_ne k5 (hN _ hm) (hN _ h4) (by simp only [Ent.deps, Ent.h, HE.box, List.map_cons, List.map_nil, List.nil_append, List.mem_cons, List.not_mem_nil, or_false]; omega)
  have dm5 := h_ne k5 (hN _ hm) (hN _ h5) (by simp only [Ent.deps, Ent.h, HE.fnb, List.map_cons, List.map_nil, List.nil_append, List.mem_cons, List.not_mem_nil, or_false]; omega)
  obtain rfl : cs1 = #[.int .i64 n0] := Array.toList_inj.1 hr1
  obtain rfl : cs4 = #[.int .i64 most] := Array.toList_inj.1 hr4
  let S2 : Blk := fun b => S b ∨ b = θ i2 ∨ b = θ i3 ∨ b = θ i4 ∨ b = θ i5
  have hSS : ∀ b, S b → S2 b := fun b hb => .inl hb
  have hbd : ∀ b, S2 b → b < w.heap.size := fun b hb => by
    rcases hb with hb | rfl | rfl | rfl | rfl
    · exact (k4 b hb).1
    · exact a2.2.1
    · exact a3.2.1
    · exact a4.2.1
    · exact a5.2.1
  have hmap : MapS P kt (kint .i64) S w (θ im) m := hmap
  unfold Oper.wp
  have hrun := run_callv_op (P := P) (ρ := a.eval) (f := F) (o := .tmp s) (us := []) (vs := [.pointer (some ⟨θ i1, 0, none⟩), .pointer (some ⟨θ i2, 0, none⟩), .pointer (some ⟨θ i3, 0, none⟩), .pointer (some ⟨θ i4, 0, none⟩), .pointer (some ⟨θ i5, 0, none⟩)]) (xs := [x]) (at_ := at_) (dst := some d) (ty := ty) (pos := pos) (af := af) (g := g) (w := w) hf es
  rw [hrun, List.map_cons, ex]
  refine (hC θ S2 w (θ i1) (θ i3) (θ im) (θ i5) (.pointer (some ⟨θ i2, 0, none⟩)) (.pointer (some ⟨θ i4, 0, none⟩)) hbd ?_ ?_ d1m am.2.1 (.inr (.inr (.inl rfl))) (.inr (.inr (.inr (.inr rfl)))) hc1 hc3 hc5 (hmap.free (KFree.int .i64)) ?_ ?_).mono ?_
  · rintro (h | h | h | h | h)
    · exact a1.1 h
    · exact d12 h
    · exact d13 h
    · exact d14 h
    · exact d15 h
  · rintro (h | h | h | h | h)
    · exact am.1 h
    · exact dm2 h
    · exact dm3 h
    · exact dm4 h
    · exact dm5 h
  · refine ⟨rfl, _, rfl, .inr (.inl rfl), _, Kp.move hr2 (Agree.refl _ _) hSS, fun i u hu => ?_⟩
    rw [add_add, cell_of_row w (θ i2) _ _ eP (0, 0) hc2, Nat.zero_add]
    simpa using hu
  · refine ⟨rfl, _, rfl, .inr (.inr (.inr (.inl rfl))), _, rfl, fun i u hu => ?_⟩
    rw [add_add, cell_of_row w (θ i4) _ _ e3' (0, 0) hc4, Nat.zero_add]
    simpa using hu
  · rintro e w' ⟨rfl, hfr, hn', hm'⟩
    exact inv_two hd k1 k2 k3 k4 k5 (hN _ h1) (hN _ hm) q1m rfl rfl hfr ⟨_, hn', rfl⟩ (hm' S)
theorem con_enterCnt {α : Type} {F : FuncId} {fn : Func} {body : Code} {kt e3 eS eF : TypeId} {Kp : Kn α} {p : α} {most left n0 : Int} {m : GM Int} {r : Int × GM Int} (hf : P.funcs[F]? = some fn) (hb : fn.body = some body) (hn : Nat.ble 6 fn.ntmps = true) (hm : Nat.ble fn.ntmps 1000000 = true)
    (h : ∀ w0 S0 bn bd bm bo v2 v4, Goes P ⟨w0, S0, [bn, bm], fn.ntmps⟩ (argEnts [VA.k (kint .i64) left, VA.ptr 998 0, VA.fx v2 (VA.pt Kp p), VA.ro eS bd (.map (some bm)), VA.fx v4 (VA.pt (kint .i64) most), VA.ro eF bo (selfv F bn bd bo v2 v4)] 0 ++ [Ent.h 998 (HE.box e3 (kint .i64) n0), Ent.isb 998 bn, Ent.h 999 (HE.map P kt (kint .i64) m), Ent.isb 999 bm]) body (bodyPost P fn (CntPost P kt e3 w0 bn bm r))) : ConCnt P F kt e3 eS eF Kp p most left n0 m r := fun θ S w bn bd bm bo v2 v4 hS hSn hSm hne hml hSd hSo hcn hcd hco hmap g2 g4 => by
  refine calls_of_wp hf hb (h w S bn bd bm bo v2 v4 _ w ?_)
  have hn' := Nat.le_of_ble_eq_true hn
  have hm' := Nat.le_of_ble_eq_true hm
  let θ' : Nat → Nat := fun k => if k = 998 then bn else if k = 999 then bm else θ k
  have hnl : bn < w.heap.size := (Array.getElem?_eq_some_iff.1 hcn).1
  refine ⟨rfl, ⟨by simp; omega, hm'⟩, Fr.refl _ _, θ', S, fun b hb => ⟨hS b hb, .inl hb⟩, ?_⟩
  refine arg_sat_app (vs := [.int .i64 left, .pointer (some ⟨bn, 0, none⟩), v2, .pointer (some ⟨bd, 0, none⟩), v4, .pointer (some ⟨bo, 0, none⟩)]) ?_ (fun i v hi => ?_) (fun k hk => by cases hk) (by simp) ?_
  · exact ⟨⟨rfl, _, rfl, rfl⟩, ⟨rfl, by simp [θ']⟩, ⟨(VA.pt Kp p).move g2 (Agree.refl _ _) (fun b hb => hb) (fun b hb => rfl) (fun k hk => by cases hk), rfl⟩, ⟨rfl, rfl, hSd, hcd⟩, ⟨(VA.pt (kint .i64) most).move g4 (Agree.refl _ _) (fun b hb => hb) (fun b hb => rfl) (fun k hk => by cases hk), rfl⟩, ⟨rfl, rfl, hSo, hco⟩, trivial⟩
  · have hlt := (List.getElem?_eq_some_iff.1 hi).1
    simp only [Array.getD_eq_getD_getElem?, Nat.zero_add]
    rw [Array.getElem?_append_left (by simpa using hlt)]
    rw [← List.getElem?_toArray] at hi
    rw [hi]; rfl
  · refine sat_consB (b := bn) (dead_nil _) ⟨by simp [θ'], ?_⟩ ⟨hSn, hnl, .inr (by simp)⟩ (sat_consK (dead_iff (fun k hk => ?_)) ⟨rfl, by simp [θ']⟩ (sat_consB (b := bm) (dead_iff (fun k hk => ?_)) ⟨by simp [θ'], ?_⟩ ⟨⟨hSm, hml, .inr (by simp)⟩, hne.symm⟩ (sat_consK (dead_iff (fun k hk => ?_)) ⟨rfl, by simp [θ']⟩ trivial)))
    · refine ⟨_, ?_, rfl⟩
      show w.heap[θ' 998]? = _
      rw [show θ' 998 = bn by simp [θ']]; exact hcn
    · simp only [Ent.h, List.mem_cons, List.not_mem_nil, or_false] at hk
      simp only [Ent.deps, Ent.isb, List.map_cons, List.map_nil, List.nil_append, List.mem_cons, List.not_mem_nil, or_false]
      omega
    · simp only [Ent.h, Ent.isb, List.mem_cons, List.not_mem_nil, or_false] at hk
      simp only [Ent.deps, Ent.h, HE.map, List.map_cons, List.map_nil, List.nil_append, List.mem_cons, List.not_mem_nil, or_false]
      omega
    · show MapS P kt (kint .i64) S w (θ' 999) m
      rw [show θ' 999 = bm by simp [θ']]; exact hmap
    · simp only [Ent.h, Ent.isb, List.mem_cons, List.not_mem_nil, or_false] at hk
      simp only [Ent.deps, Ent.isb, List.map_cons, List.map_nil, List.nil_append, List.mem_cons, List.not_mem_nil, or_false]
      omega
theorem ends_cnt {kt e3 : TypeId} {r : Int × GM Int} {w0 : World} {S0 : Blk} {n bn bm : Nat} {Γ : List Ent} {fn : Func} (hr : fn.results = #[]) (h1 : findE [] Γ 4000998 = some (Ent.isb 998 bn)) (h2 : findE [] Γ 2000998 = some (Ent.h 998 (HE.box e3 (kint .i64) r.1))) (h3 : findE [] Γ 4000999 = some (Ent.isb 999 bm)) (h4 : findE [] Γ 2000999 = some (Ent.h 999 (HE.map P kt (kint .i64) r.2))) : Ends ⟨w0, S0, [bn, bm], n⟩ Γ (bodyPost P fn (CntPost P kt e3 w0 bn bm r)) .ret := by
  rintro a w ⟨g1, g2, g3, θ, S, k4, k5⟩
  obtain ⟨_, ⟨_, e1⟩, _⟩ := sat_take (has_find h1) k5
  obtain ⟨_, ⟨rfl, cs, hc, hrr⟩, _⟩ := sat_take (has_find h2) k5
  obtain ⟨_, ⟨_, e2⟩, _⟩ := sat_take (has_find h3) k5
  obtain ⟨_, ⟨rfl, hm⟩, _⟩ := sat_take (has_find h4) k5
  have hm2 : MapS P kt (kint .i64) S w (θ 999) r.2 := hm
  rw [e2] at hm2
  rw [e1] at hc
  obtain rfl : cs = #[.int .i64 r.1] := Array.toList_inj.1 hrr
  refine ⟨g1, .tuple #[], ?_, rfl, g3, hc, fun S' => hm2.free (KFree.int .i64)⟩
  unfold results
  simp [hr, Sem.run_bind, Sem.run_map, Sem.run_pure, Result.andThen_ok]
end
end Go.Proofs.Ytedgkcdofiildaa.Sl
