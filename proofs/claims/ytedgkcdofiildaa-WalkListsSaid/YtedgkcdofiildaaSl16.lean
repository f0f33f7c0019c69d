/- Maps in a frame: made, read, written, kept in boxes; closures over what is only read. -/
import Derived.Test.YtedgkcdofiildaaSl15
set_option linter.unusedVariables false
set_option linter.unusedSimpArgs false
set_option linter.unnecessarySimpa false
set_option linter.deprecated false
namespace Go.Proofs.Ytedgkcdofiildaa.Sl
open Go Go.RowKit Go.WideMaps Go.Maps
section
variable {P : Program} {n d : Nat} {ty t t' : TypeId} {pos : String} {af : Array Edge} {g : Option (Nat × Bool)} {N : Ent → Prop}
theorem op_makeMap {α : Type} (kt : TypeId) (K : Kn α) (id : Nat) (hd : Nat.blt d n = true) : OpSpec P n ⟨some d, .makeMap t none, ty, pos, af, g⟩ N [Ent.t d (VA.mp false id), Ent.h id (HE.map P kt K gempty), Ent.bind id] := by
  rintro c Γ a w Q rfl hN ⟨h1, h2, h3, θ, S, h4, h5⟩
  have hrun : (execOp a.eval ⟨some d, .makeMap t none, ty, pos, af, g⟩).run P w = .ok (.value (.map (some w.heap.size))) (w.alloc (.map #[] 0)) := by
    simp [execOp, Instr.makeMap, newObj, Sem.run_bind, Sem.run_pure, Result.andThen_ok]
    rfl
  unfold Oper.wp
  rw [hrun]
  refine inv_new hd h1 h2 h3 h4 h5 _ (fun θ' h => ⟨rfl, by rw [h]; rfl⟩) (fun θ' _ _ => ⟨_, VMap.made P kt w, fun s => rfl⟩)
theorem op_lookup {α : Type} {kt : TypeId} {K : Kn α} {z r : α} {m : GM α} {s : ByteArray} {id : Nat} {o x : Operand} (hd : Nat.blt d n = true) (hM : MT P t kt K z) (hr : gget m z s = some r) (ho : Arg N o (VA.mp false id)) (hm : N (Ent.h id (HE.map P kt K m))) (hx : Arg N x (VA.k kstr s)) :
    OpSpec P n ⟨some d, .lookup t o x false, ty, pos, af, g⟩ N [Ent.t d (VA.k K r)] := op_pure hd fun θ S act w hN => by
  obtain ⟨_, _, e1⟩ := ho θ S act w hN
  obtain ⟨_, hx'⟩ := hx θ S act w hN
  obtain ⟨_, _, hmap⟩ := hN _ hm
  have e2 := k_str hx'
  obtain ⟨cs, hrun, hk⟩ := hmap.get hM hr
  refine ⟨K.mk_ cs, ?_, rfl, cs, hk, rfl⟩
  have e1' : act.eval o = .map (some (θ id)) := e1
  clear hN ho hx hx' e1
  generalize act.eval = ρ at *
  simp [execOp, e1', e2, hrun, Sem.run_bind, Sem.run_pure, Result.andThen_ok]
theorem op_lookup_k {α : Type} {kt : TypeId} {K : Kn α} {z r : α} {m : GM α} {s : ByteArray} {o x : Operand} (hd : Nat.blt d n = true) (hM : MT P t kt K z) (hr : gget m z s = some r) (ho : Arg N o (VA.k (kmap P kt K) m)) (hx : Arg N x (VA.k kstr s)) :
    OpSpec P n ⟨some d, .lookup t o x false, ty, pos, af, g⟩ N [Ent.t d (VA.k K r)] := op_pure hd fun θ S act w hN => by
  obtain ⟨_, _, cs0, ⟨b, rfl, _, hmap⟩, e1⟩ := ho θ S act w hN
  obtain ⟨_, hx'⟩ := hx θ S act w hN
  have e2 := k_str hx'
  obtain ⟨cs, hrun, hk⟩ := hmap.get hM hr
  refine ⟨K.mk_ cs, ?_, rfl, cs, hk, rfl⟩
  have e1' : act.eval o = .map (some b) := e1
  clear hN ho hx hx' e1
  generalize act.eval = ρ at *
  simp [execOp, e1', e2, hrun, Sem.run_bind, Sem.run_pure, Result.andThen_ok]
theorem tup2_sat {c : Ctx} {Γ : List Ent} {a : Act} {w : World} {θ : Nat → Nat} {S : Blk} {d : Nat} {A B : VA} {u v : Value} (hd : Nat.blt d c.n = true) (hAi : A.ids = []) (hBi : B.ids = []) (h1 : a.defers = []) (h2 : a.tmps.size = c.n ∧ c.n ≤ 1000000) (h3 : Fr c.X c.w0 w) (h4 : SOk c S w)
    (h5 : sat θ S a w [] Γ (free c S w)) (hA : A.sem θ S none w u) (hB : B.sem θ S none w v) : Inv c ([Ent.c d 0 A, Ent.c d 1 B, Ent.t d VA.any] ++ Γ) (a.put (some d) (.tuple #[u, v])) w := by
  have hdn := blt_lt hd
  refine ⟨by rw [put_defers]; exact h1, by rw [put_size]; exact h2, h3, θ, S, h4, ?_⟩
  have htail : sat θ S (a.put (some d) (.tuple #[u, v])) w [d] Γ (free c S w) := sat_move (ks := [d]) (sat_mono h5 (fun k hk => by cases hk) (fun b hb => hb)) (Agree.refl _ _) (fun b hb => hb) (fun b hb => rfl) (fun t ht => put_getD_ne (fun e => ht (by simp [e]))) (fun k _ => rfl)
  exact res_sat (As := [A, B]) (vs := [u, v]) (j := 0) (ks := []) (avn := fun b => False) (avo := free c S w) (by omega) (by rw [put_getD_self (by omega)]) ⟨none, hA, fun b hb => (by cases hb), none, hB, fun b hb => (by cases hb), trivial⟩ (fun C hC => by
    simp only [List.mem_cons, List.not_mem_nil, or_false] at hC
    rcases hC with rfl | rfl
    · exact hAi
    · exact hBi) (fun i v hi => by rw [Nat.zero_add]; simpa using hi) (fun k hk => by cases hk) (fun b hb => hb.elim) (fun b hb => hb) (fun b _ h => h) htail (fun k hk => by simpa using hk)
theorem op_lookupOk {α : Type} {kt : TypeId} {K : Kn α} {z : α} {r : α × Bool} {m : GM α} {s : ByteArray} {id : Nat} {o x : Operand} (hd : Nat.blt d n = true) (hM : MT P t kt K z) (hr : ghas m z s = some r) (ho : Arg N o (VA.mp false id)) (hm : N (Ent.h id (HE.map P kt K m))) (hx : Arg N x (VA.k kstr s)) :
    OpSpec P n ⟨some d, .lookup t o x true, ty, pos, af, g⟩ N [Ent.c d 0 (VA.k K r.1), Ent.c d 1 (VA.k kbool r.2), Ent.t d VA.any] := by
  rintro c Γ a w Q rfl hN ⟨h1, h2, h3, θ, S, h4, h5⟩
  have hN2 := sems hN h5
  obtain ⟨_, _, e1⟩ := ho θ S a w hN2
  obtain ⟨_, hx'⟩ := hx θ S a w hN2
  obtain ⟨_, _, hmap⟩ := hN2 _ hm
  have e2 := k_str hx'
  obtain ⟨cs, hrun, hk⟩ := hmap.getOk hM hr
  have e1' : a.eval o = .map (some (θ id)) := e1
  have hrun' : (execOp a.eval ⟨some d, .lookup t o x true, ty, pos, af, g⟩).run P w = .ok (.value (.tuple #[K.mk_ cs, .bool r.2])) w := by
    clear hN hN2 ho hx hx' e1 h1 h2 h5
    generalize a.eval = ρ at *
    simp [execOp, e1', e2, hrun, Sem.run_bind, Sem.run_pure, Result.andThen_ok]
  unfold Oper.wp
  rw [hrun']
  exact tup2_sat hd rfl rfl h1 h2 h3 h4 h5 ⟨rfl, cs, hk, rfl⟩ (mk_bool _ _ _ _)
theorem op_lookupOk_k {α : Type} {kt : TypeId} {K : Kn α} {z : α} {r : α × Bool} {m : GM α} {s : ByteArray} {o x : Operand} (hd : Nat.blt d n = true) (hM : MT P t kt K z) (hr : ghas m z s = some r) (ho : Arg N o (VA.k (kmap P kt K) m)) (hx : Arg N x (VA.k kstr s)) :
    OpSpec P n ⟨some d, .lookup t o x true, ty, pos, af, g⟩ N [Ent.c d 0 (VA.k K r.1), Ent.c d 1 (VA.k kbool r.2), Ent.t d VA.any] := by
  rintro c Γ a w Q rfl hN ⟨h1, h2, h3, θ, S, h4, h5⟩
  have hN2 := sems hN h5
  obtain ⟨_, _, cs0, ⟨b, rfl, _, hmap⟩, e1⟩ := ho θ S a w hN2
  obtain ⟨_, hx'⟩ := hx θ S a w hN2
  have e2 := k_str hx'
  obtain ⟨cs, hrun, hk⟩ := hmap.getOk hM hr
  have e1' : a.eval o = .map (some b) := e1
  have hrun' : (execOp a.eval ⟨some d, .lookup t o x true, ty, pos, af, g⟩).run P w = .ok (.value (.tuple #[K.mk_ cs, .bool r.2])) w := by
    clear hN hN2 ho hx hx' e1 h1 h2 h5
    generalize a.eval = ρ at *
    simp [execOp, e1', e2, hrun, Sem.run_bind, Sem.run_pure, Result.andThen_ok]
  unfold Oper.wp
  rw [hrun']
  exact tup2_sat hd rfl rfl h1 h2 h3 h4 h5 ⟨rfl, cs, hk, rfl⟩ (mk_bool _ _ _ _)
/-- A block that a map's number names has turned. -/
theorem inv_map {c : Ctx} {Γ : List Ent} {a : Act} {w w' : World} {id : Nat} {H : HE} {θ : Nat → Nat} {S : Blk} {H0 : HE} (h1 : a.defers = []) (h2 : a.tmps.size = c.n ∧ c.n ≤ 1000000) (h3 : Fr c.X c.w0 w) (h4 : SOk c S w) (hfree : free c S w (θ id))
    (h6 : sat θ S a w [(Ent.h id H0).key] Γ (fun b => free c S w b ∧ some (θ id) ≠ some b)) (ht : w.mapTurned w' (θ id)) (hH : H.sem θ (θ id) S w') : Inv c ([Ent.h id H] ++ Γ) a w' := by
  obtain ⟨es, clock, es', clock', hb, rfl⟩ := ht
  have hsz : (ChangeMaps.setBlock w (θ id) (.map es' clock')).heap.size = w.heap.size := by simp [ChangeMaps.setBlock]
  have hne : ∀ b, b ≠ θ id → (ChangeMaps.setBlock w (θ id) (.map es' clock')).heap[b]? = w.heap[b]? := fun b hb => by
    show (w.heap.setIfInBounds (θ id) (.map es' clock'))[b]? = w.heap[b]?
    rw [Array.getElem?_setIfInBounds, if_neg (fun e => hb e.symm)]
  have hag : Agree S w (ChangeMaps.setBlock w (θ id) (.map es' clock')) := fun b hs => hne b (fun e => hfree.1 (e ▸ hs))
  refine ⟨h1, h2, ⟨h3.os, h3.tape, h3.output, by rw [hsz]; exact h3.size, fun k hk hx => (hne k (fun e => ?_)).trans (h3.block k hk hx)⟩, θ, S, h4.grow (by rw [hsz]; exact Nat.le_refl _), ?_⟩
  · rcases hfree.2.2 with h | h
    · rw [← e] at h; omega
    · exact hx (e ▸ h)
  · refine sat_consB (b := θ id) (dead_nil _) ⟨rfl, hH⟩ ⟨hfree.1, by rw [hsz]; exact hfree.2.1, hfree.2.2⟩ ?_
    refine sat_mono (sat_move h6 hag (fun b hb => hb) (fun b hb => hne b (fun e => hb.2 (by rw [e]))) (fun t _ => rfl) (fun k _ => rfl)) (fun k hk => hk) (fun b hb => ⟨⟨hb.1.1, by rw [hsz]; exact hb.1.2.1, hb.1.2.2⟩, fun e => hb.2 (by rw [e])⟩)
theorem op_mapUpdate {α : Type} {kt : TypeId} {K : Kn α} {z v : α} {m r : GM α} {s : ByteArray} {id : Nat} {o x y : Operand} (hM : MT P t kt K z) (hr : gput m s v = some r) (ho : Arg N o (VA.mp false id)) (hm : N (Ent.h id (HE.map P kt K m))) (hx : Arg N x (VA.k kstr s)) (hy : Arg N y (VA.k K v)) :
    OpSpec P n ⟨none, .mapUpdate t o x y, ty, pos, af, g⟩ N [Ent.h id (HE.map P kt K r)] := by
  rintro c Γ a w Q rfl hN ⟨h1, h2, h3, θ, S, h4, h5⟩
  have hN2 := sems hN h5
  obtain ⟨_, _, e1⟩ := ho θ S a w hN2
  obtain ⟨_, hx'⟩ := hx θ S a w hN2
  obtain ⟨_, _, cs, hk, e3⟩ := hy θ S a w hN2
  obtain ⟨ob, ⟨rfl, hmap⟩, hav, h6⟩ := sat_take (hN _ hm) h5
  have hfree := hav _ rfl
  have e2 := k_str hx'
  have hmap' : MapS P kt K S w (θ id) m := hmap
  obtain ⟨w', hrun, hm', ht⟩ := hmap'.put hM hr hk hfree.1
  have e1' : a.eval o = .map (some (θ id)) := e1
  have hrun' : (execOp a.eval ⟨none, .mapUpdate t o x y, ty, pos, af, g⟩).run P w = .ok .skip w' := by
    clear hN hN2 ho hx hx' hy e1 h1 h2 h5 h6
    generalize a.eval = ρ at *
    simp [execOp, e1', e2, e3, hrun, Sem.run_bind, Sem.run_pure, Result.andThen_ok]
  unfold Oper.wp
  rw [hrun']
  exact inv_map h1 h2 h3 h4 hfree h6 ht hm'
/-- A struct of one field, a map. -/
theorem op_build_mp {id : Nat} {o : Operand} (hd : Nat.blt d n = true) (hb : ∀ b, P.built t [(0, .map (some b))] = some #[.map (some b)]) (ho : Arg N o (VA.mp false id)) : OpSpec P n ⟨some d, .build t #[(0, o)], ty, pos, af, g⟩ N [Ent.t d (VA.mp true id)] := op_pure hd fun θ S act w hN => by
  obtain ⟨_, _, e1⟩ := ho θ S act w hN
  have e1' : act.eval o = .map (some (θ id)) := e1
  have hrun := run_build (P := P) w t #[(0, .map (some (θ id)))] #[.map (some (θ id))] (hb _)
  refine ⟨.agg #[.map (some (θ id))], ?_, rfl, rfl⟩
  clear hN ho e1
  generalize act.eval = ρ at *
  simp [execOp, e1', hrun, Sem.run_bind, Sem.run_pure, Result.andThen_ok]
/-- A box, or a slot of one, that holds nothing of note. -/
def HE.raw (e sz : Nat) : HE where
  ids := []
  sem := fun _ b _ w => ∃ cs, w.heap[b]? = some (.cells cs e (0, 0)) ∧ cs.size = sz
  move := by rintro θ θ' b S S' w w' ⟨cs, h1, h2⟩ _ _ hb _; exact ⟨cs, hb.trans h1, h2⟩
theorem op_alloc_raw {sz : Nat} {v : Value} (id : Nat) (hd : Nat.blt d n = true) (hz : (P.info? t).bind (·.zero) = some v) (hs : v.cells.size = sz) :
    OpSpec P n ⟨some d, .alloc t, ty, pos, af, g⟩ N [Ent.t d (VA.ptr id 0), Ent.h id (HE.raw t sz), Ent.bind id] := by
  rintro c Γ a w Q rfl hN ⟨h1, h2, h3, θ, S, h4, h5⟩
  have hv : (zeroValue t).run P w = .ok v w := by
    cases hi : P.info? t with
    | none => rw [hi] at hz; cases hz
    | some i =>
      rw [hi] at hz
      have hz' : i.zero = some v := hz
      simp [zeroValue, typeInfo, hi, hz', Sem.run_bind]
  have hrun : (execOp a.eval ⟨some d, .alloc t, ty, pos, af, g⟩).run P w = .ok (.value (.pointer (some ⟨w.heap.size, 0, none⟩))) (w.alloc (.cells v.cells t)) := by
    simp [execOp, Instr.alloc, newVar, newRow, newObj, hv, Sem.run_bind, Sem.run_pure, Result.andThen_ok]
    rfl
  unfold Oper.wp
  rw [hrun]
  exact inv_box hd h1 h2 h3 h4 h5 _ (fun θ' h => ⟨rfl, by rw [h]⟩) (fun θ' _ _ => ⟨_, heap_alloc_new w _, hs⟩)
/-- How a type that holds a map loads and stores: agg, or one cell. -/
structure MZ (P : Program) (t : TypeId) (agg : Bool) : Prop where
  agg : ∀ w, (isAgg t).run P w = .ok agg w
  size : ∀ w, (sizeOf t).run P w = .ok 1 w
theorem mz_of {t : TypeId} {agg : Bool} {dd : TypeDesc} (h : P.underlying t = some dd) (ha : aggD dd = agg) (hs : P.cellsOf t = 1) : MZ P t agg where
  agg := fun w => by
    unfold isAgg
    rw [Sem.run_bind, run_underlying h, Result.andThen_ok, ← ha]
    cases dd <;> rfl
  size := fun w => by
    unfold Program.cellsOf at hs
    cases hi : P.info? t with
    | none => rw [hi] at hs; cases hs
    | some i =>
      rw [hi] at hs
      have hs' : i.size = 1 := hs
      simp [sizeOf, typeInfo, hi, hs', Sem.run_bind]
theorem op_store_mp {id idm : Nat} {agg : Bool} {e : TypeId} {o z : Operand} {H : HE} (hZ : MZ P t agg) (hH : H = HE.raw e 1 ∨ ∃ q, H = HE.boxm e q) (hp : Arg N o (VA.ptr id 0)) (hb : N (Ent.h id H)) (hz : Arg N z (VA.mp agg idm)) :
    OpSpec P n ⟨none, .store t o z, ty, pos, af, g⟩ N [Ent.h id (HE.boxm e idm)] := by
  rintro c Γ a w Q rfl hN ⟨h1, h2, h3, θ, S, h4, h5⟩
  have hN2 := sems hN h5
  obtain ⟨_, _, e1⟩ := hp θ S a w hN2
  obtain ⟨_, _, e2⟩ := hz θ S a w hN2
  obtain ⟨ob, ⟨rfl, hsem⟩, hav, h6⟩ := sat_take (hN _ hb) h5
  have hfree := hav _ rfl
  obtain ⟨cs, hc, hcl⟩ : ∃ cs, w.heap[θ id]? = some (.cells cs e (0, 0)) ∧ cs.size = 1 := by
    rcases hH with rfl | ⟨q, rfl⟩
    · exact hsem
    · exact ⟨_, hsem, rfl⟩
  have hvc : (a.eval z).cells = #[.map (some (θ idm))] := by rw [e2]; unfold wrapM; cases agg <;> rfl
  have hst := run_storeCells_at (P := P) (θ id) 0 e [.map (some (θ idm))] 0 cs w hc (by simp [hcl]) (fun v hv => by rw [List.mem_singleton.1 hv]; rfl)
  have hnew : (cs.toList.take (0 + 0) ++ [Value.map (some (θ idm))] ++ cs.toList.drop (0 + 0 + [Value.map (some (θ idm))].length)).toArray = #[.map (some (θ idm))] := by
    rw [List.drop_of_length_le (by simp [hcl])]; simp
  rw [hnew] at hst
  have hrun : (execOp a.eval ⟨none, .store t o z, ty, pos, af, g⟩).run P w = .ok .skip (w.setRow (θ id) #[.map (some (θ idm))]) := by
    have hs1 := hZ.size w
    clear hN hN2 hp hz h1 h2 h5 h6 e2
    generalize a.eval = ρ at *
    simp [execOp, Instr.storeAt, Instr.sureAddr, e1, storeVar, hvc, hs1, hst, Sem.run_bind, Sem.run_pure, Result.andThen_ok]
  unfold Oper.wp
  rw [hrun]
  have hne : ∀ b, S b → b ≠ θ id := fun b hs e => hfree.1 (e ▸ hs)
  have hag : Agree S w (w.setRow (θ id) #[.map (some (θ idm))]) := fun b hs => setRow_ne _ _ _ _ (hne b hs)
  show Inv c _ (a.put none undef) _
  refine ⟨h1, h2, h3.setRow hfree.2.2 _, θ, S, h4.grow (by rw [setRow_size]; exact Nat.le_refl _), ?_⟩
  refine sat_consB (b := θ id) (dead_nil _) ?_ ⟨hfree.1, by rw [setRow_size]; exact hfree.2.1, hfree.2.2⟩ ?_
  · exact ⟨rfl, setRow_heap w _ _ _ e (0, 0) hc⟩
  · refine sat_mono (sat_move h6 hag (fun b hb => hb) (fun b hb => setRow_ne _ _ _ _ (fun e => hb.2 (by rw [e]))) (fun t _ => rfl) (fun k _ => rfl)) (fun k hk => hk) (fun b hb => ⟨⟨hb.1.1, by rw [setRow_size]; exact hb.1.2.1, hb.1.2.2⟩, fun e => hb.2 (by rw [e])⟩)
theorem op_load_mp {id idm : Nat} {agg : Bool} {e : TypeId} {o : Operand} (hd : Nat.blt d n = true) (hZ : MZ P t agg) (hp : Arg N o (VA.ptr id 0)) (hb : N (Ent.h id (HE.boxm e idm))) : OpSpec P n ⟨some d, .load t o, ty, pos, af, g⟩ N [Ent.t d (VA.mp agg idm)] := op_pure hd fun θ S act w hN => by
  obtain ⟨_, _, e1⟩ := hp θ S act w hN
  obtain ⟨_, _, hc⟩ := hN _ hb
  have hcell : w.cell? ⟨θ id, 0, none⟩ = some (.map (some (θ idm))) := by rw [cell_of_row w _ 0 _ e (0, 0) hc]; rfl
  refine ⟨wrapM agg (.map (some (θ idm))), ?_, rfl, rfl⟩
  have ha := hZ.agg w
  have hs := hZ.size w
  have hl : (loadVar t ⟨θ id, 0, none⟩).run P w = .ok (wrapM agg (.map (some (θ idm)))) w := by
    unfold loadVar wrapM
    cases agg with
    | true =>
      have := run_loadCells_list (P := P) w ⟨θ id, 0, none⟩ [.map (some (θ idm))] (fun j v hv => by
        cases j with
        | zero => cases hv; rw [show (⟨θ id, 0, none⟩ : Addr).add 0 = ⟨θ id, 0, none⟩ by simp [Addr.add]]; exact hcell
        | succ j => simp at hv)
      simp only [List.length_singleton] at this
      simp [Sem.run_bind, ha, hs, this]
    | false => simp [Sem.run_bind, ha, run_load, hcell]
  clear hN hp
  generalize act.eval = ρ at *
  simp [execOp, Instr.loadAt, Instr.sureAddr, e1, hl, Sem.run_bind, Sem.run_pure, Result.andThen_ok]
theorem op_box_mp {idm : Nat} {agg : Bool} {e : TypeId} {o : Operand} (id : Nat) (hd : Nat.blt d n = true) (hne : Nat.beq idm id = false) (hx : Arg N o (VA.mp agg idm)) : OpSpec P n ⟨some d, .box e o, ty, pos, af, g⟩ N [Ent.t d (VA.ptr id 0), Ent.h id (HE.boxm e idm), Ent.bind id] := by
  rintro c Γ a w Q rfl hN ⟨h1, h2, h3, θ, S, h4, h5⟩
  obtain ⟨_, _, e1⟩ := hx θ S a w (sems hN h5)
  have hvc : (a.eval o).cells = #[.map (some (θ idm))] := by rw [e1]; unfold wrapM; cases agg <;> rfl
  have hrun : (execOp a.eval ⟨some d, .box e o, ty, pos, af, g⟩).run P w = .ok (.value (.pointer (some ⟨w.heap.size, 0, none⟩))) (w.alloc (.cells #[.map (some (θ idm))] e)) := by
    clear hN hx h1 h2 h5 e1
    generalize a.eval = ρ at *
    simp [execOp, Instr.box, newVar, newRow, newObj, hvc, Sem.run_bind, Sem.run_pure, Result.andThen_ok]
    rfl
  have hn : idm ≠ id := fun e => by rw [e, Nat.beq_refl] at hne; cases hne
  unfold Oper.wp
  rw [hrun]
  exact inv_box hd h1 h2 h3 h4 h5 _ (fun θ' h => ⟨rfl, by rw [h]⟩) (fun θ' _ hk => by
    show (w.alloc _).heap[w.heap.size]? = _
    rw [heap_alloc_new, hk idm hn])
theorem op_field_mp {id : Nat} {fs : Array Field} {f : Field} {o : Operand} (hd : Nat.blt d n = true) (hu : P.underlying t = some (.struct fs)) (hf : fs[0]? = some f) (ho : f.offset = 0) (hZ : MZ P f.type false) (hx : Arg N o (VA.mp true id)) : OpSpec P n ⟨some d, .field t o 0, ty, pos, af, g⟩ N [Ent.t d (VA.mp false id)] := op_pure hd fun θ S act w hN => by
  obtain ⟨_, _, e1⟩ := hx θ S act w hN
  have e1' : act.eval o = .agg #[.map (some (θ id))] := e1
  refine ⟨.map (some (θ id)), ?_, rfl, rfl⟩
  have ha := hZ.agg w
  clear hN hx e1
  generalize act.eval = ρ at *
  simp [execOp, Instr.field, e1', run_underlying hu, hf, asAgg, part, ha, ho, Sem.run_bind, Sem.run_pure, Result.andThen_ok]
end
/-! ### what a call is lent -/
section
variable {N : Ent → Prop}
theorem ArgB.mp {α : Type} {P : Program} {kt : TypeId} {K : Kn α} {x : Operand} {id : Nat} {m : GM α} (h : Arg N x (VA.mp false id)) (hm : N (Ent.h id (HE.map P kt K m))) : ArgB N x (VA.k (kmap P kt K) m) := fun θ S a w hN hS => by
  have hN2 : ∀ e, N e → ∃ ob, e.sem θ S ob a w := fun e he => by obtain ⟨ob, h, _⟩ := hN e he; exact ⟨ob, h⟩
  obtain ⟨_, _, e1⟩ := h θ S a w hN2
  obtain ⟨_, ⟨rfl, hmap⟩, hlt⟩ := hN _ hm
  refine ⟨rfl, [.map (some (θ id))], ⟨θ id, rfl, hlt _ rfl, ?_⟩, e1⟩
  exact MapS.move hmap (Agree.refl _ _) hS rfl
theorem ArgB.mps {α β : Type} {P : Program} {kt : TypeId} {K : Kn α} {x : Operand} {id : Nat} {m : GM α} {f : β → GM α} {y : β} (h : Arg N x (VA.mp true id)) (hm : N (Ent.h id (HE.map P kt K m))) (hf : f y = m) : ArgB N x (VA.k (kiso (kmap P kt K) f) y) := fun θ S a w hN hS => by
  have hN2 : ∀ e, N e → ∃ ob, e.sem θ S ob a w := fun e he => by obtain ⟨ob, h, _⟩ := hN e he; exact ⟨ob, h⟩
  obtain ⟨_, _, e1⟩ := h θ S a w hN2
  obtain ⟨_, ⟨rfl, hmap⟩, hlt⟩ := hN _ hm
  refine ⟨rfl, [.map (some (θ id))], ?_, e1⟩
  show (kmap P kt K).R _ w (f y) _
  rw [hf]
  exact ⟨θ id, rfl, hlt _ rfl, MapS.move hmap (Agree.refl _ _) hS rfl⟩
/-- A box lent to be read. -/
theorem ArgB.ptk {α β : Type} {K : Kn α} {K' : Kn β} {get : α → β} {set : α → β → α} {e : TypeId} {x : Operand} {id off : Nat} {y : α} (hF : Fld K off K' get set) (h : Arg N x (VA.ptr id off)) (hb : N (Ent.h id (HE.box e K y))) : ArgB N x (VA.pt K' (get y)) := fun θ S a w hN hS => by
  have hN2 : ∀ e, N e → ∃ ob, e.sem θ S ob a w := fun e he => by obtain ⟨ob, h, _⟩ := hN e he; exact ⟨ob, h⟩
  obtain ⟨_, _, e1⟩ := h θ S a w hN2
  obtain ⟨_, ⟨rfl, cs, hc, hr⟩, hlt⟩ := hN _ hb
  have hg := hF.get hr
  refine ⟨rfl, _, e1, hlt _ rfl, _, K'.move hg (Agree.refl _ _) hS, fun i u hu => ?_⟩
  rw [add_add, cell_of_row w (θ id) (off + i) cs e (0, 0) hc]
  rw [List.getElem?_take] at hu
  split at hu
  · rw [List.getElem?_drop] at hu
    simpa using hu
  · cases hu
theorem ArgB.pt {α : Type} {K : Kn α} {x : Operand} {y : α} (h : Arg N x (VA.pt K y)) : ArgB N x (VA.pt K y) := fun θ S a w hN hS => by
  obtain ⟨ob, h1⟩ := h θ S a w (fun e he => by obtain ⟨ob, h, _⟩ := hN e he; exact ⟨ob, h⟩)
  obtain rfl : ob = none := h1.1
  exact (VA.pt K y).move h1 (Agree.refl _ _) hS (fun b _ => rfl) (fun k _ => rfl)
/-- A box with a map, lent to be read. -/
theorem ArgB.ptm {α β : Type} {P : Program} {kt : TypeId} {K : Kn α} {x : Operand} {id idm : Nat} {e : TypeId} {m : GM α} {f : β → GM α} {y : β} (h : Arg N x (VA.ptr id 0)) (hb : N (Ent.h id (HE.boxm e idm))) (hm : N (Ent.h idm (HE.map P kt K m))) (hf : f y = m) : ArgB N x (VA.pt (kiso (kmap P kt K) f) y) := fun θ S a w hN hS => by
  have hN2 : ∀ e, N e → ∃ ob, e.sem θ S ob a w := fun e he => by obtain ⟨ob, h, _⟩ := hN e he; exact ⟨ob, h⟩
  obtain ⟨_, _, e1⟩ := h θ S a w hN2
  obtain ⟨_, ⟨rfl, hc⟩, hlt⟩ := hN _ hb
  obtain ⟨_, ⟨rfl, hmap⟩, hlt2⟩ := hN _ hm
  refine ⟨rfl, _, e1, hlt _ rfl, [.map (some (θ idm))], ?_, fun i u hu => ?_⟩
  · show (kmap P kt K).R _ w (f y) _
    rw [hf]
    exact ⟨θ idm, rfl, hlt2 _ rfl, MapS.move hmap (Agree.refl _ _) hS rfl⟩
  · cases i with
    | zero =>
      cases hu
      rw [add_add, cell_of_row w (θ id) _ _ e (0, 0) hc]; rfl
    | succ i => simp at hu
theorem ArgB.ptmm {α : Type} {P : Program} {kt : TypeId} {K : Kn α} {x : Operand} {id idm : Nat} {e : TypeId} {m : GM α} (h : Arg N x (VA.ptr id 0)) (hb : N (Ent.h id (HE.boxm e idm))) (hm : N (Ent.h idm (HE.map P kt K m))) : ArgB N x (VA.pt (kmap P kt K) m) := fun θ S a w hN hS => by
  have hN2 : ∀ e, N e → ∃ ob, e.sem θ S ob a w := fun e he => by obtain ⟨ob, h, _⟩ := hN e he; exact ⟨ob, h⟩
  obtain ⟨_, _, e1⟩ := h θ S a w hN2
  obtain ⟨_, ⟨rfl, hc⟩, hlt⟩ := hN _ hb
  obtain ⟨_, ⟨rfl, hmap⟩, hlt2⟩ := hN _ hm
  refine ⟨rfl, _, e1, hlt _ rfl, [.map (some (θ idm))], ⟨θ idm, rfl, hlt2 _ rfl, MapS.move hmap (Agree.refl _ _) hS rfl⟩, fun i u hu => ?_⟩
  cases i with
  | zero =>
    cases hu
    rw [add_add, cell_of_row w (θ id) _ _ e (0, 0) hc]; rfl
  | succ i => simp at hu
end
/-! ### function values -/
theorem argSat_move {θ θ' : Nat → Nat} {S S' : Blk} {w w' : World} : ∀ {As : List VA} {vs : List Value}, argSat θ S w As vs → Agree S w w' → (∀ b, S b → S' b) → (∀ k, k ∈ As.flatMap (·.ids) → θ' k = θ k) → argSat θ' S' w' As vs
  | [], [], _, _, _, _ => trivial
  | A :: As, v :: vs, h, hA, hS, hi => ⟨A.move h.1 hA hS (fun b hb => by cases hb) (fun k hk => hi k (by simp [hk])), argSat_move h.2 hA hS (fun k hk => hi k (by simp only [List.flatMap_cons, List.mem_append]; exact .inr hk))⟩
  | [], _ :: _, h, _, _, _ => h.elim
  | _ :: _, [], h, _, _, _ => h.elim
/-- Function number F, with what is bound ahead of its arguments and what it has captured. -/
def VA.clo (F : FuncId) (pre caps : List VA) : VA where
  ids := []
  sem := fun θ S ob w v => ob = none ∧ (noIds pre = true ∧ noIds caps = true) ∧ ∃ us vs : List Value, v = .func (.func F) us.toArray vs.toArray ∧ argSat θ S w pre us ∧ argSat θ S w caps vs
  move := by rintro θ θ' S S' ob w w' v ⟨h0, hn, us, vs, h1, h2, h3⟩ hA hS _ hi; exact ⟨h0, hn, us, vs, h1, argSat_move h2 hA hS (fun k hk => by obtain ⟨A, hA, hk⟩ := List.mem_flatMap.1 hk; rw [noIds_spec hn.1 A hA] at hk; cases hk), argSat_move h3 hA hS (fun k hk => by obtain ⟨A, hA, hk⟩ := List.mem_flatMap.1 hk; rw [noIds_spec hn.2 A hA] at hk; cases hk)⟩
theorem plain_clo {F : FuncId} {pre caps : List VA} : Plain (VA.clo F pre caps) := fun {θ S ob w v} h => h.1
/-- Slot d holds function F with the bound and captured operands as they stand in their slots. -/
def Ent.mf (d : Nat) (F : FuncId) (ys xs : List Nat) : Ent where
  key := d
  slots := d :: (ys ++ xs)
  ids := []
  sem := fun _ _ ob a _ => ob = none ∧ a.tmps.getD d undef = .func (.func F) (ys.map fun s => a.tmps.getD s undef).toArray (xs.map fun s => a.tmps.getD s undef).toArray
  move := by
    rintro θ θ' S S' ob a a' w w' ⟨h0, h⟩ _ _ _ ht _
    refine ⟨h0, ?_⟩
    rw [ht d (by simp), h]
    have e1 : (ys.map fun s => a.tmps.getD s undef) = ys.map fun s => a'.tmps.getD s undef := List.map_congr_left (fun s hs => (ht s (List.mem_cons_of_mem _ (List.mem_append_left _ hs))).symm)
    have e2 : (xs.map fun s => a.tmps.getD s undef) = xs.map fun s => a'.tmps.getD s undef := List.map_congr_left (fun s hs => (ht s (List.mem_cons_of_mem _ (List.mem_append_right _ hs))).symm)
    rw [e1, e2]
section
variable {P : Program} {n d : Nat} {ty t t' : TypeId} {pos : String} {af : Array Edge} {g : Option (Nat × Bool)} {N : Ent → Prop}
theorem op_makeFunc {F : FuncId} {ys xs : List Nat} {os ops : Array Operand} (hd : Nat.blt d n = true) (hy : os = (ys.map Operand.tmp).toArray) (ho : ops = (xs.map Operand.tmp).toArray) (hx : (ys ++ xs).all (fun s => !Nat.beq s d) = true) : OpSpec P n ⟨some d, .makeFunc (.func F) os ops, ty, pos, af, g⟩ N [Ent.mf d F ys xs] := by
  rintro c Γ a w Q rfl hN ⟨h1, h2, h3, θ, S, h4, h5⟩
  subst ho
  subst hy
  have ev : ∀ zs : List Nat, (zs.map Operand.tmp).toArray.map a.eval = (zs.map fun s => a.tmps.getD s undef).toArray := fun zs => by
    simp only [List.map_toArray, List.map_map]
    rfl
  have hrun : (execOp a.eval ⟨some d, .makeFunc (.func F) (ys.map Operand.tmp).toArray (xs.map Operand.tmp).toArray, ty, pos, af, g⟩).run P w = .ok (.value (.func (.func F) (ys.map fun s => a.tmps.getD s undef).toArray (xs.map fun s => a.tmps.getD s undef).toArray)) w := by
    simp only [execOp, Instr.makeFunc, ev, Sem.run_bind, Sem.run_pure, Result.andThen_ok]
  unfold Oper.wp
  rw [hrun]
  have hdn := blt_lt hd
  have hne : ∀ s, s ∈ ys ++ xs → s ≠ d := fun s hs e => by
    have := List.all_eq_true.1 hx s hs
    rw [e, Nat.beq_refl] at this; cases this
  refine inv_put_e (θ := θ) (S := S) hd rfl h1 h2 h3 h4 h5 rfl ⟨rfl, ?_⟩
  rw [put_getD_self (by omega)]
  have e1 : (ys.map fun s => a.tmps.getD s undef) = ys.map fun s => (a.put (some d) (.func (.func F) (ys.map fun s => a.tmps.getD s undef).toArray (xs.map fun s => a.tmps.getD s undef).toArray)).tmps.getD s undef := List.map_congr_left (fun s hs => (put_getD_ne (hne s (List.mem_append_left _ hs))).symm)
  have e2 : (xs.map fun s => a.tmps.getD s undef) = xs.map fun s => (a.put (some d) (.func (.func F) (ys.map fun s => a.tmps.getD s undef).toArray (xs.map fun s => a.tmps.getD s undef).toArray)).tmps.getD s undef := List.map_congr_left (fun s hs => (put_getD_ne (hne s (List.mem_append_right _ hs))).symm)
  rw [← e1, ← e2]
theorem ArgB.mf {F : FuncId} {s : Nat} {ys xs : List Nat} {pre caps : List VA} (hn : noIds pre = true) (hm : noIds caps = true) (h : N (Ent.mf s F ys xs)) (hp : Args (ArgB N) (ys.map Operand.tmp) pre) (hc : Args (ArgB N) (xs.map Operand.tmp) caps) : ArgB N (.tmp s) (VA.clo F pre caps) := fun θ S a w hN hS => by
  obtain ⟨_, ⟨_, e⟩, _⟩ := hN _ h
  have h1 := hp.satB hN hS
  have h2 := hc.satB hN hS
  rw [List.map_map] at h1 h2
  exact ⟨rfl, ⟨hn, hm⟩, _, _, e, h1, h2⟩
/-- A function's number alone. -/
theorem ArgB.fn {F : FuncId} : ArgB N (.func F) (VA.clo F [] []) := fun θ S a w hN hS => ⟨rfl, ⟨rfl, rfl⟩, [], [], rfl, trivial, trivial⟩
theorem ArgP.fn {F : FuncId} : ArgP N (.func F) (VA.clo F [] []) := fun θ S a w hN hS => ⟨rfl, ⟨rfl, rfl⟩, [], [], rfl, trivial, trivial⟩
theorem ArgB.clo {F : FuncId} {x : Operand} {pre caps : List VA} (h : Arg N x (VA.clo F pre caps)) : ArgB N x (VA.clo F pre caps) := fun θ S a w hN hS => by
  obtain ⟨ob, h1⟩ := h θ S a w (fun e he => by obtain ⟨ob, h, _⟩ := hN e he; exact ⟨ob, h⟩)
  obtain rfl : ob = none := h1.1
  exact (VA.clo F pre caps).move h1 (Agree.refl _ _) hS (fun b _ => rfl) (fun k _ => rfl)
theorem ArgP.clo {F : FuncId} {x : Operand} {pre caps : List VA} (h : Arg N x (VA.clo F pre caps)) : ArgP N x (VA.clo F pre caps) := ArgP.a plain_clo h
theorem argSat_app {θ : Nat → Nat} {S : Blk} {w : World} : ∀ {As Bs : List VA} {us vs : List Value}, argSat θ S w As us → argSat θ S w Bs vs → argSat θ S w (As ++ Bs) (us ++ vs)
  | [], _, [], _, _, h => h
  | _ :: _, _, _ :: _, _, h, h' => ⟨h.1, argSat_app h.2 h'⟩
  | [], _, _ :: _, _, h, _ => h.elim
  | _ :: _, _, [], _, h, _ => h.elim
theorem run_callv_op {dst : Option Tmp} {ρ : Operand → Value} {f : FuncId} {o : Operand} {us vs : List Value} {xs : List Operand} {at_ : Array TypeId} {w : World} (hf : Enters P f) (hρ : ρ o = .func (.func f) us.toArray vs.toArray) :
    (execOp ρ ⟨dst, .call { callee := .value o, args := xs.toArray, argTypes := at_ }, ty, pos, af, g⟩).run P w = .ok (.enter f (us ++ (xs.map ρ ++ vs)).toArray) w := by
  have := hf (us ++ (xs.map ρ ++ vs)).toArray w
  simp [execOp, resolve, invoke, Deferred.ofValue, hρ, Sem.run_bind, Sem.run_pure, Result.andThen_ok, this]
/-- A call of a function value that came in. -/
theorem op_callv {f : FuncId} {pre caps : List VA} {o : Operand} {xs : List Operand} {at_ : Array TypeId} {As : List VA} {A : VA} (hd : Nat.blt d n = true) (ho : Arg N o (VA.clo f pre caps)) (hf : Enters P f) (hC : Con P f (pre ++ (As ++ caps)) [A]) (hids : noIds [A] = true) (hx : Args (ArgP N) xs As) :
    OpSpec P n ⟨some d, .call { callee := .value o, args := xs.toArray, argTypes := at_ }, ty, pos, af, g⟩ N [Ent.t d A] := by
  rintro c Γ a w Q rfl hN ⟨h1, h2, h3, θ, S, h4, h5⟩
  obtain ⟨_, _, _, us, vs, e, hpre, hcap⟩ := ho θ S a w (sems hN h5)
  unfold Oper.wp
  rw [run_callv_op hf e]
  refine (hC θ S w _ (fun b hb => (h4 b hb).1) (argSat_app hpre (argSat_app (hx.sat (sems hN h5) (fun b hb => (h4 b hb).1)) hcap))).mono ?_
  rintro e w' ⟨rs, S', rfl, hfr, hS', hr⟩
  exact (inv_call hd (noIds_spec hids) h1 h2 h3 h4 h5 hfr hS' hr).1 A rfl
/-- The same, where what it comes to leans on no memory. -/
theorem op_callvF {f : FuncId} {pre caps : List VA} {o : Operand} {xs : List Operand} {at_ : Array TypeId} {As : List VA} {A : VA} (hd : Nat.blt d n = true) (ho : ArgB N o (VA.clo f pre caps)) (hf : Enters P f) (hC : ConF P f (pre ++ (As ++ caps)) [A]) (hids : noIds [A] = true) (hx : Args (ArgB N) xs As) :
    OpSpec P n ⟨some d, .call { callee := .value o, args := xs.toArray, argTypes := at_ }, ty, pos, af, g⟩ N [Ent.t d A] := by
  rintro c Γ a w Q rfl hN ⟨h1, h2, h3, θ, S, h4, h5⟩
  obtain ⟨_, _, us, vs, e, hpre, hcap⟩ := ho θ S a w (semsB hN h5) (fun b hb => (h4 b hb).1)
  unfold Oper.wp
  rw [run_callv_op hf e]
  refine (hC θ (fun b => b < w.heap.size) w _ (fun b hb => hb) (argSat_app hpre (argSat_app (hx.satB (semsB hN h5) (fun b hb => (h4 b hb).1)) hcap))).mono ?_
  rintro e w' ⟨rs, S', rfl, hfr, hS', hr⟩
  exact (inv_call hd (noIds_spec hids) h1 h2 h3 h4 h5 hfr hS' (resSat_move (fun b hb => .inr hb) (fun b hb => hb) hr)).1 A rfl
end
end Go.Proofs.Ytedgkcdofiildaa.Sl
