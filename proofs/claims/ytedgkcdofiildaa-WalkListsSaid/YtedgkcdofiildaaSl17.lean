/- Maps that a call hands back, or writes for its caller. -/
import Derived.Test.YtedgkcdofiildaaSl16
set_option linter.unusedVariables false
set_option linter.unusedSimpArgs false
set_option linter.unnecessarySimpa false
set_option linter.deprecated false
namespace Go.Proofs.Ytedgkcdofiildaa.Sl
open Go Go.RowKit Go.WideMaps Go.Maps
section
variable {P : Program} {c : Ctx} {Γ : List Ent} {Q : Exit → Act → World → Prop} {ops : Array Oper} {l : List Oper}
/-- A map of the frame's own gets a number. -/
theorem inv_adopt {α : Type} {kt : TypeId} {K : Kn α} {agg : Bool} {m : GM α} {a : Act} {w : World} {d : Nat} (id : Nat) (hd : Nat.blt d 1000000 = true) (h : Has [] Γ (Ent.t d (VA.om P kt K agg m))) (hi : Inv c Γ a w) : Inv c (Ent.t d (VA.mp agg id) :: Ent.h id (HE.map P kt K m) :: Ent.bind id :: Γ) a w := by
  obtain ⟨h1, h2, h3, θ, S, h4, h5⟩ := hi
  obtain ⟨ob, ⟨b, rfl, hv, hm⟩, hav, h6⟩ := sat_take h h5
  have hfree := hav b rfl
  have hdn := blt_lt hd
  refine ⟨h1, h2, h3, (fun k => if k = id then b else θ k), S, h4, ?_⟩
  refine sat_consK (dead_nil _) ?_ (sat_consB (b := b) ?_ ?_ hfree (sat_consK ?_ rfl ?_))
  · refine ⟨rfl, ?_⟩
    show a.tmps.getD d undef = wrapM agg (.map (some (if id = id then b else θ id)))
    rw [if_pos rfl]; exact hv
  · refine dead_iff (fun k hk => ?_)
    simp only [Ent.t, List.mem_singleton] at hk
    simp only [Ent.deps, Ent.h, HE.map, List.map_cons, List.map_nil, List.nil_append, List.mem_cons, List.not_mem_nil, or_false]
    omega
  · refine ⟨by simp, ?_⟩
    show MapS P kt K S w (if id = id then b else θ id) m
    rw [if_pos rfl]; exact hm
  · refine dead_iff (fun k hk => ?_)
    simp only [Ent.t, Ent.h, List.mem_cons, List.not_mem_nil, or_false] at hk
    simp only [Ent.deps, Ent.bind, List.map_nil, List.nil_append, List.mem_cons, List.not_mem_nil, or_false]
    omega
  · have h7 := sat_mono h6 (ks' := [1000000 + id, 2000000 + id, d]) (fun k hk => by simp [Ent.t] at hk; simp [hk]) (fun b hb => hb)
    refine sat_mono (sat_move (θ' := fun k => if k = id then b else θ k) h7 (Agree.refl _ _) (fun b hb => hb) (fun b hb => rfl) (fun t _ => rfl) (fun k hk => ?_)) (fun k hk => hk) (fun b' hb => ⟨hb.1, fun e => hb.2 (by rw [e])⟩)
    have : k ≠ id := fun e => hk (by simp [e])
    simp [this]
theorem goesO_adopt {α : Type} {kt : TypeId} {K : Kn α} {agg : Bool} {m : GM α} (d id : Nat) (hd : Nat.blt d 1000000 = true) (h : findE [] Γ d = some (Ent.t d (VA.om P kt K agg m))) (next : GoesO P c (Ent.t d (VA.mp agg id) :: Ent.h id (HE.map P kt K m) :: Ent.bind id :: Γ) ops l Q) : GoesO P c Γ ops l Q := fun a w hi => next a w (inv_adopt id hd (has_find h) hi)
theorem goes_adopt {α : Type} {kt : TypeId} {K : Kn α} {agg : Bool} {m : GM α} {k : Code} (d id : Nat) (hd : Nat.blt d 1000000 = true) (h : findE [] Γ d = some (Ent.t d (VA.om P kt K agg m))) (next : Goes P c (Ent.t d (VA.mp agg id) :: Ent.h id (HE.map P kt K m) :: Ent.bind id :: Γ) k Q) : Goes P c Γ k Q := fun a w hi => next a w (inv_adopt id hd (has_find h) hi)
end
/-- A map, by its number, is handed back. -/
theorem Rets.m {P : Program} {Γ : List Ent} {α : Type} {kt : TypeId} {K : Kn α} {agg : Bool} {m : GM α} {ks : List Nat} {r id : Nat} {rs : List ResultVar} {As : List VA} (h1 : findE [] Γ r = some (Ent.t r (VA.mp agg id))) (h2 : findE ks Γ (2000000 + id) = some (Ent.h id (HE.map P kt K m))) (h : Rets P Γ ((2000000 + id) :: ks) rs As) : Rets P Γ ks (.tmp r :: rs) (VA.om P kt K agg m :: As) := .g (key := 2000000 + id) (fun F θ S a w av0 av hF hG h0 hs => by
  obtain ⟨_, ⟨_, e1⟩, _⟩ := sat_take (has_find h1) h0
  obtain ⟨ob, ⟨rfl, hm⟩, g2, g3⟩ := sat_take (has_find h2) hs
  exact ⟨a.tmps.getD r undef, some (θ id), by rw [hF, Sem.run_pure], ⟨θ id, rfl, e1, hm⟩, g2, g3⟩) h
theorem Rets.cm {P : Program} {Γ : List Ent} {α : Type} {kt : TypeId} {K : Kn α} {agg : Bool} {m : GM α} {ks : List Nat} {r id idm : Nat} {t e : TypeId} {rs : List ResultVar} {As : List VA} (h1 : findE [] Γ r = some (Ent.t r (VA.ptr id 0))) (h2 : findE [] Γ (2000000 + id) = some (Ent.h id (HE.boxm e idm))) (h3 : findE ks Γ (2000000 + idm) = some (Ent.h idm (HE.map P kt K m))) (hZ : MZ P t agg) (h : Rets P Γ ((2000000 + idm) :: ks) rs As) : Rets P Γ ks (.cell r t :: rs) (VA.om P kt K agg m :: As) := .g (key := 2000000 + idm) (fun F θ S a w av0 av hF hG h0 hs => by
  obtain ⟨_, ⟨_, e1⟩, _⟩ := sat_take (has_find h1) h0
  obtain ⟨_, ⟨_, hc⟩, _⟩ := sat_take (has_find h2) h0
  obtain ⟨ob, ⟨rfl, hm⟩, g2, g3⟩ := sat_take (has_find h3) hs
  have hcell : w.cell? ⟨θ id, 0, none⟩ = some (.map (some (θ idm))) := by rw [cell_of_row w _ 0 _ e (0, 0) hc]; rfl
  have ha := hZ.agg w
  have hs1 := hZ.size w
  have hl : (loadVar t ⟨θ id, 0, none⟩).run P w = .ok (wrapM agg (.map (some (θ idm)))) w := by
    unfold loadVar wrapM
    cases agg with
    | true =>
      have := run_loadCells_list (P := P) w ⟨θ id, 0, none⟩ [.map (some (θ idm))] (fun j v hv => by
        cases j with
        | zero => cases hv; rw [show (⟨θ id, 0, none⟩ : Addr).add 0 = ⟨θ id, 0, none⟩ by simp [Addr.add]]; exact hcell
        | succ j => simp at hv)
      simp only [List.length_singleton] at this
      simp [Sem.run_bind, ha, hs1, this]
    | false => simp [Sem.run_bind, ha, run_load, hcell]
  exact ⟨_, some (θ idm), by rw [hG r t _ e1, hl], ⟨θ idm, rfl, rfl, hm⟩, g2, g3⟩) h
theorem ArgB.om {α : Type} {P : Program} {kt : TypeId} {K : Kn α} {N : Ent → Prop} {s : Nat} {m : GM α} (h : N (Ent.t s (VA.om P kt K false m))) : ArgB N (.tmp s) (VA.k (kmap P kt K) m) := fun θ S a w hN hS => by
  obtain ⟨_, ⟨b, rfl, e1, hm⟩, hlt⟩ := hN _ h
  exact ⟨rfl, [.map (some b)], ⟨b, rfl, hlt _ rfl, hm.move (Agree.refl _ _) hS rfl⟩, e1⟩
theorem ArgB.oms {α β : Type} {P : Program} {kt : TypeId} {K : Kn α} {N : Ent → Prop} {s : Nat} {m : GM α} {f : β → GM α} {y : β} (h : N (Ent.t s (VA.om P kt K true m))) (hf : f y = m) : ArgB N (.tmp s) (VA.k (kiso (kmap P kt K) f) y) := fun θ S a w hN hS => by
  obtain ⟨_, ⟨b, rfl, e1, hm⟩, hlt⟩ := hN _ h
  refine ⟨rfl, [.map (some b)], ?_, e1⟩
  show (kmap P kt K).R _ w (f y) _
  rw [hf]
  exact ⟨b, rfl, hlt _ rfl, hm.move (Agree.refl _ _) hS rfl⟩
/-! ### a map that a call writes -/
def IOPost {α : Type} (P : Program) (kt : TypeId) (K : Kn α) (w0 : World) (S0 : Blk) (b : Nat) (m' : GM α) (e : Ending) (w' : World) : Prop :=
  ∃ S' : Blk, e = .returned (.tuple #[]) ∧ Fr [b] w0 w' ∧ (∀ x, S' x → since w0 w' x) ∧ MapS P kt K (fun x => S0 x ∨ S' x) w' b m'
/-- Function f writes the map of its first argument. -/
def ConIO {α : Type} (P : Program) (f : FuncId) (kt : TypeId) (K : Kn α) (agg : Bool) (m m' : GM α) (As : List VA) : Prop :=
  ∀ (θ : Nat → Nat) (S : Blk) (w : World) (vs : List Value) (b : Nat), (∀ x, S x → x < w.heap.size) → ¬ S b → b < w.heap.size → MapS P kt K S w b m → argSat θ S w As vs → Calls P f (wrapM agg (.map (some b)) :: vs).toArray w (IOPost P kt K w S b m')
/-- Number id names block b. -/
def Ent.isb (id b : Nat) : Ent where
  key := 4000000 + id
  slots := []
  ids := [id]
  sem := fun θ _ ob _ _ => ob = none ∧ θ id = b
  move := by rintro θ θ' S S' ob a a' w w' ⟨h0, h⟩ _ _ _ _ hi; exact ⟨h0, by rw [hi id (by simp)]; exact h⟩
section
variable {P : Program} {n d : Nat} {ty t t' : TypeId} {pos : String} {af : Array Edge} {g : Option (Nat × Bool)} {N : Ent → Prop}
theorem op_callIO {α : Type} {kt : TypeId} {K : Kn α} {agg : Bool} {m m' : GM α} {f : FuncId} {s : Operand} {id : Nat} {xs : List Operand} {at_ : Array TypeId} {As : List VA} (hd : Nat.blt d n = true) (hf : Enters P f) (hC : ConIO P f kt K agg m m' As) (hs : Arg N s (VA.mp agg id)) (hm : N (Ent.h id (HE.map P kt K m))) (hx : Args (ArgP N) xs As) :
    OpSpec P n ⟨some d, .call { callee := .value (.func f), args := (s :: xs).toArray, argTypes := at_ }, ty, pos, af, g⟩ N [Ent.t d VA.any, Ent.h id (HE.map P kt K m')] := by
  rintro c Γ a w Q rfl hN ⟨h1, h2, h3, θ, S, h4, h5⟩
  have hN2 := sems hN h5
  obtain ⟨_, _, e1⟩ := hs θ S a w hN2
  obtain ⟨ob, ⟨rfl, hmap⟩, hav, h6⟩ := sat_take (hN _ hm) h5
  have hfree := hav _ rfl
  have hdn := blt_lt hd
  unfold Oper.wp
  rw [run_call_op hf rfl, List.map_cons, e1]
  refine (hC θ S w _ (θ id) (fun b hb => (h4 b hb).1) hfree.1 hfree.2.1 hmap (hx.sat hN2 (fun b hb => (h4 b hb).1))).mono ?_
  rintro e w' ⟨S', rfl, hfr, hS', hm'⟩
  have hsz := hfr.size
  have hne : ∀ b, b < w.heap.size → b ≠ θ id → w'.heap[b]? = w.heap[b]? := fun b hb he => hfr.block b hb (by simpa using he)
  have hag : Agree S w w' := fun b hb => hne b (h4 b hb).1 (fun e => hfree.1 (e ▸ hb))
  have h3s := h3.size
  show Inv c _ (a.put (some d) _) w'
  refine ⟨by rw [put_defers]; exact h1, by rw [put_size]; exact h2, ⟨hfr.os.trans h3.os, hfr.tape.trans h3.tape, hfr.output.trans h3.output, by omega, fun k hk hx => (hne k (by omega) (fun e => ?_)).trans (h3.block k hk hx)⟩, θ, (fun b => S b ∨ S' b), fun b hb => ?_, ?_⟩
  · rcases hfree.2.2 with h | h
    · rw [← e] at h; omega
    · exact hx (e ▸ h)
  · rcases hb with hb | hb
    · have := h4 b hb; exact ⟨by omega, this.2⟩
    · have := hS' b hb; exact ⟨this.2, .inr (.inl (by have := this.1; omega))⟩
  · have hn2 := h2.2
    refine sat_consK (dead_nil _) rfl (sat_consB (b := θ id) ?_ ⟨rfl, hm'⟩ ⟨?_, by have := hfree.2.1; omega, hfree.2.2⟩ ?_)
    · refine dead_iff (fun k hk => ?_)
      simp only [Ent.t, List.mem_singleton] at hk
      simp only [Ent.deps, Ent.h, HE.map, List.map_cons, List.map_nil, List.nil_append, List.mem_cons, List.not_mem_nil, or_false]
      omega
    · rintro (h | h)
      · exact hfree.1 h
      · have := (hS' _ h).1; have := hfree.2.1; omega
    · have h7 := sat_mono h6 (ks' := [2000000 + id, d]) (fun k hk => by simp [Ent.h] at hk; simp [hk]) (fun b hb => hb)
      refine sat_mono (sat_move h7 hag (fun b hb => .inl hb) (fun b hb => hne b hb.1.2.1 (fun e => hb.2 (by rw [e]))) (fun t ht => put_getD_ne (fun e => ht (by simp [e]))) (fun k _ => rfl)) (fun k hk => hk) (fun b hb => ⟨⟨fun h => ?_, by have := hb.1.2.1; omega, hb.1.2.2⟩, fun e => hb.2 (by rw [e])⟩)
      rcases h with h | h
      · exact hb.1.1 h
      · have := (hS' _ h).1; have := hb.1.2.1; omega
theorem arg_sat_app {θ : Nat → Nat} {S : Blk} {a : Act} {w : World} {Γ : List Ent} : ∀ {As : List VA} {vs : List Value} {j : Nat} {ks : List Nat} {av : Blk}, argSat θ S w As vs → (∀ i v, vs[i]? = some v → a.tmps.getD (j + i) undef = v) → (∀ k, k ∈ ks → k < j) → j + As.length ≤ 1000000 → sat θ S a w [] Γ av → sat θ S a w ks (argEnts As j ++ Γ) av
  | [], [], _, _, _, _, _, _, _, hG => sat_mono hG (fun k hk => by cases hk) (fun b hb => hb)
  | A :: As, v :: vs, j, ks, av, h, hv, hk, hj, hG => by
    simp only [List.length_cons] at hj
    refine sat_consK (dead_iff (fun k hk' => ?_)) ?_ (arg_sat_app h.2 (fun i v hi => by have := hv (i + 1) v hi; rw [← this]; congr 1; omega) (fun k hk' => ?_) (by omega) hG)
    · have := hk k hk'
      simp only [Ent.deps, Ent.t, List.mem_cons, List.mem_append, List.mem_map, List.not_mem_nil, or_false]
      rintro (h | h | ⟨x, _, h⟩) <;> omega
    · show A.sem θ S none w (a.tmps.getD j undef)
      rw [show a.tmps.getD j undef = v from hv 0 v rfl]; exact h.1
    · rcases List.mem_cons.1 hk' with e | hk'
      · rw [e]; exact Nat.lt_succ_self j
      · have := hk k hk'; omega
theorem con_enterIO {α : Type} {kt : TypeId} {K : Kn α} {agg : Bool} {m m' : GM α} {f : FuncId} {fn : Func} {body : Code} {As : List VA} (hf : P.funcs[f]? = some fn) (hb : fn.body = some body) (hn : Nat.ble (As.length + 1) fn.ntmps = true) (hm : Nat.ble fn.ntmps 1000000 = true) (hids : noIds As = true)
    (h : ∀ w0 S0 b, Goes P ⟨w0, S0, [b], fn.ntmps⟩ (argEnts As 1 ++ [Ent.t 0 (VA.mp agg 999), Ent.h 999 (HE.map P kt K m), Ent.isb 999 b]) body (bodyPost P fn (IOPost P kt K w0 S0 b m'))) : ConIO P f kt K agg m m' As := fun θ S w vs b hS hbS hbl hmap ha => by
  refine calls_of_wp hf hb (h w S b _ w ?_)
  have hl := argSat_len ha
  have hn' := Nat.le_of_ble_eq_true hn
  have hm' := Nat.le_of_ble_eq_true hm
  refine ⟨rfl, ⟨by simp [hl]; omega, hm'⟩, Fr.refl _ _, (fun k => if k = 999 then b else θ k), S, fun b hb => ⟨hS b hb, .inl hb⟩, ?_⟩
  have hget : ∀ i v, (wrapM agg (.map (some b)) :: vs)[i]? = some v → ({ tmps := (wrapM agg (.map (some b)) :: vs).toArray ++ Array.replicate (fn.ntmps - (wrapM agg (.map (some b)) :: vs).toArray.size) undef, defers := [] } : Act).tmps.getD i undef = v := fun i v hi => by
    have hlt := (List.getElem?_eq_some_iff.1 hi).1
    simp only [Array.getD_eq_getD_getElem?]
    rw [Array.getElem?_append_left (by simpa using hlt)]
    simp [hi]
  have hargs := argSat_move (θ' := fun k => if k = 999 then b else θ k) ha (Agree.refl S w) (fun b hb => hb) (fun k hk => by
    obtain ⟨A, hA, hk⟩ := List.mem_flatMap.1 hk
    rw [noIds_spec hids A hA] at hk; cases hk)
  refine arg_sat_app hargs (fun i v hi => hget (1 + i) v (by rw [Nat.add_comm, List.getElem?_cons_succ]; exact hi)) (fun k hk => by cases hk) (by omega) ?_
  refine sat_consK (dead_nil _) ⟨rfl, by rw [hget 0 _ rfl]; simp⟩ (sat_consB (b := b) (dead_iff (fun k hk => ?_)) ⟨by simp, ?_⟩ ⟨hbS, hbl, .inr (by simp)⟩ (sat_consK (dead_iff (fun k hk => ?_)) ⟨rfl, by simp⟩ trivial))
  · simp only [Ent.t, List.mem_singleton] at hk
    subst hk
    simp [Ent.deps, Ent.h, HE.map]
  · show MapS P kt K S w (if 999 = 999 then b else θ 999) m
    rw [if_pos rfl]; exact hmap
  · simp only [Ent.t, Ent.h, List.mem_cons, List.not_mem_nil, or_false] at hk
    simp only [Ent.deps, Ent.isb, List.map_cons, List.map_nil, List.nil_append, List.mem_cons, List.not_mem_nil, or_false]
    omega
theorem ends_io {α : Type} {kt : TypeId} {K : Kn α} {m' : GM α} {w0 : World} {S0 : Blk} {n b : Nat} {Γ : List Ent} {fn : Func} (hr : fn.results = #[]) (h1 : findE [] Γ 4000999 = some (Ent.isb 999 b)) (h2 : findE [] Γ 2000999 = some (Ent.h 999 (HE.map P kt K m'))) : Ends ⟨w0, S0, [b], n⟩ Γ (bodyPost P fn (IOPost P kt K w0 S0 b m')) .ret := by
  rintro a w ⟨g1, g2, g3, θ, S, h4, h5⟩
  obtain ⟨_, ⟨_, e1⟩, _⟩ := sat_take (has_find h1) h5
  obtain ⟨ob, ⟨rfl, hm⟩, hav, _⟩ := sat_take (has_find h2) h5
  have hm2 : MapS P kt K S w (θ 999) m' := hm
  have hfree := hav _ rfl
  rw [e1] at hm2 hfree
  refine ⟨g1, .tuple #[], ?_, (fun b' => S b' ∧ since w0 w b'), rfl, g3, fun x hx => hx.2, ?_⟩
  · unfold results
    simp [hr, Sem.run_bind, Sem.run_map, Sem.run_pure, Result.andThen_ok]
  · refine MapS.move hm2 (Agree.refl _ _) (fun x hx => ?_) rfl
    have := h4 x hx
    rcases this.2 with h | h | h
    · exact .inl h
    · exact .inr ⟨hx, h, this.1⟩
    · rw [List.mem_singleton.1 h] at hx; exact (hfree.1 hx).elim
/-- A map loses a key. -/
theorem MapS.del {α : Type} {t kt : TypeId} {K : Kn α} {z : α} (hM : MT P t kt K z) {S : Blk} {w : World} {b : Nat} {m r : GM α} (h : MapS P kt K S w b m) {s : ByteArray} (hr : gdel m s = some r) (hb : ¬ S b) (ty : TypeId) :
    ∃ w', (Builtin.delete_ #[t, kt] ty #[.map (some b), .string s]).run P w = .ok (.tuple #[]) w' ∧ MapS P kt K S w' b r ∧ w.mapTurned w' b := by
  obtain ⟨f, h1, h2⟩ := h
  obtain ⟨e, hu, _, _⟩ := hM.u
  unfold gdel at hr
  split at hr
  · rename_i hs
    cases hr
    obtain ⟨w', hrun, h3, h4⟩ := h1.del (string_keyed hM.k) hu (keyOf_string_mk hM.k hs) ty
    have hag : Agree S w w' := fun b' hb' => by
      obtain ⟨es, clock, es', clock', _, rfl⟩ := h4
      have hne : b ≠ b' := fun e => hb (e ▸ hb')
      show (w.heap.setIfInBounds b (.map es' clock'))[b']? = w.heap[b']?
      rw [Array.getElem?_setIfInBounds, if_neg hne]
    refine ⟨w', hrun, ⟨_, h3, fun q => ?_⟩, h4⟩
    rw [show (Lit.string s.data.toList) = sk s from rfl]
    unfold upd
    by_cases e : q = s
    · subst e
      simp only [if_true, sk_same, decide_true]
    · simp only [if_neg e, sk_same, decide_eq_false e, Bool.false_eq_true, if_false]
      have := h2 q
      split at this
      · exact this
      · obtain ⟨c, h5, h6⟩ := this
        exact ⟨c, K.move h5 hag (fun b hb => hb), h6⟩
  · cases hr
end
end Go.Proofs.Ytedgkcdofiildaa.Sl
