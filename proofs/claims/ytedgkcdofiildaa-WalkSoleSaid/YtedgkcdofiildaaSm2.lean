import Derived.Test.YtedgkcdofiildaaSm1
import Derived.SizedLaws
import Derived.ChangeArms
import Derived.Deep.Slices
import Derived.WideShapes
import Derived.ProofKit
import Derived.OpenShut
import Derived.ShutString
import Derived.ChangeOld
import Derived.Carry
/- Maps that a call hands back, or writes for its caller. -/
set_option linter.unusedVariables false
set_option linter.unusedSimpArgs false
set_option linter.unnecessarySimpa false
set_option linter.deprecated false
namespace Go.Proofs.Ytedgkcdofiildaa.Sl
open Go Go.RowKit Go.WideMaps Go.Maps
section
variable {P : Program} {c : Ctx} {Γ : List Ent} {Q : Exit → Act → World → Prop} {ops : Array Oper} {l : List Oper}
/-- A map of the frame's own gets a number. -/
theorem inv_adopt {α : Type} {kt : TypeId} {K : Kn α} {agg : Bool} {m : GM α} {a : Act} {w : World} {d : Nat} (id : Nat) (hd : Nat.blt d 1000000 = true) (h : Has [] Γ (Ent.t d (VA.om P kt K agg m))) (hi : Inv c Γ a w) : Inv c (Ent.t d (VA.mp agg id) :: Ent.h id (HE.map P kt K m) :: Ent.bind id :: Γ) a w := by
  obtain ⟨h1, h2, h3, θ, S, h4, h5⟩ := hi
  obtain ⟨ob, ⟨b, rfl, hv, hm⟩, hav, h6⟩ := sat_take h h5
  have hfree := hav b rfl
  have hdn := blt_lt hd
  refine ⟨h1, h2, h3, (fun k => if k = id then b else θ k), S, h4, ?_⟩
  refine sat_consK (dead_nil _) ?_ (sat_consB (b := b) ?_ ?_ hfree (sat_consK ?_ rfl ?_))
  · refine ⟨rfl, ?_⟩
    show a.tmps.getD d undef = wrapM agg (.map (some (if id = id then b else θ id)))
    rw [if_pos rfl]; exact hv
  · refine dead_iff (fun k hk => ?_)
    simp only [Ent.t, List.mem_singleton] at hk
    simp only [Ent.deps, Ent.h, HE.map, List.map_cons, List.map_nil, List.nil_append, List.mem_cons, List.not_mem_nil, or_false]
    omega
  · refine ⟨by simp, ?_⟩
    show MapS P kt K S w (if id = id then b else θ id) m
    rw [if_pos rfl]; exact hm
  · refine dead_iff (fun k hk => ?_)
    simp only [Ent.t, Ent.h, List.mem_cons, List.not_mem_nil, or_false] at hk
    simp only [Ent.deps, Ent.bind, List.map_nil, List.nil_append, List.mem_cons, List.not_mem_nil, or_false]
    omega
  · have h7 := sat_mono h6 (ks' := [1000000 + id, 2000000 + id, d]) (fun k hk => by simp [Ent.t] at hk; simp [hk]) (fun b hb => hb)
    refine sat_mono (sat_move (θ' := fun k => if k = id then b else θ k) h7 (Agree.refl _ _) (fun b hb => hb) (fun b hb => rfl) (fun t _ => rfl) (fun k hk => ?_)) (fun k hk => hk) (fun b' hb => ⟨hb.1, fun e => hb.2 (by rw [e])⟩)
    have : k ≠ id := fun e => hk (by simp [e])
    simp [this]
theorem goesO_adopt {α : Type} {kt : TypeId} {K : Kn α} {agg : Bool} {m : GM α} (d id : Nat) (hd : Nat.blt d 1000000 = true) (h : findE [] Γ d = some (Ent.t d (VA.om P kt K agg m))) (next : GoesO P c (Ent.t d (VA.mp agg id) :: Ent.h id (HE.map P kt K m) :: Ent.bind id :: Γ) ops l Q) : GoesO P c Γ ops l Q := fun a w hi => next a w (inv_adopt id hd (has_find h) hi)
end
/-- A map, by its number, is handed back. -/
theorem Rets.m {P : Program} {Γ : List Ent} {α : Type} {kt : TypeId} {K : Kn α} {agg : Bool} {m : GM α} {ks : List Nat} {r id : Nat} {rs : List ResultVar} {As : List VA} (h1 : findE [] Γ r = some (Ent.t r (VA.mp agg id))) (h2 : findE ks Γ (2000000 + id) = some (Ent.h id (HE.map P kt K m))) (h : Rets P Γ ((2000000 + id) :: ks) rs As) : Rets P Γ ks (.tmp r :: rs) (VA.om P kt K agg m :: As) := .g (key := 2000000 + id) (fun F θ S a w av0 av hF hG h0 hs => by
  obtain ⟨_, ⟨_, e1⟩, _⟩ := sat_take (has_find h1) h0
  obtain ⟨ob, ⟨rfl, hm⟩, g2, g3⟩ := sat_take (has_find h2) hs
  exact ⟨a.tmps.getD r undef, bk (some (θ id)), by rw [hF, Sem.run_pure], ⟨θ id, rfl, e1, hm⟩, g2, g3⟩) h
theorem Rets.cm {P : Program} {Γ : List Ent} {α : Type} {kt : TypeId} {K : Kn α} {agg : Bool} {m : GM α} {ks : List Nat} {r id idm : Nat} {t e : TypeId} {rs : List ResultVar} {As : List VA} (h1 : findE [] Γ r = some (Ent.t r (VA.ptr id 0))) (h2 : findE [] Γ (2000000 + id) = some (Ent.h id (HE.boxm e idm))) (h3 : findE ks Γ (2000000 + idm) = some (Ent.h idm (HE.map P kt K m))) (hZ : MZ P t agg) (h : Rets P Γ ((2000000 + idm) :: ks) rs As) : Rets P Γ ks (.cell r t :: rs) (VA.om P kt K agg m :: As) := .g (key := 2000000 + idm) (fun F θ S a w av0 av hF hG h0 hs => by
  obtain ⟨_, ⟨_, e1⟩, _⟩ := sat_take (has_find h1) h0
  obtain ⟨_, ⟨_, hc⟩, _⟩ := sat_take (has_find h2) h0
  obtain ⟨ob, ⟨rfl, hm⟩, g2, g3⟩ := sat_take (has_find h3) hs
  have hcell : w.cell? ⟨θ id, 0, none⟩ = some (.map (some (θ idm))) := by rw [cell_of_row w _ 0 _ e (0, 0) hc]; rfl
  have ha := hZ.agg w
  have hs1 := hZ.size w
  have hl : (loadVar t ⟨θ id, 0, none⟩).run P w = .ok (wrapM agg (.map (some (θ idm)))) w := by
    unfold loadVar wrapM
    cases agg with
    | true =>
      have := run_loadCells_list (P := P) w ⟨θ id, 0, none⟩ [.map (some (θ idm))] (fun j v hv => by
        cases j with
        | zero => cases hv; rw [show (⟨θ id, 0, none⟩ : Addr).add 0 = ⟨θ id, 0, none⟩ by simp [Addr.add]]; exact hcell
        | succ j => simp at hv)
      simp only [List.length_singleton] at this
      simp [Sem.run_bind, ha, hs1, this]
    | false => simp [Sem.run_bind, ha, run_load, hcell]
  exact ⟨_, bk (some (θ idm)), by rw [hG r t _ e1, hl], ⟨θ idm, rfl, rfl, hm⟩, g2, g3⟩) h
theorem ArgB.om {α : Type} {P : Program} {kt : TypeId} {K : Kn α} {N : Ent → Prop} {s : Nat} {m : GM α} (h : N (Ent.t s (VA.om P kt K false m))) : ArgB N (.tmp s) (VA.k (kmap P kt K) m) := fun θ S a w hN hS => by
  obtain ⟨_, ⟨b, rfl, e1, hm⟩, hlt⟩ := hN _ h
  exact ⟨rfl, [.map (some b)], ⟨b, rfl, hlt _ rfl, hm.move (Agree.refl _ _) hS rfl⟩, e1⟩
theorem ArgB.oms {α β : Type} {P : Program} {kt : TypeId} {K : Kn α} {N : Ent → Prop} {s : Nat} {m : GM α} {f : β → GM α} {y : β} (h : N (Ent.t s (VA.om P kt K true m))) (hf : f y = m) : ArgB N (.tmp s) (VA.k (kiso (kmap P kt K) f) y) := fun θ S a w hN hS => by
  obtain ⟨_, ⟨b, rfl, e1, hm⟩, hlt⟩ := hN _ h
  refine ⟨rfl, [.map (some b)], ?_, e1⟩
  show (kmap P kt K).R _ w (f y) _
  rw [hf]
  exact ⟨b, rfl, hlt _ rfl, hm.move (Agree.refl _ _) hS rfl⟩
/-! ### a map that a call writes -/
def IOPost {α : Type} (P : Program) (kt : TypeId) (K : Kn α) (w0 : World) (S0 : Blk) (b : Nat) (m' : GM α) (e : Ending) (w' : World) : Prop :=
  ∃ S' : Blk, e = .returned (.tuple #[]) ∧ Fr [b] w0 w' ∧ (∀ x, S' x → since w0 w' x) ∧ MapS P kt K (fun x => S0 x ∨ S' x) w' b m'
/-- Function f writes the map of its first argument. -/
def ConIO {α : Type} (P : Program) (f : FuncId) (kt : TypeId) (K : Kn α) (agg : Bool) (m m' : GM α) (As : List VA) : Prop :=
  ∀ (θ : Nat → Nat) (S : Blk) (w : World) (vs : List Value) (b : Nat), (∀ x, S x → x < w.heap.size) → ¬ S b → b < w.heap.size → MapS P kt K S w b m → argSat θ S w As vs → Calls P f (wrapM agg (.map (some b)) :: vs).toArray w (IOPost P kt K w S b m')
/-- Number id names block b. -/
def Ent.isb (id b : Nat) : Ent where
  key := 4000000 + id
  slots := []
  ids := [id]
  sem := fun θ _ ob _ _ => ob = bk none ∧ θ id = b
  move := by rintro θ θ' S S' ob a a' w w' ⟨h0, h⟩ _ _ _ _ hi; exact ⟨h0, by rw [hi id (by simp)]; exact h⟩
section
variable {P : Program} {n d : Nat} {ty t t' : TypeId} {pos : String} {af : Array Edge} {g : Option (Nat × Bool)} {N : Ent → Prop}
theorem op_callIO {α : Type} {kt : TypeId} {K : Kn α} {agg : Bool} {m m' : GM α} {f : FuncId} {s : Operand} {id : Nat} {xs : List Operand} {at_ : Array TypeId} {As : List VA} (hd : Nat.blt d n = true) (hf : Enters P f) (hC : ConIO P f kt K agg m m' As) (hs : Arg N s (VA.mp agg id)) (hm : N (Ent.h id (HE.map P kt K m))) (hx : Args (ArgP N) xs As) :
    OpSpec P n ⟨some d, .call { callee := .value (.func f), args := (s :: xs).toArray, argTypes := at_ }, ty, pos, af, g⟩ N [Ent.t d VA.any, Ent.h id (HE.map P kt K m')] := by
  rintro c Γ a w Q rfl hN ⟨h1, h2, h3, θ, S, h4, h5⟩
  have hN2 := sems hN h5
  obtain ⟨_, _, e1⟩ := hs θ S a w hN2
  obtain ⟨ob, ⟨rfl, hmap⟩, hav, h6⟩ := sat_take (hN _ hm) h5
  have hfree := hav _ rfl
  have hdn := blt_lt hd
  unfold Oper.wp
  rw [run_call_op hf rfl, List.map_cons, e1]
  refine (hC θ S w _ (θ id) (fun b hb => (h4 b hb).1) hfree.1 hfree.2.1 hmap (hx.sat hN2 (fun b hb => (h4 b hb).1))).mono ?_
  rintro e w' ⟨S', rfl, hfr, hS', hm'⟩
  have hsz := hfr.size
  have hne : ∀ b, b < w.heap.size → b ≠ θ id → w'.heap[b]? = w.heap[b]? := fun b hb he => hfr.block b hb (by simpa using he)
  have hag : Agree S w w' := fun b hb => hne b (h4 b hb).1 (fun e => hfree.1 (e ▸ hb))
  have h3s := h3.size
  show Inv c _ (a.put (some d) _) w'
  refine ⟨by rw [put_defers]; exact h1, by rw [put_size]; exact h2, ⟨hfr.os.trans h3.os, hfr.tape.trans h3.tape, hfr.output.trans h3.output, by omega, fun k hk hx => (hne k (by omega) (fun e => ?_)).trans (h3.block k hk hx)⟩, θ, (fun b => S b ∨ S' b), fun b hb => ?_, ?_⟩
  · rcases hfree.2.2 with h | h
    · rw [← e] at h; omega
    · exact hx (e ▸ h)
  · rcases hb with hb | hb
    · have := h4 b hb; exact ⟨by omega, this.2⟩
    · have := hS' b hb; exact ⟨this.2, .inr (.inl (by have := this.1; omega))⟩
  · have hn2 := h2.2
    refine sat_consK (dead_nil _) rfl (sat_consB (b := θ id) ?_ ⟨rfl, hm'⟩ ⟨?_, by have := hfree.2.1; omega, hfree.2.2⟩ ?_)
    · refine dead_iff (fun k hk => ?_)
      simp only [Ent.t, List.mem_singleton] at hk
      simp only [Ent.deps, Ent.h, HE.map, List.map_cons, List.map_nil, List.nil_append, List.mem_cons, List.not_mem_nil, or_false]
      omega
    · rintro (h | h)
      · exact hfree.1 h
      · have := (hS' _ h).1; have := hfree.2.1; omega
    · have h7 := sat_mono h6 (ks' := [2000000 + id, d]) (fun k hk => by simp [Ent.h] at hk; simp [hk]) (fun b hb => hb)
      refine sat_mono (sat_move h7 hag (fun b hb => .inl hb) (fun b hb => hne b hb.1.2.1 (fun e => hb.2 (by rw [e]))) (fun t ht => put_getD_ne (fun e => ht (by simp [e]))) (fun k _ => rfl)) (fun k hk => hk) (fun b hb => ⟨⟨fun h => ?_, by have := hb.1.2.1; omega, hb.1.2.2⟩, fun e => hb.2 (by rw [e])⟩)
      rcases h with h | h
      · exact hb.1.1 h
      · have := (hS' _ h).1; have := hb.1.2.1; omega
theorem arg_sat_app {θ : Nat → Nat} {S : Blk} {a : Act} {w : World} {Γ : List Ent} : ∀ {As : List VA} {vs : List Value} {j : Nat} {ks : List Nat} {av : Blk}, argSat θ S w As vs → (∀ i v, vs[i]? = some v → a.tmps.getD (j + i) undef = v) → (∀ k, k ∈ ks → k < j) → j + As.length ≤ 1000000 → sat θ S a w [] Γ av → sat θ S a w ks (argEnts As j ++ Γ) av
  | [], [], _, _, _, _, _, _, _, hG => sat_mono hG (fun k hk => by cases hk) (fun b hb => hb)
  | A :: As, v :: vs, j, ks, av, h, hv, hk, hj, hG => by
    simp only [List.length_cons] at hj
    refine sat_consK (dead_iff (fun k hk' => ?_)) ?_ (arg_sat_app h.2 (fun i v hi => by have := hv (i + 1) v hi; rw [← this]; congr 1; omega) (fun k hk' => ?_) (by omega) hG)
    · have := hk k hk'
      simp only [Ent.deps, Ent.t, List.mem_cons, List.mem_append, List.mem_map, List.not_mem_nil, or_false]
      rintro (h | h | ⟨x, _, h⟩) <;> omega
    · show A.sem θ S (bk none) w (a.tmps.getD j undef)
      rw [show a.tmps.getD j undef = v from hv 0 v rfl]; exact h.1
    · rcases List.mem_cons.1 hk' with e | hk'
      · rw [e]; exact Nat.lt_succ_self j
      · have := hk k hk'; omega
theorem con_enterIO {α : Type} {kt : TypeId} {K : Kn α} {agg : Bool} {m m' : GM α} {f : FuncId} {fn : Func} {body : Code} {As : List VA} (hf : P.funcs[f]? = some fn) (hb : fn.body = some body) (hn : Nat.ble (As.length + 1) fn.ntmps = true) (hm : Nat.ble fn.ntmps 1000000 = true) (hids : noIds As = true)
    (h : ∀ w0 S0 b, Goes P (ctx w0 S0 [b] fn.ntmps) (argEnts As 1 ++ [Ent.t 0 (VA.mp agg 999), Ent.h 999 (HE.map P kt K m), Ent.isb 999 b]) body (bodyPost P fn (IOPost P kt K w0 S0 b m'))) : ConIO P f kt K agg m m' As := fun θ S w vs b hS hbS hbl hmap ha => by
  refine calls_of_wp hf hb (wpIn_wide.1 (h w S b _ w ?_))
  have hl := argSat_len ha
  have hn' := Nat.le_of_ble_eq_true hn
  have hm' := Nat.le_of_ble_eq_true hm
  refine ⟨rfl, ⟨by simp [hl]; omega, hm'⟩, Fr.refl _ _, (fun k => if k = 999 then b else θ k), S, fun b hb => ⟨hS b hb, .inl hb⟩, ?_⟩
  have hget : ∀ i v, (wrapM agg (.map (some b)) :: vs)[i]? = some v → ({ tmps := (wrapM agg (.map (some b)) :: vs).toArray ++ Array.replicate (fn.ntmps - (wrapM agg (.map (some b)) :: vs).toArray.size) undef, defers := [] } : Act).tmps.getD i undef = v := fun i v hi => by
    have hlt := (List.getElem?_eq_some_iff.1 hi).1
    simp only [Array.getD_eq_getD_getElem?]
    rw [Array.getElem?_append_left (by simpa using hlt)]
    simp [hi]
  have hargs := argSat_move (θ' := fun k => if k = 999 then b else θ k) ha (Agree.refl S w) (fun b hb => hb) (fun k hk => by
    obtain ⟨A, hA, hk⟩ := List.mem_flatMap.1 hk
    rw [noIds_spec hids A hA] at hk; cases hk)
  refine arg_sat_app hargs (fun i v hi => hget (1 + i) v (by rw [Nat.add_comm, List.getElem?_cons_succ]; exact hi)) (fun k hk => by cases hk) (by omega) ?_
  refine sat_consK (dead_nil _) ⟨rfl, by rw [hget 0 _ rfl]; simp⟩ (sat_consB (b := b) (dead_iff (fun k hk => ?_)) ⟨by simp, ?_⟩ ⟨hbS, hbl, .inr (by simp)⟩ (sat_consK (dead_iff (fun k hk => ?_)) ⟨rfl, by simp⟩ trivial))
  · simp only [Ent.t, List.mem_singleton] at hk
    subst hk
    simp [Ent.deps, Ent.h, HE.map]
  · show MapS P kt K S w (if 999 = 999 then b else θ 999) m
    rw [if_pos rfl]; exact hmap
  · simp only [Ent.t, Ent.h, List.mem_cons, List.not_mem_nil, or_false] at hk
    simp only [Ent.deps, Ent.isb, List.map_cons, List.map_nil, List.nil_append, List.mem_cons, List.not_mem_nil, or_false]
    omega
theorem ends_io {α : Type} {kt : TypeId} {K : Kn α} {m' : GM α} {w0 : World} {S0 : Blk} {n b : Nat} {Γ : List Ent} {fn : Func} (hr : fn.results = #[]) (h1 : findE [] Γ 4000999 = some (Ent.isb 999 b)) (h2 : findE [] Γ 2000999 = some (Ent.h 999 (HE.map P kt K m'))) : Ends (ctx w0 S0 [b] n) Γ (bodyPost P fn (IOPost P kt K w0 S0 b m')) .ret := by
  rintro a w ⟨g1, g2, g3, θ, S, h4, h5⟩
  obtain ⟨_, ⟨_, e1⟩, _⟩ := sat_take (has_find h1) h5
  obtain ⟨ob, ⟨rfl, hm⟩, hav, _⟩ := sat_take (has_find h2) h5
  have hm2 : MapS P kt K S w (θ 999) m' := hm
  have hfree := hav _ rfl
  rw [e1] at hm2 hfree
  refine ⟨g1, .tuple #[], ?_, (fun b' => S b' ∧ since w0 w b'), rfl, g3, fun x hx => hx.2, ?_⟩
  · unfold results
    simp [hr, Sem.run_bind, Sem.run_map, Sem.run_pure, Result.andThen_ok]
  · refine MapS.move hm2 (Agree.refl _ _) (fun x hx => ?_) rfl
    have := h4 x hx
    rcases this.2 with h | h | h
    · exact .inl h
    · exact .inr ⟨hx, h, this.1⟩
    · rw [List.mem_singleton.1 h] at hx; exact (hfree.1 hx).elim
/-- A map loses a key. -/
theorem MapS.del {α : Type} {t kt : TypeId} {K : Kn α} {z : α} (hM : MT P t kt K z) {S : Blk} {w : World} {b : Nat} {m r : GM α} (h : MapS P kt K S w b m) {s : ByteArray} (hr : gdel m s = some r) (hb : ¬ S b) (ty : TypeId) :
    ∃ w', (Builtin.delete_ #[t, kt] ty #[.map (some b), .string s]).run P w = .ok (.tuple #[]) w' ∧ MapS P kt K S w' b r ∧ w.mapTurned w' b := by
  obtain ⟨f, h1, h2⟩ := h
  obtain ⟨e, hu, _, _⟩ := hM.u
  unfold gdel at hr
  split at hr
  · rename_i hs
    cases hr
    obtain ⟨w', hrun, h3, h4⟩ := h1.del (string_keyed hM.k) hu (keyOf_string_mk hM.k hs) ty
    have hag : Agree S w w' := fun b' hb' => by
      obtain ⟨es, clock, es', clock', _, rfl⟩ := h4
      have hne : b ≠ b' := fun e => hb (e ▸ hb')
      show (w.heap.setIfInBounds b (.map es' clock'))[b']? = w.heap[b']?
      rw [Array.getElem?_setIfInBounds, if_neg hne]
    refine ⟨w', hrun, ⟨_, h3, fun q => ?_⟩, h4⟩
    rw [show (Lit.string s.data.toList) = sk s from rfl]
    unfold upd
    by_cases e : q = s
    · subst e
      simp only [if_true, sk_same, decide_true]
    · simp only [if_neg e, sk_same, decide_eq_false e, Bool.false_eq_true, if_false]
      have := h2 q
      split at this
      · exact this
      · obtain ⟨c, h5, h6⟩ := this
        exact ⟨c, K.move h5 hag (fun b hb => hb), h6⟩
  · cases hr
end
end Go.Proofs.Ytedgkcdofiildaa.Sl
/- Keys taken out of a map; contracts out of plain calls. -/
set_option linter.unusedVariables false
set_option linter.unusedSimpArgs false
set_option linter.unnecessarySimpa false
set_option linter.deprecated false
namespace Go.Proofs.Ytedgkcdofiildaa.Sl
open Go Go.RowKit Go.WideMaps Go.Maps
section
variable {P : Program} {n d : Nat} {ty t t' : TypeId} {pos : String} {af : Array Edge} {g : Option (Nat × Bool)} {N : Ent → Prop}
theorem op_delete {α : Type} {kt : TypeId} {K : Kn α} {z : α} {m r : GM α} {s : ByteArray} {id : Nat} {o x : Operand} (hM : MT P t kt K z) (hr : gdel m s = some r) (ho : Arg N o (VA.mp false id)) (hm : N (Ent.h id (HE.map P kt K m))) (hx : Arg N x (VA.k kstr s)) :
    OpSpec P n ⟨none, .call { callee := .builtin .delete, args := #[o, x], argTypes := #[t, kt] }, ty, pos, af, g⟩ N [Ent.h id (HE.map P kt K r)] := by
  rintro c Γ a w Q rfl hN ⟨h1, h2, h3, θ, S, h4, h5⟩
  have hN2 := sems hN h5
  obtain ⟨_, _, e1⟩ := ho θ S a w hN2
  obtain ⟨_, hx'⟩ := hx θ S a w hN2
  obtain ⟨ob, ⟨rfl, hmap⟩, hav, h6⟩ := sat_take (hN _ hm) h5
  have hfree := hav _ rfl
  have e2 := k_str hx'
  have hmap' : MapS P kt K S w (θ id) m := hmap
  obtain ⟨w', hrun, hm', ht⟩ := hmap'.del hM hr hfree.1 ty
  have e1' : a.eval o = .map (some (θ id)) := e1
  have hrun' : ∃ v, (execOp a.eval ⟨none, .call { callee := .builtin .delete, args := #[o, x], argTypes := #[t, kt] }, ty, pos, af, g⟩).run P w = .ok (.value v) w' := by
    clear hN hN2 ho hx hx' e1 h1 h2 h5 h6
    generalize a.eval = ρ at *
    exact ⟨_, by simp [execOp, resolve, invoke, Deferred.ofValue, builtin, e1', e2, hrun, Sem.run_bind, Sem.run_pure, Result.andThen_ok]; rfl⟩
  obtain ⟨v, hrun'⟩ := hrun'
  unfold Oper.wp
  rw [hrun']
  exact inv_map h1 h2 h3 h4 hfree h6 ht hm'
end
/-- A contract out of what is known of a call that turns nothing. -/
theorem con_plain {P : Program} {f : FuncId} {As : List VA} {A : VA} (h : ∀ θ S w vs, argSat θ S w As vs → ∃ v, Calls P f vs.toArray w (fun e w' => e = .returned v ∧ w' = w) ∧ A.sem θ S (bk none) w v) : Con P f As [A] := fun θ S w vs hS ha => by
  obtain ⟨v, hc, hA⟩ := h θ S w vs ha
  refine hc.mono ?_
  rintro e w' ⟨rfl, rfl⟩
  refine ⟨[v], fun _ => False, rfl, Fr.refl _ _, fun b hb => hb.elim, bk none, ?_, fun b hb => (by cases hb), trivial⟩
  exact A.move hA (Agree.refl _ _) (fun b hb => .inl hb) (fun b hb => rfl) (fun k _ => rfl)
theorem arg_str {θ : Nat → Nat} {S : Blk} {w : World} {x : ByteArray} {v : Value} (h : (VA.k kstr x).sem θ S (bk none) w v) : v = .string x := by
  obtain ⟨_, cs, rfl, rfl⟩ := h; rfl
theorem arg_int {θ : Nat → Nat} {S : Blk} {w : World} {k : IntKind} {x : Int} {v : Value} (h : (VA.k (kint k) x).sem θ S (bk none) w v) : v = .int k x := by
  obtain ⟨_, cs, rfl, rfl⟩ := h; rfl
theorem va_int {θ : Nat → Nat} {S : Blk} {w : World} (k : IntKind) (x : Int) : (VA.k (kint k) x).sem θ S (bk none) w (.int k x) := ⟨rfl, _, rfl, rfl⟩
end Go.Proofs.Ytedgkcdofiildaa.Sl
/- A closure that calls itself, counts in a captured variable and writes a captured map: walk.Count's. -/
set_option linter.unusedVariables false
set_option linter.unusedSimpArgs false
set_option linter.unnecessarySimpa false
set_option linter.deprecated false
namespace Go.Proofs.Ytedgkcdofiildaa.Sl
open Go Go.RowKit Go.WideMaps Go.Maps
/-- This very value, of which A holds. -/
def VA.fx (v0 : Value) (A : VA) : VA where
  ids := A.ids
  sem := fun θ S ob w v => A.sem θ S ob w v ∧ v = v0
  move := fun h hA hS hb hi => ⟨A.move h.1 hA hS hb hi, h.2⟩
theorem Arg.fx {N : Ent → Prop} {x : Operand} {v0 : Value} {A : VA} (h : Arg N x (VA.fx v0 A)) : Arg N x A := fun θ S a w hN => by
  obtain ⟨ob, h1⟩ := h θ S a w hN
  exact ⟨ob, h1.1⟩
/-- A pointer to block b, which is only read and holds the one cell z. -/
def VA.ro (e : TypeId) (b : Nat) (z : Value) : VA where
  ids := []
  sem := fun _ S ob w v => ob = bk none ∧ v = .pointer (some ⟨b, 0, none⟩) ∧ S b ∧ w.heap[b]? = some (.cells #[z] e (0, 0))
  move := by rintro θ θ' S S' ob w w' v ⟨h0, h1, h2, h3⟩ hA hS _ _; exact ⟨h0, h1, hS _ h2, (hA _ h2).trans h3⟩
section
variable {P : Program} {n d : Nat} {ty t t' : TypeId} {pos : String} {af : Array Edge} {g : Option (Nat × Bool)} {N : Ent → Prop}
theorem op_load_rom {e : TypeId} {b bm id : Nat} {agg : Bool} {o : Operand} (hd : Nat.blt d n = true) (hZ : MZ P t agg) (hp : Arg N o (VA.ro e b (.map (some bm)))) (hi : N (Ent.isb id bm)) : OpSpec P n ⟨some d, .load t o, ty, pos, af, g⟩ N [Ent.t d (VA.mp agg id)] := op_pure hd fun θ S act w hN => by
  obtain ⟨_, _, e1, _, hc⟩ := hp θ S act w hN
  obtain ⟨_, _, e2⟩ := hN _ hi
  have hcell : w.cell? ⟨b, 0, none⟩ = some (.map (some bm)) := by rw [cell_of_row w _ 0 _ e (0, 0) hc]; rfl
  refine ⟨wrapM agg (.map (some bm)), ?_, rfl, by rw [e2]⟩
  have ha := hZ.agg w
  have hs := hZ.size w
  have hl : (loadVar t ⟨b, 0, none⟩).run P w = .ok (wrapM agg (.map (some bm))) w := by
    unfold loadVar wrapM
    cases agg with
    | true =>
      have := run_loadCells_list (P := P) w ⟨b, 0, none⟩ [.map (some bm)] (fun j v hv => by
        cases j with
        | zero => cases hv; rw [show (⟨b, 0, none⟩ : Addr).add 0 = ⟨b, 0, none⟩ by simp [Addr.add]]; exact hcell
        | succ j => simp at hv)
      simp only [List.length_singleton] at this
      simp [Sem.run_bind, ha, hs, this]
    | false => simp [Sem.run_bind, ha, run_load, hcell]
  clear hN hp
  generalize act.eval = ρ at *
  simp [execOp, Instr.loadAt, Instr.sureAddr, e1, hl, Sem.run_bind, Sem.run_pure, Result.andThen_ok]
/-- The zero-th field of what is only read. -/
theorem op_fieldAddr_ro {e : TypeId} {b : Nat} {z : Value} {fs : Array Field} {f : Field} {o : Operand} (hd : Nat.blt d n = true) (hu : P.underlying t = some (.struct fs)) (hf : fs[0]? = some f) (ho : f.offset = 0) {agg : Bool} (hZ : MZ P f.type agg) (hp : Arg N o (VA.ro e b z)) : OpSpec P n ⟨some d, .fieldAddr t o 0, ty, pos, af, g⟩ N [Ent.t d (VA.ro e b z)] := op_pure hd fun θ S act w hN => by
  obtain ⟨_, _, e1, h2, hc⟩ := hp θ S act w hN
  refine ⟨.pointer (some ⟨b, 0, none⟩), ?_, rfl, rfl, h2, hc⟩
  have hs := hZ.size w
  clear hN hp
  generalize act.eval = ρ at *
  simp [execOp, Instr.fieldAt, Instr.sureAddr, e1, run_underlying hu, hf, fieldPlace, hs, ho, Addr.add, Sem.run_bind, Sem.run_pure, Result.andThen_ok]
/-- One cell that is no struct is read. -/
theorem op_load_ro {e : TypeId} {b : Nat} {z : Value} {o : Operand} (hd : Nat.blt d n = true) (ha : ∀ w, (isAgg t).run P w = .ok false w) (hp : Arg N o (VA.ro e b z)) : OpSpec P n ⟨some d, .load t o, ty, pos, af, g⟩ N [Ent.t d (VA.v z)] := op_pure hd fun θ S act w hN => by
  obtain ⟨_, _, e1, _, hc⟩ := hp θ S act w hN
  have hcell : w.cell? ⟨b, 0, none⟩ = some z := by rw [cell_of_row w _ 0 _ e (0, 0) hc]; rfl
  refine ⟨z, ?_, rfl, rfl⟩
  have ha := ha w
  have hl : (loadVar t ⟨b, 0, none⟩).run P w = .ok z w := by
    unfold loadVar
    simp [Sem.run_bind, ha, run_load, hcell]
  clear hN hp
  generalize act.eval = ρ at *
  simp [execOp, Instr.loadAt, Instr.sureAddr, e1, hl, Sem.run_bind, Sem.run_pure, Result.andThen_ok]
end
def selfv (F : FuncId) (bn bd bo : Nat) (v2 v4 : Value) : Value := .func (.func F) #[] #[.pointer (some ⟨bn, 0, none⟩), v2, .pointer (some ⟨bd, 0, none⟩), v4, .pointer (some ⟨bo, 0, none⟩)]
def CntPost (P : Program) (kt e3 : TypeId) (w0 : World) (bn bm : Nat) (r : Int × GM Int) (e : Ending) (w' : World) : Prop :=
  e = .returned (.tuple #[]) ∧ Fr [bn, bm] w0 w' ∧ w'.heap[bn]? = some (.cells #[.int .i64 r.1] e3 (0, 0)) ∧ ∀ S, MapS P kt (kint .i64) S w' bm r.2
def ConCnt {α : Type} (P : Program) (F : FuncId) (kt e3 eS eF : TypeId) (Kp : Kn α) (p : α) (most left n : Int) (m : GM Int) (r : Int × GM Int) : Prop :=
  ∀ (θ : Nat → Nat) (S : Blk) (w : World) (bn bd bm bo : Nat) (v2 v4 : Value), (∀ x, S x → x < w.heap.size) → ¬ S bn → ¬ S bm → bn ≠ bm → bm < w.heap.size → S bd → S bo →
    w.heap[bn]? = some (.cells #[.int .i64 n] e3 (0, 0)) → w.heap[bd]? = some (.cells #[.map (some bm)] eS (0, 0)) → w.heap[bo]? = some (.cells #[selfv F bn bd bo v2 v4] eF (0, 0)) → MapS P kt (kint .i64) S w bm m →
    (VA.pt Kp p).sem θ S (bk none) w v2 → (VA.pt (kint .i64) most).sem θ S (bk none) w v4 →
    Calls P F #[.int .i64 left, .pointer (some ⟨bn, 0, none⟩), v2, .pointer (some ⟨bd, 0, none⟩), v4, .pointer (some ⟨bo, 0, none⟩)] w (CntPost P kt e3 w bn bm r)
theorem MapS.free {α : Type} {P : Program} {kt : TypeId} {K : Kn α} (hK : KFree K) {S S' : Blk} {w : World} {b : Nat} {m : GM α} (h : MapS P kt K S w b m) : MapS P kt K S' w b m := by
  obtain ⟨f, h1, h2⟩ := h
  refine ⟨f, h1, fun s => ?_⟩
  have := h2 s
  split at this
  · exact this
  · rename_i x hg
    obtain ⟨cs, h3, h4⟩ := this
    exact ⟨cs, hK h3, h4⟩
/-- Two blocks that numbers name have turned. -/
theorem inv_two {c : Ctx} {Γ : List Ent} {a : Act} {w w' : World} {i j d : Nat} {Hi Hj Hi' Hj' : HE} {v : Value} {θ : Nat → Nat} {S : Blk} (hd : Nat.blt d c.n = true) (h1 : a.defers = c.df) (h2 : a.tmps.size = c.n ∧ c.n ≤ 1000000) (h3 : Fr c.X c.w0 w) (h4 : SOk c S w) (h5 : sat θ S a w [] Γ (free c S w))
    (hi : Has [] Γ (Ent.h i Hi)) (hj : Has [] Γ (Ent.h j Hj)) (hij : ¬ (2000000 + i) ∈ (Ent.h j Hj).deps) (h0i : Hi'.ids = []) (h0j : Hj'.ids = []) (hfr : Fr [θ i, θ j] w w') (hi' : Hi'.sem θ (θ i) S w') (hj' : Hj'.sem θ (θ j) S w') :
    Inv c ([Ent.t d VA.any, Ent.h i Hi', Ent.h j Hj'] ++ Γ) (a.put (some d) v) w' := by
  obtain ⟨obn, ⟨rfl, _⟩, hav, h6⟩ := sat_take hi h5
  obtain ⟨obm, ⟨rfl, _⟩, hav2, h7⟩ := sat_take (hj.kill hij) h6
  have hfn := hav _ rfl
  have hfm := hav2 _ rfl
  have hne : θ i ≠ θ j := fun e => hfm.2 (by rw [e])
  have hdn := blt_lt hd
  have hsz := hfr.size
  have hkeep : ∀ b, b < w.heap.size → b ≠ θ i → b ≠ θ j → w'.heap[b]? = w.heap[b]? := fun b hb h1 h2 => hfr.block b hb (by simp [h1, h2])
  have hag : Agree S w w' := fun b hb => hkeep b (h4 b hb).1 (fun e => hfn.1 (e ▸ hb)) (fun e => hfm.1.1 (e ▸ hb))
  have hX : ∀ b, b < c.w0.heap.size → b ∉ c.X → b ≠ θ i ∧ b ≠ θ j := fun b hb hx => ⟨fun e => by
    rcases hfn.2.2 with h | h
    · rw [← e] at h; omega
    · exact hx (e ▸ h), fun e => by
    rcases hfm.1.2.2 with h | h
    · rw [← e] at h; omega
    · exact hx (e ▸ h)⟩
  have k3s := h3.size
  refine ⟨by rw [put_defers]; exact h1, by rw [put_size]; exact h2, ⟨hfr.os.trans h3.os, hfr.tape.trans h3.tape, hfr.output.trans h3.output, by omega, fun b hb hx => (hkeep b (by omega) (hX b hb hx).1 (hX b hb hx).2).trans (h3.block b hb hx)⟩, θ, S, h4.grow hsz, ?_⟩
  have kn2 := h2.2
  have hfn' : free c S w' (θ i) := ⟨hfn.1, by have := hfn.2.1; omega, hfn.2.2⟩
  have hfm' : free c S w' (θ j) := ⟨hfm.1.1, by have := hfm.1.2.1; omega, hfm.1.2.2⟩
  have hij' : i ≠ j := fun e => hne (by rw [e])
  have hij2 : 2000000 + i ≠ 1000000 + j := fun e => hij (by rw [e]; simp [Ent.deps, Ent.h])
  refine sat_consK (dead_nil _) rfl (sat_consB (b := θ i) ?_ ⟨rfl, hi'⟩ hfn' (sat_consB (b := θ j) ?_ ⟨rfl, hj'⟩ ⟨hfm', hne.symm⟩ ?_))
  · refine dead_iff (fun k hk => ?_)
    simp only [Ent.t, List.mem_singleton] at hk
    simp only [Ent.deps, Ent.h, h0i, List.map_cons, List.map_nil, List.nil_append, List.mem_cons, List.not_mem_nil, or_false]
    omega
  · refine dead_iff (fun k hk => ?_)
    simp only [Ent.t, Ent.h, List.mem_cons, List.not_mem_nil, or_false] at hk
    simp only [Ent.deps, Ent.h, h0j, List.map_cons, List.map_nil, List.nil_append, List.mem_cons, List.not_mem_nil, or_false]
    omega
  · have h8 := sat_mono h7 (ks' := [2000000 + j, 2000000 + i, d]) (fun k hk => by simp [Ent.h] at hk; rcases hk with rfl | rfl <;> simp) (fun b hb => hb)
    refine sat_mono (sat_move h8 hag (fun b hb => hb) (fun b hb => hkeep b hb.1.1.2.1 (fun e => hb.1.2 (by rw [e])) (fun e => hb.2 (by rw [e]))) (fun t ht => put_getD_ne (fun e => ht (by simp [e]))) (fun k _ => rfl)) (fun k hk => hk) (fun b hb => ⟨⟨⟨hb.1.1.1, by have := hb.1.1.2.1; omega, hb.1.1.2.2⟩, fun e => hb.1.2 (by rw [e])⟩, fun e => hb.2 (by rw [e])⟩)
theorem h_ne {θ : Nat → Nat} {S : Blk} {a : Act} {w : World} {Γ : List Ent} {av : Blk} {i j : Nat} {Hi Hj : HE} (h5 : sat θ S a w [] Γ av) (hi : Has [] Γ (Ent.h i Hi)) (hj : Has [] Γ (Ent.h j Hj)) (hij : ¬ (2000000 + i) ∈ (Ent.h j Hj).deps) : θ i ≠ θ j := fun e => by
  obtain ⟨obn, ⟨rfl, _⟩, hav, h6⟩ := sat_take hi h5
  obtain ⟨obm, ⟨rfl, _⟩, hav2, h7⟩ := sat_take (hj.kill hij) h6
  exact (hav2 _ rfl).2 (by rw [e])
section
variable {P : Program} {n d : Nat} {ty t t' : TypeId} {pos : String} {af : Array Edge} {g : Option (Nat × Bool)} {N : Ent → Prop}
/-- It calls itself. -/
theorem op_self {α : Type} {F : FuncId} {kt e3 eS eF : TypeId} {Kp : Kn α} {p : α} {most left n0 : Int} {m : GM Int} {r : Int × GM Int} {bn bd bm bo s : Nat} {v2 v4 : Value} {x : Operand} {at_ : Array TypeId} (hd : Nat.blt d n = true) (hf : Enters P F) (hC : ConCnt P F kt e3 eS eF Kp p most left n0 m r)
    (hs : N (Ent.t s (VA.v (selfv F bn bd bo v2 v4)))) (hb : N (Ent.h 998 (HE.box e3 (kint .i64) n0))) (hbn : N (Ent.isb 998 bn)) (hm : N (Ent.h 999 (HE.map P kt (kint .i64) m))) (hbm : N (Ent.isb 999 bm)) (h2 : N (Ent.t 2 (VA.fx v2 (VA.pt Kp p)))) (h3 : N (Ent.t 3 (VA.ro eS bd (.map (some bm))))) (h4 : N (Ent.t 4 (VA.fx v4 (VA.pt (kint .i64) most)))) (h5 : N (Ent.t 5 (VA.ro eF bo (selfv F bn bd bo v2 v4)))) (hx : Arg N x (VA.k (kint .i64) left)) :
    OpSpec P n ⟨some d, .call { callee := .value (.tmp s), args := #[x], argTypes := at_ }, ty, pos, af, g⟩ N [Ent.t d VA.any, Ent.h 998 (HE.box e3 (kint .i64) r.1), Ent.h 999 (HE.map P kt (kint .i64) r.2)] := by
  rintro c Γ a w Q rfl hN ⟨k1, k2, k3, θ, S, k4, k5⟩
  have hN2 := sems hN k5
  obtain ⟨_, _, es⟩ := hN2 _ hs
  obtain ⟨_, _, en⟩ := hN2 _ hbn
  obtain ⟨_, _, em⟩ := hN2 _ hbm
  obtain ⟨_, f2, e2⟩ := hN2 _ h2
  obtain ⟨_, _, e3', s3, c3⟩ := hN2 _ h3
  obtain ⟨_, f4, e4⟩ := hN2 _ h4
  obtain ⟨_, _, e5', s5, c5⟩ := hN2 _ h5
  obtain ⟨_, hx'⟩ := hx θ S a w hN2
  have ex := k_int hx'
  obtain ⟨obn, ⟨rfl, hbox⟩, hav, _⟩ := sat_take (hN _ hb) k5
  obtain ⟨obm, ⟨rfl, hmap⟩, hav2, _⟩ := sat_take (hN _ hm) k5
  have hne : θ 998 ≠ θ 999 := h_ne k5 (hN _ hb) (hN _ hm) (by simp [Ent.deps, Ent.h, HE.map])
  have hfn := hav _ rfl
  have hfm := hav2 _ rfl
  obtain ⟨cs, hc, hr⟩ := hbox
  have hmap : MapS P kt (kint .i64) S w (θ 999) m := hmap
  obtain rfl : cs = #[.int .i64 n0] := Array.toList_inj.1 hr
  have f2' : (VA.pt Kp p).sem θ S (bk none) w v2 := by
    have : (VA.pt Kp p).sem θ S (bk none) w (a.tmps.getD 2 undef) := by have := f2; obtain rfl := this.1; exact this
    rw [e2] at this; exact this
  have f4' : (VA.pt (kint .i64) most).sem θ S (bk none) w v4 := by
    have : (VA.pt (kint .i64) most).sem θ S (bk none) w (a.tmps.getD 4 undef) := by have := f4; obtain rfl := this.1; exact this
    rw [e4] at this; exact this
  unfold Oper.wp
  have hrun := run_callv_op (P := P) (ρ := a.eval) (f := F) (o := .tmp s) (us := []) (vs := [.pointer (some ⟨bn, 0, none⟩), v2, .pointer (some ⟨bd, 0, none⟩), v4, .pointer (some ⟨bo, 0, none⟩)]) (xs := [x]) (at_ := at_) (dst := some d) (ty := ty) (pos := pos) (af := af) (g := g) (w := w) hf es
  rw [hrun, List.map_cons, ex]
  rw [en] at hfn hc hne
  rw [em] at hfm hmap hne
  refine (hC θ S w bn bd bm bo v2 v4 (fun b hb => (k4 b hb).1) hfn.1 hfm.1 hne hfm.2.1 s3 s5 hc c3 c5 hmap f2' f4').mono ?_
  rintro e w' ⟨rfl, hfr, hn', hm'⟩
  exact inv_two hd k1 k2 k3 k4 k5 (hN _ hb) (hN _ hm) (by simp [Ent.deps, Ent.h, HE.map]) rfl rfl (by rw [en, em]; exact hfr) (by rw [en]; exact ⟨_, hn', rfl⟩) (by rw [em]; exact hm' S)
/-- A box that holds the closure itself. -/
def HE.fnb (e : TypeId) (F : FuncId) (i1 i2 i3 i4 i5 : Nat) : HE where
  ids := [i1, i2, i3, i4, i5]
  sem := fun θ b _ w => w.heap[b]? = some (.cells #[selfv F (θ i1) (θ i3) (θ i5) (.pointer (some ⟨θ i2, 0, none⟩)) (.pointer (some ⟨θ i4, 0, none⟩))] e (0, 0))
  move := by rintro θ θ' b S S' w w' h _ _ hb hi; rw [hi i1 (by simp), hi i2 (by simp), hi i3 (by simp), hi i4 (by simp), hi i5 (by simp)]; exact hb.trans h
def VA.fnv (F : FuncId) (i1 i2 i3 i4 i5 : Nat) : VA where
  ids := [i1, i2, i3, i4, i5]
  sem := fun θ _ ob _ v => ob = bk none ∧ v = selfv F (θ i1) (θ i3) (θ i5) (.pointer (some ⟨θ i2, 0, none⟩)) (.pointer (some ⟨θ i4, 0, none⟩))
  move := by rintro θ θ' S S' ob w w' v ⟨h0, h⟩ _ _ _ hi; exact ⟨h0, by rw [hi i1 (by simp), hi i2 (by simp), hi i3 (by simp), hi i4 (by simp), hi i5 (by simp)]; exact h⟩
theorem op_store_fn {e : TypeId} {F : FuncId} {i1 i2 i3 i4 i5 s1 s2 s3 s4 s5 s id : Nat} {o : Operand} (hs1 : ∀ w, (sizeOf t).run P w = .ok 1 w) (hp : Arg N o (VA.ptr id 0)) (hb : N (Ent.h id (HE.raw e 1))) (hf : N (Ent.mf s F [] [s1, s2, s3, s4, s5])) (g1 : N (Ent.t s1 (VA.ptr i1 0))) (g2 : N (Ent.t s2 (VA.ptr i2 0))) (g3 : N (Ent.t s3 (VA.ptr i3 0))) (g4 : N (Ent.t s4 (VA.ptr i4 0))) (g5 : N (Ent.t s5 (VA.ptr i5 0))) :
    OpSpec P n ⟨none, .store t o (.tmp s), ty, pos, af, g⟩ N [Ent.h id (HE.fnb e F i1 i2 i3 i4 i5)] := by
  rintro c Γ a w Q rfl hN ⟨h1, h2, h3, θ, S, h4, h5⟩
  have hN2 := sems hN h5
  obtain ⟨_, _, e1⟩ := hp θ S a w hN2
  obtain ⟨_, _, ef⟩ := hN2 _ hf
  obtain ⟨_, _, q1⟩ := hN2 _ g1
  obtain ⟨_, _, q2⟩ := hN2 _ g2
  obtain ⟨_, _, q3⟩ := hN2 _ g3
  obtain ⟨_, _, q4⟩ := hN2 _ g4
  obtain ⟨_, _, q5⟩ := hN2 _ g5
  obtain ⟨ob, ⟨rfl, cs, hc, hcl⟩, hav, h6⟩ := sat_take (hN _ hb) h5
  have hfree := hav _ rfl
  have ev : a.eval (.tmp s) = selfv F (θ i1) (θ i3) (θ i5) (.pointer (some ⟨θ i2, 0, none⟩)) (.pointer (some ⟨θ i4, 0, none⟩)) := by
    show a.tmps.getD s undef = _
    rw [ef]
    simp only [List.map_cons, List.map_nil]
    rw [q1, q2, q3, q4, q5]
    rfl
  generalize hz : selfv F (θ i1) (θ i3) (θ i5) (.pointer (some ⟨θ i2, 0, none⟩)) (.pointer (some ⟨θ i4, 0, none⟩)) = z at ev
  have hz1 : z.cells = #[z] := by rw [← hz]; rfl
  have hz2 : z.oneCell' = true := by rw [← hz]; rfl
  have hst := run_storeCells_at (P := P) (θ id) 0 e [z] 0 cs w hc (by simp [hcl]) (fun v hv => by rw [List.mem_singleton.1 hv]; exact hz2)
  have hnew : (cs.toList.take (0 + 0) ++ [z] ++ cs.toList.drop (0 + 0 + [z].length)).toArray = #[z] := by
    rw [List.drop_of_length_le (by simp [hcl])]; simp
  rw [hnew] at hst
  have hrun : (execOp a.eval ⟨none, .store t o (.tmp s), ty, pos, af, g⟩).run P w = .ok .skip (w.setRow (θ id) #[z]) := by
    have hs2 := hs1 w
    clear hN hN2 hp h1 h2 h5 h6 ef q1 q2 q3 q4 q5
    generalize a.eval = ρ at *
    simp [execOp, Instr.storeAt, Instr.sureAddr, e1, ev, storeVar, hz1, hs2, hst, Sem.run_bind, Sem.run_pure, Result.andThen_ok]
  unfold Oper.wp
  rw [hrun]
  have hne : ∀ b, S b → b ≠ θ id := fun b hs e => hfree.1 (e ▸ hs)
  have hag : Agree S w (w.setRow (θ id) #[z]) := fun b hs => setRow_ne _ _ _ _ (hne b hs)
  show Inv c _ (a.put none undef) _
  refine ⟨h1, h2, h3.setRow hfree.2.2 _, θ, S, h4.grow (by rw [setRow_size]; exact Nat.le_refl _), ?_⟩
  refine sat_consB (b := θ id) (dead_nil _) ?_ ⟨hfree.1, by rw [setRow_size]; exact hfree.2.1, hfree.2.2⟩ ?_
  · exact ⟨rfl, by show _ = _; rw [hz]; exact setRow_heap w _ _ _ e (0, 0) hc⟩
  · refine sat_mono (sat_move h6 hag (fun b hb => hb) (fun b hb => setRow_ne _ _ _ _ (fun e => hb.2 (by rw [e]))) (fun t _ => rfl) (fun k _ => rfl)) (fun k hk => hk) (fun b hb => ⟨⟨hb.1.1, by rw [setRow_size]; exact hb.1.2.1, hb.1.2.2⟩, fun e => hb.2 (by rw [e])⟩)
theorem op_load_fn {e : TypeId} {F : FuncId} {i1 i2 i3 i4 i5 id : Nat} {o : Operand} (hd : Nat.blt d n = true) (ha : ∀ w, (isAgg t).run P w = .ok false w) (hp : Arg N o (VA.ptr id 0)) (hb : N (Ent.h id (HE.fnb e F i1 i2 i3 i4 i5))) : OpSpec P n ⟨some d, .load t o, ty, pos, af, g⟩ N [Ent.t d (VA.fnv F i1 i2 i3 i4 i5)] := op_pure hd fun θ S act w hN => by
  obtain ⟨_, _, e1⟩ := hp θ S act w hN
  obtain ⟨_, _, hc⟩ := hN _ hb
  generalize hz : selfv F (θ i1) (θ i3) (θ i5) (.pointer (some ⟨θ i2, 0, none⟩)) (.pointer (some ⟨θ i4, 0, none⟩)) = z
  have hc' : w.heap[θ id]? = some (.cells #[z] e (0, 0)) := by rw [← hz]; exact hc
  have hcell : w.cell? ⟨θ id, 0, none⟩ = some z := by rw [cell_of_row w _ 0 _ e (0, 0) hc']; rfl
  refine ⟨z, ?_, rfl, hz.symm⟩
  have ha := ha w
  have hl : (loadVar t ⟨θ id, 0, none⟩).run P w = .ok z w := by
    unfold loadVar
    simp [Sem.run_bind, ha, run_load, hcell]
  clear hN hp hc hc' hz
  generalize act.eval = ρ at *
  simp [execOp, Instr.loadAt, Instr.sureAddr, e1, hl, Sem.run_bind, Sem.run_pure, Result.andThen_ok]
set_option maxHeartbeats 4000000 in
/-- It is called for the first time. -/
theorem op_callcnt {α : Type} {F : FuncId} {kt e3 e3' eP eS eF : TypeId} {Kp : Kn α} {p : α} {most left n0 : Int} {m : GM Int} {r : Int × GM Int} {i1 i2 i3 i4 i5 im s : Nat} {x : Operand} {at_ : Array TypeId} (hd : Nat.blt d n = true) (hk : Nat.blt 0 Kp.sz = true) (hne : [i1, i2, i3, i4, i5, im].Nodup) (hlt : ∀ k, k ∈ [i1, i2, i3, i4, i5, im] → k < 1000000) (hf : Enters P F) (hC : ConCnt P F kt e3 eS eF Kp p most left n0 m r)
    (hs : N (Ent.t s (VA.fnv F i1 i2 i3 i4 i5))) (h1 : N (Ent.h i1 (HE.box e3 (kint .i64) n0))) (h2 : N (Ent.h i2 (HE.box eP Kp p))) (h3 : N (Ent.h i3 (HE.boxm eS im))) (h4 : N (Ent.h i4 (HE.box e3' (kint .i64) most))) (h5 : N (Ent.h i5 (HE.fnb eF F i1 i2 i3 i4 i5))) (hm : N (Ent.h im (HE.map P kt (kint .i64) m))) (hx : Arg N x (VA.k (kint .i64) left)) :
    OpSpec P n ⟨some d, .call { callee := .value (.tmp s), args := #[x], argTypes := at_ }, ty, pos, af, g⟩ N [Ent.t d VA.any, Ent.h i1 (HE.box e3 (kint .i64) r.1), Ent.h im (HE.map P kt (kint .i64) r.2)] := by
  rintro c Γ a w Q rfl hN ⟨k1, k2, k3, θ, S, k4, k5⟩
  have hN2 := sems hN k5
  obtain ⟨_, _, es⟩ := hN2 _ hs
  obtain ⟨_, hx'⟩ := hx θ S a w hN2
  have ex := k_int hx'
  obtain ⟨_, ⟨rfl, cs1, hc1, hr1⟩, a1, _⟩ := sat_take (hN _ h1) k5
  obtain ⟨_, ⟨rfl, cs2, hc2, hr2⟩, a2, _⟩ := sat_take (hN _ h2) k5
  obtain ⟨_, ⟨rfl, hc3⟩, a3, _⟩ := sat_take (hN _ h3) k5
  obtain ⟨_, ⟨rfl, cs4, hc4, hr4⟩, a4, _⟩ := sat_take (hN _ h4) k5
  obtain ⟨_, ⟨rfl, hc5⟩, a5, _⟩ := sat_take (hN _ h5) k5
  obtain ⟨_, ⟨rfl, hmap⟩, am, _⟩ := sat_take (hN _ hm) k5
  have a1 := a1 _ rfl; have a2 := a2 _ rfl; have a3 := a3 _ rfl; have a4 := a4 _ rfl; have a5 := a5 _ rfl; have am := am _ rfl
  have l1 := hlt i1 (by simp); have l2 := hlt i2 (by simp); have l3 := hlt i3 (by simp); have l4 := hlt i4 (by simp); have l5 := hlt i5 (by simp); have lm := hlt im (by simp)
  simp only [List.nodup_cons, List.mem_cons, List.not_mem_nil, or_false, not_or, List.nodup_nil, and_true, not_false_eq_true] at hne
  obtain ⟨⟨n12, n13, n14, n15, n1m⟩, ⟨n23, n24, n25, n2m⟩, ⟨n34, n35, n3m⟩, ⟨n45, n4m⟩, n5m⟩ := hne
  have d12 := h_ne k5 (hN _ h1) (hN _ h2) (by simp only [Ent.deps, Ent.h, HE.box, List.map_cons, List.map_nil, List.nil_append, List.mem_cons, List.not_mem_nil, or_false]; omega)
  have d13 := h_ne k5 (hN _ h1) (hN _ h3) (by simp only [Ent.deps, Ent.h, HE.boxm, List.map_cons, List.map_nil, List.nil_append, List.mem_cons, List.not_mem_nil, or_false]; omega)
  have d14 := h_ne k5 (hN _ h1) (hN _ h4) (by simp only [Ent.deps, Ent.h, HE.box, List.map_cons, List.map_nil, List.nil_append, List.mem_cons, List.not_mem_nil, or_false]; omega)
  have d15 := h_ne k5 (hN _ h1) (hN _ h5) (by simp only [Ent.deps, Ent.h, HE.fnb, List.map_cons, List.map_nil, List.nil_append, List.mem_cons, List.not_mem_nil, or_false]; omega)
  have q1m : ¬ (2000000 + i1) ∈ (Ent.h im (HE.map P kt (kint .i64) m)).deps := by simp only [Ent.deps, Ent.h, HE.map, List.map_cons, List.map_nil, List.nil_append, List.mem_cons, List.not_mem_nil, or_false]; omega
  have d1m := h_ne k5 (hN _ h1) (hN _ hm) q1m
  have dm2 := h_ne k5 (hN _ hm) (hN _ h2) (by simp only [Ent.deps, Ent.h, HE.box, List.map_cons, List.map_nil, List.nil_append, List.mem_cons, List.not_mem_nil, or_false]; omega)
  have dm3 := h_ne k5 (hN _ hm) (hN _ h3) (by simp only [Ent.deps, Ent.h, HE.boxm, List.map_cons, List.map_nil, List.nil_append, List.mem_cons, List.not_mem_nil, or_false]; omega)
  have dm4 := h_ne k5 (hN _ hm) (hN _ h4) (by simp only [Ent.deps, Ent.h, HE.box, List.map_cons, List.map_nil, List.nil_append, List.mem_cons, List.not_mem_nil, or_false]; omega)
  have dm5 := h_ne k5 (hN _ hm) (hN _ h5) (by simp only [Ent.deps, Ent.h, HE.fnb, List.map_cons, List.map_nil, List.nil_append, List.mem_cons, List.not_mem_nil, or_false]; omega)
  obtain rfl : cs1 = #[.int .i64 n0] := Array.toList_inj.1 hr1
  obtain rfl : cs4 = #[.int .i64 most] := Array.toList_inj.1 hr4
  let S2 : Blk := fun b => S b ∨ b = θ i2 ∨ b = θ i3 ∨ b = θ i4 ∨ b = θ i5
  have hSS : ∀ b, S b → S2 b := fun b hb => .inl hb
  have hbd : ∀ b, S2 b → b < w.heap.size := fun b hb => by
    rcases hb with hb | rfl | rfl | rfl | rfl
    · exact (k4 b hb).1
    · exact a2.2.1
    · exact a3.2.1
    · exact a4.2.1
    · exact a5.2.1
  have hmap : MapS P kt (kint .i64) S w (θ im) m := hmap
  unfold Oper.wp
  have hrun := run_callv_op (P := P) (ρ := a.eval) (f := F) (o := .tmp s) (us := []) (vs := [.pointer (some ⟨θ i1, 0, none⟩), .pointer (some ⟨θ i2, 0, none⟩), .pointer (some ⟨θ i3, 0, none⟩), .pointer (some ⟨θ i4, 0, none⟩), .pointer (some ⟨θ i5, 0, none⟩)]) (xs := [x]) (at_ := at_) (dst := some d) (ty := ty) (pos := pos) (af := af) (g := g) (w := w) hf es
  rw [hrun, List.map_cons, ex]
  refine (hC θ S2 w (θ i1) (θ i3) (θ im) (θ i5) (.pointer (some ⟨θ i2, 0, none⟩)) (.pointer (some ⟨θ i4, 0, none⟩)) hbd ?_ ?_ d1m am.2.1 (.inr (.inr (.inl rfl))) (.inr (.inr (.inr (.inr rfl)))) hc1 hc3 hc5 (hmap.free (KFree.int .i64)) ?_ ?_).mono ?_
  · rintro (h | h | h | h | h)
    · exact a1.1 h
    · exact d12 h
    · exact d13 h
    · exact d14 h
    · exact d15 h
  · rintro (h | h | h | h | h)
    · exact am.1 h
    · exact dm2 h
    · exact dm3 h
    · exact dm4 h
    · exact dm5 h
  · refine ⟨rfl, _, rfl, .inr (.inl rfl), _, Kp.move hr2 (Agree.refl _ _) hSS, fun i u hu => ?_⟩
    rw [add_add, cell_of_row w (θ i2) _ _ eP (0, 0) hc2, Nat.zero_add]
    simpa using hu
  · refine ⟨rfl, _, rfl, .inr (.inr (.inr (.inl rfl))), _, rfl, fun i u hu => ?_⟩
    rw [add_add, cell_of_row w (θ i4) _ _ e3' (0, 0) hc4, Nat.zero_add]
    simpa using hu
  · rintro e w' ⟨rfl, hfr, hn', hm'⟩
    exact inv_two hd k1 k2 k3 k4 k5 (hN _ h1) (hN _ hm) q1m rfl rfl hfr ⟨_, hn', rfl⟩ (hm' S)
theorem con_enterCnt {α : Type} {F : FuncId} {fn : Func} {body : Code} {kt e3 eS eF : TypeId} {Kp : Kn α} {p : α} {most left n0 : Int} {m : GM Int} {r : Int × GM Int} (hf : P.funcs[F]? = some fn) (hb : fn.body = some body) (hn : Nat.ble 6 fn.ntmps = true) (hm : Nat.ble fn.ntmps 1000000 = true)
    (h : ∀ w0 S0 bn bd bm bo v2 v4, Goes P (ctx w0 S0 [bn, bm] fn.ntmps) (argEnts [VA.k (kint .i64) left, VA.ptr 998 0, VA.fx v2 (VA.pt Kp p), VA.ro eS bd (.map (some bm)), VA.fx v4 (VA.pt (kint .i64) most), VA.ro eF bo (selfv F bn bd bo v2 v4)] 0 ++ [Ent.h 998 (HE.box e3 (kint .i64) n0), Ent.isb 998 bn, Ent.h 999 (HE.map P kt (kint .i64) m), Ent.isb 999 bm]) body (bodyPost P fn (CntPost P kt e3 w0 bn bm r))) : ConCnt P F kt e3 eS eF Kp p most left n0 m r := fun θ S w bn bd bm bo v2 v4 hS hSn hSm hne hml hSd hSo hcn hcd hco hmap g2 g4 => by
  refine calls_of_wp hf hb (wpIn_wide.1 (h w S bn bd bm bo v2 v4 _ w ?_))
  have hn' := Nat.le_of_ble_eq_true hn
  have hm' := Nat.le_of_ble_eq_true hm
  let θ' : Nat → Nat := fun k => if k = 998 then bn else if k = 999 then bm else θ k
  have hnl : bn < w.heap.size := (Array.getElem?_eq_some_iff.1 hcn).1
  refine ⟨rfl, ⟨by simp; omega, hm'⟩, Fr.refl _ _, θ', S, fun b hb => ⟨hS b hb, .inl hb⟩, ?_⟩
  refine arg_sat_app (vs := [.int .i64 left, .pointer (some ⟨bn, 0, none⟩), v2, .pointer (some ⟨bd, 0, none⟩), v4, .pointer (some ⟨bo, 0, none⟩)]) ?_ (fun i v hi => ?_) (fun k hk => by cases hk) (by simp) ?_
  · exact ⟨⟨rfl, _, rfl, rfl⟩, ⟨rfl, by simp [θ']⟩, ⟨(VA.pt Kp p).move g2 (Agree.refl _ _) (fun b hb => hb) (fun b hb => rfl) (fun k hk => by cases hk), rfl⟩, ⟨rfl, rfl, hSd, hcd⟩, ⟨(VA.pt (kint .i64) most).move g4 (Agree.refl _ _) (fun b hb => hb) (fun b hb => rfl) (fun k hk => by cases hk), rfl⟩, ⟨rfl, rfl, hSo, hco⟩, trivial⟩
  · have hlt := (List.getElem?_eq_some_iff.1 hi).1
    simp only [Array.getD_eq_getD_getElem?, Nat.zero_add]
    rw [Array.getElem?_append_left (by simpa using hlt)]
    rw [← List.getElem?_toArray] at hi
    rw [hi]; rfl
  · refine sat_consB (b := bn) (dead_nil _) ⟨by simp [θ'], ?_⟩ ⟨hSn, hnl, .inr (by simp)⟩ (sat_consK (dead_iff (fun k hk => ?_)) ⟨rfl, by simp [θ']⟩ (sat_consB (b := bm) (dead_iff (fun k hk => ?_)) ⟨by simp [θ'], ?_⟩ ⟨⟨hSm, hml, .inr (by simp)⟩, hne.symm⟩ (sat_consK (dead_iff (fun k hk => ?_)) ⟨rfl, by simp [θ']⟩ trivial)))
    · refine ⟨_, ?_, rfl⟩
      show w.heap[θ' 998]? = _
      rw [show θ' 998 = bn by simp [θ']]; exact hcn
    · simp only [Ent.h, List.mem_cons, List.not_mem_nil, or_false] at hk
      simp only [Ent.deps, Ent.isb, List.map_cons, List.map_nil, List.nil_append, List.mem_cons, List.not_mem_nil, or_false]
      omega
    · simp only [Ent.h, Ent.isb, List.mem_cons, List.not_mem_nil, or_false] at hk
      simp only [Ent.deps, Ent.h, HE.map, List.map_cons, List.map_nil, List.nil_append, List.mem_cons, List.not_mem_nil, or_false]
      omega
    · show MapS P kt (kint .i64) S w (θ' 999) m
      rw [show θ' 999 = bm by simp [θ']]; exact hmap
    · simp only [Ent.h, Ent.isb, List.mem_cons, List.not_mem_nil, or_false] at hk
      simp only [Ent.deps, Ent.isb, List.map_cons, List.map_nil, List.nil_append, List.mem_cons, List.not_mem_nil, or_false]
      omega
theorem ends_cnt {kt e3 : TypeId} {r : Int × GM Int} {w0 : World} {S0 : Blk} {n bn bm : Nat} {Γ : List Ent} {fn : Func} (hr : fn.results = #[]) (h1 : findE [] Γ 4000998 = some (Ent.isb 998 bn)) (h2 : findE [] Γ 2000998 = some (Ent.h 998 (HE.box e3 (kint .i64) r.1))) (h3 : findE [] Γ 4000999 = some (Ent.isb 999 bm)) (h4 : findE [] Γ 2000999 = some (Ent.h 999 (HE.map P kt (kint .i64) r.2))) : Ends (ctx w0 S0 [bn, bm] n) Γ (bodyPost P fn (CntPost P kt e3 w0 bn bm r)) .ret := by
  rintro a w ⟨g1, g2, g3, θ, S, k4, k5⟩
  obtain ⟨_, ⟨_, e1⟩, _⟩ := sat_take (has_find h1) k5
  obtain ⟨_, ⟨rfl, cs, hc, hrr⟩, _⟩ := sat_take (has_find h2) k5
  obtain ⟨_, ⟨_, e2⟩, _⟩ := sat_take (has_find h3) k5
  obtain ⟨_, ⟨rfl, hm⟩, _⟩ := sat_take (has_find h4) k5
  have hm2 : MapS P kt (kint .i64) S w (θ 999) r.2 := hm
  rw [e2] at hm2
  rw [e1] at hc
  obtain rfl : cs = #[.int .i64 r.1] := Array.toList_inj.1 hrr
  refine ⟨g1, .tuple #[], ?_, rfl, g3, hc, fun S' => hm2.free (KFree.int .i64)⟩
  unfold results
  simp [hr, Sem.run_bind, Sem.run_map, Sem.run_pure, Result.andThen_ok]
end
end Go.Proofs.Ytedgkcdofiildaa.Sl
/- From the claim's reading of an argument to a kind's: each kind, once. -/
set_option linter.unusedVariables false
set_option linter.unusedSimpArgs false
set_option linter.unnecessarySimpa false
set_option linter.deprecated false
namespace Go.Proofs.Ytedgkcdofiildaa.Sl
open Go Go.RowKit Go.WideShapes Go.ChangeAt
theorem cell_lt {w : World} {ad : Addr} {u : Value} (h : w.cell? ad = some u) : ad.block < w.heap.size := by
  rcases Nat.lt_or_ge ad.block w.heap.size with h1 | h1
  · exact h1
  · exfalso
    unfold World.cell? at h
    rw [Array.getElem?_eq_none h1] at h
    cases h
section
variable {P : Program} {α β : Type}
def whole (W : World) : Blk := fun b => b < W.heap.size
/-- What reads as data of type t stands in memory as some x of kind d, of which ok holds. -/
def Opens (P : Program) (t : TypeId) (d : Kn α) (ok : α → Prop) : Prop :=
  ∀ (H : Type) (enc : TypeId × Value → H) (W : World) (spare : Nat → Bool) (held : Bool) (fuel : Nat) (cs : List Value) (dat : DataW H) (ps : List MemPlace),
    DataW.trod enc P W 0 spare held fuel t cs = some (dat, ps) → (∀ n ∈ dat.weights P t, n ≤ 140737488351232) → ∃ x, d.R (whole W) W x cs ∧ ok x
/-- Some fields in line, from cell o on. -/
def OpensF (P : Program) (fs : List Field) (o : Nat) (d : Kn α) (ok : α → Prop) : Prop :=
  ∀ (H : Type) (enc : TypeId × Value → H) (W : World) (spare : Nat → Bool) (held : Bool) (fuel : Nat) (cs : List Value) (xs : List (DataW H × List MemPlace)),
    xs.length = fs.length → (∀ (i : Nat) (f : Field), fs[i]? = some f → DataW.trod enc P W 0 spare held fuel f.type ((cs.drop f.offset).take (P.cellsOf f.type)) = xs[i]?) → (∀ n ∈ DataW.weightsEach P (fs.map (·.type)) (xs.map (·.1)), n ≤ 140737488351232) → o + d.sz ≤ cs.length → ∃ x, d.R (whole W) W x ((cs.drop o).take d.sz) ∧ ok x
theorem opens_bool {t : TypeId} (ht : P.underlying t = some .bool) : Opens P t kbool (fun _ => True) := by
  intro H enc W spare held fuel cs dat ps h hw
  obtain ⟨n, rfl, _⟩ := DataW.trod_bool ht h
  exact ⟨n, rfl, trivial⟩
theorem opens_string {t : TypeId} (ht : P.underlying t = some .string) : Opens P t kstr (fun s => s.size ≤ 140737488351232) := by
  intro H enc W spare held fuel cs dat ps h hw
  obtain ⟨s, rfl, hx, _⟩ := DataW.trod_string ht h
  obtain ⟨rfl, _⟩ := Prod.mk.inj hx
  refine ⟨s, rfl, ?_⟩
  have := hw s.data.toList.length (by simp [DataW.weights])
  simpa using this
theorem weightsAll_mem {H : Type} {e : TypeId} : ∀ (l : List (DataW H)) (d : DataW H), d ∈ l → ∀ n ∈ d.weights P e, n ∈ DataW.weightsAll P e l
  | x :: xs, d, hd, n, hn => by
    simp only [DataW.weightsAll, List.mem_append]
    rcases List.mem_cons.1 hd with rfl | hd
    · exact .inl hn
    · exact .inr (weightsAll_mem xs d hd n hn)
theorem choose_list {p : Nat → α → Prop} : ∀ (n : Nat), (∀ i, i < n → ∃ x, p i x) → ∃ l : List α, l.length = n ∧ ∀ i x, l[i]? = some x → p i x
  | 0, _ => ⟨[], rfl, fun i x h => by simp at h⟩
  | n + 1, h => by
    obtain ⟨l, hl, hp⟩ := choose_list n (fun i hi => h i (by omega))
    obtain ⟨x, hx⟩ := h n (by omega)
    refine ⟨l ++ [x], by simp [hl], fun i y hy => ?_⟩
    rcases Nat.lt_or_ge i n with hi | hi
    · rw [List.getElem?_append_left (by omega)] at hy
      exact hp i y hy
    · have : i = n := by
        have := (List.getElem?_eq_some_iff.1 hy).1
        simp [hl] at this
        omega
      subst this
      rw [List.getElem?_append_right (by omega), hl] at hy
      simp at hy
      rw [← hy]
      exact hx
theorem opens_slice {t e : TypeId} {d : Kn α} {ok : α → Prop} (B : Nat) (ht : P.underlying t = some (.slice e)) (hd : Opens P e d ok) (hs : P.cellsOf e = d.sz) (hB : P.bytesOf e = B) (hp : Nat.blt 0 d.sz = true) :
    Opens P t (kslice d) (fun l => l.length * B ≤ 140737488351232 ∧ ∀ x ∈ l, ok x) := by
  intro H enc W spare held fuel cs dat ps h hw
  rcases Deep.open_slice ht h with ⟨rfl, hx⟩ | ⟨a, len, cap, m, n, D, Pl, rfl, _, hl, hm, hmm, hx, hel⟩
  · exact ⟨[], ⟨none, 0, rfl, Nat.le_refl _, by simp, Row.nil _ _ _ _⟩, by simp, by simp⟩
  · obtain ⟨rfl, _⟩ := Prod.mk.inj hx
    have hlm : len ≤ m := by rw [hmm]; split <;> omega
    have hw' : ∀ i, i < len → ∀ n ∈ (D i).weights P e, n ≤ 140737488351232 := by
      intro i hi n hn
      refine hw n ?_
      simp only [DataW.weights, ht, List.mem_cons, List.mem_append]
      exact .inr (.inl (weightsAll_mem _ (D i) (List.mem_map.2 ⟨i, List.mem_range.2 hi, rfl⟩) n hn))
    have hlen : len * B ≤ 140737488351232 := by
      have h2 := hw (((List.range len).map D).length + ((List.range (m - len)).map fun j => D (len + j)).length) |> fun _ => hw _ (by simp only [DataW.weights, ht]; exact List.mem_cons_self)
      rw [hB] at h2
      refine Nat.le_trans (Nat.mul_le_mul_right _ ?_) h2
      simp
    obtain ⟨l, hll, hp'⟩ := choose_list (α := α) (p := fun i x => ∃ cs', W.cells? 0 (a.add (i * P.cellsOf e)) (P.cellsOf e) = some cs' ∧ d.R (whole W) W x cs' ∧ ok x) len (fun i hi => by
      obtain ⟨cs', h1, h2⟩ := hel i (by omega)
      obtain ⟨x, hx, hok⟩ := hd H enc W spare held n cs' (D i) (Pl i) h2 (hw' i hi)
      exact ⟨x, cs', h1, hx, hok⟩)
    have hcell : ∀ j p, l[j]? = some p → ∃ cs', d.R (whole W) W p cs' ∧ ∀ i u, cs'[i]? = some u → W.cell? (a.add (j * d.sz + i)) = some u := fun j p hj => by
      obtain ⟨cs', h1, h2, _⟩ := hp' j p hj
      obtain ⟨_, hcl, hc⟩ := World.cells?_some h1
      rw [hs] at hcl hc
      refine ⟨cs', h2, fun i u hu => ?_⟩
      have hi : i < d.sz := by have := (List.getElem?_eq_some_iff.1 hu).1; omega
      have := hc i hi
      rw [hu, ← hs] at this
      rw [← this, ← hs]
      congr 1
      exact (Addr.add_add a _ _).symm
    refine ⟨l, ⟨some a, cap, by rw [hll], by omega, hm, fun h0 => ⟨a, rfl, ?_, hcell⟩⟩, by rw [hll]; exact hlen, fun x hx => ?_⟩
    · obtain ⟨cs', h2, h3⟩ := hcell 0 l[0] (List.getElem?_eq_getElem h0)
      have hcl := d.len h2
      have hpos := blt_lt hp
      have := h3 0 cs'[0] (List.getElem?_eq_getElem (by omega))
      have := cell_lt this
      rwa [show (a.add (0 * d.sz + 0)).block = a.block by unfold Addr.add; split <;> rfl] at this
    · obtain ⟨i, hi, he⟩ := List.getElem_of_mem hx
      obtain ⟨_, _, _, hok⟩ := hp' i x (by rw [List.getElem?_eq_getElem hi, he])
      exact hok
theorem opens_iso {t : TypeId} {d : Kn α} {ok : α → Prop} (h : Opens P t d ok) (f : β → α) (g : α → β) (hfg : ∀ x, f (g x) = x) : Opens P t (kiso d f) (fun y => ok (f y)) := by
  intro H enc W spare held fuel cs dat ps ht hw
  obtain ⟨x, hx, hok⟩ := h H enc W spare held fuel cs dat ps ht hw
  exact ⟨g x, by show d.R (whole W) W (f (g x)) cs; rw [hfg]; exact hx, by show ok (f (g x)); rw [hfg]; exact hok⟩
theorem opensF_one {f : Field} {d : Kn α} {ok : α → Prop} (o : Nat) (h : Opens P f.type d ok) (ho : f.offset = o) (hs : P.cellsOf f.type = d.sz) : OpensF P [f] o d ok := by
  intro H enc W spare held fuel cs xs hlen hm hw hl
  obtain ⟨y, rfl⟩ : ∃ y, xs = [y] := by
    match xs, hlen with
    | [y], _ => exact ⟨y, rfl⟩
  have hy := hm 0 f rfl
  rw [ho, hs] at hy
  exact h H enc W spare held fuel _ y.1 y.2 hy (fun n hn => hw n (by simp [DataW.weightsEach, hn]))
theorem opensF_cons {f : Field} {fs : List Field} {a : Kn α} {b : Kn β} {oka : α → Prop} {okb : β → Prop} (o : Nat) (h : Opens P f.type a oka) (ho : f.offset = o) (hs : P.cellsOf f.type = a.sz) (hr : OpensF P fs (o + a.sz) b okb) :
    OpensF P (f :: fs) o (kpair a b) (fun x => oka x.1 ∧ okb x.2) := by
  intro H enc W spare held fuel cs xs hlen hm hw hl
  obtain ⟨y, ys, rfl⟩ : ∃ y ys, xs = y :: ys := by
    match xs, hlen with
    | y :: ys, _ => exact ⟨y, ys, rfl⟩
  have hy := hm 0 f rfl
  rw [ho, hs] at hy
  have hl' : o + (a.sz + b.sz) ≤ cs.length := hl
  obtain ⟨x, hx, hox⟩ := h H enc W spare held fuel _ y.1 y.2 hy (fun n hn => hw n (by simp [DataW.weightsEach, hn]))
  obtain ⟨z, hz, hoz⟩ := hr H enc W spare held fuel cs ys (by simpa using hlen) (fun i g hg => hm (i + 1) g (by simpa using hg)) (fun n hn => hw n (by simp only [List.map_cons, DataW.weightsEach, List.mem_append]; exact .inr hn)) (by omega)
  refine ⟨(x, z), ⟨_, _, ?_, hx, hz⟩, hox, hoz⟩
  show (cs.drop o).take (a.sz + b.sz) = (cs.drop o).take a.sz ++ (cs.drop (o + a.sz)).take b.sz
  rw [List.take_add, List.drop_drop]
theorem opens_struct {t : TypeId} {fs : Array Field} {d : Kn α} {ok : α → Prop} (ht : P.underlying t = some (.struct fs)) (h : OpensF P fs.toList 0 d ok) (hs : P.cellsOf t = d.sz) : Opens P t d ok := by
  intro H enc W spare held fuel cs dat ps hm hw
  obtain ⟨xs, n, _, he, hl, hlen, hel⟩ := DataW.trod_struct ht hm
  obtain ⟨rfl, _⟩ := Prod.mk.inj he
  obtain ⟨x, hk, hok⟩ := h H enc W spare held n cs xs (by simpa using hlen) (fun i f hf => hel i f (by simpa using hf)) (fun m hm2 => hw m (by simpa [DataW.weights, ht] using hm2)) (by omega)
  rw [List.drop_zero, List.take_of_length_le (by omega)] at hk
  exact ⟨x, hk, hok⟩
end
/-- What a law's contract says of its call. -/
theorem Con.law {P : Program} {f : FuncId} {As : List VA} {r : Bool} (h : Con P f As [VA.k kbool r]) {W : World} {vs : List Value} (ha : argSat (fun _ => 0) (whole W) W As vs) : Calls P f vs.toArray W fun e W' => e = .returned (.bool r) ∧ Below W.heap.size W W' := by
  refine (h (fun _ => 0) (whole W) W vs (fun b hb => hb) ha).mono ?_
  rintro e w' ⟨rs, S', rfl, hfr, _, hr⟩
  refine ⟨?_, hfr.below⟩
  match rs, hr with
  | [v], hr =>
    obtain ⟨ob, ⟨_, cs, rfl, rfl⟩, _⟩ := hr
    rfl
  | [], hr => exact hr.elim
  | _ :: _ :: _, hr => obtain ⟨_, _, _, hr⟩ := hr; exact hr.elim
end Go.Proofs.Ytedgkcdofiildaa.Sl
/- Fuel taken away: what a function with fuel comes to. -/
set_option linter.unusedVariables false
set_option linter.unusedSimpArgs false
set_option linter.unnecessarySimpa false
set_option linter.deprecated false
namespace Go.Proofs.Ytedgkcdofiildaa.Sl
open Go
def Le {α : Type} (a b : Option α) : Prop := ∀ r, a = some r → b = some r
theorem Le.refl {α : Type} (a : Option α) : Le a a := fun _ h => h
theorem Le.none {α : Type} (a : Option α) : Le Option.none a := fun _ h => by cases h
theorem Le.bind {α β : Type} {a b : Option α} {f g : α → Option β} (h : Le a b) (hf : ∀ x, Le (f x) (g x)) : Le (a.bind f) (b.bind g) := fun r h1 => by
  obtain ⟨x, h2, h3⟩ := Option.bind_eq_some_iff.1 h1
  rw [h x h2]
  exact hf x r h3
theorem Le.cond {α : Type} {c : Bool} {a b a' b' : Option α} (h1 : Le a a') (h2 : Le b b') : Le (bif c then a else b) (bif c then a' else b') := by
  cases c <;> assumption
/-- From some fuel on f is b; and no fuel makes it anything else. -/
def Tends {α : Type} (f : Nat → Option α) (b : Option α) : Prop := (∀ k, Le (f k) b) ∧ ∀ r, b = some r → ∃ K, ∀ k, K ≤ k → f k = some r
theorem Tends.const {α : Type} (a : Option α) : Tends (fun _ => a) a := ⟨fun _ => Le.refl _, fun r h => ⟨0, fun _ _ => h⟩⟩
theorem Tends.bind {α β : Type} {f : Nat → Option α} {b : Option α} {g : Nat → α → Option β} {h : α → Option β} (h1 : Tends f b) (h2 : ∀ x, Tends (fun k => g k x) (h x)) : Tends (fun k => (f k).bind (g k)) (b.bind h) :=
  ⟨fun k => Le.bind (h1.1 k) (fun x => (h2 x).1 k), fun r hr => by
    obtain ⟨x, e1, e2⟩ := Option.bind_eq_some_iff.1 hr
    obtain ⟨K1, k1⟩ := h1.2 x e1
    obtain ⟨K2, k2⟩ := (h2 x).2 r e2
    exact ⟨max K1 K2, fun k hk => by show (f k).bind (g k) = some r; rw [k1 k (by omega)]; exact k2 k (by omega)⟩⟩
theorem Tends.cond {α : Type} {c : Bool} {f g : Nat → Option α} {a b : Option α} (h1 : Tends f a) (h2 : Tends g b) : Tends (fun k => bif c then f k else g k) (bif c then a else b) := by
  cases c <;> assumption
theorem Tends.uniq {α : Type} {f : Nat → Option α} {a b : Option α} (h1 : Tends f a) (h2 : Tends f b) : a = b := by
  have key : ∀ {a b : Option α}, Tends f a → Tends f b → Le a b := fun h1 h2 r hr => by
    obtain ⟨K, hK⟩ := h1.2 r hr
    exact h2.1 K r (hK K (Nat.le_refl _))
  have h3 := key h1 h2
  have h4 := key h2 h1
  cases a with
  | some r => exact (h3 r rfl).symm
  | none => cases b with
    | none => rfl
    | some r => exact h4 r rfl
theorem Tends.shift {α : Type} {f : Nat → Option α} {a : Option α} (h : Tends f a) : Tends (fun k => f (k + 1)) a :=
  ⟨fun k => h.1 (k + 1), fun r hr => by obtain ⟨K, hK⟩ := h.2 r hr; exact ⟨K, fun k hk => hK (k + 1) (by omega)⟩⟩
open Classical in
noncomputable def lim {α : Type} (f : Nat → Option α) : Option α := if h : ∃ r k, f k = some r then some (Classical.choose h) else none
theorem tends_lim {α : Type} {f : Nat → Option α} (h : ∀ {k k' : Nat}, k ≤ k' → Le (f k) (f k')) : Tends f (lim f) := by
  have hu : ∀ {k k' r r'}, f k = some r → f k' = some r' → r = r' := fun {k k' r r'} e1 e2 => by
    have a1 := h (Nat.le_max_left k k') r e1
    have a2 := h (Nat.le_max_right k k') r' e2
    rw [a1] at a2
    exact Option.some.inj a2
  refine ⟨fun k r hr => ?_, fun r hr => ?_⟩
  · have hx : ∃ r k, f k = some r := ⟨r, k, hr⟩
    unfold lim
    rw [dif_pos hx]
    obtain ⟨k2, h2⟩ := Classical.choose_spec hx
    exact congrArg some (hu h2 hr)
  · unfold lim at hr
    by_cases hx : ∃ r k, f k = some r
    · rw [dif_pos hx] at hr
      have e := Option.some.inj hr
      obtain ⟨k2, h2⟩ := Classical.choose_spec hx
      refine ⟨k2, fun k hk => ?_⟩
      rw [← e]
      exact h hk _ h2
    · rw [dif_neg hx] at hr; cases hr
/-- What comes to a value has fuel enough. -/
theorem Tends.ex {α : Type} {f : Nat → Option α} {b : Option α} {r : α} (h : Tends f b) (hb : b = some r) : ∃ k, f k = some r := by
  obtain ⟨K, hK⟩ := h.2 r hb
  exact ⟨K, hK K (Nat.le_refl _)⟩
theorem Tends.at {α : Type} {f : Nat → Option α} {b : Option α} {r : α} (h : Tends f b) (k : Nat) (hb : f k = some r) : b = some r := h.1 k r hb
end Go.Proofs.Ytedgkcdofiildaa.Sl
