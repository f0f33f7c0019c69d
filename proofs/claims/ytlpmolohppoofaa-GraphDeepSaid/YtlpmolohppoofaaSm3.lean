import Derived.Test.YtlpmolohppoofaaSm2
import Derived.Laws.Entries
/- Rows by number: a slice value that several places name; taken to be appended to, and numbered anew. -/
set_option linter.unusedVariables false
set_option linter.unusedSimpArgs false
set_option linter.unnecessarySimpa false
namespace Go.Proofs.Ytlpmolohppoofaa.Sl
open Go Go.RowKit
/-- The slice value of a numbered row: t is 0 for nil, else its capacity and one. -/
def rowVal (b t n : Nat) : Value := match t with
  | 0 => .slice none 0 0
  | c + 1 => .slice (some ⟨b, 0, none⟩) n c
def VA.rw (id n : Nat) : VA where
  ids := [id, 500000 + id]
  sem := fun θ _ ob _ v => ob = bk none ∧ v = rowVal (θ id) (θ (500000 + id)) n
  move := by rintro θ θ' S S' ob w w' v ⟨h0, h⟩ _ _ _ hi; exact ⟨h0, by rw [hi id (by simp), hi (500000 + id) (by simp)]; exact h⟩
theorem plain_rw {id n : Nat} : Plain (VA.rw id n) := fun {θ S ob w v} h => h.1
def Ent.r {α : Type} (id : Nat) (e : TypeId) (K : Kn α) (xs : List α) : Ent where
  key := 5000000 + id
  slots := []
  ids := [id, 500000 + id]
  sem := fun θ S ob _ w => (VA.own e K xs).sem θ S ob w (rowVal (θ id) (θ (500000 + id)) xs.length)
  move := fun {θ θ' S S' ob a a' w w'} h hA hS hb _ hi => by
    show (VA.own e K xs).sem θ' S' ob w' _
    rw [hi id (by simp), hi (500000 + id) (by simp)]
    exact (VA.own e K xs).move h hA hS hb (fun k hk => by cases hk)
/-- What was known under this key is gone. -/
def Ent.gone (k : Nat) : Ent where
  key := k
  slots := []
  ids := []
  sem := fun _ _ ob _ _ => ob = bk none
  move := fun h _ _ _ _ _ => h
section
variable {P : Program} {c : Ctx} {Γ : List Ent} {Q : Exit → Act → World → Prop} {ops : Array Oper} {l : List Oper}
/-- A numbered row is taken into a slot. -/
theorem inv_release {α : Type} {a : Act} {w : World} {d id : Nat} {e : TypeId} {K : Kn α} {xs : List α} (hd : Nat.blt d 1000000 = true) (h1 : Has [] Γ (Ent.t d (VA.rw id xs.length))) (h2 : Has [] Γ (Ent.r id e K xs)) (hi : Inv c Γ a w) : Inv c (Ent.t d (VA.own e K xs) :: Ent.gone (5000000 + id) :: Γ) a w := by
  obtain ⟨k1, k2, k3, θ, S, k4, k5⟩ := hi
  obtain ⟨_, ⟨_, ev⟩, _⟩ := sat_take h1 k5
  obtain ⟨ob, hown, hav, h6⟩ := sat_take h2 k5
  have hdn := blt_lt hd
  refine ⟨k1, k2, k3, θ, S, k4, sat_consO (ob := ob) (dead_nil _) ?_ hav (sat_consK ?_ rfl ?_)⟩
  · show (VA.own e K xs).sem θ S ob w (a.tmps.getD d undef)
    rw [ev]; exact hown
  · refine dead_iff (fun k hk => ?_)
    simp only [Ent.t, List.mem_singleton] at hk
    simp only [Ent.deps, Ent.gone, List.map_nil, List.nil_append, List.append_nil, List.mem_cons, List.not_mem_nil, or_false]
    omega
  · exact sat_mono h6 (fun k hk => by simp [Ent.r] at hk; simp [Ent.gone, hk]) (fun b hb => hb)
theorem goes_release {α : Type} {k : Code} (d id : Nat) {e : TypeId} {K : Kn α} {xs : List α} (hd : Nat.blt d 1000000 = true) (h1 : findE [] Γ d = some (Ent.t d (VA.rw id xs.length))) (h2 : findE [] Γ (5000000 + id) = some (Ent.r id e K xs)) (next : Goes P c (Ent.t d (VA.own e K xs) :: Ent.gone (5000000 + id) :: Γ) k Q) : Goes P c Γ k Q := fun a w hi => next a w (inv_release hd (has_find h1) (has_find h2) hi)
theorem goesO_release {α : Type} (d id : Nat) {e : TypeId} {K : Kn α} {xs : List α} (hd : Nat.blt d 1000000 = true) (h1 : findE [] Γ d = some (Ent.t d (VA.rw id xs.length))) (h2 : findE [] Γ (5000000 + id) = some (Ent.r id e K xs)) (next : GoesO P c (Ent.t d (VA.own e K xs) :: Ent.gone (5000000 + id) :: Γ) ops l Q) : GoesO P c Γ ops l Q := fun a w hi => next a w (inv_release hd (has_find h1) (has_find h2) hi)
theorem own_rowVal {α : Type} {e : TypeId} {K : Kn α} {xs : List α} {θ : Nat → Nat} {S : Blk} {ob : Blk} {w : World} {v : Value} (h : (VA.own e K xs).sem θ S ob w v) : ∃ b t, v = rowVal b t xs.length := by
  obtain ⟨_, inner, ⟨_, ho⟩, _⟩ := h
  rcases ho with ⟨rfl, hn⟩ | ⟨g, cap, cur, rfl, _⟩
  · exact ⟨0, 0, rfl⟩
  · exact ⟨g, cap + 1, rfl⟩
/-- A row of the frame's own gets a number. -/
theorem inv_number {α : Type} {a : Act} {w : World} {d : Nat} (id : Nat) {e : TypeId} {K : Kn α} {xs : List α} (hd : Nat.blt d 500000 = true) (hid : Nat.blt id 500000 = true) (h : Has [] Γ (Ent.t d (VA.own e K xs))) (hi : Inv c Γ a w) : Inv c (Ent.t d (VA.rw id xs.length) :: Ent.r id e K xs :: Ent.bind id :: Ent.bind (500000 + id) :: Γ) a w := by
  obtain ⟨k1, k2, k3, θ, S, k4, k5⟩ := hi
  obtain ⟨ob, hown, hav, h6⟩ := sat_take h k5
  have hdn := blt_lt hd
  have hidn := blt_lt hid
  have hown' : (VA.own e K xs).sem θ S ob w (a.tmps.getD d undef) := hown
  obtain ⟨b, t, hv⟩ := own_rowVal hown'
  let θ' : Nat → Nat := fun k => if k = id then b else if k = 500000 + id then t else θ k
  have e1 : θ' id = b := by simp [θ']
  have e2 : θ' (500000 + id) = t := by simp [θ']
  refine ⟨k1, k2, k3, θ', S, k4, ?_⟩
  refine sat_consK (dead_nil _) ⟨rfl, ?_⟩ (sat_consO (ob := ob) (dead_iff (fun k hk => ?_)) ?_ hav (sat_consK (dead_iff (fun k hk => ?_)) rfl (sat_consK (dead_iff (fun k hk => ?_)) rfl ?_)))
  · show a.tmps.getD d undef = rowVal (θ' id) (θ' (500000 + id)) xs.length
    rw [e1, e2]; exact hv
  · simp only [Ent.t, List.mem_singleton] at hk
    simp only [Ent.deps, Ent.r, List.map_cons, List.map_nil, List.nil_append, List.mem_cons, List.not_mem_nil, or_false]
    omega
  · show (VA.own e K xs).sem θ' S ob w (rowVal (θ' id) (θ' (500000 + id)) xs.length)
    rw [e1, e2, ← hv]
    exact (VA.own e K xs).move hown' (Agree.refl _ _) (fun b hb => hb) (fun b hb => rfl) (fun k hk => by cases hk)
  · simp only [Ent.t, Ent.r, List.mem_cons, List.not_mem_nil, or_false] at hk
    simp only [Ent.deps, Ent.bind, List.map_nil, List.nil_append, List.mem_cons, List.not_mem_nil, or_false]
    omega
  · simp only [Ent.t, Ent.r, Ent.bind, List.mem_cons, List.not_mem_nil, or_false] at hk
    simp only [Ent.deps, Ent.bind, List.map_nil, List.nil_append, List.mem_cons, List.not_mem_nil, or_false]
    omega
  · have h7 := sat_mono h6 (ks' := [1000000 + (500000 + id), 1000000 + id, 5000000 + id, d]) (fun k hk => by simp [Ent.t] at hk; simp [hk]) (fun b hb => hb)
    refine sat_move (θ' := θ') h7 (Agree.refl _ _) (fun b hb => hb) (fun b hb => rfl) (fun t _ => rfl) (fun k hk => ?_)
    have n1 : k ≠ id := fun e => hk (by simp [e, Ent.bind])
    have n2 : k ≠ 500000 + id := fun e => hk (by simp [e, Ent.bind])
    simp [θ', n1, n2]
theorem goes_number {α : Type} {k : Code} (d id : Nat) {e : TypeId} {K : Kn α} {xs : List α} (hd : Nat.blt d 500000 = true) (hid : Nat.blt id 500000 = true) (h : findE [] Γ d = some (Ent.t d (VA.own e K xs))) (next : Goes P c (Ent.t d (VA.rw id xs.length) :: Ent.r id e K xs :: Ent.bind id :: Ent.bind (500000 + id) :: Γ) k Q) : Goes P c Γ k Q := fun a w hi => next a w (inv_number id hd hid (has_find h) hi)
theorem goesO_number {α : Type} (d id : Nat) {e : TypeId} {K : Kn α} {xs : List α} (hd : Nat.blt d 500000 = true) (hid : Nat.blt id 500000 = true) (h : findE [] Γ d = some (Ent.t d (VA.own e K xs))) (next : GoesO P c (Ent.t d (VA.rw id xs.length) :: Ent.r id e K xs :: Ent.bind id :: Ent.bind (500000 + id) :: Γ) ops l Q) : GoesO P c Γ ops l Q := fun a w hi => next a w (inv_number id hd hid (has_find h) hi)
end
end Go.Proofs.Ytlpmolohppoofaa.Sl
/- Boxes told field by field: a field may hold a row or a map by number. -/
set_option linter.unusedVariables false
set_option linter.unusedSimpArgs false
set_option linter.unnecessarySimpa false
namespace Go.Proofs.Ytlpmolohppoofaa.Sl
open Go Go.RowKit
/-- What some cells of a box hold. -/
structure FA where
  off : Nat
  sz : Nat
  ids : List Nat
  sem : (Nat → Nat) → Blk → World → List Value → Prop
  move : ∀ {θ θ' : Nat → Nat} {S S' : Blk} {w w' : World} {cs : List Value}, sem θ S w cs → Agree S w w' → (∀ b, S b → S' b) → (∀ k, k ∈ ids → θ' k = θ k) → sem θ' S' w' cs
namespace FA
def k {α : Type} (off : Nat) (K : Kn α) (x : α) : FA where
  off := off
  sz := K.sz
  ids := []
  sem := fun _ S w cs => K.R S w x cs
  move := fun h hA hS _ => K.move h hA hS
def rw (off id n : Nat) : FA where
  off := off
  sz := 1
  ids := [id, 500000 + id]
  sem := fun θ _ _ cs => cs = [rowVal (θ id) (θ (500000 + id)) n]
  move := fun h _ _ hi => by rw [hi id (by simp), hi (500000 + id) (by simp)]; exact h
def mp (off id : Nat) : FA where
  off := off
  sz := 1
  ids := [id]
  sem := fun θ _ _ cs => cs = [.map (some (θ id))]
  move := fun h _ _ hi => by rw [hi id (by simp)]; exact h
def any (off sz : Nat) : FA where
  off := off
  sz := sz
  ids := []
  sem := fun _ _ _ _ => True
  move := fun h _ _ _ => h
end FA
def HE.boxf (e n : Nat) (fs : List FA) : HE where
  ids := fs.flatMap (·.ids)
  sem := fun θ b S w => ∃ cs, w.heap[b]? = some (.cells cs e (0, 0)) ∧ cs.size = n ∧ ∀ f, f ∈ fs → f.off + f.sz ≤ n ∧ f.sem θ S w ((cs.toList.drop f.off).take f.sz)
  move := by
    rintro θ θ' b S S' w w' ⟨cs, h1, h2, h3⟩ hA hS hb hi
    exact ⟨cs, hb.trans h1, h2, fun f hf => ⟨(h3 f hf).1, f.move (h3 f hf).2 hA hS (fun k hk => hi k (List.mem_flatMap.2 ⟨f, hf, hk⟩))⟩⟩
section
variable {P : Program} {n d : Nat} {ty t t' : TypeId} {pos : String} {af : Array Edge} {g : Option (Nat × Bool)} {N : Ent → Prop}
theorem cells_at {w : World} {b e off sz : Nat} {cs : Array Value} (hc : w.heap[b]? = some (.cells cs e (0, 0))) : ∀ i u, ((cs.toList.drop off).take sz)[i]? = some u → w.cell? ((⟨b, off, none⟩ : Addr).add i) = some u := fun i u hu => by
  rw [add_add, cell_of_row w b (off + i) cs e (0, 0) hc]
  rw [List.getElem?_take] at hu
  split at hu
  · rw [List.getElem?_drop] at hu
    simpa using hu
  · cases hu
theorem op_loadf {α : Type} {id off : Nat} {e m : Nat} {fs : List FA} {K : Kn α} {x : α} {o : Operand} (hd : Nat.blt d n = true) (hk : TK P t K) (hp : Arg N o (VA.ptr id off)) (hb : N (Ent.h id (HE.boxf e m fs))) (hf : FA.k off K x ∈ fs) :
    OpSpec P n ⟨some d, .load t o, ty, pos, af, g⟩ N [Ent.t d (VA.k K x)] := op_pure hd fun θ S act w hN => by
  obtain ⟨_, _, e1⟩ := hp θ S act w hN
  obtain ⟨_, _, cs, hc, hcs, hall⟩ := hN _ hb
  obtain ⟨_, hr⟩ := hall _ hf
  have hr' : K.R S w x ((cs.toList.drop off).take K.sz) := hr
  have hl := run_loadVar_at (w := w) (ad := ⟨θ id, off, none⟩) hk (K.len hr') (cells_at hc)
  refine ⟨_, ?_, rfl, _, hr', rfl⟩
  clear hp hN
  generalize act.eval = ρ at *
  simp [execOp, Instr.loadAt, Instr.sureAddr, e1, hl, Sem.run_bind, Sem.run_pure, Result.andThen_ok]
/-- A cell that is told as it is. -/
theorem op_loadf1 {A : VA} {id off : Nat} {e m : Nat} {fs : List FA} {f : FA} {o : Operand} (hd : Nat.blt d n = true) (ha : ∀ w, (isAgg t).run P w = .ok false w) (hp : Arg N o (VA.ptr id off)) (hb : N (Ent.h id (HE.boxf e m fs))) (hf : f ∈ fs) (ho : f.off = off) (h1 : f.sz = 1) (hA : ∀ θ S w v, f.sem θ S w [v] → A.sem θ S (bk none) w v) :
    OpSpec P n ⟨some d, .load t o, ty, pos, af, g⟩ N [Ent.t d A] := op_pure hd fun θ S act w hN => by
  obtain ⟨_, _, e1⟩ := hp θ S act w hN
  obtain ⟨_, _, cs, hc, hcs, hall⟩ := hN _ hb
  obtain ⟨hle, hr⟩ := hall _ hf
  rw [ho, h1] at hle hr
  have hlt : off < cs.toList.length := by simp [hcs]; omega
  have e2 : (cs.toList.drop off).take 1 = [cs.toList[off]] := by rw [List.drop_eq_getElem_cons hlt]; rfl
  rw [e2] at hr
  have hcell : w.cell? ⟨θ id, off, none⟩ = some cs.toList[off] := by
    have := cells_at (w := w) (off := off) (sz := 1) hc 0 _ (by rw [e2]; rfl)
    rwa [add_add, Nat.add_zero] at this
  refine ⟨_, ?_, hA _ _ _ _ hr⟩
  have hl : (loadVar t ⟨θ id, off, none⟩).run P w = .ok cs.toList[off] w := by
    unfold loadVar
    simp [Sem.run_bind, ha w, run_load, hcell]
  generalize cs.toList[off] = z at *
  clear hp hN
  generalize act.eval = ρ at *
  simp [execOp, Instr.loadAt, Instr.sureAddr, e1, hl, Sem.run_bind, Sem.run_pure, Result.andThen_ok]
end
end Go.Proofs.Ytlpmolohppoofaa.Sl
/- Boxes told field by field: stores. -/
set_option linter.unusedVariables false
set_option linter.unusedSimpArgs false
set_option linter.unnecessarySimpa false
namespace Go.Proofs.Ytlpmolohppoofaa.Sl
open Go Go.RowKit
theorem splice_get (l c : List Value) (off sz j : Nat) (hc : c.length = sz) (hl : off + sz ≤ l.length) : (l.take off ++ c ++ l.drop (off + sz))[j]? = if j < off then l[j]? else if j < off + sz then c[j - off]? else l[j]? := by
  by_cases h1 : j < off
  · rw [if_pos h1, List.append_assoc, List.getElem?_append_left (by simp; omega), List.getElem?_take, if_pos h1]
  · rw [if_neg h1, List.append_assoc, List.getElem?_append_right (by simp; omega)]
    have e : (l.take off).length = off := by simp; omega
    rw [e]
    by_cases h2 : j < off + sz
    · rw [if_pos h2, List.getElem?_append_left (by omega)]
    · rw [if_neg h2, List.getElem?_append_right (by omega), List.getElem?_drop]
      congr 1
      omega
theorem splice_other (l c : List Value) (off sz a s : Nat) (hc : c.length = sz) (hl : off + sz ≤ l.length) (hd : a + s ≤ off ∨ off + sz ≤ a) : ((l.take off ++ c ++ l.drop (off + sz)).drop a).take s = (l.drop a).take s := by
  refine List.ext_getElem? (fun i => ?_)
  rw [List.getElem?_take, List.getElem?_take]
  split
  · rename_i hi
    rw [List.getElem?_drop, List.getElem?_drop, splice_get l c off sz _ hc hl]
    rcases hd with hd | hd
    · rw [if_pos (by omega)]
    · rw [if_neg (by omega), if_neg (by omega)]
  · rfl
theorem splice_here (l c : List Value) (off sz : Nat) (hc : c.length = sz) (hl : off + sz ≤ l.length) : ((l.take off ++ c ++ l.drop (off + sz)).drop off).take sz = c := by
  refine List.ext_getElem? (fun i => ?_)
  rw [List.getElem?_take]
  split
  · rename_i hi
    rw [List.getElem?_drop, splice_get l c off sz _ hc hl, if_neg (by omega), if_pos (by omega)]
    congr 1
    omega
  · rename_i hi
    rw [List.getElem?_eq_none (by omega)]
section
variable {P : Program} {n d : Nat} {ty t t' : TypeId} {pos : String} {af : Array Edge} {g : Option (Nat × Bool)} {N : Ent → Prop}
theorem op_storef {A : VA} {id off : Nat} {e m : Nat} {l1 l2 : List FA} {f f' : FA} {o z : Operand} (hs : ∀ w, (sizeOf t).run P w = .ok f'.sz w) (hV : ∀ θ S w v, A.sem θ S (bk none) w v → v.cells.size = f'.sz ∧ (∀ u, u ∈ v.cells.toList → u.oneCell' = true) ∧ f'.sem θ S w v.cells.toList) (hA : Plain A) (ho : f.off = off) (hz' : f.sz = f'.sz) (ho' : f'.off = off)
    (hdis : (l1 ++ l2).all (fun g => Nat.ble (g.off + g.sz) off || Nat.ble (off + f'.sz) g.off) = true) (hp : Arg N o (VA.ptr id off)) (hb : N (Ent.h id (HE.boxf e m (l1 ++ f :: l2)))) (hz : Arg N z A) :
    OpSpec P n ⟨none, .store t o z, ty, pos, af, g⟩ N [Ent.h id (HE.boxf e m (l1 ++ f' :: l2))] := by
  rintro c Γ a w Q rfl hN ⟨h1, h2, h3, θ, S, h4, h5⟩
  have hN2 := sems hN h5
  obtain ⟨_, _, e1⟩ := hp θ S a w hN2
  obtain ⟨obz, hv⟩ := hz θ S a w hN2
  obtain rfl := hA hv
  obtain ⟨v1, v2, v3⟩ := hV _ _ _ _ hv
  obtain ⟨ob, ⟨rfl, cs, hc, hcs, hall⟩, hav, h6⟩ := sat_take (hN _ hb) h5
  have hfree := hav _ rfl
  have hle : off + f'.sz ≤ m := by have := (hall f (by simp)).1; omega
  have hst := run_storeCells_at (P := P) (θ id) off e (a.eval z).cells.toList 0 cs w hc (by simp [v1, hcs]; omega) v2
  have hvl : (a.eval z).cells.toList.length = f'.sz := by simpa using v1
  simp only [Nat.add_zero, hvl] at hst
  generalize hnew : (cs.toList.take off ++ (a.eval z).cells.toList ++ cs.toList.drop (off + f'.sz)).toArray = new at hst
  have hrun : (execOp a.eval ⟨none, .store t o z, ty, pos, af, g⟩).run P w = .ok .skip (w.setRow (θ id) new) := by
    have hs1 := hs w
    clear hv hN hN2 hp hz h1 h2 h5 h6 hnew v3
    generalize a.eval = ρ at *
    simp [execOp, Instr.storeAt, Instr.sureAddr, e1, storeVar, hs1, v1, hst, Sem.run_bind, Sem.run_pure, Result.andThen_ok]
  unfold Oper.wp
  rw [hrun]
  have hne : ∀ b, S b → b ≠ θ id := fun b hs e => hfree.1 (e ▸ hs)
  have hag : Agree S w (w.setRow (θ id) new) := fun b hs => setRow_ne _ _ _ _ (hne b hs)
  have hcl : off + f'.sz ≤ cs.toList.length := by simp [hcs]; omega
  show Inv c _ (a.put none undef) _
  refine ⟨h1, h2, h3.setRow hfree.2.2 _, θ, S, h4.grow (by rw [setRow_size]; exact Nat.le_refl _), ?_⟩
  refine sat_consB (b := θ id) (dead_nil _) ⟨rfl, new, setRow_heap w _ _ _ e (0, 0) hc, ?_, fun q hq => ?_⟩ ⟨hfree.1, by rw [setRow_size]; exact hfree.2.1, hfree.2.2⟩ ?_
  · rw [← hnew]; simp [hcs]; omega
  · have hnl : new.toList = cs.toList.take off ++ (a.eval z).cells.toList ++ cs.toList.drop (off + f'.sz) := by rw [← hnew]
    rw [hnl]
    have key : q ∈ l1 ++ l2 → q.off + q.sz ≤ m ∧ q.sem θ S (w.setRow (θ id) new) (((cs.toList.take off ++ (a.eval z).cells.toList ++ cs.toList.drop (off + f'.sz)).drop q.off).take q.sz) := fun hm => by
      have hmem : q ∈ l1 ++ f :: l2 := by rcases List.mem_append.1 hm with h | h <;> simp [h]
      obtain ⟨g1, g2⟩ := hall q hmem
      have hd := List.all_eq_true.1 hdis q hm
      rw [splice_other _ _ off f'.sz q.off q.sz hvl hcl (by
        rcases Bool.or_eq_true _ _ ▸ hd with h | h
        · exact .inl (Nat.le_of_ble_eq_true h)
        · exact .inr (Nat.le_of_ble_eq_true h))]
      exact ⟨g1, q.move g2 hag (fun b hb => hb) (fun k _ => rfl)⟩
    rcases List.mem_append.1 hq with h | h
    · exact key (List.mem_append_left _ h)
    · rcases List.mem_cons.1 h with rfl | h
      · refine ⟨by omega, ?_⟩
        rw [ho', splice_here _ _ off q.sz hvl hcl]
        exact q.move v3 hag (fun b hb => hb) (fun k _ => rfl)
      · exact key (List.mem_append_right _ h)
  · refine sat_mono (sat_move h6 hag (fun b hb => hb) (fun b hb => setRow_ne _ _ _ _ (fun e => hb.2 (by rw [e]))) (fun t _ => rfl) (fun k _ => rfl)) (fun k hk => hk) (fun b hb => ⟨⟨hb.1.1, by rw [setRow_size]; exact hb.1.2.1, hb.1.2.2⟩, fun e => hb.2 (by rw [e])⟩)
end
end Go.Proofs.Ytlpmolohppoofaa.Sl
/- Boxes told field by field: made, and read again as one value. -/
set_option linter.unusedVariables false
set_option linter.unusedSimpArgs false
set_option linter.unnecessarySimpa false
namespace Go.Proofs.Ytlpmolohppoofaa.Sl
open Go Go.RowKit
/-- What numbered row id holds, for reading. -/
def Ent.rk {α : Type} (id : Nat) (K : Kn α) (xs : List α) : Ent where
  key := 5000000 + id
  slots := []
  ids := [id, 500000 + id]
  sem := fun θ S ob _ w => (VA.k (kslice K) xs).sem θ S ob w (rowVal (θ id) (θ (500000 + id)) xs.length)
  move := fun {θ θ' S S' ob a a' w w'} h hA hS hb _ hi => by
    show (VA.k (kslice K) xs).sem θ' S' ob w' _
    rw [hi id (by simp), hi (500000 + id) (by simp)]
    exact (VA.k (kslice K) xs).move h hA hS hb (fun k hk => by cases hk)
section
variable {P : Program} {c : Ctx} {Γ : List Ent} {Q : Exit → Act → World → Prop} {ops : Array Oper} {l : List Oper}
/-- What is told field by field may be told as one value. -/
theorem inv_whole {α : Type} {a : Act} {w : World} {id e m : Nat} {fs : List FA} {K : Kn α} {x : α} (h : Has [] Γ (Ent.h id (HE.boxf e m fs))) (hw : ∀ θ S w cs, cs.length = m → (∀ f, f ∈ fs → f.off + f.sz ≤ m ∧ f.sem θ S w ((cs.drop f.off).take f.sz)) → K.R S w x cs) (hi : Inv c Γ a w) : Inv c (Ent.h id (HE.box e K x) :: Γ) a w := by
  obtain ⟨k1, k2, k3, θ, S, k4, k5⟩ := hi
  obtain ⟨ob, ⟨rfl, cs, hc, hcs, hall⟩, hav, h6⟩ := sat_take h k5
  refine ⟨k1, k2, k3, θ, S, k4, sat_consB (b := θ id) (dead_nil _) ⟨rfl, cs, hc, ?_⟩ (hav _ rfl) ?_⟩
  · exact hw θ S w cs.toList (by simp [hcs]) hall
  · exact sat_mono h6 (fun k hk => hk) (fun b hb => ⟨hb.1, fun e => hb.2 (by rw [e])⟩)
theorem goesO_whole {α : Type} (id : Nat) {e m : Nat} {fs : List FA} {K : Kn α} {x : α} (h : findE [] Γ (2000000 + id) = some (Ent.h id (HE.boxf e m fs))) (hw : ∀ θ S w cs, cs.length = m → (∀ f, f ∈ fs → f.off + f.sz ≤ m ∧ f.sem θ S w ((cs.drop f.off).take f.sz)) → K.R S w x cs) (next : GoesO P c (Ent.h id (HE.box e K x) :: Γ) ops l Q) : GoesO P c Γ ops l Q := fun a w hi => next a w (inv_whole (has_find h) hw hi)
theorem goes_whole {α : Type} {k : Code} (id : Nat) {e m : Nat} {fs : List FA} {K : Kn α} {x : α} (h : findE [] Γ (2000000 + id) = some (Ent.h id (HE.boxf e m fs))) (hw : ∀ θ S w cs, cs.length = m → (∀ f, f ∈ fs → f.off + f.sz ≤ m ∧ f.sem θ S w ((cs.drop f.off).take f.sz)) → K.R S w x cs) (next : Goes P c (Ent.h id (HE.box e K x) :: Γ) k Q) : Goes P c Γ k Q := fun a w hi => next a w (inv_whole (has_find h) hw hi)
/-- And the other way: one value, field by field. -/
theorem inv_fields {α : Type} {a : Act} {w : World} {id e : Nat} {fs : List FA} {K : Kn α} {x : α} (h : Has [] Γ (Ent.h id (HE.box e K x))) (hids : fs.flatMap (·.ids) = []) (hw : ∀ θ S w cs, K.R S w x cs → ∀ f, f ∈ fs → f.off + f.sz ≤ K.sz ∧ f.sem θ S w ((cs.drop f.off).take f.sz)) (hi : Inv c Γ a w) : Inv c (Ent.h id (HE.boxf e K.sz fs) :: Γ) a w := by
  obtain ⟨k1, k2, k3, θ, S, k4, k5⟩ := hi
  obtain ⟨ob, ⟨rfl, cs, hc, hr⟩, hav, h6⟩ := sat_take h k5
  refine ⟨k1, k2, k3, θ, S, k4, sat_consB (b := θ id) (dead_nil _) ⟨rfl, cs, hc, ?_, hw θ S w cs.toList hr⟩ (hav _ rfl) ?_⟩
  · rw [← Array.length_toList, K.len hr]
  · exact sat_mono h6 (fun k hk => hk) (fun b hb => ⟨hb.1, fun e => hb.2 (by rw [e])⟩)
/-- A numbered row that is only read from now on. -/
theorem inv_settle_r {α : Type} {a : Act} {w : World} {id : Nat} {e : TypeId} {K : Kn α} {xs : List α} (hp : 0 < K.sz) (h : Has [] Γ (Ent.r id e K xs)) (hi : Inv c Γ a w) : Inv c (Ent.rk id K xs :: Γ) a w := by
  obtain ⟨h1, h2, h3, θ, S, h4, h5⟩ := hi
  obtain ⟨ob, hs, hav, h6⟩ := sat_take h h5
  refine ⟨h1, h2, h3, θ, (fun b => S b ∨ ob b), fun b hb => ?_, sat_cons (own_reads (θ := θ) hs (fun b hb => .inl hb) (fun b hb => .inr hb) hp) ?_⟩
  · rcases hb with hb | hb
    · exact h4 b hb
    · have := hav b hb
      exact ⟨this.2.1, .inr this.2.2⟩
  · refine sat_mono (sat_move h6 (Agree.refl _ _) (fun b hb => .inl hb) (fun b _ => rfl) (fun t _ => rfl) (fun k _ => rfl)) (fun k hk => hk) (fun b hb => ⟨fun hS => ?_, hb.1.2⟩)
    rcases hS with hS | hS
    · exact hb.1.1 hS
    · exact hb.2 hS
/-- A field that holds such a row. -/
theorem inv_field_k {α : Type} {a : Act} {w : World} {id r e m off : Nat} {l1 l2 : List FA} {K : Kn α} {xs : List α} (h : Has [] Γ (Ent.h id (HE.boxf e m (l1 ++ FA.rw off r xs.length :: l2)))) (hr : Has [] Γ (Ent.rk r K xs)) (hi : Inv c Γ a w) : Inv c (Ent.h id (HE.boxf e m (l1 ++ FA.k off (kslice K) xs :: l2)) :: Γ) a w := by
  obtain ⟨k1, k2, k3, θ, S, k4, k5⟩ := hi
  obtain ⟨_, ⟨_, cr, hk, hv⟩, _⟩ := sat_take hr k5
  obtain ⟨ob, ⟨rfl, cs, hc, hcs, hall⟩, hav, h6⟩ := sat_take h k5
  refine ⟨k1, k2, k3, θ, S, k4, sat_consB (b := θ id) (dead_nil _) ⟨rfl, cs, hc, hcs, fun q hq => ?_⟩ (hav _ rfl) ?_⟩
  · rcases List.mem_append.1 hq with h | h
    · exact hall q (by simp [h])
    · rcases List.mem_cons.1 h with rfl | h
      · obtain ⟨g1, g2⟩ := hall (FA.rw off r xs.length) (by simp)
        refine ⟨g1, ?_⟩
        show (kslice K).R S w xs ((cs.toList.drop off).take 1)
        have g3 : (cs.toList.drop off).take 1 = [rowVal (θ r) (θ (500000 + r)) xs.length] := g2
        obtain ⟨A, cp, rfl, q1⟩ := hk
        rw [g3, hv]
        exact ⟨A, cp, rfl, q1⟩
      · exact hall q (by simp [h])
  · exact sat_mono h6 (fun k hk => hk) (fun b hb => ⟨hb.1, fun e => hb.2 (by rw [e])⟩)
theorem Arg.rw_k {α : Type} {N : Ent → Prop} {x : Operand} {r : Nat} {K : Kn α} {xs : List α} (h : Arg N x (VA.rw r xs.length)) (hr : N (Ent.rk r K xs)) : Arg N x (VA.k (kslice K) xs) := fun θ S a w hN => by
  obtain ⟨_, _, e1⟩ := h θ S a w hN
  obtain ⟨_, h2⟩ := hN _ hr
  exact ⟨bk none, by rw [e1]; exact ⟨rfl, h2.2⟩⟩
end
end Go.Proofs.Ytlpmolohppoofaa.Sl
/- Boxes told field by field: made; a nil field gets a row's number. -/
set_option linter.unusedVariables false
set_option linter.unusedSimpArgs false
set_option linter.unnecessarySimpa false
namespace Go.Proofs.Ytlpmolohppoofaa.Sl
open Go Go.RowKit
/-- A cell as it is. -/
def FA.v (off : Nat) (z : Value) : FA where
  off := off
  sz := 1
  ids := []
  sem := fun _ _ _ cs => cs = [z]
  move := fun h _ _ _ => h
section
variable {P : Program} {n d : Nat} {ty t t' : TypeId} {pos : String} {af : Array Edge} {g : Option (Nat × Bool)} {N : Ent → Prop}
theorem op_allocf {v : Value} {m : Nat} {fs : List FA} (id : Nat) (hd : Nat.blt d n = true) (hz : (P.info? t).bind (·.zero) = some v) (hs : v.cells.size = m) (hfs : ∀ θ S w f, f ∈ fs → f.off + f.sz ≤ m ∧ f.sem θ S w ((v.cells.toList.drop f.off).take f.sz)) :
    OpSpec P n ⟨some d, .alloc t, ty, pos, af, g⟩ N [Ent.t d (VA.ptr id 0), Ent.h id (HE.boxf t m fs), Ent.bind id] := by
  rintro c Γ a w Q rfl hN ⟨h1, h2, h3, θ, S, h4, h5⟩
  have hv : (zeroValue t).run P w = .ok v w := by
    cases hi : P.info? t with
    | none => rw [hi] at hz; cases hz
    | some i =>
      rw [hi] at hz
      have hz' : i.zero = some v := hz
      simp [zeroValue, typeInfo, hi, hz', Sem.run_bind]
  have hrun : (execOp a.eval ⟨some d, .alloc t, ty, pos, af, g⟩).run P w = .ok (.value (.pointer (some ⟨w.heap.size, 0, none⟩))) (w.alloc (.cells v.cells t)) := by
    simp [execOp, Instr.alloc, newVar, newRow, newObj, hv, Sem.run_bind, Sem.run_pure, Result.andThen_ok]
    rfl
  unfold Oper.wp
  rw [hrun]
  exact inv_box hd h1 h2 h3 h4 h5 _ (fun θ' h => ⟨rfl, by rw [h]⟩) (fun θ' _ _ => ⟨_, heap_alloc_new w _, hs, fun f hf => hfs _ _ _ f hf⟩)
end
section
variable {P : Program} {c : Ctx} {Γ : List Ent} {Q : Exit → Act → World → Prop} {ops : Array Oper} {l : List Oper}
theorem inv_nilrow {α : Type} {a : Act} {w : World} {id e m off : Nat} {l1 l2 : List FA} (r : Nat) (e' : TypeId) (K : Kn α) (hr : Nat.blt r 500000 = true) (hid : Nat.blt id 500000 = true) (hne : Nat.beq id r = false) (hno : ((l1 ++ l2).flatMap (·.ids)).all (fun k => !Nat.beq k r && !Nat.beq k (500000 + r)) = true)
    (h : Has [] Γ (Ent.h id (HE.boxf e m (l1 ++ FA.v off (.slice none 0 0) :: l2)))) (hi : Inv c Γ a w) : Inv c (Ent.h id (HE.boxf e m (l1 ++ FA.rw off r 0 :: l2)) :: Ent.r r e' K [] :: Ent.bind r :: Ent.bind (500000 + r) :: Γ) a w := by
  obtain ⟨k1, k2, k3, θ, S, k4, k5⟩ := hi
  obtain ⟨ob, ⟨rfl, cs, hc, hcs, hall⟩, hav, h6⟩ := sat_take h k5
  have hrn := blt_lt hr
  have hidn := blt_lt hid
  have hidr : id ≠ r := fun e => by rw [e, Nat.beq_refl] at hne; cases hne
  let θ' : Nat → Nat := fun k => if k = r then 0 else if k = 500000 + r then 0 else θ k
  have e0 : θ' id = θ id := by simp [θ', hidr, show id ≠ 500000 + r by omega]
  have e1 : θ' r = 0 := by simp [θ']
  have e2 : θ' (500000 + r) = 0 := by simp [θ']
  have hsame : ∀ q, q ∈ l1 ++ l2 → ∀ k, k ∈ q.ids → θ' k = θ k := fun q hq k hk => by
    have := List.all_eq_true.1 hno k (List.mem_flatMap.2 ⟨q, hq, hk⟩)
    simp only [Bool.and_eq_true, Bool.not_eq_true'] at this
    have n1 : k ≠ r := fun e => by rw [e, Nat.beq_refl] at this; cases this.1
    have n2 : k ≠ 500000 + r := fun e => by rw [e, Nat.beq_refl] at this; cases this.2
    simp [θ', n1, n2]
  refine ⟨k1, k2, k3, θ', S, k4, ?_⟩
  refine sat_consB (b := θ id) (dead_nil _) ⟨by rw [e0], cs, by rw [e0]; exact hc, hcs, fun q hq => ?_⟩ (hav _ rfl) (sat_consK (dead_iff (fun k hk => ?_)) ?_ (sat_consK (dead_iff (fun k hk => ?_)) rfl (sat_consK (dead_iff (fun k hk => ?_)) rfl ?_)))
  · have key : q ∈ l1 ++ l2 → q.off + q.sz ≤ m ∧ q.sem θ' S w ((cs.toList.drop q.off).take q.sz) := fun hm => by
      obtain ⟨g1, g2⟩ := hall q (by rcases List.mem_append.1 hm with h | h <;> simp [h])
      exact ⟨g1, q.move g2 (Agree.refl _ _) (fun b hb => hb) (hsame q hm)⟩
    rcases List.mem_append.1 hq with h | h
    · exact key (List.mem_append_left _ h)
    · rcases List.mem_cons.1 h with rfl | h
      · obtain ⟨g1, g2⟩ := hall (FA.v off (.slice none 0 0)) (by simp)
        refine ⟨g1, ?_⟩
        show (cs.toList.drop off).take 1 = [rowVal (θ' r) (θ' (500000 + r)) 0]
        rw [e1, e2]; exact g2
      · exact key (List.mem_append_right _ h)
  · simp only [Ent.h, List.mem_singleton] at hk
    simp only [Ent.deps, Ent.r, List.map_cons, List.map_nil, List.nil_append, List.mem_cons, List.not_mem_nil, or_false]
    omega
  · show (VA.own e' K []).sem θ' S (bk none) w (rowVal (θ' r) (θ' (500000 + r)) 0)
    rw [e1, e2]
    exact ⟨rfl, [], World.ownsRow_nil _ _ _ _, fun j p h => by simp at h⟩
  · simp only [Ent.h, Ent.r, List.mem_cons, List.not_mem_nil, or_false] at hk
    simp only [Ent.deps, Ent.bind, List.map_nil, List.nil_append, List.mem_cons, List.not_mem_nil, or_false]
    omega
  · simp only [Ent.h, Ent.r, Ent.bind, List.mem_cons, List.not_mem_nil, or_false] at hk
    simp only [Ent.deps, Ent.bind, List.map_nil, List.nil_append, List.mem_cons, List.not_mem_nil, or_false]
    omega
  · have h7 := sat_mono h6 (ks' := [1000000 + (500000 + r), 1000000 + r, 5000000 + r, 2000000 + id]) (fun k hk => by simp [Ent.h] at hk; simp [hk]) (fun b hb => hb)
    refine sat_mono (sat_move (θ' := θ') h7 (Agree.refl _ _) (fun b hb => hb) (fun b hb => rfl) (fun t _ => rfl) (fun k hk => ?_)) (fun k hk => hk) (fun b hb => ⟨hb.1, fun e => hb.2 (by rw [e])⟩)
    have n1 : k ≠ r := fun e => hk (by simp [e])
    have n2 : k ≠ 500000 + r := fun e => hk (by simp [e])
    simp [θ', n1, n2]
/-- What is known is told in other words. -/
theorem goesO_by {Δ : List Ent} (h : ∀ a w, Inv c Γ a w → Inv c Δ a w) (next : GoesO P c Δ ops l Q) : GoesO P c Γ ops l Q := fun a w hi => next a w (h a w hi)
theorem goes_by {Δ : List Ent} {k : Code} (h : ∀ a w, Inv c Γ a w → Inv c Δ a w) (next : Goes P c Δ k Q) : Goes P c Γ k Q := fun a w hi => next a w (h a w hi)
theorem ends_by {Δ : List Ent} {x : Exit} (h : ∀ a w, Inv c Γ a w → Inv c Δ a w) (next : Ends c Δ Q x) : Ends c Γ Q x := fun a w hi => next a w (h a w hi)
end
end Go.Proofs.Ytlpmolohppoofaa.Sl
/- Shifts. -/
set_option linter.unusedVariables false
set_option linter.unusedSimpArgs false
namespace Go.Proofs.Ytlpmolohppoofaa.Sl
open Go Go.RowKit
section
variable {P : Program} {n d : Nat} {ty t t' : TypeId} {pos : String} {af : Array Edge} {g : Option (Nat × Bool)} {N : Ent → Prop}
theorem op_shr {k k' : IntKind} {a b : Int} {x y : Operand} (hd : Nat.blt d n = true) (h0 : 0 ≤ b) (hb : b < k.bits) (hx : Arg N x (VA.k (kint k) a)) (hy : Arg N y (VA.k (kint k') b)) :
    OpSpec P n ⟨some d, .binOp .shr t x y t', ty, pos, af, g⟩ N [Ent.t d (VA.k (kint k) (a / 2 ^ b.toNat))] := op_pure hd fun θ S act w hN => by
  obtain ⟨_, h1⟩ := hx θ S act w hN
  obtain ⟨_, h2⟩ := hy θ S act w hN
  refine ⟨_, ?_, mk_int _ _ _ _ _⟩
  have e1 := k_int h1
  have e2 := k_int h2
  clear h1 h2 hx hy hN
  generalize act.eval = ρ at *
  have hs := shift_shr k k' a b h0 (by omega)
  have hb2 : binOp .shr t (.int k a) (.int k' b) = Op.shift .shr k a k' b := rfl
  simp [execOp, eqGuard, e1, e2, hb2, hs, Sem.run_bind, Sem.run_pure, Result.andThen_ok]
end
end Go.Proofs.Ytlpmolohppoofaa.Sl
