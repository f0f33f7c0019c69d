import Derived.Test.YtlpmolohppoofaaSm1
import Derived.SizedLaws
import Derived.ChangeArms
import Derived.Deep.Slices
import Derived.WideShapes
import Derived.ProofKit
import Derived.OpenShut
import Derived.ShutString
import Derived.ChangeOld
import Derived.Carry
/- Maps that a call hands back, or writes for its caller. -/
set_option linter.unusedVariables false
set_option linter.unusedSimpArgs false
set_option linter.unnecessarySimpa false
set_option linter.deprecated false
namespace Go.Proofs.Ytlpmolohppoofaa.Sl
open Go Go.RowKit Go.WideMaps Go.Maps
section
variable {P : Program} {c : Ctx} {Γ : List Ent} {Q : Exit → Act → World → Prop} {ops : Array Oper} {l : List Oper}
/-- A map of the frame's own gets a number. -/
theorem inv_adopt {α : Type} {kt : TypeId} {K : Kn α} {agg : Bool} {m : GM α} {a : Act} {w : World} {d : Nat} (id : Nat) (hd : Nat.blt d 1000000 = true) (h : Has [] Γ (Ent.t d (VA.om P kt K agg m))) (hi : Inv c Γ a w) : Inv c (Ent.t d (VA.mp agg id) :: Ent.h id (HE.map P kt K m) :: Ent.bind id :: Γ) a w := by
  obtain ⟨h1, h2, h3, θ, S, h4, h5⟩ := hi
  obtain ⟨ob, ⟨b, rfl, hv, hm⟩, hav, h6⟩ := sat_take h h5
  have hfree := hav b rfl
  have hdn := blt_lt hd
  refine ⟨h1, h2, h3, (fun k => if k = id then b else θ k), S, h4, ?_⟩
  refine sat_consK (dead_nil _) ?_ (sat_consB (b := b) ?_ ?_ hfree (sat_consK ?_ rfl ?_))
  · refine ⟨rfl, ?_⟩
    show a.tmps.getD d undef = wrapM agg (.map (some (if id = id then b else θ id)))
    rw [if_pos rfl]; exact hv
  · refine dead_iff (fun k hk => ?_)
    simp only [Ent.t, List.mem_singleton] at hk
    simp only [Ent.deps, Ent.h, HE.map, List.map_cons, List.map_nil, List.nil_append, List.mem_cons, List.not_mem_nil, or_false]
    omega
  · refine ⟨by simp, ?_⟩
    show MapS P kt K S w (if id = id then b else θ id) m
    rw [if_pos rfl]; exact hm
  · refine dead_iff (fun k hk => ?_)
    simp only [Ent.t, Ent.h, List.mem_cons, List.not_mem_nil, or_false] at hk
    simp only [Ent.deps, Ent.bind, List.map_nil, List.nil_append, List.mem_cons, List.not_mem_nil, or_false]
    omega
  · have h7 := sat_mono h6 (ks' := [1000000 + id, 2000000 + id, d]) (fun k hk => by simp [Ent.t] at hk; simp [hk]) (fun b hb => hb)
    refine sat_mono (sat_move (θ' := fun k => if k = id then b else θ k) h7 (Agree.refl _ _) (fun b hb => hb) (fun b hb => rfl) (fun t _ => rfl) (fun k hk => ?_)) (fun k hk => hk) (fun b' hb => ⟨hb.1, fun e => hb.2 (by rw [e])⟩)
    have : k ≠ id := fun e => hk (by simp [e])
    simp [this]
theorem goesO_adopt {α : Type} {kt : TypeId} {K : Kn α} {agg : Bool} {m : GM α} (d id : Nat) (hd : Nat.blt d 1000000 = true) (h : findE [] Γ d = some (Ent.t d (VA.om P kt K agg m))) (next : GoesO P c (Ent.t d (VA.mp agg id) :: Ent.h id (HE.map P kt K m) :: Ent.bind id :: Γ) ops l Q) : GoesO P c Γ ops l Q := fun a w hi => next a w (inv_adopt id hd (has_find h) hi)
end
/-- A map, by its number, is handed back. -/
theorem Rets.m {P : Program} {Γ : List Ent} {α : Type} {kt : TypeId} {K : Kn α} {agg : Bool} {m : GM α} {ks : List Nat} {r id : Nat} {rs : List ResultVar} {As : List VA} (h1 : findE [] Γ r = some (Ent.t r (VA.mp agg id))) (h2 : findE ks Γ (2000000 + id) = some (Ent.h id (HE.map P kt K m))) (h : Rets P Γ ((2000000 + id) :: ks) rs As) : Rets P Γ ks (.tmp r :: rs) (VA.om P kt K agg m :: As) := .g (key := 2000000 + id) (fun F θ S a w av0 av hF hG h0 hs => by
  obtain ⟨_, ⟨_, e1⟩, _⟩ := sat_take (has_find h1) h0
  obtain ⟨ob, ⟨rfl, hm⟩, g2, g3⟩ := sat_take (has_find h2) hs
  exact ⟨a.tmps.getD r undef, bk (some (θ id)), by rw [hF, Sem.run_pure], ⟨θ id, rfl, e1, hm⟩, g2, g3⟩) h
theorem ArgB.om {α : Type} {P : Program} {kt : TypeId} {K : Kn α} {N : Ent → Prop} {s : Nat} {m : GM α} (h : N (Ent.t s (VA.om P kt K false m))) : ArgB N (.tmp s) (VA.k (kmap P kt K) m) := fun θ S a w hN hS => by
  obtain ⟨_, ⟨b, rfl, e1, hm⟩, hlt⟩ := hN _ h
  exact ⟨rfl, [.map (some b)], ⟨b, rfl, hlt _ rfl, hm.move (Agree.refl _ _) hS rfl⟩, e1⟩
/-! ### a map that a call writes -/
/-- Number id names block b. -/
def Ent.isb (id b : Nat) : Ent where
  key := 4000000 + id
  slots := []
  ids := [id]
  sem := fun θ _ ob _ _ => ob = bk none ∧ θ id = b
  move := by rintro θ θ' S S' ob a a' w w' ⟨h0, h⟩ _ _ _ _ hi; exact ⟨h0, by rw [hi id (by simp)]; exact h⟩
end Go.Proofs.Ytlpmolohppoofaa.Sl
/- Keys taken out of a map; contracts out of plain calls. -/
set_option linter.unusedVariables false
set_option linter.unusedSimpArgs false
set_option linter.unnecessarySimpa false
set_option linter.deprecated false
namespace Go.Proofs.Ytlpmolohppoofaa.Sl
open Go Go.RowKit Go.WideMaps Go.Maps
/-- A contract out of what is known of a call that turns nothing. -/
theorem con_plain {P : Program} {f : FuncId} {As : List VA} {A : VA} (h : ∀ θ S w vs, argSat θ S w As vs → ∃ v, Calls P f vs.toArray w (fun e w' => e = .returned v ∧ w' = w) ∧ A.sem θ S (bk none) w v) : Con P f As [A] := fun θ S w vs hS ha => by
  obtain ⟨v, hc, hA⟩ := h θ S w vs ha
  refine hc.mono ?_
  rintro e w' ⟨rfl, rfl⟩
  refine ⟨[v], fun _ => False, rfl, Fr.refl _ _, fun b hb => hb.elim, bk none, ?_, fun b hb => (by cases hb), trivial⟩
  exact A.move hA (Agree.refl _ _) (fun b hb => .inl hb) (fun b hb => rfl) (fun k _ => rfl)
theorem arg_str {θ : Nat → Nat} {S : Blk} {w : World} {x : ByteArray} {v : Value} (h : (VA.k kstr x).sem θ S (bk none) w v) : v = .string x := by
  obtain ⟨_, cs, rfl, rfl⟩ := h; rfl
theorem arg_int {θ : Nat → Nat} {S : Blk} {w : World} {k : IntKind} {x : Int} {v : Value} (h : (VA.k (kint k) x).sem θ S (bk none) w v) : v = .int k x := by
  obtain ⟨_, cs, rfl, rfl⟩ := h; rfl
theorem va_int {θ : Nat → Nat} {S : Blk} {w : World} (k : IntKind) (x : Int) : (VA.k (kint k) x).sem θ S (bk none) w (.int k x) := ⟨rfl, _, rfl, rfl⟩
end Go.Proofs.Ytlpmolohppoofaa.Sl
/- A closure that calls itself, counts in a captured variable and writes a captured map: walk.Count's. -/
set_option linter.unusedVariables false
set_option linter.unusedSimpArgs false
set_option linter.unnecessarySimpa false
set_option linter.deprecated false
namespace Go.Proofs.Ytlpmolohppoofaa.Sl
open Go Go.RowKit Go.WideMaps Go.Maps
theorem MapS.free {α : Type} {P : Program} {kt : TypeId} {K : Kn α} (hK : KFree K) {S S' : Blk} {w : World} {b : Nat} {m : GM α} (h : MapS P kt K S w b m) : MapS P kt K S' w b m := by
  obtain ⟨f, h1, h2⟩ := h
  refine ⟨f, h1, fun s => ?_⟩
  have := h2 s
  split at this
  · exact this
  · rename_i x hg
    obtain ⟨cs, h3, h4⟩ := this
    exact ⟨cs, hK h3, h4⟩
end Go.Proofs.Ytlpmolohppoofaa.Sl
/- From the claim's reading of an argument to a kind's: each kind, once. -/
set_option linter.unusedVariables false
set_option linter.unusedSimpArgs false
set_option linter.unnecessarySimpa false
set_option linter.deprecated false
namespace Go.Proofs.Ytlpmolohppoofaa.Sl
open Go Go.RowKit Go.WideShapes Go.ChangeAt
theorem cell_lt {w : World} {ad : Addr} {u : Value} (h : w.cell? ad = some u) : ad.block < w.heap.size := by
  rcases Nat.lt_or_ge ad.block w.heap.size with h1 | h1
  · exact h1
  · exfalso
    unfold World.cell? at h
    rw [Array.getElem?_eq_none h1] at h
    cases h
section
variable {P : Program} {α β : Type}
def whole (W : World) : Blk := fun b => b < W.heap.size
/-- What reads as data of type t stands in memory as some x of kind d, of which ok holds. -/
def Opens (P : Program) (t : TypeId) (d : Kn α) (ok : α → Prop) : Prop :=
  ∀ (H : Type) (enc : TypeId × Value → H) (W : World) (spare : Nat → Bool) (held : Bool) (fuel : Nat) (cs : List Value) (dat : DataW H) (ps : List MemPlace),
    DataW.trod enc P W 0 spare held fuel t cs = some (dat, ps) → (∀ n ∈ dat.weights P t, n ≤ 140737488351232) → ∃ x, d.R (whole W) W x cs ∧ ok x
/-- Some fields in line, from cell o on. -/
def OpensF (P : Program) (fs : List Field) (o : Nat) (d : Kn α) (ok : α → Prop) : Prop :=
  ∀ (H : Type) (enc : TypeId × Value → H) (W : World) (spare : Nat → Bool) (held : Bool) (fuel : Nat) (cs : List Value) (xs : List (DataW H × List MemPlace)),
    xs.length = fs.length → (∀ (i : Nat) (f : Field), fs[i]? = some f → DataW.trod enc P W 0 spare held fuel f.type ((cs.drop f.offset).take (P.cellsOf f.type)) = xs[i]?) → (∀ n ∈ DataW.weightsEach P (fs.map (·.type)) (xs.map (·.1)), n ≤ 140737488351232) → o + d.sz ≤ cs.length → ∃ x, d.R (whole W) W x ((cs.drop o).take d.sz) ∧ ok x
theorem opens_int {t : TypeId} {k : IntKind} (ht : P.underlying t = some (.int k)) : Opens P t (kint k) (fun n => (Lit.int k n).wf = true) := by
  intro H enc W spare held fuel cs dat ps h hw
  obtain ⟨n, rfl, _, hn⟩ := DataW.trod_int ht h
  exact ⟨n, rfl, hn⟩
theorem opens_bool {t : TypeId} (ht : P.underlying t = some .bool) : Opens P t kbool (fun _ => True) := by
  intro H enc W spare held fuel cs dat ps h hw
  obtain ⟨n, rfl, _⟩ := DataW.trod_bool ht h
  exact ⟨n, rfl, trivial⟩
theorem opens_string {t : TypeId} (ht : P.underlying t = some .string) : Opens P t kstr (fun s => s.size ≤ 140737488351232) := by
  intro H enc W spare held fuel cs dat ps h hw
  obtain ⟨s, rfl, hx, _⟩ := DataW.trod_string ht h
  obtain ⟨rfl, _⟩ := Prod.mk.inj hx
  refine ⟨s, rfl, ?_⟩
  have := hw s.data.toList.length (by simp [DataW.weights])
  simpa using this
theorem weightsAll_mem {H : Type} {e : TypeId} : ∀ (l : List (DataW H)) (d : DataW H), d ∈ l → ∀ n ∈ d.weights P e, n ∈ DataW.weightsAll P e l
  | x :: xs, d, hd, n, hn => by
    simp only [DataW.weightsAll, List.mem_append]
    rcases List.mem_cons.1 hd with rfl | hd
    · exact .inl hn
    · exact .inr (weightsAll_mem xs d hd n hn)
theorem choose_list {p : Nat → α → Prop} : ∀ (n : Nat), (∀ i, i < n → ∃ x, p i x) → ∃ l : List α, l.length = n ∧ ∀ i x, l[i]? = some x → p i x
  | 0, _ => ⟨[], rfl, fun i x h => by simp at h⟩
  | n + 1, h => by
    obtain ⟨l, hl, hp⟩ := choose_list n (fun i hi => h i (by omega))
    obtain ⟨x, hx⟩ := h n (by omega)
    refine ⟨l ++ [x], by simp [hl], fun i y hy => ?_⟩
    rcases Nat.lt_or_ge i n with hi | hi
    · rw [List.getElem?_append_left (by omega)] at hy
      exact hp i y hy
    · have : i = n := by
        have := (List.getElem?_eq_some_iff.1 hy).1
        simp [hl] at this
        omega
      subst this
      rw [List.getElem?_append_right (by omega), hl] at hy
      simp at hy
      rw [← hy]
      exact hx
theorem opens_slice {t e : TypeId} {d : Kn α} {ok : α → Prop} (B : Nat) (ht : P.underlying t = some (.slice e)) (hd : Opens P e d ok) (hs : P.cellsOf e = d.sz) (hB : P.bytesOf e = B) (hp : Nat.blt 0 d.sz = true) :
    Opens P t (kslice d) (fun l => l.length * B ≤ 140737488351232 ∧ ∀ x ∈ l, ok x) := by
  intro H enc W spare held fuel cs dat ps h hw
  rcases Deep.open_slice ht h with ⟨rfl, hx⟩ | ⟨a, len, cap, m, n, D, Pl, rfl, _, hl, hm, hmm, hx, hel⟩
  · exact ⟨[], ⟨none, 0, rfl, Nat.le_refl _, by simp, Row.nil _ _ _ _⟩, by simp, by simp⟩
  · obtain ⟨rfl, _⟩ := Prod.mk.inj hx
    have hlm : len ≤ m := by rw [hmm]; split <;> omega
    have hw' : ∀ i, i < len → ∀ n ∈ (D i).weights P e, n ≤ 140737488351232 := by
      intro i hi n hn
      refine hw n ?_
      simp only [DataW.weights, ht, List.mem_cons, List.mem_append]
      exact .inr (.inl (weightsAll_mem _ (D i) (List.mem_map.2 ⟨i, List.mem_range.2 hi, rfl⟩) n hn))
    have hlen : len * B ≤ 140737488351232 := by
      have h2 := hw (((List.range len).map D).length + ((List.range (m - len)).map fun j => D (len + j)).length) |> fun _ => hw _ (by simp only [DataW.weights, ht]; exact List.mem_cons_self)
      rw [hB] at h2
      refine Nat.le_trans (Nat.mul_le_mul_right _ ?_) h2
      simp
    obtain ⟨l, hll, hp'⟩ := choose_list (α := α) (p := fun i x => ∃ cs', W.cells? 0 (a.add (i * P.cellsOf e)) (P.cellsOf e) = some cs' ∧ d.R (whole W) W x cs' ∧ ok x) len (fun i hi => by
      obtain ⟨cs', h1, h2⟩ := hel i (by omega)
      obtain ⟨x, hx, hok⟩ := hd H enc W spare held n cs' (D i) (Pl i) h2 (hw' i hi)
      exact ⟨x, cs', h1, hx, hok⟩)
    have hcell : ∀ j p, l[j]? = some p → ∃ cs', d.R (whole W) W p cs' ∧ ∀ i u, cs'[i]? = some u → W.cell? (a.add (j * d.sz + i)) = some u := fun j p hj => by
      obtain ⟨cs', h1, h2, _⟩ := hp' j p hj
      obtain ⟨_, hcl, hc⟩ := World.cells?_some h1
      rw [hs] at hcl hc
      refine ⟨cs', h2, fun i u hu => ?_⟩
      have hi : i < d.sz := by have := (List.getElem?_eq_some_iff.1 hu).1; omega
      have := hc i hi
      rw [hu, ← hs] at this
      rw [← this, ← hs]
      congr 1
      exact (Addr.add_add a _ _).symm
    refine ⟨l, ⟨some a, cap, by rw [hll], by omega, hm, fun h0 => ⟨a, rfl, ?_, hcell⟩⟩, by rw [hll]; exact hlen, fun x hx => ?_⟩
    · obtain ⟨cs', h2, h3⟩ := hcell 0 l[0] (List.getElem?_eq_getElem h0)
      have hcl := d.len h2
      have hpos := blt_lt hp
      have := h3 0 cs'[0] (List.getElem?_eq_getElem (by omega))
      have := cell_lt this
      rwa [show (a.add (0 * d.sz + 0)).block = a.block by unfold Addr.add; split <;> rfl] at this
    · obtain ⟨i, hi, he⟩ := List.getElem_of_mem hx
      obtain ⟨_, _, _, hok⟩ := hp' i x (by rw [List.getElem?_eq_getElem hi, he])
      exact hok
theorem opens_iso {t : TypeId} {d : Kn α} {ok : α → Prop} (h : Opens P t d ok) (f : β → α) (g : α → β) (hfg : ∀ x, f (g x) = x) : Opens P t (kiso d f) (fun y => ok (f y)) := by
  intro H enc W spare held fuel cs dat ps ht hw
  obtain ⟨x, hx, hok⟩ := h H enc W spare held fuel cs dat ps ht hw
  exact ⟨g x, by show d.R (whole W) W (f (g x)) cs; rw [hfg]; exact hx, by show ok (f (g x)); rw [hfg]; exact hok⟩
theorem opensF_one {f : Field} {d : Kn α} {ok : α → Prop} (o : Nat) (h : Opens P f.type d ok) (ho : f.offset = o) (hs : P.cellsOf f.type = d.sz) : OpensF P [f] o d ok := by
  intro H enc W spare held fuel cs xs hlen hm hw hl
  obtain ⟨y, rfl⟩ : ∃ y, xs = [y] := by
    match xs, hlen with
    | [y], _ => exact ⟨y, rfl⟩
  have hy := hm 0 f rfl
  rw [ho, hs] at hy
  exact h H enc W spare held fuel _ y.1 y.2 hy (fun n hn => hw n (by simp [DataW.weightsEach, hn]))
theorem opensF_cons {f : Field} {fs : List Field} {a : Kn α} {b : Kn β} {oka : α → Prop} {okb : β → Prop} (o : Nat) (h : Opens P f.type a oka) (ho : f.offset = o) (hs : P.cellsOf f.type = a.sz) (hr : OpensF P fs (o + a.sz) b okb) :
    OpensF P (f :: fs) o (kpair a b) (fun x => oka x.1 ∧ okb x.2) := by
  intro H enc W spare held fuel cs xs hlen hm hw hl
  obtain ⟨y, ys, rfl⟩ : ∃ y ys, xs = y :: ys := by
    match xs, hlen with
    | y :: ys, _ => exact ⟨y, ys, rfl⟩
  have hy := hm 0 f rfl
  rw [ho, hs] at hy
  have hl' : o + (a.sz + b.sz) ≤ cs.length := hl
  obtain ⟨x, hx, hox⟩ := h H enc W spare held fuel _ y.1 y.2 hy (fun n hn => hw n (by simp [DataW.weightsEach, hn]))
  obtain ⟨z, hz, hoz⟩ := hr H enc W spare held fuel cs ys (by simpa using hlen) (fun i g hg => hm (i + 1) g (by simpa using hg)) (fun n hn => hw n (by simp only [List.map_cons, DataW.weightsEach, List.mem_append]; exact .inr hn)) (by omega)
  refine ⟨(x, z), ⟨_, _, ?_, hx, hz⟩, hox, hoz⟩
  show (cs.drop o).take (a.sz + b.sz) = (cs.drop o).take a.sz ++ (cs.drop (o + a.sz)).take b.sz
  rw [List.take_add, List.drop_drop]
theorem opens_struct {t : TypeId} {fs : Array Field} {d : Kn α} {ok : α → Prop} (ht : P.underlying t = some (.struct fs)) (h : OpensF P fs.toList 0 d ok) (hs : P.cellsOf t = d.sz) : Opens P t d ok := by
  intro H enc W spare held fuel cs dat ps hm hw
  obtain ⟨xs, n, _, he, hl, hlen, hel⟩ := DataW.trod_struct ht hm
  obtain ⟨rfl, _⟩ := Prod.mk.inj he
  obtain ⟨x, hk, hok⟩ := h H enc W spare held n cs xs (by simpa using hlen) (fun i f hf => hel i f (by simpa using hf)) (fun m hm2 => hw m (by simpa [DataW.weights, ht] using hm2)) (by omega)
  rw [List.drop_zero, List.take_of_length_le (by omega)] at hk
  exact ⟨x, hk, hok⟩
end
/-- What a law's contract says of its call. -/
theorem Con.law {P : Program} {f : FuncId} {As : List VA} {r : Bool} (h : Con P f As [VA.k kbool r]) {W : World} {vs : List Value} (ha : argSat (fun _ => 0) (whole W) W As vs) : Calls P f vs.toArray W fun e W' => e = .returned (.bool r) ∧ Below W.heap.size W W' := by
  refine (h (fun _ => 0) (whole W) W vs (fun b hb => hb) ha).mono ?_
  rintro e w' ⟨rs, S', rfl, hfr, _, hr⟩
  refine ⟨?_, hfr.below⟩
  match rs, hr with
  | [v], hr =>
    obtain ⟨ob, ⟨_, cs, rfl, rfl⟩, _⟩ := hr
    rfl
  | [], hr => exact hr.elim
  | _ :: _ :: _, hr => obtain ⟨_, _, _, hr⟩ := hr; exact hr.elim
end Go.Proofs.Ytlpmolohppoofaa.Sl
/- Fuel taken away: what a function with fuel comes to. -/
set_option linter.unusedVariables false
set_option linter.unusedSimpArgs false
set_option linter.unnecessarySimpa false
set_option linter.deprecated false
namespace Go.Proofs.Ytlpmolohppoofaa.Sl
open Go
def Le {α : Type} (a b : Option α) : Prop := ∀ r, a = some r → b = some r
theorem Le.refl {α : Type} (a : Option α) : Le a a := fun _ h => h
theorem Le.none {α : Type} (a : Option α) : Le Option.none a := fun _ h => by cases h
theorem Le.bind {α β : Type} {a b : Option α} {f g : α → Option β} (h : Le a b) (hf : ∀ x, Le (f x) (g x)) : Le (a.bind f) (b.bind g) := fun r h1 => by
  obtain ⟨x, h2, h3⟩ := Option.bind_eq_some_iff.1 h1
  rw [h x h2]
  exact hf x r h3
theorem Le.cond {α : Type} {c : Bool} {a b a' b' : Option α} (h1 : Le a a') (h2 : Le b b') : Le (bif c then a else b) (bif c then a' else b') := by
  cases c <;> assumption
/-- From some fuel on f is b; and no fuel makes it anything else. -/
def Tends {α : Type} (f : Nat → Option α) (b : Option α) : Prop := (∀ k, Le (f k) b) ∧ ∀ r, b = some r → ∃ K, ∀ k, K ≤ k → f k = some r
theorem Tends.const {α : Type} (a : Option α) : Tends (fun _ => a) a := ⟨fun _ => Le.refl _, fun r h => ⟨0, fun _ _ => h⟩⟩
theorem Tends.bind {α β : Type} {f : Nat → Option α} {b : Option α} {g : Nat → α → Option β} {h : α → Option β} (h1 : Tends f b) (h2 : ∀ x, Tends (fun k => g k x) (h x)) : Tends (fun k => (f k).bind (g k)) (b.bind h) :=
  ⟨fun k => Le.bind (h1.1 k) (fun x => (h2 x).1 k), fun r hr => by
    obtain ⟨x, e1, e2⟩ := Option.bind_eq_some_iff.1 hr
    obtain ⟨K1, k1⟩ := h1.2 x e1
    obtain ⟨K2, k2⟩ := (h2 x).2 r e2
    exact ⟨max K1 K2, fun k hk => by show (f k).bind (g k) = some r; rw [k1 k (by omega)]; exact k2 k (by omega)⟩⟩
theorem Tends.cond {α : Type} {c : Bool} {f g : Nat → Option α} {a b : Option α} (h1 : Tends f a) (h2 : Tends g b) : Tends (fun k => bif c then f k else g k) (bif c then a else b) := by
  cases c <;> assumption
theorem Tends.uniq {α : Type} {f : Nat → Option α} {a b : Option α} (h1 : Tends f a) (h2 : Tends f b) : a = b := by
  have key : ∀ {a b : Option α}, Tends f a → Tends f b → Le a b := fun h1 h2 r hr => by
    obtain ⟨K, hK⟩ := h1.2 r hr
    exact h2.1 K r (hK K (Nat.le_refl _))
  have h3 := key h1 h2
  have h4 := key h2 h1
  cases a with
  | some r => exact (h3 r rfl).symm
  | none => cases b with
    | none => rfl
    | some r => exact h4 r rfl
theorem Tends.shift {α : Type} {f : Nat → Option α} {a : Option α} (h : Tends f a) : Tends (fun k => f (k + 1)) a :=
  ⟨fun k => h.1 (k + 1), fun r hr => by obtain ⟨K, hK⟩ := h.2 r hr; exact ⟨K, fun k hk => hK (k + 1) (by omega)⟩⟩
open Classical in
noncomputable def lim {α : Type} (f : Nat → Option α) : Option α := if h : ∃ r k, f k = some r then some (Classical.choose h) else none
theorem tends_lim {α : Type} {f : Nat → Option α} (h : ∀ {k k' : Nat}, k ≤ k' → Le (f k) (f k')) : Tends f (lim f) := by
  have hu : ∀ {k k' r r'}, f k = some r → f k' = some r' → r = r' := fun {k k' r r'} e1 e2 => by
    have a1 := h (Nat.le_max_left k k') r e1
    have a2 := h (Nat.le_max_right k k') r' e2
    rw [a1] at a2
    exact Option.some.inj a2
  refine ⟨fun k r hr => ?_, fun r hr => ?_⟩
  · have hx : ∃ r k, f k = some r := ⟨r, k, hr⟩
    unfold lim
    rw [dif_pos hx]
    obtain ⟨k2, h2⟩ := Classical.choose_spec hx
    exact congrArg some (hu h2 hr)
  · unfold lim at hr
    by_cases hx : ∃ r k, f k = some r
    · rw [dif_pos hx] at hr
      have e := Option.some.inj hr
      obtain ⟨k2, h2⟩ := Classical.choose_spec hx
      refine ⟨k2, fun k hk => ?_⟩
      rw [← e]
      exact h hk _ h2
    · rw [dif_neg hx] at hr; cases hr
/-- What comes to a value has fuel enough. -/
theorem Tends.ex {α : Type} {f : Nat → Option α} {b : Option α} {r : α} (h : Tends f b) (hb : b = some r) : ∃ k, f k = some r := by
  obtain ⟨K, hK⟩ := h.2 r hb
  exact ⟨K, hK K (Nat.le_refl _)⟩
theorem Tends.at {α : Type} {f : Nat → Option α} {b : Option α} {r : α} (h : Tends f b) (k : Nat) (hb : f k = some r) : b = some r := h.1 k r hb
end Go.Proofs.Ytlpmolohppoofaa.Sl
