/- From the claim's reading of an argument to a kind's: each kind, once. -/
import Derived.Test.YtedgkcdofiildaaSl19
import Derived.SizedLaws
import Derived.ChangeArms
import Derived.Deep.Slices
import Derived.WideShapes
import Derived.ProofKit
import Derived.OpenShut
import Derived.ShutString
import Derived.ChangeOld
import Derived.Carry
set_option linter.unusedVariables false
set_option linter.unusedSimpArgs false
set_option linter.unnecessarySimpa false
set_option linter.deprecated false
namespace Go.Proofs.Ytedgkcdofiildaa.Sl
open Go Go.RowKit Go.WideShapes Go.ChangeAt
theorem cell_lt {w : World} {ad : Addr} {u : Value} (h : w.cell? ad = some u) : ad.block < w.heap.size := by
  rcases Nat.lt_or_ge ad.block w.heap.size with h1 | h1
  · exact h1
  · exfalso
    unfold World.cell? at h
    rw [Array.getElem?_eq_none h1] at h
    cases h
section
variable {P : Program} {α β : Type}
def whole (W : World) : Blk := fun b => b < W.heap.size
/-- What reads as data of type t stands in memory as some x of kind d, of which ok holds. -/
def Opens (P : Program) (t : TypeId) (d : Kn α) (ok : α → Prop) : Prop :=
  ∀ (H : Type) (enc : TypeId × Value → H) (W : World) (spare : Nat → Bool) (held : Bool) (fuel : Nat) (cs : List Value) (dat : DataW H) (ps : List MemPlace),
    DataW.trod enc P W 0 spare held fuel t cs = some (dat, ps) → (∀ n ∈ dat.weights P t, n ≤ 140737488351232) → ∃ x, d.R (whole W) W x cs ∧ ok x
/-- Some fields in line, from cell o on. -/
def OpensF (P : Program) (fs : List Field) (o : Nat) (d : Kn α) (ok : α → Prop) : Prop :=
  ∀ (H : Type) (enc : TypeId × Value → H) (W : World) (spare : Nat → Bool) (held : Bool) (fuel : Nat) (cs : List Value) (xs : List (DataW H × List MemPlace)),
    xs.length = fs.length → (∀ (i : Nat) (f : Field), fs[i]? = some f → DataW.trod enc P W 0 spare held fuel f.type ((cs.drop f.offset).take (P.cellsOf f.type)) = xs[i]?) → (∀ n ∈ DataW.weightsEach P (fs.map (·.type)) (xs.map (·.1)), n ≤ 140737488351232) → o + d.sz ≤ cs.length → ∃ x, d.R (whole W) W x ((cs.drop o).take d.sz) ∧ ok x
theorem opens_int {t : TypeId} {k : IntKind} (ht : P.underlying t = some (.int k)) : Opens P t (kint k) (fun n => (Lit.int k n).wf = true) := by
  intro H enc W spare held fuel cs dat ps h hw
  obtain ⟨n, rfl, _, hn⟩ := DataW.trod_int ht h
  exact ⟨n, rfl, hn⟩
theorem opens_bool {t : TypeId} (ht : P.underlying t = some .bool) : Opens P t kbool (fun _ => True) := by
  intro H enc W spare held fuel cs dat ps h hw
  obtain ⟨n, rfl, _⟩ := DataW.trod_bool ht h
  exact ⟨n, rfl, trivial⟩
theorem opens_string {t : TypeId} (ht : P.underlying t = some .string) : Opens P t kstr (fun s => s.size ≤ 140737488351232) := by
  intro H enc W spare held fuel cs dat ps h hw
  obtain ⟨s, rfl, hx, _⟩ := DataW.trod_string ht h
  obtain ⟨rfl, _⟩ := Prod.mk.inj hx
  refine ⟨s, rfl, ?_⟩
  have := hw s.data.toList.length (by simp [DataW.weights])
  simpa using this
theorem weightsAll_mem {H : Type} {e : TypeId} : ∀ (l : List (DataW H)) (d : DataW H), d ∈ l → ∀ n ∈ d.weights P e, n ∈ DataW.weightsAll P e l
  | x :: xs, d, hd, n, hn => by
    simp only [DataW.weightsAll, List.mem_append]
    rcases List.mem_cons.1 hd with rfl | hd
    · exact .inl hn
    · exact .inr (weightsAll_mem xs d hd n hn)
theorem choose_list {p : Nat → α → Prop} : ∀ (n : Nat), (∀ i, i < n → ∃ x, p i x) → ∃ l : List α, l.length = n ∧ ∀ i x, l[i]? = some x → p i x
  | 0, _ => ⟨[], rfl, fun i x h => by simp at h⟩
  | n + 1, h => by
    obtain ⟨l, hl, hp⟩ := choose_list n (fun i hi => h i (by omega))
    obtain ⟨x, hx⟩ := h n (by omega)
    refine ⟨l ++ [x], by simp [hl], fun i y hy => ?_⟩
    rcases Nat.lt_or_ge i n with hi | hi
    · rw [List.getElem?_append_left (by omega)] at hy
      exact hp i y hy
    · have : i = n := by
        have := (List.getElem?_eq_some_iff.1 hy).1
        simp [hl] at this
        omega
      subst this
      rw [List.getElem?_append_right (by omega), hl] at hy
      simp at hy
      rw [← hy]
      exact hx
theorem opens_slice {t e : TypeId} {d : Kn α} {ok : α → Prop} (B : Nat) (ht : P.underlying t = some (.slice e)) (hd : Opens P e d ok) (hs : P.cellsOf e = d.sz) (hB : P.bytesOf e = B) (hp : Nat.blt 0 d.sz = true) :
    Opens P t (kslice d) (fun l => l.length * B ≤ 140737488351232 ∧ ∀ x ∈ l, ok x) := by
  intro H enc W spare held fuel cs dat ps h hw
  rcases Deep.open_slice ht h with ⟨rfl, hx⟩ | ⟨a, len, cap, m, n, D, Pl, rfl, _, hl, hm, hmm, hx, hel⟩
  · exact ⟨[], ⟨none, 0, rfl, Nat.le_refl _, by simp, Row.nil _ _ _ _⟩, by simp, by simp⟩
  · obtain ⟨rfl, _⟩ := Prod.mk.inj hx
    have hlm : len ≤ m := by rw [hmm]; split <;> omega
    have hw' : ∀ i, i < len → ∀ n ∈ (D i).weights P e, n ≤ 140737488351232 := by
      intro i hi n hn
      refine hw n ?_
      simp only [DataW.weights, ht, List.mem_cons, List.mem_append]
      exact .inr (.inl (weightsAll_mem _ (D i) (List.mem_map.2 ⟨i, List.mem_range.2 hi, rfl⟩) n hn))
    have hlen : len * B ≤ 140737488351232 := by
      have h2 := hw (((List.range len).map D).length + ((List.range (m - len)).map fun j => D (len + j)).length) |> fun _ => hw _ (by simp only [DataW.weights, ht]; exact List.mem_cons_self)
      rw [hB] at h2
      refine Nat.le_trans (Nat.mul_le_mul_right _ ?_) h2
      simp
    obtain ⟨l, hll, hp'⟩ := choose_list (α := α) (p := fun i x => ∃ cs', W.cells? 0 (a.add (i * P.cellsOf e)) (P.cellsOf e) = some cs' ∧ d.R (whole W) W x cs' ∧ ok x) len (fun i hi => by
      obtain ⟨cs', h1, h2⟩ := hel i (by omega)
      obtain ⟨x, hx, hok⟩ := hd H enc W spare held n cs' (D i) (Pl i) h2 (hw' i hi)
      exact ⟨x, cs', h1, hx, hok⟩)
    have hcell : ∀ j p, l[j]? = some p → ∃ cs', d.R (whole W) W p cs' ∧ ∀ i u, cs'[i]? = some u → W.cell? (a.add (j * d.sz + i)) = some u := fun j p hj => by
      obtain ⟨cs', h1, h2, _⟩ := hp' j p hj
      obtain ⟨_, hcl, hc⟩ := World.cells?_some h1
      rw [hs] at hcl hc
      refine ⟨cs', h2, fun i u hu => ?_⟩
      have hi : i < d.sz := by have := (List.getElem?_eq_some_iff.1 hu).1; omega
      have := hc i hi
      rw [hu, ← hs] at this
      rw [← this, ← hs]
      congr 1
      exact (Addr.add_add a _ _).symm
    refine ⟨l, ⟨some a, cap, by rw [hll], by omega, hm, fun h0 => ⟨a, rfl, ?_, hcell⟩⟩, by rw [hll]; exact hlen, fun x hx => ?_⟩
    · obtain ⟨cs', h2, h3⟩ := hcell 0 l[0] (List.getElem?_eq_getElem h0)
      have hcl := d.len h2
      have hpos := blt_lt hp
      have := h3 0 cs'[0] (List.getElem?_eq_getElem (by omega))
      have := cell_lt this
      rwa [show (a.add (0 * d.sz + 0)).block = a.block by unfold Addr.add; split <;> rfl] at this
    · obtain ⟨i, hi, he⟩ := List.getElem_of_mem hx
      obtain ⟨_, _, _, hok⟩ := hp' i x (by rw [List.getElem?_eq_getElem hi, he])
      exact hok
theorem opens_iso {t : TypeId} {d : Kn α} {ok : α → Prop} (h : Opens P t d ok) (f : β → α) (g : α → β) (hfg : ∀ x, f (g x) = x) : Opens P t (kiso d f) (fun y => ok (f y)) := by
  intro H enc W spare held fuel cs dat ps ht hw
  obtain ⟨x, hx, hok⟩ := h H enc W spare held fuel cs dat ps ht hw
  exact ⟨g x, by show d.R (whole W) W (f (g x)) cs; rw [hfg]; exact hx, by show ok (f (g x)); rw [hfg]; exact hok⟩
theorem opensF_one {f : Field} {d : Kn α} {ok : α → Prop} (o : Nat) (h : Opens P f.type d ok) (ho : f.offset = o) (hs : P.cellsOf f.type = d.sz) : OpensF P [f] o d ok := by
  intro H enc W spare held fuel cs xs hlen hm hw hl
  obtain ⟨y, rfl⟩ : ∃ y, xs = [y] := by
    match xs, hlen with
    | [y], _ => exact ⟨y, rfl⟩
  have hy := hm 0 f rfl
  rw [ho, hs] at hy
  exact h H enc W spare held fuel _ y.1 y.2 hy (fun n hn => hw n (by simp [DataW.weightsEach, hn]))
theorem opensF_cons {f : Field} {fs : List Field} {a : Kn α} {b : Kn β} {oka : α → Prop} {okb : β → Prop} (o : Nat) (h : Opens P f.type a oka) (ho : f.offset = o) (hs : P.cellsOf f.type = a.sz) (hr : OpensF P fs (o + a.sz) b okb) :
    OpensF P (f :: fs) o (kpair a b) (fun x => oka x.1 ∧ okb x.2) := by
  intro H enc W spare held fuel cs xs hlen hm hw hl
  obtain ⟨y, ys, rfl⟩ : ∃ y ys, xs = y :: ys := by
    match xs, hlen with
    | y :: ys, _ => exact ⟨y, ys, rfl⟩
  have hy := hm 0 f rfl
  rw [ho, hs] at hy
  have hl' : o + (a.sz + b.sz) ≤ cs.length := hl
  obtain ⟨x, hx, hox⟩ := h H enc W spare held fuel _ y.1 y.2 hy (fun n hn => hw n (by simp [DataW.weightsEach, hn]))
  obtain ⟨z, hz, hoz⟩ := hr H enc W spare held fuel cs ys (by simpa using hlen) (fun i g hg => hm (i + 1) g (by simpa using hg)) (fun n hn => hw n (by simp only [List.map_cons, DataW.weightsEach, List.mem_append]; exact .inr hn)) (by omega)
  refine ⟨(x, z), ⟨_, _, ?_, hx, hz⟩, hox, hoz⟩
  show (cs.drop o).take (a.sz + b.sz) = (cs.drop o).take a.sz ++ (cs.drop (o + a.sz)).take b.sz
  rw [List.take_add, List.drop_drop]
theorem opens_struct {t : TypeId} {fs : Array Field} {d : Kn α} {ok : α → Prop} (ht : P.underlying t = some (.struct fs)) (h : OpensF P fs.toList 0 d ok) (hs : P.cellsOf t = d.sz) : Opens P t d ok := by
  intro H enc W spare held fuel cs dat ps hm hw
  obtain ⟨xs, n, _, he, hl, hlen, hel⟩ := DataW.trod_struct ht hm
  obtain ⟨rfl, _⟩ := Prod.mk.inj he
  obtain ⟨x, hk, hok⟩ := h H enc W spare held n cs xs (by simpa using hlen) (fun i f hf => hel i f (by simpa using hf)) (fun m hm2 => hw m (by simpa [DataW.weights, ht] using hm2)) (by omega)
  rw [List.drop_zero, List.take_of_length_le (by omega)] at hk
  exact ⟨x, hk, hok⟩
end
/-- What a law's contract says of its call. -/
theorem Con.law {P : Program} {f : FuncId} {As : List VA} {r : Bool} (h : Con P f As [VA.k kbool r]) {W : World} {vs : List Value} (ha : argSat (fun _ => 0) (whole W) W As vs) : Calls P f vs.toArray W fun e W' => e = .returned (.bool r) ∧ Below W.heap.size W W' := by
  refine (h (fun _ => 0) (whole W) W vs (fun b hb => hb) ha).mono ?_
  rintro e w' ⟨rs, S', rfl, hfr, _, hr⟩
  refine ⟨?_, hfr.below⟩
  match rs, hr with
  | [v], hr =>
    obtain ⟨ob, ⟨_, cs, rfl, rfl⟩, _⟩ := hr
    rfl
  | [], hr => exact hr.elim
  | _ :: _ :: _, hr => obtain ⟨_, _, _, hr⟩ := hr; exact hr.elim
theorem va_open {α : Type} {K : Kn α} {θ : Nat → Nat} {S : Blk} {W : World} {x : α} {v : Value} (hv : v = K.mk_ v.cells.toList) (h : K.R S W x v.cells.toList) : (VA.k K x).sem θ S none W v := ⟨rfl, _, h, hv⟩
end Go.Proofs.Ytedgkcdofiildaa.Sl
