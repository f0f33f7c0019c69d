/- Maps under texts: made, read, written; as kinds where they are only read. -/
import Derived.Test.YtedgkcdofiildaaSl14
import Derived.Maps.OwnSet
import Derived.StringKeys
set_option linter.unusedVariables false
set_option linter.unusedSimpArgs false
set_option linter.unnecessarySimpa false
set_option linter.deprecated false
namespace Go.Proofs.Ytedgkcdofiildaa.Sl
open Go Go.RowKit Go.WideMaps Go.Maps
def valR : Value → Option (DataW Value × List MemPlace) := fun v => some (.held v, [])
/-- Block b of w is a map of at most n entries; f says what lies under each key. -/
def VMap (P : Program) (k : TypeId) (w : World) (b n : Nat) (f : Lit → Option Value) : Prop :=
  ∃ D : DataW Value, w.ownsMap P k valR b n D ∧ ∀ kl : Lit, WideAt.IsKeyLit kl → (∀ z, D.atKey kl (.held z) = .held ((f kl).getD z)) ∧ Go.Maps.has D kl = (f kl).isSome
def upd (f : Lit → Option Value) (kl : Lit) (v : Option Value) : Lit → Option Value := fun x => if x.sameKey kl = true then v else f x
def sk (s : ByteArray) : Lit := .string s.data.toList
theorem sk_inj {a b : ByteArray} (h : sk a = sk b) : a = b := by
  unfold sk at h
  injection h with h
  have : a.data = b.data := Array.toList_inj.1 h
  cases a; cases b; simpa using this
theorem sk_same (a b : ByteArray) : (sk a).sameKey (sk b) = decide (a = b) := by
  by_cases h : a = b
  · subst h; simp [sk, Lit.sameKey]
  · rw [sameKey_ne (fun e => h (sk_inj e)), decide_eq_false h]
section
variable {P : Program} {k : TypeId} {w w' : World} {b n : Nat} {f : Lit → Option Value}
theorem VMap.made (P : Program) (k : TypeId) (w : World) : VMap P k (w.alloc (.map #[] 0)) w.heap.size 0 (fun _ => none) :=
  ⟨.map [], World.ownsMap_made w P k valR, fun kl _ => ⟨fun z => rfl, rfl⟩⟩
theorem VMap.same (h : VMap P k w b n f) (hb : w'.heap[b]? = w.heap[b]?) : VMap P k w' b n f := by
  obtain ⟨D, ⟨es, clock, e, r⟩, hf⟩ := h
  exact ⟨D, ⟨es, clock, hb.trans e, r⟩, hf⟩
theorem VMap.lt (h : VMap P k w b n f) : b < w.heap.size := by
  obtain ⟨D, ho, _⟩ := h
  exact ho.lt
theorem VMap.mono (h : VMap P k w b n f) {n' : Nat} (hn : n ≤ n') : VMap P k w b n' f := by
  obtain ⟨D, ho, hf⟩ := h
  exact ⟨D, ho.mono hn, hf⟩
theorem VMap.look {t e : TypeId} {z key : Value} {kl : Lit} (h : VMap P k w b n f) (K : Keyed P k) (ht : P.underlying t = some (.map k e)) (hz : (zeroValue e).run P w = .ok z w) (hkey : keyOf P k key = some kl) :
    (Instr.lookup t (.map (some b)) key false).run P w = .ok ((f kl).getD z) w := by
  obtain ⟨D, ho, hf⟩ := h
  obtain ⟨v, ps, hrun, hv⟩ := ho.lookup K ht hz (zd := .held z) (zp := []) rfl hkey
  rw [(hf kl (K.key hkey)).1 z] at hv
  simp only [valR, Option.some.injEq, Prod.mk.injEq, DataW.held.injEq] at hv
  rw [hrun, hv.1]
theorem VMap.lookOk {t e : TypeId} {z key : Value} {kl : Lit} (h : VMap P k w b n f) (K : Keyed P k) (ht : P.underlying t = some (.map k e)) (hz : (zeroValue e).run P w = .ok z w) (hkey : keyOf P k key = some kl) :
    (Instr.lookup t (.map (some b)) key true).run P w = .ok (.tuple #[(f kl).getD z, .bool (f kl).isSome]) w := by
  obtain ⟨D, ho, hf⟩ := h
  obtain ⟨v, ps, hrun, hv⟩ := ho.look_ok K ht hz (zd := .held z) (zp := []) rfl hkey
  rw [(hf kl (K.key hkey)).1 z] at hv
  simp only [valR, Option.some.injEq, Prod.mk.injEq, DataW.held.injEq] at hv
  rw [hrun, hv.1, (hf kl (K.key hkey)).2]
theorem VMap.put {t e : TypeId} {key val : Value} {kl : Lit} (h : VMap P k w b n f) (K : Keyed P k) (ht : P.underlying t = some (.map k e)) (hn : n < maxLen) (hkey : keyOf P k key = some kl) :
    ∃ w', (Instr.mapUpdate t (.map (some b)) key val).run P w = .ok () w' ∧ VMap P k w' b (n + 1) (upd f kl (some val)) ∧ w.mapTurned w' b := by
  obtain ⟨D, ho, hf⟩ := h
  obtain ⟨w', hrun, ho', hg⟩ := ho.store K ht hn hkey (val := val) (d := .held val) (ps := []) rfl
  refine ⟨w', hrun, ⟨_, ho', fun x hx => ?_⟩, hg⟩
  unfold upd
  by_cases hxk : x = kl
  · subst hxk
    rw [if_pos (WideAt.sameKey_self hx)]
    exact ⟨fun z => atKey_put_same ho.isMap hx _ _, has_put_same ho.isMap hx _⟩
  · rw [if_neg (by rw [sameKey_ne hxk]; decide)]
    exact ⟨fun z => by rw [atKey_put_other hxk]; exact (hf x hx).1 z, by rw [has_put_other hxk]; exact (hf x hx).2⟩
theorem VMap.del {t e : TypeId} {key : Value} {kl : Lit} (h : VMap P k w b n f) (K : Keyed P k) (ht : P.underlying t = some (.map k e)) (hkey : keyOf P k key = some kl) (ty : TypeId) :
    ∃ w', (Builtin.delete_ #[t, k] ty #[.map (some b), key]).run P w = .ok (.tuple #[]) w' ∧ VMap P k w' b n (upd f kl none) ∧ w.mapTurned w' b := by
  obtain ⟨D, ho, hf⟩ := h
  obtain ⟨w', hrun, ho', hg⟩ := ho.drop K ht hkey ty
  refine ⟨w', hrun, ⟨_, ho', fun x hx => ?_⟩, hg⟩
  unfold upd
  by_cases hxk : x = kl
  · subst hxk
    rw [if_pos (WideAt.sameKey_self hx)]
    exact ⟨fun z => atKey_del_same _, has_del_same⟩
  · rw [if_neg (by rw [sameKey_ne hxk]; decide)]
    exact ⟨fun z => by rw [atKey_del_other hxk]; exact (hf x hx).1 z, by rw [has_del_other hxk]; exact (hf x hx).2⟩
end
/-! ### what a map under texts holds -/
structure GM (α : Type) where
  n : Nat
  g : ByteArray → Option α
def gempty {α : Type} : GM α := ⟨0, fun _ => none⟩
def gput {α : Type} (m : GM α) (s : ByteArray) (x : α) : Option (GM α) := if m.n < 9223372036854775807 ∧ s.size ≤ 9223372036854775807 then some ⟨m.n + 1, fun t => if t = s then some x else m.g t⟩ else none
def gdel {α : Type} (m : GM α) (s : ByteArray) : Option (GM α) := if s.size ≤ 9223372036854775807 then some ⟨m.n, fun t => if t = s then none else m.g t⟩ else none
def gget {α : Type} (m : GM α) (z : α) (s : ByteArray) : Option α := if s.size ≤ 9223372036854775807 then some ((m.g s).getD z) else none
def ghas {α : Type} (m : GM α) (z : α) (s : ByteArray) : Option (α × Bool) := if s.size ≤ 9223372036854775807 then some ((m.g s).getD z, (m.g s).isSome) else none
/-- Block b holds m. -/
def MapS {α : Type} (P : Program) (kt : TypeId) (K : Kn α) (S : Blk) (w : World) (b : Nat) (m : GM α) : Prop :=
  ∃ f, VMap P kt w b m.n f ∧ ∀ s, match m.g s with
    | none => f (sk s) = none
    | some x => ∃ cs, K.R S w x cs ∧ f (sk s) = some (K.mk_ cs)
theorem MapS.move {α : Type} {P : Program} {kt : TypeId} {K : Kn α} {S S' : Blk} {w w' : World} {b : Nat} {m : GM α} (h : MapS P kt K S w b m) (hA : Agree S w w') (hS : ∀ b, S b → S' b) (hb : w'.heap[b]? = w.heap[b]?) : MapS P kt K S' w' b m := by
  obtain ⟨f, h1, h2⟩ := h
  refine ⟨f, h1.same hb, fun s => ?_⟩
  have := h2 s
  split at this
  · exact this
  · obtain ⟨cs, h3, h4⟩ := this
    exact ⟨cs, K.move h3 hA hS, h4⟩
/-- A map that is only read. -/
def kmap {α : Type} (P : Program) (kt : TypeId) (K : Kn α) : Kn (GM α) where
  sz := 1
  agg := false
  R := fun S w m cs => ∃ b, cs = [.map (some b)] ∧ S b ∧ MapS P kt K S w b m
  len := by rintro S w x cs ⟨b, rfl, _⟩; rfl
  one := by rintro S w x cs ⟨b, rfl, _⟩ u hu; rw [List.mem_singleton.1 hu]; rfl
  move := by rintro S S' w w' x cs ⟨b, rfl, hs, hm⟩ hA hS; exact ⟨b, rfl, hS _ hs, hm.move hA hS (hA _ hs)⟩
def wrapM (agg : Bool) (v : Value) : Value := match agg with | true => .agg #[v] | false => v
/-- A map of the frame's own (agg: within a struct of that one field). -/
def VA.om {α : Type} (P : Program) (kt : TypeId) (K : Kn α) (agg : Bool) (m : GM α) : VA where
  ids := []
  sem := fun _ S ob w v => ∃ b, ob = some b ∧ v = wrapM agg (.map (some b)) ∧ MapS P kt K S w b m
  move := by rintro θ θ' S S' ob w w' v ⟨b, rfl, h1, h2⟩ hA hS hb _; exact ⟨b, rfl, h1, h2.move hA hS (hb b rfl)⟩
/-- A map by its number. -/
def VA.mp (agg : Bool) (id : Nat) : VA where
  ids := [id]
  sem := fun θ _ ob _ v => ob = none ∧ v = wrapM agg (.map (some (θ id)))
  move := by rintro θ θ' S S' ob w w' v ⟨h0, h⟩ _ _ _ hi; exact ⟨h0, by rw [hi id (by simp)]; exact h⟩
def HE.map {α : Type} (P : Program) (kt : TypeId) (K : Kn α) (m : GM α) : HE where
  ids := []
  sem := fun _ b S w => MapS P kt K S w b m
  move := fun h hA hS hb _ => h.move hA hS hb
/-- A box that holds a map's number. -/
def HE.boxm (e : TypeId) (id : Nat) : HE where
  ids := [id]
  sem := fun θ b _ w => w.heap[b]? = some (.cells #[.map (some (θ id))] e (0, 0))
  move := by rintro θ θ' b S S' w w' h _ _ hb hi; rw [hi id (by simp)]; exact hb.trans h
theorem plain_mp {agg : Bool} {id : Nat} : Plain (VA.mp agg id) := fun {θ S ob w v} h => h.1
/-- How a type's map reads: its key and element. -/
structure MT {α : Type} (P : Program) (t kt : TypeId) (K : Kn α) (z : α) : Prop where
  u : ∃ e, P.underlying t = some (.map kt e) ∧ TK P e K ∧ ∃ cs, (P.info? e).bind (·.zero) = some (K.mk_ cs) ∧ ∀ S w, K.R S w z cs
  k : P.underlying kt = some .string
theorem MT.zero {α : Type} {P : Program} {t kt : TypeId} {K : Kn α} {z : α} (hM : MT P t kt K z) : ∃ e cs, P.underlying t = some (.map kt e) ∧ (∀ w, (zeroValue e).run P w = .ok (K.mk_ cs) w) ∧ ∀ S w, K.R S w z cs := by
  obtain ⟨e, hu, _, cs, hz, hr⟩ := hM.u
  refine ⟨e, cs, hu, fun w => ?_, hr⟩
  cases hi : P.info? e with
  | none => rw [hi] at hz; cases hz
  | some i =>
    rw [hi] at hz
    have hz' : i.zero = some (K.mk_ cs) := hz
    simp [zeroValue, typeInfo, hi, hz', Sem.run_bind]
theorem MapS.get {α : Type} {P : Program} {t kt : TypeId} {K : Kn α} {z r : α} (hM : MT P t kt K z) {S : Blk} {w : World} {b : Nat} {m : GM α} (h : MapS P kt K S w b m) {s : ByteArray} (hr : gget m z s = some r) :
    ∃ cs, (Instr.lookup t (.map (some b)) (.string s) false).run P w = .ok (K.mk_ cs) w ∧ K.R S w r cs := by
  obtain ⟨f, h1, h2⟩ := h
  obtain ⟨e, cz, hu, hz2, hz1⟩ := hM.zero
  unfold gget at hr
  split at hr
  · rename_i hs
    have hl := h1.look (string_keyed hM.k) hu (hz2 w) (keyOf_string_mk hM.k hs)
    rw [show (Lit.string s.data.toList) = sk s from rfl] at hl
    have := h2 s
    split at this
    · rename_i hg
      rw [hg] at hr
      cases hr
      rw [this] at hl
      exact ⟨cz, hl, hz1 _ _⟩
    · rename_i x hg
      rw [hg] at hr
      cases hr
      obtain ⟨cs, h3, h4⟩ := this
      rw [h4] at hl
      exact ⟨cs, hl, h3⟩
  · cases hr
theorem MapS.getOk {α : Type} {P : Program} {t kt : TypeId} {K : Kn α} {z : α} {r : α × Bool} (hM : MT P t kt K z) {S : Blk} {w : World} {b : Nat} {m : GM α} (h : MapS P kt K S w b m) {s : ByteArray} (hr : ghas m z s = some r) :
    ∃ cs, (Instr.lookup t (.map (some b)) (.string s) true).run P w = .ok (.tuple #[K.mk_ cs, .bool r.2]) w ∧ K.R S w r.1 cs := by
  obtain ⟨f, h1, h2⟩ := h
  obtain ⟨e, cz, hu, hz2, hz1⟩ := hM.zero
  unfold ghas at hr
  split at hr
  · rename_i hs
    have hl := h1.lookOk (string_keyed hM.k) hu (hz2 w) (keyOf_string_mk hM.k hs)
    rw [show (Lit.string s.data.toList) = sk s from rfl] at hl
    have := h2 s
    split at this
    · rename_i hg
      rw [hg] at hr
      cases hr
      rw [this] at hl
      exact ⟨cz, hl, hz1 _ _⟩
    · rename_i x hg
      rw [hg] at hr
      cases hr
      obtain ⟨cs, h3, h4⟩ := this
      rw [h4] at hl
      exact ⟨cs, hl, h3⟩
  · cases hr
theorem MapS.put {α : Type} {P : Program} {t kt : TypeId} {K : Kn α} {z x : α} (hM : MT P t kt K z) {S : Blk} {w : World} {b : Nat} {m r : GM α} (h : MapS P kt K S w b m) {s : ByteArray} (hr : gput m s x = some r) {cs : List Value} (hx : K.R S w x cs) (hb : ¬ S b) :
    ∃ w', (Instr.mapUpdate t (.map (some b)) (.string s) (K.mk_ cs)).run P w = .ok () w' ∧ MapS P kt K S w' b r ∧ w.mapTurned w' b := by
  obtain ⟨f, h1, h2⟩ := h
  obtain ⟨e, hu, _, _⟩ := hM.u
  unfold gput at hr
  split at hr
  · rename_i hs
    cases hr
    obtain ⟨w', hrun, h3, h4⟩ := h1.put (string_keyed hM.k) hu hs.1 (keyOf_string_mk hM.k hs.2) (val := K.mk_ cs)
    have hag : Agree S w w' := fun b' hb' => by
      obtain ⟨es, clock, es', clock', _, rfl⟩ := h4
      have hne : b ≠ b' := fun e => hb (e ▸ hb')
      show (w.heap.setIfInBounds b (.map es' clock'))[b']? = w.heap[b']?
      rw [Array.getElem?_setIfInBounds, if_neg hne]
    refine ⟨w', hrun, ⟨_, h3, fun q => ?_⟩, h4⟩
    rw [show (Lit.string s.data.toList) = sk s from rfl]
    unfold upd
    by_cases e : q = s
    · subst e
      simp only [if_true, sk_same, decide_true]
      exact ⟨cs, K.move hx hag (fun b hb => hb), rfl⟩
    · simp only [if_neg e, sk_same, decide_eq_false e, Bool.false_eq_true, if_false]
      have := h2 q
      split at this
      · exact this
      · obtain ⟨c, h5, h6⟩ := this
        exact ⟨c, K.move h5 hag (fun b hb => hb), h6⟩
  · cases hr
end Go.Proofs.Ytedgkcdofiildaa.Sl
