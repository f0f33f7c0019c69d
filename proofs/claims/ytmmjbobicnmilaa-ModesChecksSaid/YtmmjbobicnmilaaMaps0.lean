/- A map that the call itself has made, as a plain function from what its keys read as: whatever its elements. -/
import Derived.Maps.OwnSet
import Derived.StringKeys
import Derived.Test.YtmmjbobicnmilaaWMore
set_option linter.unusedVariables false
set_option linter.unusedSimpArgs false
namespace Go.Proofs.Ytmmjbobicnmilaa.Maps0
open Go Go.WideMaps Go.RowKit Go.Maps Go.Proofs.YtmmjbobicnmilaaW.PrintWords
def valR : Value → Option (DataW Value × List MemPlace) := fun v => some (.held v, [])
/-- Block b of w is a map of at most n entries; f says what lies under each key. -/
def VMap (P : Program) (k : TypeId) (w : World) (b n : Nat) (f : Lit → Option Value) : Prop :=
  ∃ D : DataW Value, w.ownsMap P k valR b n D ∧ ∀ kl : Lit, WideAt.IsKeyLit kl → (∀ z, D.atKey kl (.held z) = .held ((f kl).getD z)) ∧ Go.Maps.has D kl = (f kl).isSome
def upd (f : Lit → Option Value) (kl : Lit) (v : Option Value) : Lit → Option Value := fun x => if x.sameKey kl = true then v else f x
def sk (s : ByteArray) : Lit := .string s.data.toList
theorem sk_inj {a b : ByteArray} (h : sk a = sk b) : a = b := by
  unfold sk at h
  injection h with h
  have : a.data = b.data := Array.toList_inj.1 h
  cases a; cases b; simpa using this
theorem sk_same (a b : ByteArray) : (sk a).sameKey (sk b) = decide (a = b) := by
  by_cases h : a = b
  · subst h; simp [sk, Lit.sameKey]
  · rw [sameKey_ne (fun e => h (sk_inj e)), decide_eq_false h]
theorem sk_ne {a b : ByteArray} (h : a ≠ b) : sk a ≠ sk b := fun e => h (sk_inj e)
section
variable {P : Program} {k : TypeId} {w w' : World} {b n : Nat} {f : Lit → Option Value}
theorem VMap.made (P : Program) (k : TypeId) (w : World) : VMap P k (w.alloc (.map #[] 0)) w.heap.size 0 (fun _ => none) :=
  ⟨.map [], World.ownsMap_made w P k valR, fun kl _ => ⟨fun z => rfl, rfl⟩⟩
theorem VMap.kept {row : Option Nat} (h : VMap P k w b n f) (hg : w.grownBy w' row) (hne : some b ≠ row) : VMap P k w' b n f := by
  obtain ⟨D, ho, hf⟩ := h
  exact ⟨D, ho.kept hg hne, hf⟩
theorem VMap.lt (h : VMap P k w b n f) : b < w.heap.size := by
  obtain ⟨D, ho, _⟩ := h
  exact ho.lt
theorem VMap.alloc (h : VMap P k w b n f) (o : Obj) : VMap P k (w.alloc o) b n f := h.kept (World.grownBy_alloc w o none) (by simp)
theorem VMap.drew (h : VMap P k w b n f) : VMap P k w.drew b n f := h
theorem VMap.drewN (h : VMap P k w b n f) (m : Nat) : VMap P k (w.drewN m) b n f := h
theorem VMap.below (h : VMap P k w b n f) (hb : Below w.heap.size w w') : VMap P k w' b n f := h.kept (grown_of_below hb none) (by simp)
theorem VMap.mono (h : VMap P k w b n f) {n' : Nat} (hn : n ≤ n') : VMap P k w b n' f := by
  obtain ⟨D, ho, hf⟩ := h
  exact ⟨D, ho.mono hn, hf⟩
theorem VMap.setCell (h : VMap P k w b n f) {a : Addr} (ha : b ≠ a.block) (u : Value) : VMap P k (w.setCell a u) b n f := by
  obtain ⟨D, ho, hf⟩ := h
  exact ⟨D, ho.setCell ha u, hf⟩
theorem VMap.look {t e : TypeId} {z key : Value} {kl : Lit} (h : VMap P k w b n f) (K : Keyed P k) (ht : P.underlying t = some (.map k e)) (hz : (zeroValue e).run P w = .ok z w) (hkey : keyOf P k key = some kl) :
    (Instr.lookup t (.map (some b)) key false).run P w = .ok ((f kl).getD z) w := by
  obtain ⟨D, ho, hf⟩ := h
  obtain ⟨v, ps, hrun, hv⟩ := ho.lookup K ht hz (zd := .held z) (zp := []) rfl hkey
  rw [(hf kl (K.key hkey)).1 z] at hv
  simp only [valR, Option.some.injEq, Prod.mk.injEq, DataW.held.injEq] at hv
  rw [hrun, hv.1]
theorem VMap.lookOk {t e : TypeId} {z key : Value} {kl : Lit} (h : VMap P k w b n f) (K : Keyed P k) (ht : P.underlying t = some (.map k e)) (hz : (zeroValue e).run P w = .ok z w) (hkey : keyOf P k key = some kl) :
    (Instr.lookup t (.map (some b)) key true).run P w = .ok (.tuple #[(f kl).getD z, .bool (f kl).isSome]) w := by
  obtain ⟨D, ho, hf⟩ := h
  obtain ⟨v, ps, hrun, hv⟩ := ho.look_ok K ht hz (zd := .held z) (zp := []) rfl hkey
  rw [(hf kl (K.key hkey)).1 z] at hv
  simp only [valR, Option.some.injEq, Prod.mk.injEq, DataW.held.injEq] at hv
  rw [hrun, hv.1, (hf kl (K.key hkey)).2]
theorem VMap.put {t e : TypeId} {key val : Value} {kl : Lit} (h : VMap P k w b n f) (K : Keyed P k) (ht : P.underlying t = some (.map k e)) (hn : n < maxLen) (hkey : keyOf P k key = some kl) :
    ∃ w', (Instr.mapUpdate t (.map (some b)) key val).run P w = .ok () w' ∧ VMap P k w' b (n + 1) (upd f kl (some val)) ∧ w.mapTurned w' b := by
  obtain ⟨D, ho, hf⟩ := h
  obtain ⟨w', hrun, ho', hg⟩ := ho.store K ht hn hkey (val := val) (d := .held val) (ps := []) rfl
  refine ⟨w', hrun, ⟨_, ho', fun x hx => ?_⟩, hg⟩
  unfold upd
  by_cases hxk : x = kl
  · subst hxk
    rw [if_pos (WideAt.sameKey_self hx)]
    exact ⟨fun z => atKey_put_same ho.isMap hx _ _, has_put_same ho.isMap hx _⟩
  · rw [if_neg (by rw [sameKey_ne hxk]; decide)]
    exact ⟨fun z => by rw [atKey_put_other hxk]; exact (hf x hx).1 z, by rw [has_put_other hxk]; exact (hf x hx).2⟩
theorem VMap.del {t e : TypeId} {key : Value} {kl : Lit} (h : VMap P k w b n f) (K : Keyed P k) (ht : P.underlying t = some (.map k e)) (hkey : keyOf P k key = some kl) (ty : TypeId) :
    ∃ w', (Builtin.delete_ #[t, k] ty #[.map (some b), key]).run P w = .ok (.tuple #[]) w' ∧ VMap P k w' b n (upd f kl none) ∧ w.mapTurned w' b := by
  obtain ⟨D, ho, hf⟩ := h
  obtain ⟨w', hrun, ho', hg⟩ := ho.drop K ht hkey ty
  refine ⟨w', hrun, ⟨_, ho', fun x hx => ?_⟩, hg⟩
  unfold upd
  by_cases hxk : x = kl
  · subst hxk
    rw [if_pos (WideAt.sameKey_self hx)]
    exact ⟨fun z => atKey_del_same _, has_del_same⟩
  · rw [if_neg (by rw [sameKey_ne hxk]; decide)]
    exact ⟨fun z => by rw [atKey_del_other hxk]; exact (hf x hx).1 z, by rw [has_del_other hxk]; exact (hf x hx).2⟩
end
section
variable {P : Program} (w : World) {ops : Array Oper} {rest : List Oper} {o : Oper} {a : Act} {Q : Exit → Act → World → Prop}
/-- 'm[k]': behind 'at_lookup'. -/
theorem wpList_lookup_v (hg : o.guard = none) (m x : Operand) (t : TypeId) (hop : o.op = Op.lookup t m x false)
    (k e : TypeId) (K : Keyed P k) (ht : P.underlying t = some (.map k e)) (z : Value) (hz : (zeroValue e).run P w = .ok z w) (b n : Nat) (f : Lit → Option Value)
    (hm : a.eval m = .map (some b)) (hown : VMap P k w b n f) (key : Value) (kl : Lit) (hx : a.eval x = key) (hkey : keyOf P k key = some kl) (v : Value) (hv : (f kl).getD z = v)
    (hK : wpList P ops Q rest (a.put o.dst v) w) :
    wpList P ops Q (o :: rest) a w := by
  refine wpList_plain hg fun K' hK' => ?_
  have hrun := hown.look K ht hz hkey
  rw [hv] at hrun
  unfold Oper.wp
  simp [execOp, hop, hm, hx, hrun, Result.andThen]
  exact hK' _ _ hK
/-- 'm[k] = v': behind 'at_mapUpdate'. -/
theorem wpList_put_v (hg : o.guard = none) (m x v : Operand) (t : TypeId) (hop : o.op = Op.mapUpdate t m x v)
    (k e : TypeId) (K : Keyed P k) (ht : P.underlying t = some (.map k e)) (b n : Nat) (f : Lit → Option Value)
    (hm : a.eval m = .map (some b)) (hown : VMap P k w b n f) (hn : n < maxLen) (key val : Value) (kl : Lit) (hx : a.eval x = key) (hv : a.eval v = val) (hkey : keyOf P k key = some kl)
    (hK : ∀ w', VMap P k w' b (n + 1) (upd f kl (some val)) → w.mapTurned w' b → wpList P ops Q rest (a.put o.dst undef) w') :
    wpList P ops Q (o :: rest) a w := by
  refine wpList_plain hg fun K' hK' => ?_
  obtain ⟨w', hrun, r1, r2⟩ := hown.put K ht hn hkey (val := val)
  unfold Oper.wp
  simp [execOp, hop, hm, hx, hv, hrun, Result.andThen]
  exact hK' _ _ (hK w' r1 r2)
/-- 'delete(m, k)': behind 'at_delete'. -/
theorem wpList_delete_v (hg : o.guard = none) (m x : Operand) (t k : TypeId) (hop : o.op = Op.call { callee := Callee.builtin Builtin.delete, args := #[m, x], argTypes := #[t, k] })
    (e : TypeId) (K : Keyed P k) (ht : P.underlying t = some (.map k e)) (b n : Nat) (f : Lit → Option Value)
    (hm : a.eval m = .map (some b)) (hown : VMap P k w b n f) (key : Value) (kl : Lit) (hx : a.eval x = key) (hkey : keyOf P k key = some kl)
    (hK : ∀ w', VMap P k w' b n (upd f kl none) → w.mapTurned w' b → wpList P ops Q rest (a.put o.dst (.tuple #[])) w') :
    wpList P ops Q (o :: rest) a w := by
  refine wpList_plain hg fun K' hK' => ?_
  obtain ⟨w', hrun, r1, r2⟩ := hown.del K ht hkey o.type
  unfold Oper.wp
  simp [execOp, hop, resolve, invoke, builtin, hm, hx, hrun, Result.andThen]
  exact hK' _ _ (hK w' r1 r2)
end
/-! ### whole numbers under texts -/
def IMap (P : Program) (k : TypeId) (w : World) (b n : Nat) (g : ByteArray → Int) : Prop := ∃ f, VMap P k w b n f ∧ ∀ s, (f (sk s)).getD (.int .i64 0) = .int .i64 (g s)
def updI (g : ByteArray → Int) (s : ByteArray) (v : Int) : ByteArray → Int := fun t => if t = s then v else g t
section
variable {P : Program} {k : TypeId} {w w' : World} {b n : Nat} {g : ByteArray → Int}
theorem IMap.made (P : Program) (k : TypeId) (w : World) : IMap P k (w.alloc (.map #[] 0)) w.heap.size 0 (fun _ => 0) := ⟨_, VMap.made P k w, fun _ => rfl⟩
theorem IMap.kept {row : Option Nat} (h : IMap P k w b n g) (hg : w.grownBy w' row) (hne : some b ≠ row) : IMap P k w' b n g := by
  obtain ⟨f, h, hf⟩ := h
  exact ⟨f, h.kept hg hne, hf⟩
theorem IMap.lt (h : IMap P k w b n g) : b < w.heap.size := by
  obtain ⟨f, h, _⟩ := h
  exact h.lt
theorem IMap.below (h : IMap P k w b n g) (hb : Below w.heap.size w w') : IMap P k w' b n g := by
  obtain ⟨f, h, hf⟩ := h
  exact ⟨f, h.below hb, hf⟩
theorem IMap.alloc (h : IMap P k w b n g) (o : Obj) : IMap P k (w.alloc o) b n g := h.below (below_alloc (Below.refl _ _) o)
theorem IMap.setCell (h : IMap P k w b n g) {a : Addr} (ha : b ≠ a.block) (u : Value) : IMap P k (w.setCell a u) b n g := by
  obtain ⟨f, h, hf⟩ := h
  exact ⟨f, h.setCell ha u, hf⟩
theorem IMap.drewN (h : IMap P k w b n g) (m : Nat) : IMap P k (w.drewN m) b n g := h
theorem IMap.look {t e : TypeId} {s : ByteArray} (h : IMap P k w b n g) (hk : P.underlying k = some .string) (ht : P.underlying t = some (.map k e)) (hz : (zeroValue e).run P w = .ok (.int .i64 0) w) (hs : s.size ≤ maxLen) :
    (Instr.lookup t (.map (some b)) (.string s) false).run P w = .ok (.int .i64 (g s)) w := by
  obtain ⟨f, h, hf⟩ := h
  have := h.look (string_keyed hk) ht hz (keyOf_string_mk hk hs)
  rw [show (Lit.string s.data.toList) = sk s from rfl, hf s] at this
  exact this
theorem IMap.put {t e : TypeId} {s : ByteArray} {v : Int} (h : IMap P k w b n g) (hk : P.underlying k = some .string) (ht : P.underlying t = some (.map k e)) (hn : n < maxLen) (hs : s.size ≤ maxLen) :
    ∃ w', (Instr.mapUpdate t (.map (some b)) (.string s) (.int .i64 v)).run P w = .ok () w' ∧ IMap P k w' b (n + 1) (updI g s v) ∧ w.mapTurned w' b := by
  obtain ⟨f, h, hf⟩ := h
  obtain ⟨w', hrun, h', hg⟩ := h.put (string_keyed hk) ht hn (keyOf_string_mk hk hs) (val := .int .i64 v)
  refine ⟨w', hrun, ⟨_, h', fun t => ?_⟩, hg⟩
  unfold upd updI
  rw [show (Lit.string s.data.toList) = sk s from rfl, sk_same]
  by_cases e : t = s
  · rw [if_pos (decide_eq_true e), if_pos e]; rfl
  · rw [if_neg (by rw [decide_eq_false e]; decide), if_neg e]; exact hf t
end
theorem wpList_put_i {P : Program} (w : World) {ops : Array Oper} {rest : List Oper} {o : Oper} {a : Act} {Q : Exit → Act → World → Prop} (hg : o.guard = none) (m x v : Operand) (t : TypeId) (hop : o.op = Op.mapUpdate t m x v)
    (k e : TypeId) (hk : P.underlying k = some .string) (ht : P.underlying t = some (.map k e)) (b n : Nat) (g : ByteArray → Int)
    (hm : a.eval m = .map (some b)) (hown : IMap P k w b n g) (hn : n < maxLen) (s : ByteArray) (c : Int) (hx : a.eval x = .string s) (hv : a.eval v = .int .i64 c) (hs : s.size ≤ maxLen)
    (hK : ∀ w', IMap P k w' b (n + 1) (updI g s c) → w.mapTurned w' b → wpList P ops Q rest (a.put o.dst undef) w') :
    wpList P ops Q (o :: rest) a w := by
  refine wpList_plain hg fun K' hK' => ?_
  obtain ⟨w', hrun, r1, r2⟩ := hown.put hk ht hn hs (v := c)
  unfold Oper.wp
  simp [execOp, hop, hm, hx, hv, hrun, Result.andThen]
  exact hK' _ _ (hK w' r1 r2)
/-! ### a key that is there is deleted: one entry less -/
section
variable {P : Program} {k : TypeId} {w w' : World} {b n : Nat}
theorem ownsMap_tight {D : DataW Value} (h : w.ownsMap P k valR b n D) {n' : Nat} (hn : Go.Maps.size D ≤ n') : w.ownsMap P k valR b n' D := by
  obtain ⟨es, clock, hb, F, _, rfl⟩ := h
  exact ⟨es, clock, hb, F, by simpa [Go.Maps.size, length_sorted] using hn, rfl⟩
theorem size_del_lt (D : DataW Value) (kl : Lit) (h : Go.Maps.has D kl = true) : Go.Maps.size (D.del kl) + 1 ≤ Go.Maps.size D := by
  cases D <;> simp only [Go.Maps.has, Bool.false_eq_true] at h
  rename_i es
  rw [DataW.del_eq]
  simp only [Go.Maps.size, ChangeMaps.delKey]
  obtain ⟨p, hp, hs⟩ := List.any_eq_true.1 h
  exact List.length_filter_lt_length_iff_exists.2 ⟨p, hp, by simp [ChangeMaps.notKey, hs]⟩
theorem VMap.del1 {f : Lit → Option Value} {t e : TypeId} {key : Value} {kl : Lit} (h : VMap P k w b (n + 1) f) (K : Keyed P k) (ht : P.underlying t = some (.map k e)) (hkey : keyOf P k key = some kl) (hp : (f kl).isSome = true) (ty : TypeId) :
    ∃ w', (Builtin.delete_ #[t, k] ty #[.map (some b), key]).run P w = .ok (.tuple #[]) w' ∧ VMap P k w' b n (upd f kl none) ∧ w.mapTurned w' b := by
  obtain ⟨D, ho, hf⟩ := h
  obtain ⟨w', hrun, ho', hg⟩ := ho.drop K ht hkey ty
  have h1 := size_del_lt D kl (by rw [(hf kl (K.key hkey)).2]; exact hp)
  have h2 := ho.size_le
  refine ⟨w', hrun, ⟨_, ownsMap_tight ho' (n' := n) (by omega), fun x hx => ?_⟩, hg⟩
  unfold upd
  by_cases hxk : x = kl
  · subst hxk
    rw [if_pos (WideAt.sameKey_self hx)]
    exact ⟨fun z => atKey_del_same _, has_del_same⟩
  · rw [if_neg (by rw [sameKey_ne hxk]; decide)]
    exact ⟨fun z => by rw [atKey_del_other hxk]; exact (hf x hx).1 z, by rw [has_del_other hxk]; exact (hf x hx).2⟩
theorem IMap.del1 {g : ByteArray → Int} {t e : TypeId} {s : ByteArray} (h : IMap P k w b (n + 1) g) (hk : P.underlying k = some .string) (ht : P.underlying t = some (.map k e)) (hs : s.size ≤ maxLen) (hp : g s ≠ 0) (ty : TypeId) :
    ∃ w', (Builtin.delete_ #[t, k] ty #[.map (some b), .string s]).run P w = .ok (.tuple #[]) w' ∧ IMap P k w' b n (updI g s 0) ∧ w.mapTurned w' b := by
  obtain ⟨f, h, hf⟩ := h
  have hsome : (f (sk s)).isSome = true := by
    cases hc : f (sk s) with
    | some v => rfl
    | none =>
      have := hf s
      rw [hc] at this
      simp only [Option.getD_none, Value.int.injEq, true_and] at this
      exact absurd this.symm hp
  obtain ⟨w', hrun, h', hg⟩ := h.del1 (string_keyed hk) ht (keyOf_string_mk hk hs) hsome ty
  refine ⟨w', hrun, ⟨_, h', fun t => ?_⟩, hg⟩
  unfold upd updI
  rw [show (Lit.string s.data.toList) = sk s from rfl, sk_same]
  by_cases e : t = s
  · rw [if_pos (decide_eq_true e), if_pos e]; rfl
  · rw [if_neg (by rw [decide_eq_false e]; decide), if_neg e]; exact hf t
end
theorem wpList_delete_i {P : Program} (w : World) {ops : Array Oper} {rest : List Oper} {o : Oper} {a : Act} {Q : Exit → Act → World → Prop} (hg : o.guard = none) (m x : Operand) (t k : TypeId) (hop : o.op = Op.call { callee := Callee.builtin Builtin.delete, args := #[m, x], argTypes := #[t, k] })
    (e : TypeId) (hk : P.underlying k = some .string) (ht : P.underlying t = some (.map k e)) (b n : Nat) (g : ByteArray → Int)
    (hm : a.eval m = .map (some b)) (hown : IMap P k w b (n + 1) g) (s : ByteArray) (hx : a.eval x = .string s) (hs : s.size ≤ maxLen) (hp : g s ≠ 0)
    (hK : ∀ w', IMap P k w' b n (updI g s 0) → w.mapTurned w' b → wpList P ops Q rest (a.put o.dst (.tuple #[])) w') :
    wpList P ops Q (o :: rest) a w := by
  refine wpList_plain hg fun K' hK' => ?_
  obtain ⟨w', hrun, r1, r2⟩ := hown.del1 hk ht hs hp o.type
  unfold Oper.wp
  simp [execOp, hop, resolve, invoke, builtin, hm, hx, hrun, Result.andThen]
  exact hK' _ _ (hK w' r1 r2)
end Go.Proofs.Ytmmjbobicnmilaa.Maps0
