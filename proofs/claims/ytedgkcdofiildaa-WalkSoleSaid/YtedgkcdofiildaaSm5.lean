import Derived.Test.YtedgkcdofiildaaSm4
import Derived.RangeFuncSeq
import Derived.RangeFuncLeaves
import Derived.DeepKeys4
import Derived.ScopeJumps
/- A range over a function: what the function's value promises, and the law of the statement. -/
set_option linter.unusedVariables false
set_option linter.unusedSimpArgs false
namespace Go.Proofs.Ytedgkcdofiildaa.Sl
open Go Go.RowKit
/-- Nothing that lay has turned but the blocks O. -/
structure FrB (O : Blk) (w w' : World) : Prop where
  os : w'.os = w.os
  tape : w'.tape = w.tape
  output : w'.output = w.output
  size : w.heap.size ≤ w'.heap.size
  block : ∀ k, k < w.heap.size → ¬ O k → w'.heap[k]? = w.heap[k]?
theorem FrB.refl (O : Blk) (w : World) : FrB O w w := ⟨rfl, rfl, rfl, Nat.le_refl _, fun _ _ _ => rfl⟩
theorem FrB.trans {O O' : Blk} {a b c : World} (h : FrB O a b) (k : FrB O' b c) (hO : ∀ x, O' x → O x ∨ a.heap.size ≤ x) : FrB O a c :=
  ⟨k.os.trans h.os, k.tape.trans h.tape, k.output.trans h.output, Nat.le_trans h.size k.size, fun i hi hx => (k.block i (Nat.lt_of_lt_of_le hi h.size) (fun ho => by rcases hO i ho with h | h; exact hx h; omega)).trans (h.block i hi hx)⟩
theorem FrB.mono {O O' : Blk} {w w' : World} (h : FrB O w w') (hO : ∀ x, O x → O' x ∨ w.heap.size ≤ x) : FrB O' w w' := ⟨h.os, h.tape, h.output, h.size, fun k hk hx => h.block k hk (fun ho => by rcases hO k ho with h | h; exact hx h; omega)⟩
theorem Fr.toB {X : List Nat} {w w' : World} (h : Fr X w w') : FrB (· ∈ X) w w' := ⟨h.os, h.tape, h.output, h.size, h.block⟩
/-- An iterator's promise: it hands els, in order, to whatever loop; the loop's own blocks O, and what it leans on D, it leaves alone. -/
def SeqC {ε : Type} (P : Program) (g : FuncId) (lb : Array Value) (V : ε → List VA) (els : List ε) (S : Blk) (w : World) : Prop :=
  ∀ (l : Nat) (J : List ε → Blk → Blk → World → Prop) (Jx : Blk → Blk → World → Prop) (S1 O D : Blk) (W : World),
    Agree S w W → (∀ b, S b → S1 b) → (∀ b, S1 b → b < W.heap.size) → (∀ b, O b → b < W.heap.size ∧ ¬ S1 b) → (∀ b, D b → S1 b ∨ O b) →
    (∀ r O D W1 W2, J r O D W1 → (∀ b, D b → W2.heap[b]? = W1.heap[b]?) → J r O D W2) →
    (∀ O D W1 W2, Jx O D W1 → (∀ b, D b → W2.heap[b]? = W1.heap[b]?) → Jx O D W2) →
    (∀ x r θ S2 O D W1 args, J (x :: r) O D W1 → (∀ b, S1 b → S2 b) → (∀ b, S2 b → b < W1.heap.size) → (∀ b, O b → b < W1.heap.size ∧ ¬ S2 b) → (∀ b, D b → S2 b ∨ O b) → argSat θ S2 W1 (V x) args →
      YieldAt (rf none) 0 P l args.toArray W1 fun e W2 => ∃ O' D', FrB O W1 W2 ∧ (∀ b, O' b → O b ∨ since W1 W2 b) ∧ (∀ b, D' b → S2 b ∨ O b ∨ since W1 W2 b) ∧
        ((e = .returned (.bool true) ∧ J r O' D' W2) ∨ (e = .returned (.bool false) ∧ Jx O' D' W2))) →
    J els O D W →
    Calls P g (#[.func (.yield l) #[] #[]] ++ lb) W fun e W2 => (∃ v, e = .returned v) ∧ ∃ O' D', FrB O W W2 ∧ (∀ b, O' b → O b ∨ since W W2 b) ∧ (∀ b, D' b → S1 b ∨ O b ∨ since W W2 b) ∧ (J [] O' D' W2 ∨ Jx O' D' W2)
theorem SeqC.later {ε : Type} {P : Program} {g : FuncId} {lb : Array Value} {V : ε → List VA} {els : List ε} {S S' : Blk} {w w' : World} (h : SeqC P g lb V els S w) (hA : Agree S w w') (hS : ∀ b, S b → S' b) : SeqC P g lb V els S' w' :=
  fun l J Jx S1 O D W h1 h2 => h l J Jx S1 O D W (fun b hb => (h1 b (hS b hb)).trans (hA b hb)) (fun b hb => h2 b (hS b hb))
/-- A function value that is an iterator over els. -/
def VA.seq {ε : Type} (P : Program) (V : ε → List VA) (els : List ε) : VA where
  ids := []
  sem := fun _ S ob w v => ob = bk none ∧ ∃ g lb, v = .func (.func g) #[] lb ∧ Enters P g ∧ SeqC P g lb V els S w
  move := by rintro θ θ' S S' ob w w' v ⟨h0, g, lb, h1, h2, h3⟩ hA hS _ _; exact ⟨h0, g, lb, h1, h2, h3.later hA hS⟩
theorem plain_seq {ε : Type} {P : Program} {V : ε → List VA} {els : List ε} : Plain (VA.seq P V els) := fun h => h.1
/-- The block for what is put off. -/
abbrev putOff (D : Nat) : Deferred := { target := .collected D, args := #[] }
def Ent.mark (D : Nat) : Ent where
  key := 6999999
  slots := []
  ids := []
  sem := fun _ _ ob _ w => ob = bk (some D) ∧ w.heap[D]? = some (.deferred (some []))
  move := by rintro θ θ' S S' ob a a' w w' ⟨h0, h⟩ hA hS hb _ _; exact ⟨h0, (hb D (bk_at h0)).trans h⟩
theorem sat_moveI {θ θ' : Nat → Nat} {S S' : Blk} {a a' : Act} {w w' : World} : ∀ {Γ : List Ent} {ks : List Nat} {av : Blk}, sat θ S a w ks Γ av → Agree S w w' → (∀ b, S b → S' b) → (∀ b, av b → w'.heap[b]? = w.heap[b]?) →
    (∀ t, t ∉ ks → a'.tmps.getD t undef = a.tmps.getD t undef) → (∀ e, e ∈ Γ → ∀ k, k ∈ e.ids → θ' k = θ k) → sat θ' S' a' w' ks Γ av
  | [], _, _, _, _, _, _, _, _ => trivial
  | e :: Γ, ks, av, h, hA, hS, hb, ht, hi => by
    have ht' : ∀ t, t ∉ e.key :: ks → a'.tmps.getD t undef = a.tmps.getD t undef := fun t hm => ht t (fun h => hm (List.mem_cons_of_mem _ h))
    have hi' : ∀ x, x ∈ Γ → ∀ k, k ∈ x.ids → θ' k = θ k := fun x hx => hi x (List.mem_cons_of_mem _ hx)
    unfold sat at h ⊢
    by_cases hd : dead ks e = true
    · rw [if_pos hd] at h ⊢
      exact sat_moveI h hA hS hb ht' hi'
    · rw [if_neg hd] at h ⊢
      obtain ⟨ob, h1, h2, h3⟩ := h
      obtain ⟨l1, l2, l3⟩ := live_spec (by simpa using hd)
      exact ⟨ob, e.move h1 hA hS (fun b hob => hb b (h2 b hob)) (fun t hm => ht t (l1 t hm)) (fun k hm => hi e List.mem_cons_self k hm), h2, sat_moveI h3 hA hS (fun b hb' => hb b hb'.1) ht' hi'⟩
end Go.Proofs.Ytedgkcdofiildaa.Sl
/- The law of a range over a function. -/
set_option linter.unusedVariables false
set_option linter.unusedSimpArgs false
namespace Go.Proofs.Ytedgkcdofiildaa.Sl
open Go Go.RowKit
/-- What lies between two rounds. -/
structure LJ (fix : List Nat) (β : Nat → Nat) (A0 Γs : List Ent) (a : Act) (l Dd : Nat) (lp : Loop) (O D : Blk) (W : World) : Prop where
  ex : ∃ (θ : Nat → Nat) (S : Blk) (X : List Nat), (∀ k, k ∈ fix → θ k = β k) ∧ sat θ S act0 W [] Γs (· ∈ X) ∧ sat θ S a W [] A0 (fun _ => False) ∧
    (∀ b, O b ↔ (b ∈ X ∨ b = l ∨ b = Dd)) ∧ (∀ b, D b ↔ (S b ∨ O b)) ∧ (∀ b, D b → b < W.heap.size) ∧ (∀ b, b ∈ X → ¬ S b ∧ b ≠ l ∧ b ≠ Dd) ∧ ¬ S l ∧ ¬ S Dd
  loop : W.heap[l]? = some (.loop lp)
  put : W.heap[Dd]? = some (.deferred (some []))
  ne : l ≠ Dd
theorem LJ.stable {fix : List Nat} {β : Nat → Nat} {A0 Γs : List Ent} {a : Act} {l Dd : Nat} {lp : Loop} {O D : Blk} {W W' : World} (h : LJ fix β A0 Γs a l Dd lp O D W) (hD : ∀ b, D b → W'.heap[b]? = W.heap[b]?) : LJ fix β A0 Γs a l Dd lp O D W' := by
  obtain ⟨⟨θ, S, X, h1, h2, h3, h4, h5, h6, h7, h8, h9⟩, hl, hp, hne⟩ := h
  have hAS : Agree S W W' := fun b hb => hD b ((h5 b).2 (.inl hb))
  have hl' : D l := (h5 l).2 (.inr ((h4 l).2 (.inr (.inl rfl))))
  have hd' : D Dd := (h5 Dd).2 (.inr ((h4 Dd).2 (.inr (.inr rfl))))
  exact ⟨⟨θ, S, X, h1, sat_move h2 hAS (fun b hb => hb) (fun b hb => hD b ((h5 b).2 (.inr ((h4 b).2 (.inl hb))))) (fun t _ => rfl) (fun k _ => rfl),
    sat_move h3 hAS (fun b hb => hb) (fun b hb => hb.elim) (fun t _ => rfl) (fun k _ => rfl), h4, h5, fun b hb => by
      have e := hD b hb
      rw [Array.getElem?_eq_getElem (h6 b hb)] at e
      exact (Array.getElem?_eq_some_iff.1 e).1, h7, h8, h9⟩, (hD l hl').trans hl, (hD Dd hd').trans hp, hne⟩
def idsIn (fix : List Nat) (Γ : List Ent) : Bool := Γ.all fun e => e.ids.all fun k => fix.elem k
theorem idsIn_spec {fix : List Nat} {Γ : List Ent} (h : idsIn fix Γ = true) : ∀ e, e ∈ Γ → ∀ k, k ∈ e.ids → k ∈ fix := fun e he k hk => by
  have := List.all_eq_true.1 (List.all_eq_true.1 h e he) k hk
  simpa using this
/-- A round's context ahead of its body, and behind it. -/
theorem LJ.after {fix : List Nat} {β : Nat → Nat} {A0 Γs' Γe : List Ent} {a a3 : Act} {l Dd : Nat} {lpb : Loop} {O S2 S' : Blk} {W1 w1 W3 : World} {X X' : List Nat} {n : Nat} {θ : Nat → Nat} {S : Blk}
    (hA : idsIn fix A0 = true) (hn : noSlots Γs' = true) (h1 : ∀ k, k ∈ fix → θ k = β k) (h3 : sat θ S a W1 [] A0 (fun _ => False)) (h4 : ∀ b, O b ↔ (b ∈ X ∨ b = l ∨ b = Dd)) (hne : l ≠ Dd) (hput : W1.heap[Dd]? = some (.deferred (some [])))
    (h7 : ∀ b, b ∈ X → ¬ S b ∧ b ≠ l ∧ b ≠ Dd) (hSS : ∀ b, S b → S2 b) (hS2 : ∀ b, S2 b → b < W1.heap.size) (hO : ∀ b, O b → b < W1.heap.size ∧ ¬ S2 b)
    (f1 : Fr X W1 w1) (k1 : SOk ⟨W1, S2, X, n, some l, []⟩ S' w1) (hX' : ∀ b, b ∈ X' ↔ free ⟨W1, S2, X, n, some l, []⟩ S' w1 b)
    (hi : Inv ⟨w1.putObj l (.loop lpb), S', X', n, some l, []⟩ Γe a3 W3) (hfix : FixIn Γe β fix) (hT : Told Γe Γs') (lp' : Loop) :
    W3.heap[l]? = some (.loop lpb) ∧ ∃ O' D', FrB O W1 (W3.putObj l (.loop lp')) ∧ (∀ b, O' b → O b ∨ since W1 (W3.putObj l (.loop lp')) b) ∧ (∀ b, D' b → S2 b ∨ O b ∨ since W1 (W3.putObj l (.loop lp')) b) ∧ LJ fix β A0 Γs' a l Dd lp' O' D' (W3.putObj l (.loop lp')) := by
  obtain ⟨g1, g2, g3, θ3, S3, g4, g5⟩ := hi
  have hOl : O l := (h4 l).2 (.inr (.inl rfl))
  have hOd : O Dd := (h4 Dd).2 (.inr (.inr rfl))
  have sz1 := f1.size
  have sz2 := g3.size
  simp only [World.putObj_size] at sz2
  have hl1 := (hO l hOl).1
  have hd1 := (hO Dd hOd).1
  have hlX : l ∉ X := fun h => (h7 l h).2.1 rfl
  have hdX : Dd ∉ X := fun h => (h7 Dd h).2.2 rfl
  have hlX' : l ∉ X' := fun h => by
    rcases ((hX' l).1 h).2.2 with h | h
    · exact absurd h (by show ¬ W1.heap.size ≤ l; omega)
    · exact hlX h
  have hdX' : Dd ∉ X' := fun h => by
    rcases ((hX' Dd).1 h).2.2 with h | h
    · exact absurd h (by show ¬ W1.heap.size ≤ Dd; omega)
    · exact hdX h
  have hlS' : ¬ S' l := fun h => by
    rcases (k1 l h).2 with h | h | h
    · exact (hO l hOl).2 h
    · exact absurd h (by show ¬ W1.heap.size ≤ l; omega)
    · exact hlX h
  have hdS' : ¬ S' Dd := fun h => by
    rcases (k1 Dd h).2 with h | h | h
    · exact (hO Dd hOd).2 h
    · exact absurd h (by show ¬ W1.heap.size ≤ Dd; omega)
    · exact hdX h
  have hw2 : (w1.putObj l (.loop lpb)).heap[l]? = some (.loop lpb) := World.putObj_heap_same (by omega)
  have hl3 : W3.heap[l]? = some (.loop lpb) := (g3.block l (by rw [World.putObj_size]; omega) hlX').trans hw2
  have hb4 : ∀ b, b ≠ l → (W3.putObj l (.loop lp')).heap[b]? = W3.heap[b]? := fun b hb => World.putObj_heap_other hb
  have hkeep : ∀ b, b < W1.heap.size → b ∉ X → b ≠ l → (W3.putObj l (.loop lp')).heap[b]? = W1.heap[b]? := fun b hb hx hne' => by
    rw [hb4 b hne', g3.block b (by rw [World.putObj_size]; omega) (fun h => by
      rcases ((hX' b).1 h).2.2 with h | h
      · exact absurd h (by show ¬ W1.heap.size ≤ b; omega)
      · exact hx h), World.putObj_heap_other hne', f1.block b hb hx]
  refine ⟨hl3, ?_⟩
  let Sn : Blk := fun b => S3 b ∨ S' b ∨ S2 b
  have hS3l : ∀ b, S3 b → b ≠ l ∧ b ≠ Dd := fun b hb => by
    rcases (g4 b hb).2 with h | h | h
    · exact ⟨fun e => hlS' (e ▸ h), fun e => hdS' (e ▸ h)⟩
    · have h : w1.heap.size ≤ b := by have := h; simp only [World.putObj_size] at this; exact this
      exact ⟨by omega, by omega⟩
    · exact ⟨fun e => hlX' (e ▸ h), fun e => hdX' (e ▸ h)⟩
  obtain ⟨X4, hX4⟩ := blk_list W3.heap.size (free ⟨w1.putObj l (.loop lpb), S', X', n, some l, []⟩ S3 W3) (fun b hb => hb.2.1)
  have hX4l : ∀ b, b ∈ X4 → b ≠ l ∧ b ≠ Dd := fun b hb => by
    rcases ((hX4 b).1 hb).2.2 with h | h
    · have h : w1.heap.size ≤ b := by have := h; simp only [World.putObj_size] at this; exact this
      exact ⟨by omega, by omega⟩
    · exact ⟨fun e => hlX' (e ▸ h), fun e => hdX' (e ▸ h)⟩
  have hX4o : ∀ b, b ∈ X4 → b ∈ X ∨ W1.heap.size ≤ b := fun b hb => by
    rcases ((hX4 b).1 hb).2.2 with h | h
    · have h : w1.heap.size ≤ b := by have := h; simp only [World.putObj_size] at this; exact this
      exact .inr (by omega)
    · rcases ((hX' b).1 h).2.2 with h | h
      · exact .inr h
      · exact .inl h
  have hX4s : ∀ b, b ∈ X4 → ¬ Sn b := fun b hb hs => by
    have hf := (hX4 b).1 hb
    rcases hs with hs | hs | hs
    · exact hf.1 hs
    · rcases hf.2.2 with h | h
      · have h : w1.heap.size ≤ b := by have := h; simp only [World.putObj_size] at this; exact this
        have := (k1 b hs).1; omega
      · exact ((hX' b).1 h).1 hs
    · rcases hX4o b hb with h | h
      · exact (hO b ((h4 b).2 (.inl h))).2 hs
      · have := hS2 b hs; omega
  have hSn : ∀ b, Sn b → b < W3.heap.size ∧ (S2 b ∨ b ∈ X ∨ W1.heap.size ≤ b) := fun b hs => by
    have hS' : S' b → b < w1.heap.size ∧ (S2 b ∨ b ∈ X ∨ W1.heap.size ≤ b) := fun h => ⟨(k1 b h).1, by
      rcases (k1 b h).2 with h | h | h
      · exact .inl h
      · exact .inr (.inr h)
      · exact .inr (.inl h)⟩
    rcases hs with hs | hs | hs
    · refine ⟨(g4 b hs).1, ?_⟩
      rcases (g4 b hs).2 with h | h | h
      · exact (hS' h).2
      · have h : w1.heap.size ≤ b := by have := h; simp only [World.putObj_size] at this; exact this
        exact .inr (.inr (by omega))
      · rcases ((hX' b).1 h).2.2 with h | h
        · exact .inr (.inr h)
        · exact .inr (.inl h)
    · exact ⟨by have := (hS' hs).1; omega, (hS' hs).2⟩
    · exact ⟨by have := hS2 b hs; omega, .inl hs⟩
  have hθ := hfix.all g5
  refine ⟨fun b => b ∈ X4 ∨ b = l ∨ b = Dd, fun b => Sn b ∨ (b ∈ X4 ∨ b = l ∨ b = Dd), ?_, ?_, ?_, ⟨⟨θ3, Sn, X4, hθ, ?_, ?_, fun b => Iff.rfl, fun b => Iff.rfl, ?_, ?_, ?_, ?_⟩, ?_, ?_, hne⟩⟩
  · refine ⟨g3.os.trans f1.os, g3.tape.trans f1.tape, g3.output.trans f1.output, by rw [World.putObj_size]; omega, fun b hb hx => ?_⟩
    exact hkeep b hb (fun h => hx ((h4 b).2 (.inl h))) (fun e => hx ((h4 b).2 (.inr (.inl e))))
  · rintro b (hb | rfl | rfl)
    · rcases hX4o b hb with h | h
      · exact .inl ((h4 b).2 (.inl h))
      · exact .inr ⟨h, by rw [World.putObj_size]; exact ((hX4 b).1 hb).2.1⟩
    · exact .inl hOl
    · exact .inl hOd
  · rintro b (hb | hb | rfl | rfl)
    · rcases (hSn b hb).2 with h | h | h
      · exact .inl h
      · exact .inr (.inl ((h4 b).2 (.inl h)))
      · exact .inr (.inr ⟨h, by rw [World.putObj_size]; exact (hSn b hb).1⟩)
    · rcases hX4o b hb with h | h
      · exact .inr (.inl ((h4 b).2 (.inl h)))
      · exact .inr (.inr ⟨h, by rw [World.putObj_size]; exact ((hX4 b).1 hb).2.1⟩)
    · exact .inr (.inl hOl)
    · exact .inr (.inl hOd)
  · have e1 := sat_sub g5 (fun k hk => hk) hT.sub
    have e2 := sat_act (a' := act0) hn e1
    refine sat_mono (sat_move e2 (fun b hb => hb4 b (hS3l b hb).1) (fun b hb => .inl hb) (fun b hb => hb4 b (hX4l b ((hX4 b).2 hb)).1) (fun t _ => rfl) (fun k _ => rfl)) (fun k hk => hk) (fun b hb => (hX4 b).2 hb)
  · refine sat_moveI h3 (fun b hb => hkeep b (hS2 b (hSS b hb)) (fun h => (h7 b h).1 hb) (fun e => ?_)) (fun b hb => .inr (.inr (hSS b hb))) (fun b hb => hb.elim) (fun t _ => rfl) (fun e he k hk => ?_)
    · exact (hO l hOl).2 (e ▸ hSS b hb)
    · rw [hθ k (idsIn_spec hA e he k hk), h1 k (idsIn_spec hA e he k hk)]
  · rintro b (hb | hb | rfl | rfl)
    · rw [World.putObj_size]; exact (hSn b hb).1
    · rw [World.putObj_size]; exact ((hX4 b).1 hb).2.1
    · rw [World.putObj_size]; omega
    · rw [World.putObj_size]; omega
  · exact fun b hb => ⟨hX4s b hb, hX4l b hb⟩
  · rintro (h | h | h)
    · exact (hS3l l h).1 rfl
    · exact hlS' h
    · exact (hO l hOl).2 h
  · rintro (h | h | h)
    · exact (hS3l Dd h).2 rfl
    · exact hdS' h
    · exact (hO Dd hOd).2 h
  · exact World.putObj_heap_same (by omega)
  · exact (hkeep Dd hd1 hdX (fun e => hne e.symm)).trans hput
end Go.Proofs.Ytedgkcdofiildaa.Sl
/- The statement 'for .. := range f { .. }'. -/
set_option linter.unusedVariables false
set_option linter.unusedSimpArgs false
namespace Go.Proofs.Ytedgkcdofiildaa.Sl
open Go Go.RowKit
/-- The parameters of a round. -/
def parEnts : List Nat → List VA → List Ent
  | p :: ps, A :: As => Ent.t p A :: parEnts ps As
  | _, _ => []
def setAll (tmps : Array Value) : List Nat → List Value → Array Value
  | p :: ps, v :: vs => setAll (tmps.setIfInBounds p v) ps vs
  | _, _ => tmps
theorem setAll_eq (tmps : Array Value) : ∀ (ps : List Nat) (vs : List Value), (ps.zip vs).foldl (fun t (x : Nat × Value) => t.setIfInBounds x.1 x.2) tmps = setAll tmps ps vs
  | [], [] => rfl
  | [], _ :: _ => rfl
  | _ :: _, [] => rfl
  | p :: ps, v :: vs => by
    rw [List.zip_cons_cons, List.foldl_cons, setAll]
    exact setAll_eq _ ps vs
theorem setAll_size (ps : List Nat) : ∀ (vs : List Value) (tmps : Array Value), (setAll tmps ps vs).size = tmps.size := by
  induction ps with
  | nil => intro vs tmps; cases vs <;> rfl
  | cons p ps ih =>
    intro vs tmps
    cases vs with
    | nil => rfl
    | cons v vs => rw [setAll, ih]; simp
theorem setAll_ne (t : Nat) (ps : List Nat) : ∀ (vs : List Value) (tmps : Array Value), t ∉ ps → (setAll tmps ps vs).getD t undef = tmps.getD t undef := by
  induction ps with
  | nil => intro vs tmps _; cases vs <;> rfl
  | cons p ps ih =>
    intro vs tmps h
    cases vs with
    | nil => rfl
    | cons v vs =>
      rw [setAll, ih vs _ (fun hm => h (List.mem_cons_of_mem _ hm)), Array.getD_eq_getD_getElem?, Array.getElem?_setIfInBounds, if_neg (fun e => h (by simp [e])), ← Array.getD_eq_getD_getElem?]
theorem par_sat {θ θ' : Nat → Nat} {S : Blk} {w : World} : ∀ {ps : List Nat} {As : List VA} {vs : List Value} {ks : List Nat} {tmps : Array Value}, argSat θ' S w As vs → (∀ A, A ∈ As → A.ids = []) → ps.Nodup → (∀ p, p ∈ ps → p < tmps.size ∧ p < 1000000) → (∀ k, k ∈ ks → k < 1000000 ∧ k ∉ ps) →
    ∀ {df : List Deferred}, sat θ S { tmps := setAll tmps ps vs, defers := df } w ks (parEnts ps As) (fun _ => False)
  | [], _, _, _, _, _, _, _, _, _, _ => by unfold parEnts; trivial
  | _ :: _, [], _, _, _, _, _, _, _, _, _ => by unfold parEnts; trivial
  | _ :: _, _ :: _, [], _, _, h, _, _, _, _, _ => h.elim
  | p :: ps, A :: As, v :: vs, ks, tmps, h, hids, hnd, hlt, hks, df => by
    obtain ⟨h1, h2⟩ := h
    have hnd' := List.nodup_cons.1 hnd
    have hA := hids A List.mem_cons_self
    unfold parEnts
    have hd : dead ks (Ent.t p A) = false := dead_iff (fun k hk => by
      have := hks k hk
      simp only [Ent.deps, Ent.t, hA, List.map_nil, List.append_nil, List.mem_cons, List.not_mem_nil, or_false, or_self]
      exact fun e => this.2 (by simp [e]))
    refine sat_consK hd ?_ ?_
    · show A.sem θ S (bk none) w ((setAll tmps (p :: ps) (v :: vs)).getD p undef)
      rw [setAll, setAll_ne p ps vs _ hnd'.1, Array.getD_eq_getD_getElem?, Array.getElem?_setIfInBounds, if_pos rfl, if_pos (hlt p List.mem_cons_self).1]
      exact A.move h1 (Agree.refl _ _) (fun b hb => hb) (fun b _ => rfl) (fun k hk => by rw [hA] at hk; cases hk)
    · rw [setAll]
      exact par_sat h2 (fun B hB => hids B (List.mem_cons_of_mem _ hB)) hnd'.2 (fun q hq => by rw [Array.size_setIfInBounds]; exact hlt q (List.mem_cons_of_mem _ hq)) (fun k hk => by
        rcases List.mem_cons.1 hk with e | hk
        · rw [show k = p from e]; exact ⟨(hlt p List.mem_cons_self).2, hnd'.1⟩
        · exact ⟨(hks k hk).1, fun hm => (hks k hk).2 (List.mem_cons_of_mem _ hm)⟩)
theorem parEnts_key : ∀ {ps : List Nat} {As : List VA} {k : Nat}, ps.length = As.length → k ∈ ps → k ∈ (parEnts ps As).map (·.key)
  | [], _, _, _, h => by cases h
  | p :: ps, [], _, h, _ => by cases h
  | p :: ps, A :: As, k, h, hk => by
    unfold parEnts
    rcases List.mem_cons.1 hk with rfl | hk
    · exact List.mem_cons_self
    · exact List.mem_cons_of_mem _ (parEnts_key (by simpa using h) hk)
/-- An entry that owns nothing. -/
def NoOwn (e : Ent) : Prop := ∀ θ S ob a w, e.sem θ S ob a w → ob = bk none
theorem noOwn_t {d : Nat} {A : VA} (h : Plain A) : NoOwn (Ent.t d A) := fun _ _ _ _ _ hs => h hs
inductive NoOwns : List Ent → Prop
  | nil : NoOwns []
  | cons {e : Ent} {l : List Ent} : NoOwn e → NoOwns l → NoOwns (e :: l)
theorem NoOwns.sat {l : List Ent} (h : NoOwns l) {θ : Nat → Nat} {S : Blk} {a : Act} {w : World} : ∀ {ks : List Nat} {av av' : Blk}, Sl.sat θ S a w ks l av → Sl.sat θ S a w ks l av' := by
  induction h with
  | nil => intro _ _ _ _; trivial
  | @cons e l h1 _ ih =>
    intro ks av av' hs
    unfold Sl.sat at hs ⊢
    by_cases hd : dead ks e = true
    · rw [if_pos hd] at hs ⊢; exact ih hs
    · rw [if_neg hd] at hs ⊢
      obtain ⟨ob, g1, g2, g3⟩ := hs
      obtain rfl := h1 _ _ _ _ _ g1
      exact ⟨bk none, g1, fun b hb => (by cases hb), ih g3⟩
/-- What the body of a round comes to. -/
def RoundQ {ε σ τ : Type} (c : Ctx) (it : List ε → σ → Option (Except τ σ)) (o : Except τ σ) (r : List ε) (fix : List Nat) (β : Nat → Nat) (pre : σ → List Ent) (preX : τ → List Ent) : Exit → Act → World → Prop
  | .normal, a, w => ∃ s' Γe, it r s' = some o ∧ FixIn Γe β fix ∧ Told Γe (pre s') ∧ Inv c Γe a w
  | .ret, a, w => ∃ t Γe, o = .error t ∧ FixIn Γe β fix ∧ Told Γe (preX t) ∧ Inv c Γe a w
  | _, _, _ => False
/-- What stands behind the assignments of a round's parameters. -/
def AsgQ (P : Program) (c : Ctx) (body : Code) (R : Ctx → Exit → Act → World → Prop) : Exit → Act → World → Prop :=
  Exit.then (fun a w => ∃ Γ1, Inv c Γ1 a w ∧ ∀ w0 S0 X, Goes P ⟨w0, S0, X, c.n, c.rd, []⟩ Γ1 body (R ⟨w0, S0, X, c.n, c.rd, []⟩)) (fun _ _ _ => False)
theorem ends_asg {P : Program} {c : Ctx} {body : Code} {R : Ctx → Exit → Act → World → Prop} {Γ : List Ent} (h : ∀ w0 S0 X, Goes P ⟨w0, S0, X, c.n, c.rd, []⟩ Γ body (R ⟨w0, S0, X, c.n, c.rd, []⟩)) : Ends c Γ (AsgQ P c body R) .normal := fun a w hi => ⟨Γ, hi, h⟩
section
variable {ε σ τ : Type} {P : Program} {c : Ctx} {Γ : List Ent} {Q : Exit → Act → World → Prop}
theorem ends_round {it : List ε → σ → Option (Except τ σ)} {o : Except τ σ} {r : List ε} {fix : List Nat} {β : Nat → Nat} {pre : σ → List Ent} {preX : τ → List Ent} (s' : σ) (H : it r s' = some o) (hf : FixIn Γ β fix) (hT : Told Γ (pre s')) : Ends c Γ (RoundQ c it o r fix β pre preX) .normal := fun a w hi => ⟨s', Γ, H, hf, hT, hi⟩
def parsOk (n : Nat) (ps : List Nat) (m : Nat) : Bool := Nat.beq ps.length m && ps.all (fun p => Nat.blt p n) && match ps with | [] => true | [_] => true | [p, q] => !Nat.beq p q | _ => false
theorem parsOk_spec {n m : Nat} {ps : List Nat} (h : parsOk n ps m = true) : ps.length = m ∧ (∀ p, p ∈ ps → p < n) ∧ ps.Nodup := by
  simp only [parsOk, Bool.and_eq_true] at h
  obtain ⟨⟨h1, h2⟩, h3⟩ := h
  refine ⟨Nat.eq_of_beq_eq_true h1, fun p hp => blt_lt (List.all_eq_true.1 h2 p hp), ?_⟩
  match ps, h3 with
  | [], _ => exact List.nodup_nil
  | [_], _ => simp
  | [p, q], h3 =>
    have : p ≠ q := fun e => by rw [e] at h3; simp at h3
    simp [this]
set_option maxHeartbeats 1000000 in
/-- 'for .. := range f { .. }' over an iterator that is known. -/
theorem goes_rangeFunc {s : Nat} {ps : List Nat} {assign body : Code} {V : ε → List VA} {els : List ε} {m : Nat} (it : List ε → σ → Option (Except τ σ)) {o : Except τ σ} (s0 : σ) (fix : List Nat) (A0 : List Ent) (pre : σ → List Ent) (preX : τ → List Ent)
    (hrd : c.rd = none) (hdf : c.df = []) (hs : findE [] Γ s = some (Ent.t s (VA.seq P V els))) (H : it els s0 = some o) (hit0 : ∀ x, it [] x = some (.ok x))
    (hTA : Told Γ A0) (hTp : Told Γ (pre s0)) (hNo : NoOwns A0) (hids : idsIn fix A0 = true) (hn : ∀ x, noSlots (pre x) = true) (hnX : ∀ t, noSlots (preX t) = true)
    (hV : ∀ x, (V x).length = m ∧ noIds (V x) = true) (hps : parsOk c.n ps m = true)
    (hbody : ∀ l x r st w0 S0 X β, it (x :: r) st = some o → Goes P ⟨w0, S0, X, c.n, some l, []⟩ (parEnts ps (V x) ++ (A0 ++ (pre st ++ fixEnts β fix))) assign
      (AsgQ P ⟨w0, S0, X, c.n, some l, []⟩ body fun c' => RoundQ c' it o r fix β pre preX))
    (hok : ∀ D st, o = .ok st → Ends { c with df := [putOff D] } (Ent.mark D :: (A0 ++ pre st)) Q .normal)
    (hret : ∀ D t, o = .error t → Ends { c with df := [putOff D] } (Ent.mark D :: (A0 ++ preX t)) Q .ret) :
    Goes P c Γ (.rangeFunc (.tmp s) ps.toArray assign body) Q := fun a w hi => by
  obtain ⟨h1, h2, h3, θ, S, h4, h5⟩ := hi
  rw [hdf] at h1
  obtain ⟨_, ⟨_, g, lb, hg, hen, hseq⟩, _⟩ := sat_take (has_find hs) h5
  obtain ⟨p1, p2, p3⟩ := parsOk_spec hps
  rw [hrd]
  refine wpIn_rangeFunc ?_
  intro fn _
  obtain ⟨rec, hrec⟩ : ∃ rec : LoopState → Option Code → Loop, rec = fun st pe => { state := st, pending := pe, fn, tmps := a.tmps, params := ps.toArray, assign, body, defers := w.heap.size } := ⟨_, rfl⟩
  obtain ⟨W1, hW1⟩ : ∃ W1, (w.alloc (.deferred (some []))).alloc (.loop (rec .ready none)) = W1 := ⟨_, rfl⟩
  have hL1 : W1.heap[w.heap.size + 1]? = some (.loop (rec .ready none)) := by
    rw [← hW1]; have := World.alloc_heap_new (w.alloc (.deferred (some []))) (.loop (rec .ready none)); rwa [World.size_alloc] at this
  have hK1 : W1.heap[w.heap.size]? = some (.deferred (some [])) := by
    rw [← hW1]; exact (Below.heap_alloc _ _ _ (by simp)).trans (World.alloc_heap_new w _)
  have hsz1 : W1.heap.size = w.heap.size + 2 := by rw [← hW1]; simp
  have hkeep1 : ∀ b, b < w.heap.size → W1.heap[b]? = w.heap[b]? := fun b hb => by
    rw [← hW1]; exact (Below.heap_alloc _ _ _ (by simp; omega)).trans (Below.heap_alloc _ _ _ hb)
  have hfr1 : Fr [] w W1 := ⟨by rw [← hW1]; rfl, by rw [← hW1]; rfl, by rw [← hW1]; rfl, by omega, fun b hb _ => hkeep1 b hb⟩
  refine ⟨w.heap.size + 1, [putOff w.heap.size], W1, { target := .fn (.func g) lb, args := #[.func (.yield (w.heap.size + 1)) #[] #[]] }, W1, g,
    #[.func (.yield (w.heap.size + 1)) #[] #[]] ++ lb, W1, ?_, ?_, fun _ _ => trivial, ?_, fun e => (by cases e), ?_⟩
  · rw [← hW1, hrec]; exact run_enterLoop_outer _ _ _ _ _
  · have hg' : a.eval (.tmp s) = .func (.func g) #[] lb := hg
    simp only [resolve, hg']
    simp [go_sem]
  · have hen' := hen (#[.func (.yield (w.heap.size + 1)) #[] #[]] ++ lb) W1
    simp [invoke, go_sem, hen']
  · have hal : ∀ b, free c S w b → b < w.heap.size := fun b hb => hb.2.1
    obtain ⟨X, hX⟩ := blk_list w.heap.size (free c S w) hal
    have hA0 := hNo.sat (av' := fun _ => False) (sat_sub h5 (fun k hk => hk) hTA.sub)
    have hp0 := sat_act (a' := act0) (hn s0) (sat_sub h5 (fun k hk => hk) hTp.sub)
    have hagS : Agree S w W1 := fun b hb => hkeep1 b (h4 b hb).1
    let O : Blk := fun b => b ∈ X ∨ b = w.heap.size + 1 ∨ b = w.heap.size
    have hJ0 : LJ fix θ A0 (pre s0) a (w.heap.size + 1) w.heap.size (rec .ready none) O (fun b => S b ∨ O b) W1 := by
      refine ⟨⟨θ, S, X, fun k _ => rfl, ?_, ?_, fun b => Iff.rfl, fun b => Iff.rfl, ?_, ?_, ?_, ?_⟩, hL1, hK1, by omega⟩
      · exact sat_mono (sat_move hp0 hagS (fun b hb => hb) (fun b hb => hkeep1 b hb.2.1) (fun t _ => rfl) (fun k _ => rfl)) (fun k hk => hk) (fun b hb => (hX b).2 hb)
      · exact sat_move hA0 hagS (fun b hb => hb) (fun b hb => hb.elim) (fun t _ => rfl) (fun k _ => rfl)
      · rintro b (hb | hb | rfl | rfl)
        · have := (h4 b hb).1; omega
        · have := hal b ((hX b).1 hb); omega
        · omega
        · omega
      · exact fun b hb => ⟨((hX b).1 hb).1, by have := hal b ((hX b).1 hb); omega, by have := hal b ((hX b).1 hb); omega⟩
      · exact fun h => by have := (h4 _ h).1; omega
      · exact fun h => by have := (h4 _ h).1; omega
    refine (calls_in (r := none) (n := 0 - 1) (hseq (w.heap.size + 1)
      (fun r O D W => ∃ st, it r st = some o ∧ LJ fix θ A0 (pre st) a (w.heap.size + 1) w.heap.size (rec .ready none) O D W)
      (fun O D W => ∃ t, o = .error t ∧ LJ fix θ A0 (preX t) a (w.heap.size + 1) w.heap.size (rec .done (some .ret)) O D W)
      S O (fun b => S b ∨ O b) W1 hagS (fun b hb => hb) (fun b hb => by have := (h4 b hb).1; omega) ?_ (fun b hb => hb) ?_ ?_ ?_ ⟨s0, H, hJ0⟩)).mono ?_
    · rintro b (hb | rfl | rfl)
      · exact ⟨by have := hal b ((hX b).1 hb); omega, ((hX b).1 hb).1⟩
      · exact ⟨by omega, fun h => by have := (h4 _ h).1; omega⟩
      · exact ⟨by omega, fun h => by have := (h4 _ h).1; omega⟩
    · rintro r O D A B ⟨st, h, hj⟩ hD; exact ⟨st, h, hj.stable hD⟩
    · rintro O D A B ⟨t, h, hj⟩ hD; exact ⟨t, h, hj.stable hD⟩
    · -- A ROUND
      rintro x r θ' S2 O D Wr args ⟨st, hst, hj⟩ hS12 hS2 hO hD ha
      obtain ⟨⟨θr, Sr, Xr, r1, r2, r3, r4, r5, r6, r7, r8, r9⟩, rl, rp, rne⟩ := hj
      have hlen : args.length = ps.length := by rw [argSat_len ha, (hV x).1, p1]
      have hy := run_yield (P := P) (args := args.toArray) rl (by rw [hrec]; simp [hlen])
      rw [hrec] at hy
      have hSS : ∀ b, Sr b → S2 b := fun b hb => by
        rcases hD b ((r5 b).2 (.inl hb)) with h | h
        · exact h
        · rcases (r4 b).1 h with h | rfl | rfl
          · exact absurd hb (r7 b h).1
          · exact absurd hb r8
          · exact absurd hb r9
      have hgo := hbody (w.heap.size + 1) x r st Wr S2 Xr θ hst { tmps := setAll a.tmps ps args, defers := [] } Wr ⟨rfl, ⟨by rw [setAll_size]; exact h2.1, h2.2⟩, Fr.refl _ _, θr, S2, fun b hb => ⟨hS2 b hb, .inl hb⟩, by
        have hks : ∀ k, k ∈ ([] : List Nat) → k < 1000000 ∧ k ∉ ps := fun k hk => by cases hk
        have e1 := par_sat (θ := θr) (df := []) ha (noIds_spec (hV x).2) p3 (fun p hp => ⟨by rw [h2.1]; exact p2 p hp, by have := p2 p hp; omega⟩) hks (tmps := a.tmps)
        have e2 : sat θr S2 { tmps := setAll a.tmps ps args, defers := [] } Wr ps A0 (fun _ => False) :=
          sat_move (sat_mono r3 (ks' := ps) (fun k hk => by cases hk) (fun b hb => hb)) (fun b _ => rfl) hSS (fun b hb => hb.elim) (fun t ht => setAll_ne t ps _ _ ht) (fun k _ => rfl)
        have e3 : sat θr S2 { tmps := setAll a.tmps ps args, defers := [] } Wr [] (pre st) (· ∈ Xr) := sat_act (hn st) (sat_move r2 (fun b _ => rfl) hSS (fun b _ => rfl) (fun t _ => rfl) (fun k _ => rfl))
        have e4 : sat θr S2 { tmps := setAll a.tmps ps args, defers := [] } Wr [] (pre st ++ fixEnts θ fix) (· ∈ Xr) := by
          have hfx : sat θr S2 { tmps := setAll a.tmps ps args, defers := [] } Wr [] (fixEnts θ fix) (fun _ => False) := by
            rw [show fixEnts θ fix = fixEnts θr fix from List.map_congr_left (fun k hk => by rw [r1 k hk])]; exact sat_fix
          exact sat_append (av1 := (· ∈ Xr)) (av2 := fun _ => False) (ks2 := []) e3 hfx (fun k hk => by cases hk) (fun b hb => hb) (fun b hb => hb.elim) (fun b hb => hb.elim)
        have e5 := sat_append (av := fun b => b ∈ Xr) (av1 := fun _ => False) (av2 := (· ∈ Xr)) (ks2 := []) e2 e4 (fun k hk => by cases hk) (fun b hb => hb.elim) (fun b hb => hb) (fun b _ h => h)
        refine sat_mono (sat_append (av := fun b => b ∈ Xr) (av1 := fun _ => False) (av2 := (· ∈ Xr)) (ks2 := ps) e1 e5 (fun k hk => .inr (parEnts_key (by rw [p1, (hV x).1]) hk)) (fun b hb => hb.elim) (fun b hb => hb) (fun b _ h => h)) (fun k hk => hk) (fun b hb => ?_)
        exact ⟨fun h => (hO b ((r4 b).2 (.inl hb))).2 h, (hO b ((r4 b).2 (.inl hb))).1, .inr hb⟩⟩
      refine ⟨fn, _, assign, body, hy, ?_⟩
      rw [show ((ps.toArray.zip args.toArray).foldl (fun tmps (x : Nat × Value) => tmps.setIfInBounds x.1 x.2) a.tmps) = setAll a.tmps ps args by
        rw [← setAll_eq, List.zip_toArray, List.foldl_toArray]]
      refine roundIn_of_wpIn (F := rf none) trivial ?_
      refine wpIn_mono hgo ?_
      intro e a1 w1 hq
      cases e with
      | normal =>
        obtain ⟨Γ1, hInv, hG⟩ := hq
        obtain ⟨q1, q2, q3, θ1, S1', q4, q5⟩ := hInv
        have hl1 : w1.heap[w.heap.size + 1]? = some (.loop (rec .ready none)) := (q3.block _ (hO _ ((r4 _).2 (.inr (.inl rfl)))).1 (fun h => (r7 _ h).2.1 rfl)).trans rl
        refine ⟨w1.putObj (w.heap.size + 1) (.loop { rec .ready none with state := .busy }), run_beginRound hl1 (by rw [hrec]), ?_⟩
        obtain ⟨X', hX'⟩ := blk_list w1.heap.size (free ⟨Wr, S2, Xr, c.n, some (w.heap.size + 1), []⟩ S1' w1) (fun b hb => hb.2.1)
        have hlS' : ¬ S1' (w.heap.size + 1) := fun h => by
          have hOl := hO _ ((r4 (w.heap.size + 1)).2 (.inr (.inl rfl)))
          rcases (q4 _ h).2 with h | h | h
          · exact hOl.2 h
          · have h : Wr.heap.size ≤ w.heap.size + 1 := h
            omega
          · exact (r7 _ h).2.1 rfl
        have hlX' : ∀ b, b ∈ X' → b ≠ w.heap.size + 1 := fun b hb e => by
          have hOl := hO _ ((r4 (w.heap.size + 1)).2 (.inr (.inl rfl)))
          rw [e] at hb
          rcases ((hX' _).1 hb).2.2 with h | h
          · have h : Wr.heap.size ≤ w.heap.size + 1 := h
            omega
          · exact (r7 _ h).2.1 rfl
        have hbd := hG (w1.putObj (w.heap.size + 1) (.loop { rec .ready none with state := .busy })) S1' X' a1 (w1.putObj (w.heap.size + 1) (.loop { rec .ready none with state := .busy })) ⟨q1, q2, Fr.refl _ _, θ1, S1', fun b hb => ⟨by rw [World.putObj_size]; exact (q4 b hb).1, .inl hb⟩, by
          refine sat_mono (sat_move q5 (fun b hb => World.putObj_heap_other (fun e => hlS' (e ▸ hb))) (fun b hb => hb) (fun b hb => World.putObj_heap_other (hlX' b ((hX' b).2 hb))) (fun t _ => rfl) (fun k _ => rfl)) (fun k hk => hk) (fun b hb => ?_)
          exact ⟨hb.1, by rw [World.putObj_size]; exact hb.2.1, .inr ((hX' b).2 hb)⟩⟩
        refine wpIn_mono hbd ?_
        intro e2 a3 W3 hq3
        cases e2 with
        | normal =>
          obtain ⟨s', Γe, e1, e2, e3, e4⟩ := hq3
          obtain ⟨hl3, O', D', d1, d2, d3, d4⟩ := LJ.after (n := c.n) hids (hn s') r1 r3 r4 rne rp r7 hSS hS2 hO q3 q4 hX' e4 e2 e3 (rec .ready none)
          have hend := run_endRound (P := P) none hl3
          refine ⟨_, _, hend, O', D', ?_⟩
          have hee : ({ { rec .ready none with state := .busy } with state := if (none : Option Code).isNone then LoopState.ready else .done, pending := none } : Loop) = rec .ready none := by rw [hrec]; rfl
          rw [hee]
          exact ⟨d1, d2, d3, .inl ⟨rfl, s', e1, d4⟩⟩
        | ret =>
          obtain ⟨t, Γe, e1, e2, e3, e4⟩ := hq3
          obtain ⟨hl3, O', D', d1, d2, d3, d4⟩ := LJ.after (n := c.n) hids (hnX t) r1 r3 r4 rne rp r7 hSS hS2 hO q3 q4 hX' e4 e2 e3 (rec .done (some .ret))
          have hend := run_endRound (P := P) (some .ret) hl3
          refine ⟨_, _, hend, O', D', ?_⟩
          have hee : ({ { rec .ready none with state := .busy } with state := if (some Code.ret : Option Code).isNone then LoopState.ready else .done, pending := some .ret } : Loop) = rec .done (some .ret) := by rw [hrec]; rfl
          rw [hee]
          exact ⟨d1, d2, d3, .inr ⟨rfl, t, e1, d4⟩⟩
        | exit id => exact hq3.elim
        | goto t => exact hq3.elim
        | panic ch => exact hq3.elim
        | outgrown => exact hq3.elim
      | ret => exact hq.elim
      | exit id => exact hq.elim
      | goto t => exact hq.elim
      | panic ch => exact hq.elim
      | outgrown => exact hq.elim
    · -- BEHIND THE ITERATOR
      have hfin : ∀ (Γs : List Ent) (lp : Loop) (O' D' : Blk) (W2 : World), FrB O W1 W2 → (∀ b, O' b → O b ∨ since W1 W2 b) → (∀ b, D' b → S b ∨ O b ∨ since W1 W2 b) → noSlots Γs = true → LJ fix θ A0 Γs a (w.heap.size + 1) w.heap.size lp O' D' W2 → lp.state ≠ .busy →
          Inv { c with df := [putOff w.heap.size] } (Ent.mark w.heap.size :: (A0 ++ Γs)) { a with defers := [putOff w.heap.size] ++ a.defers } (W2.putObj (w.heap.size + 1) (.loop { lp with state := .exhausted })) := by
        rintro Γs lp O' D' W2 d1 d2 d3 hnS ⟨⟨θ', S', X', r1, r2, r3, r4, r5, r6, r7, r8, r9⟩, rl, rp, rne⟩ _
        have sz2 := d1.size
        have sz0 := h3.size
        have hOc : ∀ b, O b → c.w0.heap.size ≤ b ∨ b ∈ c.X := by
          rintro b (hb | rfl | rfl)
          · exact ((hX b).1 hb).2.2
          · exact .inl (by omega)
          · exact .inl (by omega)
        have hX'c : ∀ b, b ∈ X' → c.w0.heap.size ≤ b ∨ b ∈ c.X := fun b hb => by
          rcases d2 b ((r4 b).2 (.inl hb)) with h | h
          · exact hOc b h
          · exact .inl (by have := h.1; omega)
        have hne' : ∀ b, b ≠ w.heap.size + 1 → (W2.putObj (w.heap.size + 1) (.loop { lp with state := .exhausted })).heap[b]? = W2.heap[b]? := fun b hb => World.putObj_heap_other hb
        have hDlt := r6 _ ((r5 w.heap.size).2 (.inr ((r4 _).2 (.inr (.inr rfl)))))
        refine ⟨by rw [h1]; rfl, h2, ⟨?_, ?_, ?_, ?_, ?_⟩, θ', S', ?_, ?_⟩
        · exact (d1.os.trans hfr1.os).trans h3.os
        · exact (d1.tape.trans hfr1.tape).trans h3.tape
        · exact (d1.output.trans hfr1.output).trans h3.output
        · rw [World.putObj_size]; show c.w0.heap.size ≤ _; omega
        · intro b hb hx
          have hb : b < c.w0.heap.size := hb
          rw [hne' b (by omega), d1.block b (by omega) (fun ho => by rcases hOc b ho with h | h; omega; exact hx h), hkeep1 b (by omega)]
          exact h3.block b hb hx
        · intro b hb
          refine ⟨by rw [World.putObj_size]; exact r6 b ((r5 b).2 (.inl hb)), ?_⟩
          rcases d3 b ((r5 b).2 (.inl hb)) with h | h | h
          · exact (h4 b h).2
          · exact .inr (hOc b h)
          · exact .inr (.inl (by show c.w0.heap.size ≤ b; have := h.1; omega))
        · have e1 : sat θ' S' { a with defers := [putOff w.heap.size] ++ a.defers } (W2.putObj (w.heap.size + 1) (.loop { lp with state := .exhausted })) [6999999] A0 (fun _ => False) :=
            sat_move (sat_mono r3 (ks' := [6999999]) (fun k hk => by cases hk) (fun b hb => hb)) (fun b hb => hne' b (fun e => r8 (e ▸ hb))) (fun b hb => hb) (fun b hb => hb.elim) (fun t _ => rfl) (fun k _ => rfl)
          have e2 : sat θ' S' { a with defers := [putOff w.heap.size] ++ a.defers } (W2.putObj (w.heap.size + 1) (.loop { lp with state := .exhausted })) [] Γs (· ∈ X') :=
            sat_act hnS (sat_move r2 (fun b hb => hne' b (fun e => r8 (e ▸ hb))) (fun b hb => hb) (fun b hb => hne' b (r7 b hb).2.1) (fun t _ => rfl) (fun k _ => rfl))
          refine sat_consO (ob := bk (some w.heap.size)) (dead_nil _) ⟨rfl, (hne' _ (by omega)).trans rp⟩ (fun b hb => ?_) (sat_append (av1 := fun _ => False) (av2 := (· ∈ X')) (ks2 := []) e1 e2 (fun k hk => by cases hk) (fun b hb => hb.elim) (fun b hb => ⟨⟨(r7 b hb).1, by rw [World.putObj_size]; exact r6 b ((r5 b).2 (.inr ((r4 b).2 (.inl hb)))), hX'c b hb⟩, fun h => ?_⟩) (fun b _ h => h))
          · obtain rfl : w.heap.size = b := Option.some.inj hb
            exact ⟨r9, by rw [World.putObj_size]; exact hDlt, .inl (by show c.w0.heap.size ≤ _; omega)⟩
          · exact (r7 b hb).2.2 (Option.some.inj h).symm
      rintro e W2 ⟨⟨v, rfl⟩, O', D', d1, d2, d3, hJ⟩
      rcases hJ with ⟨st, hst, hj⟩ | ⟨t, ht, hj⟩
      · rw [hit0] at hst
        have hend := run_endLoop (P := P) hj.loop (by rw [hrec]; simp)
        refine ⟨_, _, hend, ?_⟩
        have hi' := hfin (pre st) _ O' D' W2 d1 d2 d3 (hn st) hj (by rw [hrec]; simp)
        have hpe : (rec .ready none).pending = none := by rw [hrec]
        rw [hpe] at hi' ⊢
        exact hok _ st (Option.some.inj hst).symm _ _ hi'
      · have hend := run_endLoop (P := P) hj.loop (by rw [hrec]; simp)
        refine ⟨_, _, hend, ?_⟩
        have hi' := hfin (preX t) _ O' D' W2 d1 d2 d3 (hnX t) hj (by rw [hrec]; simp)
        have hpe : (rec .done (some .ret)).pending = some .ret := by rw [hrec]
        rw [hpe] at hi' ⊢
        exact wpIn_ret (hret _ t ht _ _ hi')
end
end Go.Proofs.Ytedgkcdofiildaa.Sl
/- Functions that range over a function: entering and leaving; the iterator's side: yield. -/
set_option linter.unusedVariables false
set_option linter.unusedSimpArgs false
namespace Go.Proofs.Ytedgkcdofiildaa.Sl
open Go Go.RowKit
theorem con_enterM {P : Program} {f : FuncId} {fn : Func} {body : Code} {As res : List VA} (hf : P.funcs[f]? = some fn) (hb : fn.body = some body) (hn : Nat.ble As.length fn.ntmps = true) (hm : Nat.ble fn.ntmps 1000000 = true)
    (h : ∀ w0 S0 θ, Goes P (ctx w0 S0 [] fn.ntmps) (argEnts As 0) body (bodyPostM (rf none) 0 P fn (CPost w0 S0 θ res))) : Con P f As res := fun θ S w vs hS ha => by
  refine calls_out (r := none) (n := 0) (callsIn_of_wp_marks hf hb trivial (h w S θ _ w ?_))
  have hl := argSat_len ha
  have hn' := Nat.le_of_ble_eq_true hn
  have hm' := Nat.le_of_ble_eq_true hm
  refine ⟨rfl, ⟨by simp [hl]; omega, hm'⟩, Fr.refl _ _, θ, S, fun b hb => ⟨hS b hb, .inl hb⟩, arg_sat ha (fun i v hi => ?_) (fun k hk => by cases hk) (by omega)⟩
  have hlt := (List.getElem?_eq_some_iff.1 hi).1
  simp only [Array.getD_eq_getD_getElem?, Nat.zero_add]
  rw [Array.getElem?_append_left (by simpa using hlt)]
  simp [hi]
section
variable {P : Program} {fn : Func} {R : Ending → World → Prop} {w0 : World} {S0 : Blk} {X : List Nat} {n : Nat} {Γ : List Ent}
theorem inv_strip {D : Nat} {a : Act} {w : World} (hm : findE [] Γ 6999999 = some (Ent.mark D)) (hi : Inv ⟨w0, S0, X, n, none, [putOff D]⟩ Γ a w) : a.defers = [putOff D] ∧ w.heap[D]? = some (.deferred (some [])) ∧ Inv (ctx w0 S0 X n) (Ent.gone 6999999 :: Γ) { a with defers := [] } (w.putObj D (.deferred none)) := by
  obtain ⟨h1, h2, h3, θ, S, h4, h5⟩ := hi
  obtain ⟨ob, ⟨rfl, hD⟩, hav, h6⟩ := sat_take (has_find hm) h5
  have hf := hav D rfl
  have hX : D ∈ X ∨ w0.heap.size ≤ D := hf.2.2.symm
  refine ⟨h1, hD, rfl, h2, ⟨h3.os, h3.tape, h3.output, by rw [World.putObj_size]; exact h3.size, fun k hk hx => ?_⟩, θ, S, fun b hb => by rw [World.putObj_size]; exact h4 b hb, ?_⟩
  · have hk : k < w0.heap.size := hk
    have hne : k ≠ D := fun e => by
      rcases hX with h | h
      · exact hx (e ▸ h)
      · omega
    rw [World.putObj_heap_other hne]
    exact h3.block k hk hx
  · refine sat_consO (ob := bk none) (dead_nil _) rfl (fun b hb => (by cases hb)) ?_
    refine sat_mono (sat_move h6 (fun b hb => World.putObj_heap_other (fun e => hf.1 (e ▸ hb))) (fun b hb => hb) (fun b hb => World.putObj_heap_other (fun e => hb.2 (by rw [e]))) (fun t _ => rfl) (fun k _ => rfl)) (fun k hk => hk) (fun b hb => ⟨⟨hb.1.1, by rw [World.putObj_size]; exact hb.1.2.1, hb.1.2.2⟩, fun h => (by cases h)⟩)
theorem ends_stripM {D : Nat} (hm : findE [] Γ 6999999 = some (Ent.mark D)) (h : Ends (ctx w0 S0 X n) (Ent.gone 6999999 :: Γ) (bodyPost P fn R) .ret) : Ends ⟨w0, S0, X, n, none, [putOff D]⟩ Γ (bodyPostM (rf none) 0 P fn R) .ret := fun a w hi => by
  obtain ⟨h1, h2, h3⟩ := inv_strip hm hi
  obtain ⟨_, v, hv, hR⟩ := h _ _ h3
  show LeavesInM (rf none) 0 P fn a.tmps R a.defers .returning w
  rw [h1]
  exact ⟨by simp, .inl ⟨D, _, rfl, run_takeDeferred h2, v, hv, hR⟩⟩
end
/-! ### yield -/
section
variable {ε : Type}
/-- The loop, as its iterator sees it: r still to come. -/
def Ent.it (J : List ε → Blk → Blk → World → Prop) (hst : ∀ r O D W1 W2, J r O D W1 → (∀ b, D b → W2.heap[b]? = W1.heap[b]?) → J r O D W2) (r : List ε) : Ent where
  key := 6999998
  slots := []
  ids := []
  sem := fun _ S ob _ w => ∃ D, J r ob D w ∧ ∀ b, D b → S b ∨ ob b
  move := by
    rintro θ θ' S S' ob a a' w w' ⟨D, h1, h2⟩ hA hS hb _ _
    exact ⟨D, hst _ _ _ _ _ h1 (fun b hD => (h2 b hD).elim (hA b) (hb b)), fun b hD => (h2 b hD).imp (hS b) id⟩
/-- It has had enough. -/
def Ent.itx (Jx : Blk → Blk → World → Prop) (hst : ∀ O D W1 W2, Jx O D W1 → (∀ b, D b → W2.heap[b]? = W1.heap[b]?) → Jx O D W2) : Ent where
  key := 6999998
  slots := []
  ids := []
  sem := fun _ S ob _ w => ∃ D, Jx ob D w ∧ ∀ b, D b → S b ∨ ob b
  move := by
    rintro θ θ' S S' ob a a' w w' ⟨D, h1, h2⟩ hA hS hb _ _
    exact ⟨D, hst _ _ _ _ h1 (fun b hD => (h2 b hD).elim (hA b) (hb b)), fun b hD => (h2 b hD).imp (hS b) id⟩
def RoundOk (P : Program) (l : Nat) (V : ε → List VA) (J : List ε → Blk → Blk → World → Prop) (Jx : Blk → Blk → World → Prop) (S1 : Blk) : Prop :=
  ∀ x r θ S2 O D W1 args, J (x :: r) O D W1 → (∀ b, S1 b → S2 b) → (∀ b, S2 b → b < W1.heap.size) → (∀ b, O b → b < W1.heap.size ∧ ¬ S2 b) → (∀ b, D b → S2 b ∨ O b) → argSat θ S2 W1 (V x) args →
      YieldAt (rf none) 0 P l args.toArray W1 fun e W2 => ∃ O' D', FrB O W1 W2 ∧ (∀ b, O' b → O b ∨ since W1 W2 b) ∧ (∀ b, D' b → S2 b ∨ O b ∨ since W1 W2 b) ∧
        ((e = .returned (.bool true) ∧ J r O' D' W2) ∨ (e = .returned (.bool false) ∧ Jx O' D' W2))
/-- What an iterator comes to. -/
def ItPost (J : List ε → Blk → Blk → World → Prop) (Jx : Blk → Blk → World → Prop) (w0 : World) (S0 O : Blk) (e : Ending) (W2 : World) : Prop :=
  (∃ v, e = .returned v) ∧ ∃ O' D', FrB O w0 W2 ∧ (∀ b, O' b → O b ∨ since w0 W2 b) ∧ (∀ b, D' b → S0 b ∨ O b ∨ since w0 W2 b) ∧ (J [] O' D' W2 ∨ Jx O' D' W2)
variable {P : Program} {c : Ctx} {Γ : List Ent} {Q : Exit → Act → World → Prop} {ops : Array Oper} {rest : List Oper}
variable {J : List ε → Blk → Blk → World → Prop} {Jx : Blk → Blk → World → Prop} {hst : ∀ r O D W1 W2, J r O D W1 → (∀ b, D b → W2.heap[b]? = W1.heap[b]?) → J r O D W2} {hstx : ∀ O D W1 W2, Jx O D W1 → (∀ b, D b → W2.heap[b]? = W1.heap[b]?) → Jx O D W2} {V : ε → List VA}
/-- A context whose own blocks are none of the shared ones. -/
structure CtxOk (c : Ctx) : Prop where
  lt : ∀ b, c.S0 b → b < c.w0.heap.size
  x : ∀ b, b ∈ c.X → ¬ c.S0 b
theorem goesO_yield {d l s : Nat} {x : ε} {r : List ε} {xs : List Operand} {at_ : Array TypeId} {ty : TypeId} {pos : String} {af : Array Edge} (hc : CtxOk c) (hd : Nat.blt d c.n = true) (hR : RoundOk P l V J Jx c.S0) (hJ : findE [] Γ 6999998 = some (Ent.it J hst (x :: r)))
    (hy : Arg (Has [] Γ) (.tmp s) (VA.v (.func (.yield l) #[] #[]))) (hx : Args (ArgP (Has [] Γ)) xs (V x))
    (ht : GoesO P c (Ent.t d (VA.k kbool true) :: Ent.it J hst r :: Γ) ops rest Q) (hf : GoesO P c (Ent.t d (VA.k kbool false) :: Ent.itx Jx hstx :: Γ) ops rest Q) :
    GoesO P c Γ ops (⟨some d, .call { callee := .value (.tmp s), args := xs.toArray, argTypes := at_ }, ty, pos, af, none⟩ :: rest) Q := fun a w hi => wpListIn_plain rfl fun K hK => by
  have hi' := hi
  obtain ⟨h1, h2, h3, θ, S, h4, h5⟩ := hi'
  obtain ⟨_, _, hyv⟩ := hy θ S a w (sems (fun _ h => h) h5)
  have hyv : a.eval (.tmp s) = .func (.yield l) #[] #[] := hyv
  have hargs := hx.sat (sems (fun _ h => h) h5) (fun b hb => (h4 b hb).1)
  obtain ⟨ob, ⟨D, hj, hD⟩, hav, h6⟩ := sat_take (has_find hJ) h5
  have hsz := h3.size
  -- what is shared, as the loop sees it
  have hS0 : ∀ b, c.S0 b → b < w.heap.size := fun b hb => by have := hc.lt b hb; omega
  have hob0 : ∀ b, ob b → ¬ c.S0 b := fun b hb h => by
    rcases (hav b hb).2.2 with g | g
    · have := hc.lt b h; omega
    · exact hc.x b g h
  have hargs2 : argSat θ (fun b => S b ∨ c.S0 b) w (V x) (xs.map a.eval) := argSat_move hargs (Agree.refl _ _) (fun b hb => .inl hb) (fun k _ => rfl)
  obtain ⟨fn, tmps, assign, body, hrun, hround⟩ := hR x r θ (fun b => S b ∨ c.S0 b) ob D w _ hj (fun b hb => .inr hb) (fun b hb => hb.elim (fun h => (h4 b h).1) (hS0 b)) (fun b hb => ⟨(hav b hb).2.1, fun h => h.elim (hav b hb).1 (hob0 b hb)⟩) (fun b hb => (hD b hb).imp .inl id) hargs2
  have hres : (execOp a.eval ⟨some d, .call { callee := .value (.tmp s), args := xs.toArray, argTypes := at_ }, ty, pos, af, none⟩).run P w = .ok (.round l fn tmps assign body) w := by
    have e2 : (xs.toArray.map a.eval) = (xs.map a.eval).toArray := by simp
    simp only [execOp, resolve, hyv, e2]
    simp [invoke, go_sem, hrun]
  refine ⟨fun _ _ => trivial, ?_⟩
  rw [Oper.semAt_eq _ _ _ (fun c e => by cases e), hres]
  have hround' : RoundIn (rf c.rd) (0 - 1) P l fn tmps assign body w _ := hround
  refine ⟨fun e => (by cases e), RoundIn.mono (R := fun e W2 => ∃ O' D' : Blk, FrB ob w W2 ∧ (∀ b, O' b → ob b ∨ since w W2 b) ∧ (∀ b, D' b → (S b ∨ c.S0 b) ∨ ob b ∨ since w W2 b) ∧ ((e = .returned (.bool true) ∧ J r O' D' W2) ∨ (e = .returned (.bool false) ∧ Jx O' D' W2))) hround' ?_⟩
  rintro e W2 ⟨O', D', d1, d2, d3, hend⟩
  have hdn := blt_lt hd
  have key : ∀ (e1 : Ent) (v : Value), e1.slots = [] → e1.ids = [] → e1.key = 6999998 → (∀ θ S a, (∀ b, D' b → S b ∨ O' b) → e1.sem θ S O' a W2) → ∀ b : Bool, v = .bool b → Inv c (Ent.t d (VA.k kbool b) :: e1 :: Γ) (a.put (some d) v) W2 := by
    intro e1 v hs1 hi1 hk1 hsem b hv
    have sz := d1.size
    let Sn : Blk := fun b => S b ∨ (c.S0 b ∨ (D' b ∧ ¬ O' b))
    have hSn : ∀ b, Sn b → b < W2.heap.size ∧ (c.S0 b ∨ c.w0.heap.size ≤ b ∨ b ∈ c.X) := fun b hb => by
      rcases hb with hb | hb | hb
      · exact ⟨by have := (h4 b hb).1; omega, (h4 b hb).2⟩
      · exact ⟨by have := hS0 b hb; omega, .inl hb⟩
      · rcases d3 b hb.1 with (h | h) | h | h
        · exact ⟨by have := (h4 b h).1; omega, (h4 b h).2⟩
        · exact ⟨by have := hS0 b h; omega, .inl h⟩
        · exact ⟨by have := (hav b h).2.1; omega, .inr (hav b h).2.2⟩
        · exact ⟨h.2, .inr (.inl (by have := h.1; omega))⟩
    have hO' : ∀ b, O' b → free c Sn W2 b := fun b hb => by
      rcases d2 b hb with h | h
      · exact ⟨fun hs => by
          rcases hs with hs | hs | hs
          · exact (hav b h).1 hs
          · exact hob0 b h hs
          · exact hs.2 hb, by have := (hav b h).2.1; omega, (hav b h).2.2⟩
      · exact ⟨fun hs => by
          rcases hs with hs | hs | hs
          · have := (h4 b hs).1; have := h.1; omega
          · have := hS0 b hs; have := h.1; omega
          · exact hs.2 hb, h.2, .inl (by have := h.1; omega)⟩
    refine ⟨by rw [put_defers]; exact h1, by rw [put_size]; exact h2, ⟨d1.os.trans h3.os, d1.tape.trans h3.tape, d1.output.trans h3.output, by omega, fun k hk hx => (d1.block k (by omega) (fun ho => by
      rcases (hav k ho).2.2 with h | h
      · omega
      · exact hx h)).trans (h3.block k hk hx)⟩, θ, Sn, hSn, ?_⟩
    refine sat_cons (show (VA.k kbool b).sem θ Sn (bk none) W2 ((a.put (some d) v).tmps.getD d undef) from ?_) ?_
    · rw [put_getD_self (by omega), hv]; exact ⟨rfl, _, rfl, rfl⟩
    · refine sat_consO (ob := O') ?_ (hsem θ Sn _ (fun b hb => ?_)) hO' ?_
      · refine dead_iff (fun k hk => ?_)
        simp only [Ent.t, List.mem_singleton] at hk
        simp only [Ent.deps, hs1, hi1, hk1, List.map_nil, List.append_nil, List.mem_cons, List.not_mem_nil, or_false]
        have := h2.2; omega
      · by_cases ho : O' b
        · exact .inr ho
        · exact .inl (.inr (.inr ⟨hb, ho⟩))
      · rw [hk1]
        have h7 := sat_mono h6 (ks' := [6999998, d]) (fun k hk => by
          have : k = 6999998 := by simpa [Ent.it] using hk
          simp [this]) (fun b hb => hb)
        refine sat_mono (sat_move h7 (fun b hb => d1.block b (h4 b hb).1 (fun ho => (hav b ho).1 hb)) (fun b hb => .inl hb) (fun b hb => d1.block b hb.1.2.1 hb.2) (fun t ht => put_getD_ne (fun e => ht (by simp [e]))) (fun k _ => rfl)) (fun k hk => by simpa [Ent.t] using hk) (fun b hb => ⟨⟨fun hs => ?_, by have := hb.1.2.1; omega, hb.1.2.2⟩, fun ho => ?_⟩)
        · rcases hs with hs | hs | hs
          · exact hb.1.1 hs
          · rcases hb.1.2.2 with g | g
            · have := hc.lt b hs; omega
            · exact hc.x b g hs
          · rcases d3 b hs.1 with (h | h) | h | h
            · exact hb.1.1 h
            · rcases hb.1.2.2 with g | g
              · have := hc.lt b h; omega
              · exact hc.x b g h
            · exact hb.2 h
            · have := h.1; have := hb.1.2.1; omega
        · rcases d2 b ho with h | h
          · exact hb.2 h
          · have := h.1; have := hb.1.2.1; omega
  rcases hend with ⟨rfl, hj'⟩ | ⟨rfl, hj'⟩
  · exact hK _ _ (ht _ _ (key (Ent.it J hst r) _ rfl rfl rfl (fun θ S a h => ⟨D', hj', h⟩) true rfl))
  · exact hK _ _ (hf _ _ (key (Ent.itx Jx hstx) _ rfl rfl rfl (fun θ S a h => ⟨D', hj', h⟩) false rfl))
end
end Go.Proofs.Ytedgkcdofiildaa.Sl
/- The iterator's side: entering, leaving, loops; the function value that is handed back. -/
set_option linter.unusedVariables false
set_option linter.unusedSimpArgs false
namespace Go.Proofs.Ytedgkcdofiildaa.Sl
open Go Go.RowKit
section
variable {ε : Type} {P : Program} {V : ε → List VA}
theorem seq_enter {g : FuncId} {fn : Func} {body : Code} {els : List ε} {caps : List VA} (hf : P.funcs[g]? = some fn) (hb : fn.body = some body) (hn : Nat.ble (caps.length + 1) fn.ntmps = true) (hm : Nat.ble fn.ntmps 1000000 = true)
    (h : ∀ l (J : List ε → Blk → Blk → World → Prop) (Jx : Blk → Blk → World → Prop) (hst : ∀ r O D W1 W2, J r O D W1 → (∀ b, D b → W2.heap[b]? = W1.heap[b]?) → J r O D W2) (hstx : ∀ O D W1 W2, Jx O D W1 → (∀ b, D b → W2.heap[b]? = W1.heap[b]?) → Jx O D W2) w0 S0 X,
      CtxOk (ctx w0 S0 X fn.ntmps) → RoundOk P l V J Jx S0 → Goes P (ctx w0 S0 X fn.ntmps) (argEnts (VA.v (.func (.yield l) #[] #[]) :: caps) 0 ++ [Ent.it J hst els]) body (bodyPost P fn (ItPost J Jx w0 S0 (· ∈ X)))) :
    ∀ θ S w lb, argSat θ S w caps lb → SeqC P g lb.toArray V els S w := fun θ S w lb ha => by
  intro l J Jx S1 O D W hA hSS hS1 hO hD hst hstx hround hJ
  obtain ⟨X, hX⟩ := blk_list W.heap.size O (fun b hb => (hO b hb).1)
  have hOX : O = (· ∈ X) := funext fun b => propext ⟨fun h => (hX b).2 h, fun h => (hX b).1 h⟩
  subst hOX
  have ha1 : argSat θ S1 W (VA.v (.func (.yield l) #[] #[]) :: caps) (.func (.yield l) #[] #[] :: lb) := ⟨⟨rfl, rfl⟩, argSat_move ha hA hSS (fun k _ => rfl)⟩
  have hl := argSat_len ha1
  have hn' := Nat.le_of_ble_eq_true hn
  have hm' := Nat.le_of_ble_eq_true hm
  rw [show #[Value.func (.yield l) #[] #[]] ++ lb.toArray = (Value.func (.yield l) #[] #[] :: lb).toArray by simp]
  refine calls_of_wp hf hb (wpIn_wide.1 (h l J Jx hst hstx W S1 X ⟨hS1, fun b hb => (hO b hb).2⟩ hround _ W ?_))
  have hget : ∀ i v, (Value.func (.yield l) #[] #[] :: lb)[i]? = some v → ({ tmps := (Value.func (.yield l) #[] #[] :: lb).toArray ++ Array.replicate (fn.ntmps - (Value.func (.yield l) #[] #[] :: lb).toArray.size) undef, defers := [] } : Act).tmps.getD (0 + i) undef = v := fun i v hi => by
    have hlt := (List.getElem?_eq_some_iff.1 hi).1
    simp only [Array.getD_eq_getD_getElem?, Nat.zero_add]
    rw [Array.getElem?_append_left (by simpa using hlt)]
    simp [hi]
  simp only [List.length_cons] at hl
  refine ⟨rfl, ⟨by simp; omega, hm'⟩, Fr.refl _ _, θ, S1, fun b hb => ⟨hS1 b hb, .inl hb⟩, ?_⟩
  refine arg_sat_app ha1 hget (fun k hk => by cases hk) (by simp only [List.length_cons]; omega) ?_
  exact sat_consO (ob := (· ∈ X)) (dead_nil _) ⟨D, hJ, hD⟩ (fun b hb => ⟨(hO b hb).2, (hO b hb).1, .inr hb⟩) trivial
section
variable {J : List ε → Blk → Blk → World → Prop} {Jx : Blk → Blk → World → Prop} {hst : ∀ r O D W1 W2, J r O D W1 → (∀ b, D b → W2.heap[b]? = W1.heap[b]?) → J r O D W2} {hstx : ∀ O D W1 W2, Jx O D W1 → (∀ b, D b → W2.heap[b]? = W1.heap[b]?) → Jx O D W2}
variable {w0 : World} {S0 : Blk} {X : List Nat} {n : Nat} {Γ : List Ent} {fn : Func}
theorem ends_it_of {e : Ent} (hr : fn.results = #[]) (h : findE [] Γ e.key = some e) (hsem : ∀ θ S ob a w, e.sem θ S ob a w → ∃ D, (J [] ob D w ∨ Jx ob D w) ∧ ∀ b, D b → S b ∨ ob b) : Ends (ctx w0 S0 X n) Γ (bodyPost P fn (ItPost J Jx w0 S0 (· ∈ X))) .ret := by
  rintro a w ⟨g1, g2, g3, θ, S, h4, h5⟩
  obtain ⟨ob, hs, hav, _⟩ := sat_take (has_find h) h5
  obtain ⟨D, hj, hD⟩ := hsem _ _ _ _ _ hs
  refine ⟨g1, .tuple #[], ?_, ⟨_, rfl⟩, ob, D, g3.toB, fun b hb => ?_, fun b hb => ?_, hj⟩
  · unfold results
    simp [hr, Sem.run_bind, Sem.run_map, Sem.run_pure, Result.andThen_ok]
  · have := hav b hb
    rcases this.2.2 with h | h
    · exact .inr ⟨h, this.2.1⟩
    · exact .inl h
  · rcases hD b hb with h | h
    · rcases (h4 b h).2 with g | g | g
      · exact .inl g
      · exact .inr (.inr ⟨g, (h4 b h).1⟩)
      · exact .inr (.inl g)
    · have := hav b h
      rcases this.2.2 with h | h
      · exact .inr (.inr ⟨h, this.2.1⟩)
      · exact .inr (.inl h)
theorem ends_it (hr : fn.results = #[]) (h : findE [] Γ 6999998 = some (Ent.it J hst [])) : Ends (ctx w0 S0 X n) Γ (bodyPost P fn (ItPost J Jx w0 S0 (· ∈ X))) .ret := ends_it_of (e := Ent.it J hst []) hr h (fun θ S ob a w ⟨D, h1, h2⟩ => ⟨D, .inl h1, h2⟩)
theorem ends_itx (hr : fn.results = #[]) (h : findE [] Γ 6999998 = some (Ent.itx Jx hstx)) : Ends (ctx w0 S0 X n) Γ (bodyPost P fn (ItPost J Jx w0 S0 (· ∈ X))) .ret := ends_it_of (e := Ent.itx Jx hstx) hr h (fun θ S ob a w ⟨D, h1, h2⟩ => ⟨D, .inr h1, h2⟩)
/-- The end of the code is an end of the function too. -/
theorem ends_fallR {R : Ending → World → Prop} {c : Ctx} (h : Ends c Γ (bodyPost P fn R) .ret) : Ends c Γ (bodyPost P fn R) .normal := h
end
/-- A loop: what is good for a number of rounds. -/
theorem goes_loopP {σ : Type} {c : Ctx} {Γ : List Ent} {Q : Exit → Act → World → Prop} {b : Code} {k0 : Nat} {s0 : σ} (Γ' : σ → List Ent) (l : Nat → σ → Prop) (hz : ∀ s, ¬ l 0 s) (H : l k0 s0) (hs : Told Γ (Γ' s0))
    (body : ∀ k s, l (k + 1) s → Goes P c (Γ' s) b (Exit.then (fun a w => ∃ s', l k s' ∧ Inv c (Γ' s') a w) Q)) : Goes P c Γ (.loop b) Q := by
  classical
  refine goes_loop (σ := σ) (τ := Unit) (k0 := k0) (s0 := s0) (r := ()) Γ' (fun k s => if l k s then some () else none) (fun s => if_neg (hz s)) (if_pos H) hs (fun k s hk => ?_)
  have hk' : l (k + 1) s := Classical.byContradiction fun h => by rw [if_neg h] at hk; cases hk
  intro a w hi
  refine wpIn_mono (body k s hk' a w hi) ?_
  intro e a' w' h
  cases e with
  | normal => obtain ⟨s', h1, h2⟩ := h; exact ⟨s', if_pos h1, h2⟩
  | ret => exact h
  | exit id => exact h
  | goto l => exact h
  | panic ch => exact h
  | outgrown => exact h
theorem loop_nextP {σ : Type} {c : Ctx} {Γ : List Ent} {Q : Exit → Act → World → Prop} {Γ' : σ → List Ent} {l : Nat → σ → Prop} {k : Nat} (s' : σ) (H : l k s') (h : Told Γ (Γ' s')) : Ends c Γ (Exit.then (fun a w => ∃ s', l k s' ∧ Inv c (Γ' s') a w) Q) .normal := fun a w hi => ⟨s', H, hi.sub h.sub⟩
/-! ### the function value -/
section
variable {c : Ctx} {Γ : List Ent} {Q : Exit → Act → World → Prop} {ops : Array Oper} {rest : List Oper}
/-- A box that is written no more: what points at it is read. -/
theorem inv_box_pt {α : Type} {e : TypeId} {K : Kn α} {x : α} {a : Act} {w : World} (s id : Nat) (hp : findE [] Γ s = some (Ent.t s (VA.ptr id 0))) (hb : findE [] Γ (2000000 + id) = some (Ent.h id (HE.box e K x))) (hi : Inv c Γ a w) : Inv c (Ent.t s (VA.pt K x) :: Ent.gone (2000000 + id) :: Γ) a w := by
  obtain ⟨h1, h2, h3, θ, S, h4, h5⟩ := hi
  obtain ⟨_, ⟨_, hpv⟩, _⟩ := sat_take (has_find hp) h5
  obtain ⟨ob, ⟨rfl, cs, hc, hr⟩, hav, h6⟩ := sat_take (has_find hb) h5
  have hf := hav _ rfl
  refine ⟨h1, h2, h3, θ, (fun b => S b ∨ b = θ id), fun b hb => ?_, ?_⟩
  · rcases hb with hb | rfl
    · exact h4 b hb
    · exact ⟨hf.2.1, .inr hf.2.2⟩
  · refine sat_cons ⟨rfl, ⟨θ id, 0, none⟩, hpv, .inr rfl, cs.toList, K.move hr (Agree.refl _ _) (fun b hb => .inl hb), fun i u hu => ?_⟩ ?_
    · rw [add_add, cell_of_row w (θ id) _ cs _ (0, 0) hc, Nat.zero_add]
      simpa using hu
    · by_cases hd : dead [(Ent.t s (VA.pt K x)).key] (Ent.gone (2000000 + id)) = true
      · unfold sat
        rw [if_pos hd]
        refine sat_mono (sat_move h6 (Agree.refl _ _) (fun b hb => .inl hb) (fun b _ => rfl) (fun t _ => rfl) (fun k _ => rfl)) (fun k hk => ?_) (fun b hb => ⟨fun h => ?_, hb.1.2⟩)
        · simp only [Ent.h, List.mem_singleton] at hk; simp [Ent.gone, hk]
        · rcases h with h | h
          · exact hb.1.1 h
          · exact hb.2 (by rw [h])
      · refine sat_consK (by simpa using hd) rfl ?_
        refine sat_mono (sat_move h6 (Agree.refl _ _) (fun b hb => .inl hb) (fun b _ => rfl) (fun t _ => rfl) (fun k _ => rfl)) (fun k hk => ?_) (fun b hb => ⟨fun h => ?_, hb.1.2⟩)
        · simp only [Ent.h, List.mem_singleton] at hk; simp [Ent.gone, hk]
        · rcases h with h | h
          · exact hb.1.1 h
          · exact hb.2 (by rw [h])
theorem goesO_seq {F : FuncId} {xs : List Nat} {caps : List VA} {els : List ε} (d : Nat) (hd : Nat.blt d c.n = true) (hmf : findE [] Γ d = some (Ent.mf d F [] xs)) (hc : Args (ArgP (Has [] Γ)) (xs.map Operand.tmp) caps) (hen : Enters P F) (hseq : ∀ θ S w lb, argSat θ S w caps lb → SeqC P F lb.toArray V els S w)
    (next : GoesO P c (Ent.t d (VA.seq P V els) :: Γ) ops rest Q) : GoesO P c Γ ops rest Q := fun a w hi => by
  refine next a w ?_
  obtain ⟨h1, h2, h3, θ, S, h4, h5⟩ := hi
  obtain ⟨_, ⟨_, hv⟩, _⟩ := sat_take (has_find hmf) h5
  have ha := hc.sat (sems (fun _ h => h) h5) (fun b hb => (h4 b hb).1)
  refine ⟨h1, h2, h3, θ, S, h4, sat_cons ⟨rfl, F, _, hv, hen, ?_⟩ (sat_mono h5 (fun k hk => by cases hk) (fun b hb => hb))⟩
  have he : (xs.map fun s => a.tmps.getD s undef) = (xs.map Operand.tmp).map a.eval := by rw [List.map_map]; rfl
  rw [he]
  exact hseq θ S w _ ha
end
end
end Go.Proofs.Ytedgkcdofiildaa.Sl
/- Function values that lie in boxes. -/
set_option linter.unusedVariables false
set_option linter.unusedSimpArgs false
namespace Go.Proofs.Ytedgkcdofiildaa.Sl
open Go Go.RowKit
/-- A function's number, what is bound ahead, what is captured. -/
structure FD where
  F : FuncId
  pre : List VA
  caps : List VA
end Go.Proofs.Ytedgkcdofiildaa.Sl
/- Maps under pairs of texts. -/
set_option linter.unusedVariables false
set_option linter.unusedSimpArgs false
namespace Go.Proofs.Ytedgkcdofiildaa.Sl
open Go Go.RowKit Go.WideMaps Go.Maps
/-- A pair of texts as one. -/
def enc2 (p : ByteArray × ByteArray) : ByteArray := ⟨(keyBytes [.string p.1.data.toList, .string p.2.data.toList]).toArray⟩
structure MTP {α : Type} (P : Program) (t kt : TypeId) (K : Kn α) (z : α) : Prop where
  u : ∃ e, P.underlying t = some (.map kt e) ∧ TK P e K ∧ ∃ cs, (P.info? e).bind (·.zero) = some (K.mk_ cs) ∧ ∀ S w, K.R S w z cs
  kd : Keyed P kt
  key : ∀ p : ByteArray × ByteArray, (enc2 p).size ≤ 9223372036854775807 → keyOf P kt (.agg #[.string p.1, .string p.2]) = some (sk (enc2 p))
theorem MTP.zero {α : Type} {P : Program} {t kt : TypeId} {K : Kn α} {z : α} (hM : MTP P t kt K z) : ∃ e cs, P.underlying t = some (.map kt e) ∧ (∀ w, (zeroValue e).run P w = .ok (K.mk_ cs) w) ∧ ∀ S w, K.R S w z cs := by
  obtain ⟨e, hu, _, cs, hz, hr⟩ := hM.u
  refine ⟨e, cs, hu, fun w => ?_, hr⟩
  cases hi : P.info? e with
  | none => rw [hi] at hz; cases hz
  | some i =>
    rw [hi] at hz
    have hz' : i.zero = some (K.mk_ cs) := hz
    simp [zeroValue, typeInfo, hi, hz', Sem.run_bind]
end Go.Proofs.Ytedgkcdofiildaa.Sl
/- Jumps back to a label; pointers to elements handed on; slices.Reverse; contracts of calls that lay blocks; arrays of two texts. -/
set_option linter.unusedVariables false
set_option linter.unusedSimpArgs false
namespace Go.Proofs.Ytedgkcdofiildaa.Sl
open Go Go.RowKit
end Go.Proofs.Ytedgkcdofiildaa.Sl
/- slices.Reverse at []string. -/
set_option linter.unusedVariables false
set_option linter.unusedSimpArgs false
namespace Go.Proofs.Ytedgkcdofiildaa.Sl
open Go Go.RowKit Go.Sort
end Go.Proofs.Ytedgkcdofiildaa.Sl
