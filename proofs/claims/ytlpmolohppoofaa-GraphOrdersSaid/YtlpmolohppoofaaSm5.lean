import Derived.Test.YtlpmolohppoofaaSm4
import Derived.RangeFuncSeq
import Derived.RangeFuncLeaves
import Derived.DeepKeys4
import Derived.ScopeJumps
/- A range over a function: what the function's value promises, and the law of the statement. -/
set_option linter.unusedVariables false
set_option linter.unusedSimpArgs false
namespace Go.Proofs.Ytlpmolohppoofaa.Sl
open Go Go.RowKit
/-- Nothing that lay has turned but the blocks O. -/
structure FrB (O : Blk) (w w' : World) : Prop where
  os : w'.os = w.os
  tape : w'.tape = w.tape
  output : w'.output = w.output
  size : w.heap.size ≤ w'.heap.size
  block : ∀ k, k < w.heap.size → ¬ O k → w'.heap[k]? = w.heap[k]?
theorem FrB.refl (O : Blk) (w : World) : FrB O w w := ⟨rfl, rfl, rfl, Nat.le_refl _, fun _ _ _ => rfl⟩
theorem FrB.trans {O O' : Blk} {a b c : World} (h : FrB O a b) (k : FrB O' b c) (hO : ∀ x, O' x → O x ∨ a.heap.size ≤ x) : FrB O a c :=
  ⟨k.os.trans h.os, k.tape.trans h.tape, k.output.trans h.output, Nat.le_trans h.size k.size, fun i hi hx => (k.block i (Nat.lt_of_lt_of_le hi h.size) (fun ho => by rcases hO i ho with h | h; exact hx h; omega)).trans (h.block i hi hx)⟩
theorem FrB.mono {O O' : Blk} {w w' : World} (h : FrB O w w') (hO : ∀ x, O x → O' x ∨ w.heap.size ≤ x) : FrB O' w w' := ⟨h.os, h.tape, h.output, h.size, fun k hk hx => h.block k hk (fun ho => by rcases hO k ho with h | h; exact hx h; omega)⟩
theorem Fr.toB {X : List Nat} {w w' : World} (h : Fr X w w') : FrB (· ∈ X) w w' := ⟨h.os, h.tape, h.output, h.size, h.block⟩
/-- An iterator's promise: it hands els, in order, to whatever loop; the loop's own blocks O, and what it leans on D, it leaves alone. -/
def SeqC {ε : Type} (P : Program) (g : FuncId) (lb : Array Value) (V : ε → List VA) (els : List ε) (S : Blk) (w : World) : Prop :=
  ∀ (l : Nat) (J : List ε → Blk → Blk → World → Prop) (Jx : Blk → Blk → World → Prop) (S1 O D : Blk) (W : World),
    Agree S w W → (∀ b, S b → S1 b) → (∀ b, S1 b → b < W.heap.size) → (∀ b, O b → b < W.heap.size ∧ ¬ S1 b) → (∀ b, D b → S1 b ∨ O b) →
    (∀ r O D W1 W2, J r O D W1 → (∀ b, D b → W2.heap[b]? = W1.heap[b]?) → J r O D W2) →
    (∀ O D W1 W2, Jx O D W1 → (∀ b, D b → W2.heap[b]? = W1.heap[b]?) → Jx O D W2) →
    (∀ x r θ S2 O D W1 args, J (x :: r) O D W1 → (∀ b, S1 b → S2 b) → (∀ b, S2 b → b < W1.heap.size) → (∀ b, O b → b < W1.heap.size ∧ ¬ S2 b) → (∀ b, D b → S2 b ∨ O b) → argSat θ S2 W1 (V x) args →
      YieldAt (rf none) 0 P l args.toArray W1 fun e W2 => ∃ O' D', FrB O W1 W2 ∧ (∀ b, O' b → O b ∨ since W1 W2 b) ∧ (∀ b, D' b → S2 b ∨ O b ∨ since W1 W2 b) ∧
        ((e = .returned (.bool true) ∧ J r O' D' W2) ∨ (e = .returned (.bool false) ∧ Jx O' D' W2))) →
    J els O D W →
    Calls P g (#[.func (.yield l) #[] #[]] ++ lb) W fun e W2 => (∃ v, e = .returned v) ∧ ∃ O' D', FrB O W W2 ∧ (∀ b, O' b → O b ∨ since W W2 b) ∧ (∀ b, D' b → S1 b ∨ O b ∨ since W W2 b) ∧ (J [] O' D' W2 ∨ Jx O' D' W2)
theorem SeqC.later {ε : Type} {P : Program} {g : FuncId} {lb : Array Value} {V : ε → List VA} {els : List ε} {S S' : Blk} {w w' : World} (h : SeqC P g lb V els S w) (hA : Agree S w w') (hS : ∀ b, S b → S' b) : SeqC P g lb V els S' w' :=
  fun l J Jx S1 O D W h1 h2 => h l J Jx S1 O D W (fun b hb => (h1 b (hS b hb)).trans (hA b hb)) (fun b hb => h2 b (hS b hb))
/-- A function value that is an iterator over els. -/
def VA.seq {ε : Type} (P : Program) (V : ε → List VA) (els : List ε) : VA where
  ids := []
  sem := fun _ S ob w v => ob = bk none ∧ ∃ g lb, v = .func (.func g) #[] lb ∧ Enters P g ∧ SeqC P g lb V els S w
  move := by rintro θ θ' S S' ob w w' v ⟨h0, g, lb, h1, h2, h3⟩ hA hS _ _; exact ⟨h0, g, lb, h1, h2, h3.later hA hS⟩
theorem sat_moveI {θ θ' : Nat → Nat} {S S' : Blk} {a a' : Act} {w w' : World} : ∀ {Γ : List Ent} {ks : List Nat} {av : Blk}, sat θ S a w ks Γ av → Agree S w w' → (∀ b, S b → S' b) → (∀ b, av b → w'.heap[b]? = w.heap[b]?) →
    (∀ t, t ∉ ks → a'.tmps.getD t undef = a.tmps.getD t undef) → (∀ e, e ∈ Γ → ∀ k, k ∈ e.ids → θ' k = θ k) → sat θ' S' a' w' ks Γ av
  | [], _, _, _, _, _, _, _, _ => trivial
  | e :: Γ, ks, av, h, hA, hS, hb, ht, hi => by
    have ht' : ∀ t, t ∉ e.key :: ks → a'.tmps.getD t undef = a.tmps.getD t undef := fun t hm => ht t (fun h => hm (List.mem_cons_of_mem _ h))
    have hi' : ∀ x, x ∈ Γ → ∀ k, k ∈ x.ids → θ' k = θ k := fun x hx => hi x (List.mem_cons_of_mem _ hx)
    unfold sat at h ⊢
    by_cases hd : dead ks e = true
    · rw [if_pos hd] at h ⊢
      exact sat_moveI h hA hS hb ht' hi'
    · rw [if_neg hd] at h ⊢
      obtain ⟨ob, h1, h2, h3⟩ := h
      obtain ⟨l1, l2, l3⟩ := live_spec (by simpa using hd)
      exact ⟨ob, e.move h1 hA hS (fun b hob => hb b (h2 b hob)) (fun t hm => ht t (l1 t hm)) (fun k hm => hi e List.mem_cons_self k hm), h2, sat_moveI h3 hA hS (fun b hb' => hb b hb'.1) ht' hi'⟩
end Go.Proofs.Ytlpmolohppoofaa.Sl
/- The law of a range over a function. -/
set_option linter.unusedVariables false
set_option linter.unusedSimpArgs false
namespace Go.Proofs.Ytlpmolohppoofaa.Sl
open Go Go.RowKit
/-- What lies between two rounds. -/
structure LJ (fix : List Nat) (β : Nat → Nat) (A0 Γs : List Ent) (a : Act) (l Dd : Nat) (lp : Loop) (O D : Blk) (W : World) : Prop where
  ex : ∃ (θ : Nat → Nat) (S : Blk) (X : List Nat), (∀ k, k ∈ fix → θ k = β k) ∧ sat θ S act0 W [] Γs (· ∈ X) ∧ sat θ S a W [] A0 (fun _ => False) ∧
    (∀ b, O b ↔ (b ∈ X ∨ b = l ∨ b = Dd)) ∧ (∀ b, D b ↔ (S b ∨ O b)) ∧ (∀ b, D b → b < W.heap.size) ∧ (∀ b, b ∈ X → ¬ S b ∧ b ≠ l ∧ b ≠ Dd) ∧ ¬ S l ∧ ¬ S Dd
  loop : W.heap[l]? = some (.loop lp)
  put : W.heap[Dd]? = some (.deferred (some []))
  ne : l ≠ Dd
def idsIn (fix : List Nat) (Γ : List Ent) : Bool := Γ.all fun e => e.ids.all fun k => fix.elem k
theorem idsIn_spec {fix : List Nat} {Γ : List Ent} (h : idsIn fix Γ = true) : ∀ e, e ∈ Γ → ∀ k, k ∈ e.ids → k ∈ fix := fun e he k hk => by
  have := List.all_eq_true.1 (List.all_eq_true.1 h e he) k hk
  simpa using this
/-- A round's context ahead of its body, and behind it. -/
theorem LJ.after {fix : List Nat} {β : Nat → Nat} {A0 Γs' Γe : List Ent} {a a3 : Act} {l Dd : Nat} {lpb : Loop} {O S2 S' : Blk} {W1 w1 W3 : World} {X X' : List Nat} {n : Nat} {θ : Nat → Nat} {S : Blk}
    (hA : idsIn fix A0 = true) (hn : noSlots Γs' = true) (h1 : ∀ k, k ∈ fix → θ k = β k) (h3 : sat θ S a W1 [] A0 (fun _ => False)) (h4 : ∀ b, O b ↔ (b ∈ X ∨ b = l ∨ b = Dd)) (hne : l ≠ Dd) (hput : W1.heap[Dd]? = some (.deferred (some [])))
    (h7 : ∀ b, b ∈ X → ¬ S b ∧ b ≠ l ∧ b ≠ Dd) (hSS : ∀ b, S b → S2 b) (hS2 : ∀ b, S2 b → b < W1.heap.size) (hO : ∀ b, O b → b < W1.heap.size ∧ ¬ S2 b)
    (f1 : Fr X W1 w1) (k1 : SOk ⟨W1, S2, X, n, some l, []⟩ S' w1) (hX' : ∀ b, b ∈ X' ↔ free ⟨W1, S2, X, n, some l, []⟩ S' w1 b)
    (hi : Inv ⟨w1.putObj l (.loop lpb), S', X', n, some l, []⟩ Γe a3 W3) (hfix : FixIn Γe β fix) (hT : Told Γe Γs') (lp' : Loop) :
    W3.heap[l]? = some (.loop lpb) ∧ ∃ O' D', FrB O W1 (W3.putObj l (.loop lp')) ∧ (∀ b, O' b → O b ∨ since W1 (W3.putObj l (.loop lp')) b) ∧ (∀ b, D' b → S2 b ∨ O b ∨ since W1 (W3.putObj l (.loop lp')) b) ∧ LJ fix β A0 Γs' a l Dd lp' O' D' (W3.putObj l (.loop lp')) := by
  obtain ⟨g1, g2, g3, θ3, S3, g4, g5⟩ := hi
  have hOl : O l := (h4 l).2 (.inr (.inl rfl))
  have hOd : O Dd := (h4 Dd).2 (.inr (.inr rfl))
  have sz1 := f1.size
  have sz2 := g3.size
  simp only [World.putObj_size] at sz2
  have hl1 := (hO l hOl).1
  have hd1 := (hO Dd hOd).1
  have hlX : l ∉ X := fun h => (h7 l h).2.1 rfl
  have hdX : Dd ∉ X := fun h => (h7 Dd h).2.2 rfl
  have hlX' : l ∉ X' := fun h => by
    rcases ((hX' l).1 h).2.2 with h | h
    · exact absurd h (by show ¬ W1.heap.size ≤ l; omega)
    · exact hlX h
  have hdX' : Dd ∉ X' := fun h => by
    rcases ((hX' Dd).1 h).2.2 with h | h
    · exact absurd h (by show ¬ W1.heap.size ≤ Dd; omega)
    · exact hdX h
  have hlS' : ¬ S' l := fun h => by
    rcases (k1 l h).2 with h | h | h
    · exact (hO l hOl).2 h
    · exact absurd h (by show ¬ W1.heap.size ≤ l; omega)
    · exact hlX h
  have hdS' : ¬ S' Dd := fun h => by
    rcases (k1 Dd h).2 with h | h | h
    · exact (hO Dd hOd).2 h
    · exact absurd h (by show ¬ W1.heap.size ≤ Dd; omega)
    · exact hdX h
  have hw2 : (w1.putObj l (.loop lpb)).heap[l]? = some (.loop lpb) := World.putObj_heap_same (by omega)
  have hl3 : W3.heap[l]? = some (.loop lpb) := (g3.block l (by rw [World.putObj_size]; omega) hlX').trans hw2
  have hb4 : ∀ b, b ≠ l → (W3.putObj l (.loop lp')).heap[b]? = W3.heap[b]? := fun b hb => World.putObj_heap_other hb
  have hkeep : ∀ b, b < W1.heap.size → b ∉ X → b ≠ l → (W3.putObj l (.loop lp')).heap[b]? = W1.heap[b]? := fun b hb hx hne' => by
    rw [hb4 b hne', g3.block b (by rw [World.putObj_size]; omega) (fun h => by
      rcases ((hX' b).1 h).2.2 with h | h
      · exact absurd h (by show ¬ W1.heap.size ≤ b; omega)
      · exact hx h), World.putObj_heap_other hne', f1.block b hb hx]
  refine ⟨hl3, ?_⟩
  let Sn : Blk := fun b => S3 b ∨ S' b ∨ S2 b
  have hS3l : ∀ b, S3 b → b ≠ l ∧ b ≠ Dd := fun b hb => by
    rcases (g4 b hb).2 with h | h | h
    · exact ⟨fun e => hlS' (e ▸ h), fun e => hdS' (e ▸ h)⟩
    · have h : w1.heap.size ≤ b := by have := h; simp only [World.putObj_size] at this; exact this
      exact ⟨by omega, by omega⟩
    · exact ⟨fun e => hlX' (e ▸ h), fun e => hdX' (e ▸ h)⟩
  obtain ⟨X4, hX4⟩ := blk_list W3.heap.size (free ⟨w1.putObj l (.loop lpb), S', X', n, some l, []⟩ S3 W3) (fun b hb => hb.2.1)
  have hX4l : ∀ b, b ∈ X4 → b ≠ l ∧ b ≠ Dd := fun b hb => by
    rcases ((hX4 b).1 hb).2.2 with h | h
    · have h : w1.heap.size ≤ b := by have := h; simp only [World.putObj_size] at this; exact this
      exact ⟨by omega, by omega⟩
    · exact ⟨fun e => hlX' (e ▸ h), fun e => hdX' (e ▸ h)⟩
  have hX4o : ∀ b, b ∈ X4 → b ∈ X ∨ W1.heap.size ≤ b := fun b hb => by
    rcases ((hX4 b).1 hb).2.2 with h | h
    · have h : w1.heap.size ≤ b := by have := h; simp only [World.putObj_size] at this; exact this
      exact .inr (by omega)
    · rcases ((hX' b).1 h).2.2 with h | h
      · exact .inr h
      · exact .inl h
  have hX4s : ∀ b, b ∈ X4 → ¬ Sn b := fun b hb hs => by
    have hf := (hX4 b).1 hb
    rcases hs with hs | hs | hs
    · exact hf.1 hs
    · rcases hf.2.2 with h | h
      · have h : w1.heap.size ≤ b := by have := h; simp only [World.putObj_size] at this; exact this
        have := (k1 b hs).1; omega
      · exact ((hX' b).1 h).1 hs
    · rcases hX4o b hb with h | h
      · exact (hO b ((h4 b).2 (.inl h))).2 hs
      · have := hS2 b hs; omega
  have hSn : ∀ b, Sn b → b < W3.heap.size ∧ (S2 b ∨ b ∈ X ∨ W1.heap.size ≤ b) := fun b hs => by
    have hS' : S' b → b < w1.heap.size ∧ (S2 b ∨ b ∈ X ∨ W1.heap.size ≤ b) := fun h => ⟨(k1 b h).1, by
      rcases (k1 b h).2 with h | h | h
      · exact .inl h
      · exact .inr (.inr h)
      · exact .inr (.inl h)⟩
    rcases hs with hs | hs | hs
    · refine ⟨(g4 b hs).1, ?_⟩
      rcases (g4 b hs).2 with h | h | h
      · exact (hS' h).2
      · have h : w1.heap.size ≤ b := by have := h; simp only [World.putObj_size] at this; exact this
        exact .inr (.inr (by omega))
      · rcases ((hX' b).1 h).2.2 with h | h
        · exact .inr (.inr h)
        · exact .inr (.inl h)
    · exact ⟨by have := (hS' hs).1; omega, (hS' hs).2⟩
    · exact ⟨by have := hS2 b hs; omega, .inl hs⟩
  have hθ := hfix.all g5
  refine ⟨fun b => b ∈ X4 ∨ b = l ∨ b = Dd, fun b => Sn b ∨ (b ∈ X4 ∨ b = l ∨ b = Dd), ?_, ?_, ?_, ⟨⟨θ3, Sn, X4, hθ, ?_, ?_, fun b => Iff.rfl, fun b => Iff.rfl, ?_, ?_, ?_, ?_⟩, ?_, ?_, hne⟩⟩
  · refine ⟨g3.os.trans f1.os, g3.tape.trans f1.tape, g3.output.trans f1.output, by rw [World.putObj_size]; omega, fun b hb hx => ?_⟩
    exact hkeep b hb (fun h => hx ((h4 b).2 (.inl h))) (fun e => hx ((h4 b).2 (.inr (.inl e))))
  · rintro b (hb | rfl | rfl)
    · rcases hX4o b hb with h | h
      · exact .inl ((h4 b).2 (.inl h))
      · exact .inr ⟨h, by rw [World.putObj_size]; exact ((hX4 b).1 hb).2.1⟩
    · exact .inl hOl
    · exact .inl hOd
  · rintro b (hb | hb | rfl | rfl)
    · rcases (hSn b hb).2 with h | h | h
      · exact .inl h
      · exact .inr (.inl ((h4 b).2 (.inl h)))
      · exact .inr (.inr ⟨h, by rw [World.putObj_size]; exact (hSn b hb).1⟩)
    · rcases hX4o b hb with h | h
      · exact .inr (.inl ((h4 b).2 (.inl h)))
      · exact .inr (.inr ⟨h, by rw [World.putObj_size]; exact ((hX4 b).1 hb).2.1⟩)
    · exact .inr (.inl hOl)
    · exact .inr (.inl hOd)
  · have e1 := sat_sub g5 (fun k hk => hk) hT.sub
    have e2 := sat_act (a' := act0) hn e1
    refine sat_mono (sat_move e2 (fun b hb => hb4 b (hS3l b hb).1) (fun b hb => .inl hb) (fun b hb => hb4 b (hX4l b ((hX4 b).2 hb)).1) (fun t _ => rfl) (fun k _ => rfl)) (fun k hk => hk) (fun b hb => (hX4 b).2 hb)
  · refine sat_moveI h3 (fun b hb => hkeep b (hS2 b (hSS b hb)) (fun h => (h7 b h).1 hb) (fun e => ?_)) (fun b hb => .inr (.inr (hSS b hb))) (fun b hb => hb.elim) (fun t _ => rfl) (fun e he k hk => ?_)
    · exact (hO l hOl).2 (e ▸ hSS b hb)
    · rw [hθ k (idsIn_spec hA e he k hk), h1 k (idsIn_spec hA e he k hk)]
  · rintro b (hb | hb | rfl | rfl)
    · rw [World.putObj_size]; exact (hSn b hb).1
    · rw [World.putObj_size]; exact ((hX4 b).1 hb).2.1
    · rw [World.putObj_size]; omega
    · rw [World.putObj_size]; omega
  · exact fun b hb => ⟨hX4s b hb, hX4l b hb⟩
  · rintro (h | h | h)
    · exact (hS3l l h).1 rfl
    · exact hlS' h
    · exact (hO l hOl).2 h
  · rintro (h | h | h)
    · exact (hS3l Dd h).2 rfl
    · exact hdS' h
    · exact (hO Dd hOd).2 h
  · exact World.putObj_heap_same (by omega)
  · exact (hkeep Dd hd1 hdX (fun e => hne e.symm)).trans hput
end Go.Proofs.Ytlpmolohppoofaa.Sl
/- The statement 'for .. := range f { .. }'. -/
set_option linter.unusedVariables false
set_option linter.unusedSimpArgs false
namespace Go.Proofs.Ytlpmolohppoofaa.Sl
open Go Go.RowKit
/-- An entry that owns nothing. -/
def NoOwn (e : Ent) : Prop := ∀ θ S ob a w, e.sem θ S ob a w → ob = bk none
inductive NoOwns : List Ent → Prop
  | nil : NoOwns []
  | cons {e : Ent} {l : List Ent} : NoOwn e → NoOwns l → NoOwns (e :: l)
theorem NoOwns.sat {l : List Ent} (h : NoOwns l) {θ : Nat → Nat} {S : Blk} {a : Act} {w : World} : ∀ {ks : List Nat} {av av' : Blk}, Sl.sat θ S a w ks l av → Sl.sat θ S a w ks l av' := by
  induction h with
  | nil => intro _ _ _ _; trivial
  | @cons e l h1 _ ih =>
    intro ks av av' hs
    unfold Sl.sat at hs ⊢
    by_cases hd : dead ks e = true
    · rw [if_pos hd] at hs ⊢; exact ih hs
    · rw [if_neg hd] at hs ⊢
      obtain ⟨ob, g1, g2, g3⟩ := hs
      obtain rfl := h1 _ _ _ _ _ g1
      exact ⟨bk none, g1, fun b hb => (by cases hb), ih g3⟩
end Go.Proofs.Ytlpmolohppoofaa.Sl
/- Functions that range over a function: entering and leaving; the iterator's side: yield. -/
set_option linter.unusedVariables false
set_option linter.unusedSimpArgs false
namespace Go.Proofs.Ytlpmolohppoofaa.Sl
open Go Go.RowKit
/-! ### yield -/
section
variable {ε : Type}
/-- The loop, as its iterator sees it: r still to come. -/
def Ent.it (J : List ε → Blk → Blk → World → Prop) (hst : ∀ r O D W1 W2, J r O D W1 → (∀ b, D b → W2.heap[b]? = W1.heap[b]?) → J r O D W2) (r : List ε) : Ent where
  key := 6999998
  slots := []
  ids := []
  sem := fun _ S ob _ w => ∃ D, J r ob D w ∧ ∀ b, D b → S b ∨ ob b
  move := by
    rintro θ θ' S S' ob a a' w w' ⟨D, h1, h2⟩ hA hS hb _ _
    exact ⟨D, hst _ _ _ _ _ h1 (fun b hD => (h2 b hD).elim (hA b) (hb b)), fun b hD => (h2 b hD).imp (hS b) id⟩
variable {P : Program} {c : Ctx} {Γ : List Ent} {Q : Exit → Act → World → Prop} {ops : Array Oper} {rest : List Oper}
variable {J : List ε → Blk → Blk → World → Prop} {Jx : Blk → Blk → World → Prop} {hst : ∀ r O D W1 W2, J r O D W1 → (∀ b, D b → W2.heap[b]? = W1.heap[b]?) → J r O D W2} {hstx : ∀ O D W1 W2, Jx O D W1 → (∀ b, D b → W2.heap[b]? = W1.heap[b]?) → Jx O D W2} {V : ε → List VA}
/-- A context whose own blocks are none of the shared ones. -/
structure CtxOk (c : Ctx) : Prop where
  lt : ∀ b, c.S0 b → b < c.w0.heap.size
  x : ∀ b, b ∈ c.X → ¬ c.S0 b
end
end Go.Proofs.Ytlpmolohppoofaa.Sl
/- The iterator's side: entering, leaving, loops; the function value that is handed back. -/
set_option linter.unusedVariables false
set_option linter.unusedSimpArgs false
namespace Go.Proofs.Ytlpmolohppoofaa.Sl
open Go Go.RowKit
section
variable {ε : Type} {P : Program} {V : ε → List VA}
/-! ### the function value -/
end
end Go.Proofs.Ytlpmolohppoofaa.Sl
/- Function values that lie in boxes. -/
set_option linter.unusedVariables false
set_option linter.unusedSimpArgs false
namespace Go.Proofs.Ytlpmolohppoofaa.Sl
open Go Go.RowKit
/-- A function's number, what is bound ahead, what is captured. -/
structure FD where
  F : FuncId
  pre : List VA
  caps : List VA
end Go.Proofs.Ytlpmolohppoofaa.Sl
/- Maps under pairs of texts. -/
set_option linter.unusedVariables false
set_option linter.unusedSimpArgs false
namespace Go.Proofs.Ytlpmolohppoofaa.Sl
open Go Go.RowKit Go.WideMaps Go.Maps
/-- A pair of texts as one. -/
def enc2 (p : ByteArray × ByteArray) : ByteArray := ⟨(keyBytes [.string p.1.data.toList, .string p.2.data.toList]).toArray⟩
theorem sk_enc2 (p : ByteArray × ByteArray) : sk (enc2 p) = .string (keyBytes [.string p.1.data.toList, .string p.2.data.toList]) := by simp [sk, enc2]
theorem bytesLE_len (w n : Nat) : (bytesLE w n).length = w := by
  induction w generalizing n with
  | zero => rfl
  | succ w ih => simp [bytesLE, ih]
theorem enc2_size (p : ByteArray × ByteArray) : (enc2 p).size = 16 + p.1.size + p.2.size := by
  show (keyBytes [.string p.1.data.toList, .string p.2.data.toList]).toArray.size = _
  simp only [keyBytes, Lit.keyBytes, bytesBE, List.flatMap_cons, List.flatMap_nil, List.append_nil, List.size_toArray, List.length_append, List.length_reverse, bytesLE_len, Array.length_toList]
  have h1 : p.1.data.size = p.1.size := rfl
  have h2 : p.2.data.size = p.2.size := rfl
  omega
theorem keyOf_arr2 {P : Program} {kt e m : TypeId} (hk : P.underlying kt = some (.array 2 e)) (he : P.underlying e = some .string) (hkt : P.keyType kt = true) (hc : P.cellsOf kt = 2) (hce : P.cellsOf e = 1) (hsz : P.types.size = m + 1)
    (hfm : ∀ a b : ByteArray, (Value.agg #[.string a, .string b]).formed P kt = true) (p : ByteArray × ByteArray) (hp : (enc2 p).size ≤ 9223372036854775807) : keyOf P kt (.agg #[.string p.1, .string p.2]) = some (sk (enc2 p)) := by
  rw [enc2_size] at hp
  have h1 : p.1.size ≤ maxLen := by unfold maxLen; omega
  have h2 : p.2.size ≤ maxLen := by unfold maxLen; omega
  unfold keyOf
  rw [hk]
  simp only [hkt, hfm, Bool.and_self, if_true, hsz, sk_enc2]
  simp [Program.keyLits, hk, he, hc, hce, Value.cells, List.range_succ, h1, h2]
structure MTP {α : Type} (P : Program) (t kt : TypeId) (K : Kn α) (z : α) : Prop where
  u : ∃ e, P.underlying t = some (.map kt e) ∧ TK P e K ∧ ∃ cs, (P.info? e).bind (·.zero) = some (K.mk_ cs) ∧ ∀ S w, K.R S w z cs
  kd : Keyed P kt
  key : ∀ p : ByteArray × ByteArray, (enc2 p).size ≤ 9223372036854775807 → keyOf P kt (.agg #[.string p.1, .string p.2]) = some (sk (enc2 p))
theorem MTP.zero {α : Type} {P : Program} {t kt : TypeId} {K : Kn α} {z : α} (hM : MTP P t kt K z) : ∃ e cs, P.underlying t = some (.map kt e) ∧ (∀ w, (zeroValue e).run P w = .ok (K.mk_ cs) w) ∧ ∀ S w, K.R S w z cs := by
  obtain ⟨e, hu, _, cs, hz, hr⟩ := hM.u
  refine ⟨e, cs, hu, fun w => ?_, hr⟩
  cases hi : P.info? e with
  | none => rw [hi] at hz; cases hz
  | some i =>
    rw [hi] at hz
    have hz' : i.zero = some (K.mk_ cs) := hz
    simp [zeroValue, typeInfo, hi, hz', Sem.run_bind]
theorem MapS.getP {α : Type} {P : Program} {t kt : TypeId} {K : Kn α} {z r : α} (hM : MTP P t kt K z) {S : Blk} {w : World} {b : Nat} {m : GM α} (h : MapS P kt K S w b m) {p : ByteArray × ByteArray} (hr : gget m z (enc2 p) = some r) :
    ∃ cs, (Instr.lookup t (.map (some b)) (.agg #[.string p.1, .string p.2]) false).run P w = .ok (K.mk_ cs) w ∧ K.R S w r cs := by
  obtain ⟨f, h1, h2⟩ := h
  obtain ⟨e, cz, hu, hz2, hz1⟩ := hM.zero
  unfold gget at hr
  split at hr
  · rename_i hs
    have hl := h1.look hM.kd hu (hz2 w) (hM.key p hs)
    have := h2 (enc2 p)
    split at this
    · rename_i hg
      rw [hg] at hr
      cases hr
      rw [this] at hl
      exact ⟨cz, hl, hz1 _ _⟩
    · rename_i x hg
      rw [hg] at hr
      cases hr
      obtain ⟨cs, h3, h4⟩ := this
      rw [h4] at hl
      exact ⟨cs, hl, h3⟩
  · cases hr
theorem MapS.putP {α : Type} {P : Program} {t kt : TypeId} {K : Kn α} {z x : α} (hM : MTP P t kt K z) {S : Blk} {w : World} {b : Nat} {m r : GM α} (h : MapS P kt K S w b m) {p : ByteArray × ByteArray} (hr : gput m (enc2 p) x = some r) {cs : List Value} (hx : K.R S w x cs) (hb : ¬ S b) :
    ∃ w', (Instr.mapUpdate t (.map (some b)) (.agg #[.string p.1, .string p.2]) (K.mk_ cs)).run P w = .ok () w' ∧ MapS P kt K S w' b r ∧ w.mapTurned w' b := by
  obtain ⟨f, h1, h2⟩ := h
  obtain ⟨e, hu, _, _⟩ := hM.u
  unfold gput at hr
  split at hr
  · rename_i hs
    cases hr
    obtain ⟨w', hrun, h3, h4⟩ := h1.put hM.kd hu hs.1 (hM.key p hs.2) (val := K.mk_ cs)
    have hag : Agree S w w' := fun b' hb' => by
      obtain ⟨es, clock, es', clock', _, rfl⟩ := h4
      have hne : b ≠ b' := fun e => hb (e ▸ hb')
      show (w.heap.setIfInBounds b (.map es' clock'))[b']? = w.heap[b']?
      rw [Array.getElem?_setIfInBounds, if_neg hne]
    refine ⟨w', hrun, ⟨_, h3, fun q => ?_⟩, h4⟩
    unfold upd
    by_cases e : q = enc2 p
    · subst e
      simp only [if_true, sk_same, decide_true]
      exact ⟨cs, K.move hx hag (fun b hb => hb), rfl⟩
    · simp only [if_neg e, sk_same, decide_eq_false e, Bool.false_eq_true, if_false]
      have := h2 q
      split at this
      · exact this
      · obtain ⟨c, h5, h6⟩ := this
        exact ⟨c, K.move h5 hag (fun b hb => hb), h6⟩
  · cases hr
abbrev kstr2 : Kn (ByteArray × ByteArray) := kpair kstr kstr
theorem k_str2 {θ : Nat → Nat} {S : Blk} {ob : Blk} {w : World} {v : Value} {p : ByteArray × ByteArray} (h : (VA.k kstr2 p).sem θ S ob w v) : v = .agg #[.string p.1, .string p.2] := by
  obtain ⟨_, cs, ⟨c0, c1, rfl, h0, h1⟩, rfl⟩ := h
  have h0 : c0 = [.string p.1] := h0
  have h1 : c1 = [.string p.2] := h1
  subst h0 h1
  rfl
section
variable {P : Program} {n d : Nat} {ty t t' : TypeId} {pos : String} {af : Array Edge} {g : Option (Nat × Bool)} {N : Ent → Prop}
theorem op_lookupP {α : Type} {kt : TypeId} {K : Kn α} {z r : α} {m : GM α} {s : ByteArray × ByteArray} {id : Nat} {o x : Operand} (hd : Nat.blt d n = true) (hM : MTP P t kt K z) (hr : gget m z (enc2 s) = some r) (ho : Arg N o (VA.mp false id)) (hm : N (Ent.h id (HE.map P kt K m))) (hx : Arg N x (VA.k kstr2 s)) :
    OpSpec P n ⟨some d, .lookup t o x false, ty, pos, af, g⟩ N [Ent.t d (VA.k K r)] := op_pure hd fun θ S act w hN => by
  obtain ⟨_, _, e1⟩ := ho θ S act w hN
  obtain ⟨_, hx'⟩ := hx θ S act w hN
  obtain ⟨_, _, hmap⟩ := hN _ hm
  have e2 := k_str2 hx'
  obtain ⟨cs, hrun, hk⟩ := hmap.getP hM hr
  refine ⟨K.mk_ cs, ?_, rfl, cs, hk, rfl⟩
  have e1' : act.eval o = .map (some (θ id)) := e1
  clear hN ho hx hx' e1
  generalize act.eval = ρ at *
  simp [execOp, e1', e2, hrun, Sem.run_bind, Sem.run_pure, Result.andThen_ok]
theorem op_mapUpdateP {α : Type} {kt : TypeId} {K : Kn α} {z v : α} {m r : GM α} {s : ByteArray × ByteArray} {id : Nat} {o x y : Operand} (hM : MTP P t kt K z) (hr : gput m (enc2 s) v = some r) (ho : Arg N o (VA.mp false id)) (hm : N (Ent.h id (HE.map P kt K m))) (hx : Arg N x (VA.k kstr2 s)) (hy : Arg N y (VA.k K v)) :
    OpSpec P n ⟨none, .mapUpdate t o x y, ty, pos, af, g⟩ N [Ent.h id (HE.map P kt K r)] := by
  rintro c Γ a w Q rfl hN ⟨h1, h2, h3, θ, S, h4, h5⟩
  have hN2 := sems hN h5
  obtain ⟨_, _, e1⟩ := ho θ S a w hN2
  obtain ⟨_, hx'⟩ := hx θ S a w hN2
  obtain ⟨_, _, cs, hk, e3⟩ := hy θ S a w hN2
  obtain ⟨ob, ⟨rfl, hmap⟩, hav, h6⟩ := sat_take (hN _ hm) h5
  have hfree := hav _ rfl
  have e2 := k_str2 hx'
  have hmap' : MapS P kt K S w (θ id) m := hmap
  obtain ⟨w', hrun, hm', ht⟩ := hmap'.putP hM hr hk hfree.1
  have e1' : a.eval o = .map (some (θ id)) := e1
  have hrun' : (execOp a.eval ⟨none, .mapUpdate t o x y, ty, pos, af, g⟩).run P w = .ok .skip w' := by
    clear hN hN2 ho hx hx' hy e1 h1 h2 h5 h6
    generalize a.eval = ρ at *
    simp [execOp, e1', e2, e3, hrun, Sem.run_bind, Sem.run_pure, Result.andThen_ok]
  unfold Oper.wp
  rw [hrun']
  exact inv_map h1 h2 h3 h4 hfree h6 ht hm'
end
end Go.Proofs.Ytlpmolohppoofaa.Sl
/- Jumps back to a label; pointers to elements handed on; slices.Reverse; contracts of calls that lay blocks; arrays of two texts. -/
set_option linter.unusedVariables false
set_option linter.unusedSimpArgs false
namespace Go.Proofs.Ytlpmolohppoofaa.Sl
open Go Go.RowKit
section
variable {P : Program} {c : Ctx} {Γ : List Ent} {Q : Exit → Act → World → Prop}
/-- A scope with one label, to which the run jumps back. -/
theorem goes_scope {σ τ : Type} {code B : Code} {r : τ} (l : Nat) (Γ' : σ → List Ent) (L : Nat → σ → Option τ) (hrd : c.rd = none) (hz : ∀ s, L 0 s = none) (hf : findLabel code l = some (.seq .skip B))
    (pass : ∀ k s, L (k + 1) s = some r → Goes P c (Γ' s) B (Exit.jump l (fun a w => ∃ s', L k s' = some r ∧ Inv c (Γ' s') a w) Q))
    (first : (∀ k s Δ, L k s = some r → Told Δ (Γ' s) → Goes P c Δ (.seq (.label l) B) (Exit.jump l (fun a w => ∃ k s', L k s' = some r ∧ Inv c (Γ' s') a w) Q)) → Goes P c Γ code (Exit.jump l (fun a w => ∃ k s', L k s' = some r ∧ Inv c (Γ' s') a w) Q)) : Goes P c Γ (.scope code) Q := fun a w hi => by
  classical
  have hm : ∀ {J J' : Act → World → Prop}, (∀ a w, J a w → J' a w) → ∀ e a w, Exit.jump l J Q e a w → Exit.jump l J' Q e a w := fun hJ e a w h => by
    cases e with
    | goto l' => exact ⟨h.1, hJ _ _ h.2⟩
    | normal => exact h
    | ret => exact h
    | exit id => exact h
    | panic ch => exact h
    | outgrown => exact h
  let good : Nat → Act → World → Prop := fun k a w => ∃ s, L k s = some r ∧ Inv c (Γ' s) a w
  let μ : Act → World → Nat := fun a w => if h : ∃ k, good k a w then Classical.choose (least _ h) else 0
  have hrf : ∀ {k : Code} {Q' : Exit → Act → World → Prop} {a : Act} {w : World}, k.wpIn (rf c.rd) 0 P Q' a w → k.wp P Q' a w := fun h => by rw [hrd] at h; exact wpIn_wide.1 h
  have hB : ∀ k s Δ, L k s = some r → Told Δ (Γ' s) → Goes P c Δ (.seq (.label l) B) (Exit.jump l (fun a w => ∃ k s', L k s' = some r ∧ Inv c (Γ' s') a w) Q) := fun k s Δ hk ht a w hi => by
    cases k with
    | zero => rw [hz] at hk; cases hk
    | succ k => exact wpIn_seq (wpIn_label (wpIn_mono (pass k s hk a w (hi.sub ht.sub)) (hm (fun a w ⟨s', h1, h2⟩ => ⟨k, s', h1, h2⟩))))
  rw [hrd]
  refine wpIn_wide.2 (wp_scope_jumps l (fun a w => ∃ k s', L k s' = some r ∧ Inv c (Γ' s') a w) μ hf (hrf (first hB a w hi)) ?_)
  intro a w hI
  have hI' : ∃ k, good k a w := hI
  have hμ : μ a w = Classical.choose (least _ hI') := dif_pos hI'
  obtain ⟨⟨s, hs1, hs2⟩, hmin⟩ := Classical.choose_spec (least _ hI')
  cases hk : Classical.choose (least _ hI') with
  | zero => rw [hk, hz] at hs1; cases hs1
  | succ k =>
    rw [hk] at hs1
    have hp := hrf (pass k s hs1 a w hs2)
    have hp2 : (Code.seq .skip B).wp P (Exit.jump l (fun a w => ∃ s', L k s' = some r ∧ Inv c (Γ' s') a w) Q) a w := wp_seq (wp_skip hp)
    refine wp_mono hp2 (hm (fun a' w' h => ?_))
    obtain ⟨s', h1, h2⟩ := h
    have hI2 : ∃ k, good k a' w' := ⟨k, s', h1, h2⟩
    refine ⟨hI2, ?_⟩
    have : μ a' w' = Classical.choose (least _ hI2) := dif_pos hI2
    rw [this, hμ, hk]
    exact Nat.lt_succ_of_le ((Classical.choose_spec (least _ hI2)).2 k ⟨s', h1, h2⟩)
theorem ends_jump_ret {l : Nat} {J : Act → World → Prop} (h : Ends c Γ Q .ret) : Ends c Γ (Exit.jump l J Q) .ret := h
theorem ends_jump_goto {σ τ : Type} {l : Nat} {Γ' : σ → List Ent} {L : Nat → σ → Option τ} {r : τ} {k : Nat} (s' : σ) (H : L k s' = some r) (h : Told Γ (Γ' s')) : Ends c Γ (Exit.jump l (fun a w => ∃ s', L k s' = some r ∧ Inv c (Γ' s') a w) Q) (.goto l) := fun a w hi => ⟨rfl, s', H, hi.sub h.sub⟩
end
section
variable {P : Program} {n d : Nat} {ty t t' : TypeId} {pos : String} {af : Array Edge} {g : Option (Nat × Bool)} {N : Ent → Prop}
/-- A pointer to an element is handed on. -/
theorem op_oe {q s p : Nat} {op : Op} (hop : op = .move (.tmp q) ∨ op = .assign (.tmp q) ∨ op = .nilCheck (.tmp q)) (hd : Nat.blt d n = true) (hds : Nat.beq s d = false) (ho : N (Ent.oe q s p)) : OpSpec P n ⟨some d, op, ty, pos, af, g⟩ N [Ent.oe d s p] := by
  rintro c Γ a w Q rfl hN ⟨h1, h2, h3, θ, S, h4, h5⟩
  obtain ⟨_, _, g', m, cp, e1, e2⟩ := sems hN h5 _ ho
  have hdn := blt_lt hd
  have hne : s ≠ d := fun e => by rw [e, Nat.beq_refl] at hds; cases hds
  have e2' : a.eval (.tmp q) = .pointer (some ⟨g', p, none⟩) := e2
  have hrun : (execOp a.eval ⟨some d, op, ty, pos, af, g⟩).run P w = .ok (.value (.pointer (some ⟨g', p, none⟩))) w := by
    clear hN h1 h2 h5
    generalize a.eval = ρ at *
    rcases hop with rfl | rfl | rfl <;> simp [execOp, e2', Sem.run_pure]
  unfold Oper.wp
  rw [hrun]
  show Inv c _ (a.put (some d) _) w
  exact inv_put_e hd rfl h1 h2 h3 h4 h5 rfl ⟨rfl, g', m, cp, by rw [put_getD_ne hne]; exact e1, put_getD_self (by omega)⟩
theorem op_build_arr2 {x y : Operand} {a b : ByteArray} (hd : Nat.blt d n = true) (hb : ∀ a b : ByteArray, P.built t [(0, .string a), (1, .string b)] = some #[.string a, .string b]) (hx : Arg N x (VA.k kstr a)) (hy : Arg N y (VA.k kstr b)) : OpSpec P n ⟨some d, .build t #[(0, x), (1, y)], ty, pos, af, g⟩ N [Ent.t d (VA.k kstr2 (a, b))] := op_pure hd fun θ S act w hN => by
  obtain ⟨_, hx'⟩ := hx θ S act w hN
  obtain ⟨_, hy'⟩ := hy θ S act w hN
  have e1 := k_str hx'
  have e2 := k_str hy'
  have hrun := run_build (P := P) w t #[(0, .string a), (1, .string b)] #[.string a, .string b] (hb _ _)
  refine ⟨.agg #[.string a, .string b], ?_, rfl, [.string a, .string b], ⟨[.string a], [.string b], rfl, rfl, rfl⟩, rfl⟩
  clear hN hx hy hx' hy'
  generalize act.eval = ρ at *
  simp [execOp, e1, e2, hrun, Sem.run_bind, Sem.run_pure, Result.andThen_ok]
end
/-- A contract out of what is known of a call that lays blocks. -/
theorem con_below {P : Program} {f : FuncId} {As : List VA} {A : VA} (hfree : ∀ θ S S' w w' v, A.sem θ S (bk none) w v → A.sem θ S' (bk none) w' v) (h : ∀ θ S w vs, argSat θ S w As vs → ∃ v, Calls P f vs.toArray w (fun e w' => e = .returned v ∧ Below w.heap.size w w') ∧ A.sem θ S (bk none) w v) : Con P f As [A] := fun θ S w vs hS ha => by
  obtain ⟨v, hc, hA⟩ := h θ S w vs ha
  refine hc.mono ?_
  rintro e w' ⟨rfl, hb⟩
  exact ⟨[v], fun _ => False, rfl, Fr.of_below hb, fun b hb => hb.elim, bk none, hfree _ _ _ _ _ _ hA, fun b hb => (by cases hb), trivial⟩
theorem va_bool {θ : Nat → Nat} {S : Blk} {w : World} (x : Bool) : (VA.k kbool x).sem θ S (bk none) w (.bool x) := ⟨rfl, _, rfl, rfl⟩
theorem bool_free (x : Bool) : ∀ (θ : Nat → Nat) (S S' : Blk) (w w' : World) v, (VA.k kbool x).sem θ S (bk none) w v → (VA.k kbool x).sem θ S' (bk none) w' v := fun θ S S' w w' v h => by
  obtain ⟨h0, cs, h1, h2⟩ := h
  exact ⟨h0, cs, h1, h2⟩
def asciiB (s : ByteArray) : Bool := s.data.toList.all fun b => decide (b.toNat < 128)
theorem asciiB_spec {s : ByteArray} (h : asciiB s = true) : ∀ (j : Nat) b, s.data.toList[j]? = some b → b.toNat < 128 := fun j b hj => by
  obtain ⟨hlt, e⟩ := List.getElem?_eq_some_iff.1 hj
  have := List.all_eq_true.1 h b (by rw [← e]; exact List.getElem_mem hlt)
  simpa using this
end Go.Proofs.Ytlpmolohppoofaa.Sl
/- slices.Reverse at []string. -/
set_option linter.unusedVariables false
set_option linter.unusedSimpArgs false
namespace Go.Proofs.Ytlpmolohppoofaa.Sl
open Go Go.RowKit Go.Sort
section
variable {P : Program} {F : FuncId} {e : TypeId}
theorem rev_map (xs : List ByteArray) : (xs.map toB).reverse.map ofB = xs.reverse := by
  rw [← List.map_reverse, List.map_map]
  have : ∀ l : List ByteArray, l.map (ofB ∘ toB) = l := fun l => by
    induction l with
    | nil => rfl
    | cons x l ih => rw [List.map_cons, ih]; simp [ofB, toB]
  exact this _
theorem conE_reverse (id : Nat) (hS : ∀ (blk off cap : Nat) (zs : List (List UInt8)) (w : World), Holds encStr w blk off zs.toArray → zs.length ≤ 9223372036854775807 →
      Calls P F #[.slice (some ⟨blk, off, none⟩) zs.length cap] w fun e w' => e = .returned (.tuple #[]) ∧ ∃ n, w' = putRow encStr (Sort.ahead w n) blk off zs.reverse.toArray)
    (h0 : ∀ (a : Option Addr) (cap : Nat) (w : World), Calls P F #[.slice a 0 cap] w fun e w' => e = .returned (.tuple #[]) ∧ w' = w)
    (xs : List ByteArray) : ConE P F [id, 500000 + id] [Ent.r id e kstr xs] [VA.rw id xs.length] [] [Ent.r id e kstr xs.reverse] := fun θ S w vs X hS' hX hpre ha => by
  match vs, ha with
  | [v0], ha =>
    obtain ⟨⟨_, hv0⟩, _⟩ := ha
    have hlen : xs.reverse.length = xs.length := by simp
    have hpre' := hpre
    unfold sat at hpre'
    rw [if_neg (by simp [dead])] at hpre'
    obtain ⟨ob, hown, hob, _⟩ := hpre'
    obtain ⟨hob2, hrow⟩ := own_str (θ := θ) (S := S) hown
    rw [← hv0] at hrow hob2
    rcases hrow.2 with ⟨hnil, hz⟩ | ⟨g, cap, cur, hv, hb0, hb, h1, h2, h3, h4⟩
    · have hxs : xs = [] := List.length_eq_zero_iff.1 hz
      rw [hnil]
      refine (h0 none 0 w).mono ?_
      rintro e' w' ⟨rfl, rfl⟩
      refine ⟨[], fun _ => False, θ, rfl, Fr.refl _ _, fun b hb => hb.elim, fun k hk => rfl, ?_⟩
      show sat θ _ act0 w' [] [Ent.r id e kstr xs.reverse] _
      rw [show xs.reverse = xs by rw [hxs]; rfl]
      exact sat_mono (sat_move hpre (Agree.refl _ _) (fun b hb => .inl hb) (fun b _ => rfl) (fun t _ => rfl) (fun k _ => rfl)) (fun k hk => hk) (fun b hb => ⟨.inr hb, fun h => h.elim⟩)
    · have hg : g ∈ X := by
        rw [hv] at hob2
        exact hob g (by rw [hob2]; rfl)
      rw [hv]
      have hH := holds_of_block (ss := xs.map toB) hb (by rw [List.length_map, ← Nat.mul_one xs.length]; exact h4)
      have hC := hS g 0 cap (xs.map toB) w hH (by rw [List.length_map]; have : maxLen = 9223372036854775807 := rfl; omega)
      rw [List.length_map] at hC
      refine hC.mono ?_
      rintro e' w' ⟨rfl, n, rfl⟩
      have hfr := fr_sorted (w := w) (n := n) (os := #[]) (xs.map toB).reverse.toArray hg
      rw [grow_empty] at hfr
      refine ⟨[], fun _ => False, θ, rfl, hfr, fun b hb => hb.elim, fun k hk => rfl, ?_⟩
      have ho := ownsRow_sorted (n := n) (os := #[]) (ss := xs.map toB) (ts := (xs.map toB).reverse) (by simp) hb0 hb (by simpa using h1) h2 h3
      rw [grow_empty] at ho
      have ho2 : (putRow encStr (Sort.ahead w n) g 0 (xs.map toB).reverse.toArray).ownsRow 0 e 1 (.slice (some ⟨g, 0, none⟩) xs.length cap) (xs.map toB).reverse.length ((xs.map toB).reverse.map encStr) := by
        have := ho
        rw [List.length_map] at this
        rw [show (xs.map toB).reverse.length = xs.length by simp]
        exact this
      refine sat_consO (ob := bk (some g)) (by simp [dead]) ?_ (fun b hb' => ?_) trivial
      · show (VA.own e kstr xs.reverse).sem θ _ (bk (some g)) _ (rowVal (θ id) (θ (500000 + id)) xs.reverse.length)
        rw [hlen, ← hv0, hv, ← rev_map xs]
        exact str_own (θ := θ) ho2
      · obtain rfl := Option.some.inj hb'
        exact ⟨.inr hg, fun h => h.elim⟩
end
end Go.Proofs.Ytlpmolohppoofaa.Sl
