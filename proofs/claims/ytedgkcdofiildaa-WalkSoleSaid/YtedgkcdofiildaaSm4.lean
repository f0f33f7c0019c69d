import Derived.Test.YtedgkcdofiildaaSm3
import Derived.ArgAppend
import Derived.Laws.RangeString
import Derived.Laws.StructEq
import Derived.Sort.OwnSorted
import Derived.Lib.SlicesCompact
import Derived.Laws.CopyOwn
import Derived.Laws.BytesArg
/- Calls that write what they are lent: what stands ahead of the call and what stands behind it, under the caller's own numbers. -/
set_option linter.unusedVariables false
set_option linter.unusedSimpArgs false
set_option linter.unnecessarySimpa false
set_option linter.deprecated false
namespace Go.Proofs.Ytedgkcdofiildaa.Sl
open Go Go.RowKit
def act0 : Act := { tmps := #[], defers := [] }
/-- Results, and what is given back beside them. -/
def resSatE (θ : Nat → Nat) (S : Blk) (w : World) : List VA → List Value → List Ent → Blk → Prop
  | [], [], post, av => sat θ S act0 w [] post av
  | A :: As, v :: vs, post, av => ∃ ob, A.sem θ S ob w v ∧ (∀ b, ob b → av b) ∧ resSatE θ S w As vs post (fun b => av b ∧ ¬ ob b)
  | _, _, _, _ => False
def EPost (w0 : World) (S0 : Blk) (X : List Nat) (β : Nat → Nat) (fix : List Nat) (res : List VA) (post : List Ent) (e : Ending) (w' : World) : Prop :=
  ∃ (rs : List Value) (S' : Blk) (θ' : Nat → Nat), e = .returned (tup rs) ∧ Fr X w0 w' ∧ (∀ b, S' b → since w0 w' b ∨ b ∈ X) ∧ (∀ k, k ∈ fix → θ' k = β k) ∧
    resSatE θ' (fun b => S0 b ∨ S' b) w' res rs post (fun b => (since w0 w' b ∨ b ∈ X) ∧ ¬ S' b)
/-- Function f, lent what pre says, gives back what post says; the numbers of fix name the same blocks behind it. -/
def ConE (P : Program) (f : FuncId) (fix : List Nat) (pre : List Ent) (args res : List VA) (post : List Ent) : Prop :=
  ∀ (θ : Nat → Nat) (S : Blk) (w : World) (vs : List Value) (X : List Nat), (∀ b, S b → b < w.heap.size) → (∀ b, b ∈ X → ¬ S b ∧ b < w.heap.size) → sat θ S act0 w [] pre (· ∈ X) → argSat θ S w args vs →
    Calls P f vs.toArray w (EPost w S X θ fix res post)
def noSlots (l : List Ent) : Bool := l.all (·.slots.isEmpty)
theorem noSlots_cons {e : Ent} {l : List Ent} (h : noSlots (e :: l) = true) : e.slots = [] ∧ noSlots l = true := by
  simpa [noSlots] using h
theorem sat_act {θ : Nat → Nat} {S : Blk} {a a' : Act} {w : World} : ∀ {Γ : List Ent} {ks : List Nat} {av : Blk}, noSlots Γ = true → sat θ S a w ks Γ av → sat θ S a' w ks Γ av
  | [], _, _, _, _ => trivial
  | e :: Γ, ks, av, hn, h => by
    obtain ⟨h0, hn⟩ := noSlots_cons hn
    unfold sat at h ⊢
    by_cases hd : dead ks e = true
    · rw [if_pos hd] at h ⊢; exact sat_act hn h
    · rw [if_neg hd] at h ⊢
      obtain ⟨ob, h1, h2, h3⟩ := h
      exact ⟨ob, e.move h1 (Agree.refl _ _) (fun b hb => hb) (fun b _ => rfl) (fun t ht => by rw [h0] at ht; cases ht) (fun k _ => rfl), h2, sat_act hn h3⟩
def fixEnts (β : Nat → Nat) (fix : List Nat) : List Ent := fix.map fun k => Ent.isb k (β k)
theorem sat_fix {θ : Nat → Nat} {S : Blk} {a : Act} {w : World} : ∀ {fix : List Nat} {ks : List Nat} {av : Blk}, sat θ S a w ks (fixEnts θ fix) av
  | [], _, _ => trivial
  | k :: fix, ks, av => by
    show sat θ S a w ks (Ent.isb k (θ k) :: fixEnts θ fix) av
    unfold sat
    by_cases hd : dead ks (Ent.isb k (θ k)) = true
    · rw [if_pos hd]; exact sat_fix
    · rw [if_neg hd]; exact ⟨bk none, ⟨rfl, rfl⟩, fun b hb => (by cases hb), sat_fix⟩
/-- Two lists over blocks of their own. -/
theorem sat_append {θ : Nat → Nat} {S : Blk} {a : Act} {w : World} {Γ2 : List Ent} : ∀ {Γ1 : List Ent} {ks ks2 : List Nat} {av av1 av2 : Blk}, sat θ S a w ks Γ1 av1 → sat θ S a w ks2 Γ2 av2 → (∀ k, k ∈ ks2 → k ∈ ks ∨ k ∈ Γ1.map (·.key)) →
    (∀ b, av1 b → av b) → (∀ b, av2 b → av b) → (∀ b, av2 b → ¬ av1 b) → sat θ S a w ks (Γ1 ++ Γ2) av
  | [], ks, ks2, av, av1, av2, _, h2, hk, _, ha2, _ => sat_mono h2 (fun k hk' => by simpa using hk k hk') ha2
  | e :: Γ1, ks, ks2, av, av1, av2, h1, h2, hk, ha1, ha2, hd12 => by
    have hk' : ∀ k, k ∈ ks2 → k ∈ e.key :: ks ∨ k ∈ Γ1.map (·.key) := fun k hm => by
      rcases hk k hm with h | h
      · exact .inl (List.mem_cons_of_mem _ h)
      · rcases List.mem_cons.1 h with rfl | h
        · exact .inl List.mem_cons_self
        · exact .inr h
    show sat θ S a w ks (e :: (Γ1 ++ Γ2)) av
    unfold sat at h1 ⊢
    by_cases hd : dead ks e = true
    · rw [if_pos hd] at h1 ⊢
      exact sat_append h1 h2 hk' ha1 ha2 hd12
    · rw [if_neg hd] at h1 ⊢
      obtain ⟨ob, g1, g2, g3⟩ := h1
      exact ⟨ob, g1, fun b hb => ha1 b (g2 b hb), sat_append g3 h2 hk' (fun b hb => ⟨ha1 b hb.1, hb.2⟩) (fun b hb => ⟨ha2 b hb, fun e' => hd12 b hb (g2 b e')⟩) (fun b hb h => hd12 b hb h.1)⟩
theorem sat_free {θ : Nat → Nat} {S : Blk} {a : Act} {w : World} : ∀ {Γ : List Ent} {ks ks1 : List Nat} {av : Blk}, sat θ S a w ks Γ av → (∀ e, e ∈ Γ → ∀ k, k ∈ ks → k ∈ e.deps → k ∈ ks1) → sat θ S a w ks1 Γ av
  | [], _, _, _, _, _ => trivial
  | e :: Γ, ks, ks1, av, h, hk => by
    unfold sat at h ⊢
    have hsub : dead ks e = true → dead ks1 e = true := fun hd => by
      obtain ⟨k, h1, h2⟩ := List.any_eq_true.1 hd
      have h2' : k ∈ ks := by simpa using h2
      exact List.any_eq_true.2 ⟨k, h1, by simpa using hk e (by simp) k h2' h1⟩
    have hrest : ∀ e', e' ∈ Γ → ∀ k, k ∈ e.key :: ks → k ∈ e'.deps → k ∈ e.key :: ks1 := fun e' he' k hk1 hk2 => by
      rcases List.mem_cons.1 hk1 with rfl | hk1
      · exact List.mem_cons_self
      · exact List.mem_cons_of_mem _ (hk e' (List.mem_cons_of_mem _ he') k hk1 hk2)
    by_cases hd : dead ks e = true
    · rw [if_pos hd] at h
      rw [if_pos (hsub hd)]
      exact sat_free h hrest
    · rw [if_neg hd] at h
      obtain ⟨ob, h1, h2, h3⟩ := h
      by_cases hd1 : dead ks1 e = true
      · rw [if_pos hd1]; exact sat_mono (sat_free h3 hrest) (fun k hk => hk) (fun b hb => hb.1)
      · rw [if_neg hd1]; exact ⟨ob, h1, h2, sat_free h3 hrest⟩
/-- The blocks below N of a set, as a list. -/
theorem blk_list (N : Nat) (ob : Blk) (h : ∀ b, ob b → b < N) : ∃ L : List Nat, ∀ b, b ∈ L ↔ ob b := by
  classical
  exact ⟨(List.range N).filter (fun b => decide (ob b)), fun b => by simp only [List.mem_filter, List.mem_range, decide_eq_true_eq]; exact ⟨fun h => h.2, fun hb => ⟨h b hb, hb⟩⟩⟩
/-! ### entering and leaving -/
/-- Results, then what is given back. -/
inductive RetsE (P : Program) (Γ : List Ent) (post : List Ent) : List Nat → List ResultVar → List VA → Prop
  | nil {ks : List Nat} : (∀ e, e ∈ post → ∃ k, findE ks Γ k = some e) → noSlots post = true → RetsE P Γ post ks [] []
  | g {ks : List Nat} {key : Nat} {rv : ResultVar} {rs : List ResultVar} {A : VA} {As : List VA} : RGet P Γ ks key rv A → RetsE P Γ post (key :: ks) rs As → RetsE P Γ post ks (rv :: rs) (A :: As)
theorem RetsE.t {P : Program} {Γ post : List Ent} {ks : List Nat} {r : Nat} {rs : List ResultVar} {A : VA} {As : List VA} (h1 : findE ks Γ r = some (Ent.t r A)) (h : RetsE P Γ post (r :: ks) rs As) : RetsE P Γ post ks (.tmp r :: rs) (A :: As) := .g (fun F θ S a w av0 av hF hG h0 hs => by
  obtain ⟨ob, g1, g2, g3⟩ := sat_take (has_find h1) hs
  exact ⟨a.tmps.getD r undef, ob, by rw [hF, Sem.run_pure], g1, g2, g3⟩) h
theorem RetsE.c {P : Program} {Γ post : List Ent} {α : Type} {ks : List Nat} {r id : Nat} {t e : TypeId} {K : Kn α} {x : α} {rs : List ResultVar} {As : List VA} (h1 : findE [] Γ r = some (Ent.t r (VA.ptr id 0))) (h2 : findE [] Γ (2000000 + id) = some (Ent.h id (HE.box e K x))) (hk : TK P t K) (h : RetsE P Γ post (3999999 :: ks) rs As) : RetsE P Γ post ks (.cell r t :: rs) (VA.k K x :: As) := .g (fun F θ S a w av0 av hF hG h0 hs => by
  obtain ⟨_, ⟨_, e1⟩, _⟩ := sat_take (has_find h1) h0
  obtain ⟨_, ⟨_, cs, hc, hr⟩, _⟩ := sat_take (has_find h2) h0
  have hl := run_loadVar_at (w := w) (ad := ⟨θ id, 0, none⟩) hk (K.len hr) (fun i u hu => by
    rw [add_add, cell_of_row w (θ id) _ cs _ (0, 0) hc, Nat.zero_add]
    simpa using hu)
  exact ⟨K.mk_ cs.toList, bk none, by rw [hG r t _ e1, hl], ⟨rfl, _, hr, rfl⟩, fun b hb => (by cases hb), sat_mono hs (fun k hk => List.mem_cons_of_mem _ hk) (fun b hb => ⟨hb, by simp⟩)⟩) h
/-- What is given back stands in Γ. -/
inductive ToldK (ks : List Nat) (Γ : List Ent) : List Ent → Prop
  | nil : ToldK ks Γ []
  | cons {e : Ent} {l : List Ent} : findE ks Γ e.key = some e → ToldK ks Γ l → ToldK ks Γ (e :: l)
theorem ToldK.all {ks : List Nat} {Γ l : List Ent} (h : ToldK ks Γ l) : ∀ e, e ∈ l → ∃ k, findE ks Γ k = some e := by
  induction h with
  | nil => intro e he; cases he
  | cons h1 _ ih =>
    intro e he
    rcases List.mem_cons.1 he with rfl | he
    · exact ⟨_, h1⟩
    · exact ih e he
theorem RetsE.post {P : Program} {Γ post : List Ent} {ks : List Nat} (h : ToldK ks Γ post) (hn : noSlots post = true) : RetsE P Γ post ks [] [] := .nil h.all hn
theorem RetsE.sat {P : Program} {Γ post : List Ent} {θ : Nat → Nat} {S : Blk} {a : Act} {w : World} {av0 : Blk} (F : ResultVar → Sem Value) (hF : ∀ t, F (.tmp t) = pure (a.tmps.getD t undef)) (hG : ∀ r t ad, a.tmps.getD r undef = .pointer (some ad) → (F (.cell r t)).run P w = (loadVar t ad).run P w) (h0 : sat θ S a w [] Γ av0) {ks : List Nat} {rts : List ResultVar} {res : List VA} (h : RetsE P Γ post ks rts res) :
    ∀ {av : Blk}, sat θ S a w ks Γ av → ∃ vs, (List.mapM F rts).run P w = .ok vs w ∧ resSatE θ S w res vs post av := by
  induction h with
  | @nil ks h1 h2 =>
    intro av hs
    refine ⟨[], rfl, ?_⟩
    have hH : ∀ e, e ∈ post → Has ks Γ e := fun e he => by obtain ⟨k, hk⟩ := h1 e he; exact has_find hk
    have h3 : Sl.sat θ S a w ks post av := sat_sub hs (fun k hk => hk) (fun e he => hH e he.mem)
    refine sat_act h2 (sat_free h3 (fun e he k hk hd => ?_))
    exact absurd hd (not_dep (hH e he).live hk)
  | @g ks key rv rs A As h1 _ ih =>
    intro av hs
    obtain ⟨v, ob, e1, g1, g2, g3⟩ := h1 F θ S a w av0 av hF hG h0 hs
    obtain ⟨vs, e, hr⟩ := ih g3
    refine ⟨v :: vs, ?_, ob, g1, g2, hr⟩
    rw [List.mapM_cons, Sem.run_bind, e1, Result.andThen_ok, Sem.run_bind, e, Result.andThen_ok, Sem.run_pure]
inductive FixIn (Γ : List Ent) (β : Nat → Nat) : List Nat → Prop
  | nil : FixIn Γ β []
  | cons {k : Nat} {l : List Nat} : findE [] Γ (4000000 + k) = some (Ent.isb k (β k)) → FixIn Γ β l → FixIn Γ β (k :: l)
theorem FixIn.all {Γ : List Ent} {β θ : Nat → Nat} {S : Blk} {a : Act} {w : World} {av : Blk} {fix : List Nat} (h : FixIn Γ β fix) (hs : sat θ S a w [] Γ av) : ∀ k, k ∈ fix → θ k = β k := by
  induction h with
  | nil => intro k hk; cases hk
  | cons h1 _ ih =>
    intro k hk
    rcases List.mem_cons.1 hk with rfl | hk
    · obtain ⟨_, ⟨_, e⟩, _⟩ := sat_take (has_find h1) hs
      exact e
    · exact ih k hk
end Go.Proofs.Ytedgkcdofiildaa.Sl
/- Calls of functions with contracts that lend. -/
set_option linter.unusedVariables false
set_option linter.unusedSimpArgs false
set_option linter.unnecessarySimpa false
set_option linter.deprecated false
namespace Go.Proofs.Ytedgkcdofiildaa.Sl
open Go Go.RowKit
/-! ### what such a call is lent to read -/
def ArgR (N : Ent → Prop) (x : Operand) (A : VA) : Prop := ∀ (θ : Nat → Nat) (S : Blk) (a : Act) (w : World) (R : Blk), (∀ e, N e → ∃ ob, e.sem θ S ob a w ∧ ∀ b, ob b → R b) → (∀ b, S b → R b) → A.sem θ R (bk none) w (a.eval x)
theorem Args.satR {N : Ent → Prop} {xs : List Operand} {As : List VA} (h : Args (ArgR N) xs As) {θ : Nat → Nat} {S : Blk} {a : Act} {w : World} {R : Blk} (hN : ∀ e, N e → ∃ ob, e.sem θ S ob a w ∧ ∀ b, ob b → R b) (hS : ∀ b, S b → R b) : argSat θ R w As (xs.map a.eval) := by
  induction h with
  | nil => trivial
  | cons h _ ih => exact ⟨h θ S a w R hN hS, ih⟩
theorem ArgR.k {α : Type} {N : Ent → Prop} {x : Operand} {K : Kn α} {y : α} (h : Arg N x (VA.k K y)) : ArgR N x (VA.k K y) := fun θ S a w R hN hS => by
  obtain ⟨ob, h1⟩ := h θ S a w (fun e he => by obtain ⟨ob, h, _⟩ := hN e he; exact ⟨ob, h⟩)
  exact (VA.k K y).move ⟨rfl, h1.2⟩ (Agree.refl _ _) hS (fun b _ => rfl) (fun k _ => rfl)
theorem ArgR.own {α : Type} {N : Ent → Prop} {s : Nat} {e : TypeId} {K : Kn α} {y : List α} (hp : Nat.blt 0 K.sz = true) (h : N (Ent.t s (VA.own e K y))) : ArgR N (.tmp s) (VA.k (kslice K) y) := fun θ S a w R hN hS => by
  obtain ⟨ob, h1, hb⟩ := hN _ h
  exact own_reads (θ := θ) h1 hS hb (blt_lt hp)
theorem ArgR.owns {α : Type} {N : Ent → Prop} {d s : Nat} {e : TypeId} {K : Kn α} {y : List α} (hp : Nat.blt 0 K.sz = true) (h0 : N (Ent.same d s)) (h : N (Ent.t s (VA.own e K y))) : ArgR N (.tmp d) (VA.k (kslice K) y) := fun θ S a w R hN hS => by
  have := ArgR.own hp h θ S a w R hN hS
  obtain ⟨_, ⟨_, e0⟩, _⟩ := hN _ h0
  show (VA.k (kslice K) y).sem θ _ (bk none) w (a.tmps.getD d undef)
  rw [e0]; exact this
theorem ArgR.mp {N : Ent → Prop} {α : Type} {P : Program} {kt : TypeId} {K : Kn α} {x : Operand} {id : Nat} {m : GM α} (h : Arg N x (VA.mp false id)) (hm : N (Ent.h id (HE.map P kt K m))) : ArgR N x (VA.k (kmap P kt K) m) := fun θ S a w R hN hS => by
  have hN2 : ∀ e, N e → ∃ ob, e.sem θ S ob a w := fun e he => by obtain ⟨ob, h, _⟩ := hN e he; exact ⟨ob, h⟩
  obtain ⟨_, _, e1⟩ := h θ S a w hN2
  obtain ⟨_, ⟨rfl, hmap⟩, hlt⟩ := hN _ hm
  refine ⟨rfl, [.map (some (θ id))], ⟨θ id, rfl, hlt _ rfl, ?_⟩, e1⟩
  exact MapS.move hmap (Agree.refl _ _) hS rfl
theorem ArgR.mps {N : Ent → Prop} {α β : Type} {P : Program} {kt : TypeId} {K : Kn α} {x : Operand} {id : Nat} {m : GM α} {f : β → GM α} {y : β} (h : Arg N x (VA.mp true id)) (hm : N (Ent.h id (HE.map P kt K m))) (hf : f y = m) : ArgR N x (VA.k (kiso (kmap P kt K) f) y) := fun θ S a w R hN hS => by
  have hN2 : ∀ e, N e → ∃ ob, e.sem θ S ob a w := fun e he => by obtain ⟨ob, h, _⟩ := hN e he; exact ⟨ob, h⟩
  obtain ⟨_, _, e1⟩ := h θ S a w hN2
  obtain ⟨_, ⟨rfl, hmap⟩, hlt⟩ := hN _ hm
  refine ⟨rfl, [.map (some (θ id))], ?_, e1⟩
  show (kmap P kt K).R _ w (f y) _
  rw [hf]
  exact ⟨θ id, rfl, hlt _ rfl, MapS.move hmap (Agree.refl _ _) hS rfl⟩
theorem ArgR.ptk {N : Ent → Prop} {α β : Type} {K : Kn α} {K' : Kn β} {get : α → β} {set : α → β → α} {e : TypeId} {x : Operand} {id off : Nat} {y : α} (hF : Fld K off K' get set) (h : Arg N x (VA.ptr id off)) (hb : N (Ent.h id (HE.box e K y))) : ArgR N x (VA.pt K' (get y)) := fun θ S a w R hN hS => by
  have hN2 : ∀ e, N e → ∃ ob, e.sem θ S ob a w := fun e he => by obtain ⟨ob, h, _⟩ := hN e he; exact ⟨ob, h⟩
  obtain ⟨_, _, e1⟩ := h θ S a w hN2
  obtain ⟨_, ⟨rfl, cs, hc, hr⟩, hlt⟩ := hN _ hb
  have hg := hF.get hr
  refine ⟨rfl, _, e1, hlt _ rfl, _, K'.move hg (Agree.refl _ _) hS, fun i u hu => ?_⟩
  rw [add_add, cell_of_row w (θ id) (off + i) cs e (0, 0) hc]
  rw [List.getElem?_take] at hu
  split at hu
  · rw [List.getElem?_drop] at hu
    simpa using hu
  · cases hu
theorem ArgR.pt {N : Ent → Prop} {α : Type} {K : Kn α} {x : Operand} {y : α} (h : Arg N x (VA.pt K y)) : ArgR N x (VA.pt K y) := fun θ S a w R hN hS => by
  obtain ⟨ob, h1⟩ := h θ S a w (fun e he => by obtain ⟨ob, h, _⟩ := hN e he; exact ⟨ob, h⟩)
  obtain rfl : ob = bk none := h1.1
  exact (VA.pt K y).move h1 (Agree.refl _ _) hS (fun b _ => rfl) (fun k _ => rfl)
theorem ArgR.ptm {N : Ent → Prop} {α β : Type} {P : Program} {kt : TypeId} {K : Kn α} {x : Operand} {id idm : Nat} {e : TypeId} {m : GM α} {f : β → GM α} {y : β} (h : Arg N x (VA.ptr id 0)) (hb : N (Ent.h id (HE.boxm e idm))) (hm : N (Ent.h idm (HE.map P kt K m))) (hf : f y = m) : ArgR N x (VA.pt (kiso (kmap P kt K) f) y) := fun θ S a w R hN hS => by
  have hN2 : ∀ e, N e → ∃ ob, e.sem θ S ob a w := fun e he => by obtain ⟨ob, h, _⟩ := hN e he; exact ⟨ob, h⟩
  obtain ⟨_, _, e1⟩ := h θ S a w hN2
  obtain ⟨_, ⟨rfl, hc⟩, hlt⟩ := hN _ hb
  obtain ⟨_, ⟨rfl, hmap⟩, hlt2⟩ := hN _ hm
  refine ⟨rfl, _, e1, hlt _ rfl, [.map (some (θ idm))], ?_, fun i u hu => ?_⟩
  · show (kmap P kt K).R _ w (f y) _
    rw [hf]
    exact ⟨θ idm, rfl, hlt2 _ rfl, MapS.move hmap (Agree.refl _ _) hS rfl⟩
  · cases i with
    | zero =>
      cases hu
      rw [add_add, cell_of_row w (θ id) _ _ e (0, 0) hc]; rfl
    | succ i => simp at hu
theorem ArgR.mf {N : Ent → Prop} {F : FuncId} {s : Nat} {ys xs : List Nat} {pre caps : List VA} (hn : noIds pre = true) (hm : noIds caps = true) (h : N (Ent.mf s F ys xs)) (hp : Args (ArgR N) (ys.map Operand.tmp) pre) (hc : Args (ArgR N) (xs.map Operand.tmp) caps) : ArgR N (.tmp s) (VA.clo F pre caps) := fun θ S a w R hN hS => by
  obtain ⟨_, ⟨_, e⟩, _⟩ := hN _ h
  have h1 := hp.satR hN hS
  have h2 := hc.satR hN hS
  rw [List.map_map] at h1 h2
  exact ⟨rfl, ⟨hn, hm⟩, _, _, e, h1, h2⟩
theorem ArgR.fn {N : Ent → Prop} {F : FuncId} : ArgR N (.func F) (VA.clo F [] []) := fun θ S a w R hN hS => ⟨rfl, ⟨rfl, rfl⟩, [], [], rfl, trivial, trivial⟩
theorem ArgR.clo {N : Ent → Prop} {F : FuncId} {x : Operand} {pre caps : List VA} (h : Arg N x (VA.clo F pre caps)) : ArgR N x (VA.clo F pre caps) := fun θ S a w R hN hS => by
  obtain ⟨ob, h1⟩ := h θ S a w (fun e he => by obtain ⟨ob, h, _⟩ := hN e he; exact ⟨ob, h⟩)
  obtain rfl : ob = bk none := h1.1
  exact (VA.clo F pre caps).move h1 (Agree.refl _ _) hS (fun b _ => rfl) (fun k _ => rfl)
theorem ArgR.om {α : Type} {P : Program} {kt : TypeId} {K : Kn α} {N : Ent → Prop} {s : Nat} {m : GM α} (h : N (Ent.t s (VA.om P kt K false m))) : ArgR N (.tmp s) (VA.k (kmap P kt K) m) := fun θ S a w R hN hS => by
  obtain ⟨_, ⟨b, rfl, e1, hm⟩, hlt⟩ := hN _ h
  exact ⟨rfl, [.map (some b)], ⟨b, rfl, hlt _ rfl, hm.move (Agree.refl _ _) hS rfl⟩, e1⟩
theorem ArgR.oms {α β : Type} {P : Program} {kt : TypeId} {K : Kn α} {N : Ent → Prop} {s : Nat} {m : GM α} {f : β → GM α} {y : β} (h : N (Ent.t s (VA.om P kt K true m))) (hf : f y = m) : ArgR N (.tmp s) (VA.k (kiso (kmap P kt K) f) y) := fun θ S a w R hN hS => by
  obtain ⟨_, ⟨b, rfl, e1, hm⟩, hlt⟩ := hN _ h
  refine ⟨rfl, [.map (some b)], ?_, e1⟩
  show (kmap P kt K).R _ w (f y) _
  rw [hf]
  exact ⟨b, rfl, hlt _ rfl, hm.move (Agree.refl _ _) hS rfl⟩
theorem ArgR.a {N : Ent → Prop} {x : Operand} {A : VA} (hp : Plain A) (h : Arg N x A) : ArgR N x A := fun θ S a w R hN hS => by
  obtain ⟨ob, h1⟩ := h θ S a w (fun e he => by obtain ⟨ob, h, _⟩ := hN e he; exact ⟨ob, h⟩)
  obtain rfl := hp h1
  exact A.move h1 (Agree.refl _ _) hS (fun b _ => rfl) (fun k _ => rfl)
/-- A function's number with what is bound and what is captured; pointers too. -/
def VA.cl (F : FuncId) (pre caps : List VA) : VA where
  ids := (pre ++ caps).flatMap (·.ids)
  sem := fun θ S ob w v => ob = bk none ∧ ∃ us vs : List Value, v = .func (.func F) us.toArray vs.toArray ∧ argSat θ S w pre us ∧ argSat θ S w caps vs
  move := by rintro θ θ' S S' ob w w' v ⟨h0, us, vs, h1, h2, h3⟩ hA hS _ hi; exact ⟨h0, us, vs, h1, argSat_move h2 hA hS (fun k hk => hi k (by rw [List.flatMap_append]; exact List.mem_append_left _ hk)), argSat_move h3 hA hS (fun k hk => hi k (by rw [List.flatMap_append]; exact List.mem_append_right _ hk))⟩
def EPostF (w0 : World) (X : List Nat) (β : Nat → Nat) (fix : List Nat) (res : List VA) (post : List Ent) (e : Ending) (w' : World) : Prop :=
  ∃ (rs : List Value) (S' : Blk) (θ' : Nat → Nat), e = .returned (tup rs) ∧ Fr X w0 w' ∧ (∀ b, S' b → since w0 w' b ∨ b ∈ X) ∧ (∀ k, k ∈ fix → θ' k = β k) ∧
    resSatE θ' S' w' res rs post (fun b => (since w0 w' b ∨ b ∈ X) ∧ ¬ S' b)
/-- The same, where what comes back shares nothing with what was lent to be read. -/
def ConEF (P : Program) (f : FuncId) (fix : List Nat) (pre : List Ent) (args res : List VA) (post : List Ent) : Prop :=
  ∀ (θ : Nat → Nat) (S : Blk) (w : World) (vs : List Value) (X : List Nat), (∀ b, S b → b < w.heap.size) → (∀ b, b ∈ X → ¬ S b ∧ b < w.heap.size) → sat θ S act0 w [] pre (· ∈ X) → argSat θ S w args vs →
    Calls P f vs.toArray w (EPostF w X θ fix res post)
def FreeEnt (x : Ent) : Prop := ∀ {θ : Nat → Nat} {S S' : Blk} {ob : Blk} {a : Act} {w : World}, x.sem θ S ob a w → x.sem θ S' ob a w
theorem sat_freeE {θ : Nat → Nat} {S S' : Blk} {a : Act} {w : World} : ∀ {Γ : List Ent} {ks : List Nat} {av : Blk}, (∀ e, e ∈ Γ → FreeEnt e) → sat θ S a w ks Γ av → sat θ S' a w ks Γ av
  | [], _, _, _, _ => trivial
  | e :: Γ, ks, av, hf, h => by
    unfold sat at h ⊢
    by_cases hd : dead ks e = true
    · rw [if_pos hd] at h ⊢; exact sat_freeE (fun x hx => hf x (List.mem_cons_of_mem _ hx)) h
    · rw [if_neg hd] at h ⊢
      obtain ⟨ob, h1, h2, h3⟩ := h
      exact ⟨ob, hf e (by simp) h1, h2, sat_freeE (fun x hx => hf x (List.mem_cons_of_mem _ hx)) h3⟩
theorem resSatE_free {θ : Nat → Nat} {S S' : Blk} {w : World} {post : List Ent} (hp : ∀ e, e ∈ post → FreeEnt e) : ∀ {As : List VA} {vs : List Value} {av : Blk}, (∀ A, A ∈ As → Free A) → resSatE θ S w As vs post av → resSatE θ S' w As vs post av
  | [], [], av, _, h => sat_freeE hp h
  | A :: As, v :: vs, av, hf, h => by
    obtain ⟨ob, h1, h2, h3⟩ := h
    exact ⟨ob, hf A (by simp) h1, h2, resSatE_free hp (fun B hB => hf B (List.mem_cons_of_mem _ hB)) h3⟩
theorem ConE.freeL {P : Program} {f : FuncId} {fix : List Nat} {pre post : List Ent} {As res : List VA} (h : ConE P f fix pre As res post) (hf : FreeL res) (hp : ∀ e, e ∈ post → FreeEnt e) : ConEF P f fix pre As res post := fun θ S w vs X hS hX hpre ha => (h θ S w vs X hS hX hpre ha).mono fun e w' ⟨rs, S', θ', h1, h2, h3, h4, h5⟩ => ⟨rs, S', θ', h1, h2, h3, h4, resSatE_free hp hf.spec h5⟩
/-- What no part of pre hides. -/
def NR (N : Ent → Prop) (pre : List Ent) : Ent → Prop := fun e => N e ∧ pre.all (fun x => !e.deps.elem x.key) = true
theorem NR.mk {N : Ent → Prop} {pre : List Ent} {e : Ent} (h : N e) (h1 : pre.all (fun x => !e.deps.elem x.key) = true) : NR N pre e := ⟨h, h1⟩
theorem Has.kills {Γ : List Ent} {e : Ent} {ks : List Nat} (h : Has [] Γ e) (hk : ∀ k, k ∈ ks → k ∉ e.deps) : Has ks Γ e := by
  induction ks with
  | nil => exact h
  | cons k ks ih => exact (ih (fun x hx => hk x (List.mem_cons_of_mem _ hx))).kill (hk k (by simp))
inductive All (N : Ent → Prop) : List Ent → Prop
  | nil : All N []
  | cons {e : Ent} {l : List Ent} : N e → All N l → All N (e :: l)
theorem All.spec {N : Ent → Prop} {l : List Ent} (h : All N l) : ∀ e, e ∈ l → N e := by
  induction h with
  | nil => intro e he; cases he
  | cons h1 _ ih =>
    intro e he
    rcases List.mem_cons.1 he with rfl | he
    · exact h1
    · exact ih e he
end Go.Proofs.Ytedgkcdofiildaa.Sl
/- Own rows cut, their ends cleared, tested for nil; rows stored into boxes that are known field by field. -/
set_option linter.unusedVariables false
set_option linter.unusedSimpArgs false
set_option linter.unnecessarySimpa false
set_option linter.deprecated false
namespace Go.Proofs.Ytedgkcdofiildaa.Sl
open Go Go.RowKit
end Go.Proofs.Ytedgkcdofiildaa.Sl
/- Boxes that are known field by field: what stores and loads do, whole and in part. -/
set_option linter.unusedVariables false
set_option linter.unusedSimpArgs false
set_option linter.unnecessarySimpa false
set_option linter.deprecated false
namespace Go.Proofs.Ytedgkcdofiildaa.Sl
open Go Go.RowKit
/-- A slice that is nil. -/
def knil : Kn Unit := Kn.scalar (fun _ => Value.slice none 0 0) (fun _ => rfl)
theorem Arg.knil {N : Ent → Prop} : Arg N (.const (.slice none 0 0)) (VA.k knil ()) := fun θ S a w hN => ⟨bk none, rfl, _, rfl, rfl⟩
/-- A value, field by field, from offset o on. -/
inductive FieldsOf : {α : Type} → Kn α → α → Nat → List FA → Prop
  | leaf {α : Type} {K : Kn α} {x : α} {o : Nat} : FieldsOf K x o [FA.k o K x]
  | nil {o : Nat} : FieldsOf knil () o [FA.v o (.slice none 0 0)]
  | pair {α β : Type} {a : Kn α} {b : Kn β} {x : α} {y : β} {o : Nat} {la lb : List FA} : FieldsOf a x o la → FieldsOf b y (o + a.sz) lb → FieldsOf (kpair a b) (x, y) o (la ++ lb)
  | iso {α β : Type} {d : Kn α} {f : β → α} {y : β} {x : α} {o : Nat} {l : List FA} : FieldsOf d x o l → f y = x → FieldsOf (kiso d f) y o l
theorem FieldsOf.out {θ : Nat → Nat} {S : Blk} {w : World} {α : Type} {K : Kn α} {x : α} {o : Nat} {l : List FA} (h : FieldsOf K x o l) : ∀ {cs : List Value}, K.R S w x cs → ∀ f, f ∈ l → o ≤ f.off ∧ f.off + f.sz ≤ o + K.sz ∧ f.sem θ S w ((cs.drop (f.off - o)).take f.sz) := by
  induction h with
  | @leaf α K x o =>
    intro cs hr f hf
    rw [List.mem_singleton.1 hf]
    have hl := K.len hr
    refine ⟨Nat.le_refl _, Nat.le_refl _, ?_⟩
    show K.R S w x ((cs.drop (o - o)).take K.sz)
    rw [Nat.sub_self, List.drop_zero, ← hl, List.take_length]; exact hr
  | @nil o =>
    intro cs hr f hf
    rw [List.mem_singleton.1 hf]
    refine ⟨Nat.le_refl _, Nat.le_refl _, ?_⟩
    have hr' : cs = [.slice none 0 0] := hr
    show (cs.drop (o - o)).take 1 = [.slice none 0 0]
    rw [hr', Nat.sub_self]; rfl
  | @pair α β a b x y o la lb _ _ ih1 ih2 =>
    intro cs hr f hf
    obtain ⟨c0, c1, rfl, h0, h1⟩ := hr
    have l0 := a.len h0
    have l1 := b.len h1
    have hsz : (kpair a b).sz = a.sz + b.sz := rfl
    rcases List.mem_append.1 hf with hf | hf
    · obtain ⟨g1, g2, g3⟩ := ih1 h0 f hf
      refine ⟨g1, by omega, ?_⟩
      rw [List.drop_append_of_le_length (by omega), List.take_append_of_le_length (by rw [List.length_drop]; omega)]
      exact g3
    · obtain ⟨g1, g2, g3⟩ := ih2 h1 f hf
      refine ⟨by omega, by omega, ?_⟩
      have : f.off - o = c0.length + (f.off - (o + a.sz)) := by omega
      rw [this, drop_app]
      exact g3
  | iso _ e ih =>
    intro cs hr f hf
    refine ih ?_ f hf
    rw [← e]; exact hr
theorem FieldsOf.bounds {α : Type} {K : Kn α} {x : α} {o : Nat} {l : List FA} (h : FieldsOf K x o l) : ∀ f, f ∈ l → o ≤ f.off ∧ f.off + f.sz ≤ o + K.sz := by
  induction h with
  | @leaf α K x o => intro f hf; rw [List.mem_singleton.1 hf]; exact ⟨Nat.le_refl _, Nat.le_refl _⟩
  | @nil o => intro f hf; rw [List.mem_singleton.1 hf]; exact ⟨Nat.le_refl _, Nat.le_refl _⟩
  | @pair α β a b x y o la lb _ _ ih1 ih2 =>
    intro f hf
    have hsz : (kpair a b).sz = a.sz + b.sz := rfl
    rcases List.mem_append.1 hf with hf | hf
    · have := ih1 f hf; exact ⟨by omega, by omega⟩
    · have := ih2 f hf; exact ⟨by omega, by omega⟩
  | iso _ e ih => exact fun f hf => ih f hf
theorem FieldsOf.back {θ : Nat → Nat} {S : Blk} {w : World} {α : Type} {K : Kn α} {x : α} {o : Nat} {l : List FA} (h : FieldsOf K x o l) : ∀ {cs : List Value}, cs.length = K.sz → (∀ f, f ∈ l → f.sem θ S w ((cs.drop (f.off - o)).take f.sz)) → K.R S w x cs ∧ ∀ f, f ∈ l → o ≤ f.off ∧ f.off + f.sz ≤ o + K.sz := by
  induction h with
  | @leaf α K x o =>
    intro cs hl hf
    have := hf (FA.k o K x) (by simp)
    have h2 : K.R S w x ((cs.drop (o - o)).take K.sz) := this
    rw [Nat.sub_self, List.drop_zero, ← hl, List.take_length] at h2
    exact ⟨h2, fun f hf => by rw [List.mem_singleton.1 hf]; exact ⟨Nat.le_refl _, Nat.le_refl _⟩⟩
  | @nil o =>
    intro cs hl hf
    have h2 : (cs.drop (o - o)).take 1 = [.slice none 0 0] := hf (FA.v o (.slice none 0 0)) (by simp)
    have hl' : cs.length = 1 := hl
    rw [Nat.sub_self, List.drop_zero, ← hl', List.take_length] at h2
    exact ⟨h2, fun f hf => by rw [List.mem_singleton.1 hf]; exact ⟨Nat.le_refl _, Nat.le_refl _⟩⟩
  | @pair α β a b x y o la lb q1 q2 ih1 ih2 =>
    intro cs hl hf
    have hsz : (kpair a b).sz = a.sz + b.sz := rfl
    have r1 : la = [] ∨ la ≠ [] := Classical.em _
    have h1 := ih1 (cs := cs.take a.sz) (by rw [List.length_take]; omega)
    have h2 := ih2 (cs := cs.drop a.sz) (by rw [List.length_drop]; omega)
    have bnd1 : ∀ f, f ∈ la → o ≤ f.off ∧ f.off + f.sz ≤ o + a.sz := fun f hm => q1.bounds f hm
    have bnd2 : ∀ f, f ∈ lb → o + a.sz ≤ f.off ∧ f.off + f.sz ≤ o + a.sz + b.sz := fun f hm => q2.bounds f hm
    obtain ⟨k1, _⟩ := h1 (fun f hm => by
      have := hf f (List.mem_append_left _ hm)
      have := bnd1 f hm
      rw [List.drop_take, List.take_take, Nat.min_eq_left (by omega)]
      assumption)
    obtain ⟨k2, _⟩ := h2 (fun f hm => by
      have := hf f (List.mem_append_right _ hm)
      have := bnd2 f hm
      rw [List.drop_drop, show a.sz + (f.off - (o + a.sz)) = f.off - o by omega]
      assumption)
    refine ⟨⟨_, _, (List.take_append_drop a.sz cs).symm, k1, k2⟩, fun f hm => ?_⟩
    rcases List.mem_append.1 hm with hm | hm
    · have := bnd1 f hm; exact ⟨by omega, by omega⟩
    · have := bnd2 f hm; exact ⟨by omega, by omega⟩
  | iso _ e ih =>
    intro cs hl hf
    obtain ⟨h1, h2⟩ := ih hl hf
    refine ⟨?_, h2⟩
    subst e
    exact h1
/-- Fields told anew: each is one that was told, or nothing is told of its place. -/
inductive Weak (fs : List FA) : List FA → Prop
  | nil : Weak fs []
  | keep {f : FA} {l : List FA} : f ∈ fs → Weak fs l → Weak fs (f :: l)
  | any {f : FA} {l : List FA} : f ∈ fs → Weak fs l → Weak fs (FA.any f.off f.sz :: l)
theorem Weak.out {fs fs' : List FA} (h : Weak fs fs') {θ : Nat → Nat} {S : Blk} {w : World} {cs : List Value} {m : Nat} (hf : ∀ f, f ∈ fs → f.off + f.sz ≤ m ∧ f.sem θ S w ((cs.drop f.off).take f.sz)) : ∀ f, f ∈ fs' → f.off + f.sz ≤ m ∧ f.sem θ S w ((cs.drop f.off).take f.sz) := by
  induction h with
  | nil => intro f h; cases h
  | keep h1 _ ih =>
    intro f h
    rcases List.mem_cons.1 h with rfl | h
    · exact hf _ h1
    · exact ih f h
  | any h1 _ ih =>
    intro f h
    rcases List.mem_cons.1 h with rfl | h
    · exact ⟨(hf _ h1).1, trivial⟩
    · exact ih f h
end Go.Proofs.Ytedgkcdofiildaa.Sl
/- Rows by number: their length, their elements, lent to be read. -/
set_option linter.unusedVariables false
set_option linter.unusedSimpArgs false
set_option linter.unnecessarySimpa false
set_option linter.deprecated false
namespace Go.Proofs.Ytedgkcdofiildaa.Sl
open Go Go.RowKit
section
variable {P : Program} {n d : Nat} {ty t t' : TypeId} {pos : String} {af : Array Edge} {g : Option (Nat × Bool)} {N : Ent → Prop}
theorem r_own {α : Type} {N : Ent → Prop} {x : Operand} {r : Nat} {e : TypeId} {K : Kn α} {xs : List α} (h : Arg N x (VA.rw r xs.length)) (ho : N (Ent.r r e K xs)) {θ : Nat → Nat} {S : Blk} {a : Act} {w : World} (hN : ∀ e, N e → ∃ ob, e.sem θ S ob a w) : ∃ ob, (VA.own e K xs).sem θ S ob w (a.eval x) := by
  obtain ⟨_, _, e1⟩ := h θ S a w hN
  obtain ⟨ob, h2⟩ := hN _ ho
  exact ⟨ob, by rw [e1]; exact h2⟩
theorem ReadsArg.rw {α : Type} {r : Nat} {e : TypeId} {K : Kn α} {x : Operand} {ys : List α} (h : Arg N x (VA.rw r ys.length)) (ho : N (Ent.r r e K ys)) : ReadsArg N K x ys := fun θ S a w hN => by
  obtain ⟨_, h1⟩ := r_own h ho hN
  exact reads_own h1
theorem ArgR.rw {α : Type} {r : Nat} {e : TypeId} {K : Kn α} {x : Operand} {ys : List α} (hp : Nat.blt 0 K.sz = true) (h : Arg N x (VA.rw r ys.length)) (ho : N (Ent.r r e K ys)) : ArgR N x (VA.k (kslice K) ys) := fun θ S a w R hN hS => by
  obtain ⟨_, _, e1⟩ := h θ S a w (fun e he => by obtain ⟨ob, h, _⟩ := hN e he; exact ⟨ob, h⟩)
  obtain ⟨ob, h2, hb⟩ := hN _ ho
  rw [e1]
  exact own_reads (θ := θ) h2 hS hb (blt_lt hp)
theorem ArgB.rw {α : Type} {r : Nat} {e : TypeId} {K : Kn α} {x : Operand} {ys : List α} (hp : Nat.blt 0 K.sz = true) (h : Arg N x (VA.rw r ys.length)) (ho : N (Ent.r r e K ys)) : ArgB N x (VA.k (kslice K) ys) := fun θ S a w hN hS => by
  obtain ⟨_, _, e1⟩ := h θ S a w (fun e he => by obtain ⟨ob, h, _⟩ := hN e he; exact ⟨ob, h⟩)
  obtain ⟨ob, h2, hb⟩ := hN _ ho
  rw [e1]
  exact own_reads (θ := θ) h2 hS hb (blt_lt hp)
end
end Go.Proofs.Ytedgkcdofiildaa.Sl
/- Struct values that are known field by field: built, and stored whole. -/
set_option linter.unusedVariables false
set_option linter.unusedSimpArgs false
set_option linter.unnecessarySimpa false
set_option linter.deprecated false
namespace Go.Proofs.Ytedgkcdofiildaa.Sl
open Go Go.RowKit
def FA.whole (m : Nat) (fs : List FA) : FA where
  off := 0
  sz := m
  ids := fs.flatMap (·.ids)
  sem := fun θ S w cs => ∀ f, f ∈ fs → f.off + f.sz ≤ m ∧ f.sem θ S w ((cs.drop f.off).take f.sz)
  move := fun h hA hS hi f hf => ⟨(h f hf).1, f.move (h f hf).2 hA hS (fun k hk => hi k (List.mem_flatMap.2 ⟨f, hf, hk⟩))⟩
def VA.fl (m : Nat) (fs : List FA) : VA where
  ids := fs.flatMap (·.ids)
  sem := fun θ S ob w v => ob = bk none ∧ v.cells.size = m ∧ (∀ u, u ∈ v.cells.toList → u.oneCell' = true) ∧ (FA.whole m fs).sem θ S w v.cells.toList
  move := by rintro θ θ' S S' ob w w' v ⟨h0, h1, h2, h3⟩ hA hS _ hi; exact ⟨h0, h1, h2, (FA.whole m fs).move h3 hA hS hi⟩
/-- What an operand gives a field. -/
structure GivesF (P : Program) (ft : TypeId) (A : VA) (fa : FA) : Prop where
  plain : Plain A
  sz : P.cellsOf ft = fa.sz
  val : ∀ θ S w v, A.sem θ S (bk none) w v → v.cells.size = fa.sz ∧ (∀ u, u ∈ v.cells.toList → u.oneCell' = true) ∧ fa.sem θ S w v.cells.toList
inductive FLParts (N : Ent → Prop) (P : Program) (fs : Array Field) : List (Nat × Operand) → List FA → List FA → Prop
  | nil (fl : List FA) : FLParts N P fs [] fl fl
  | cons {j : Nat} {f : Field} {o : Operand} {A : VA} (l1 : List FA) {fa : FA} (fa' : FA) (l2 : List FA) {ps : List (Nat × Operand)} {r : List FA} : fs[j]? = some f → fa.off = f.offset → fa'.off = f.offset → fa.sz = fa'.sz → GivesF P f.type A fa' → (l1 ++ l2).all (fun g => Nat.ble (g.off + g.sz) f.offset || Nat.ble (f.offset + fa'.sz) g.off) = true → Arg N o A → FLParts N P fs ps (l1 ++ fa' :: l2) r → FLParts N P fs ((j, o) :: ps) (l1 ++ fa :: l2) r
end Go.Proofs.Ytedgkcdofiildaa.Sl
/- Small laws: boxes of rows that are laid; parts of fields; places in a row. -/
set_option linter.unusedVariables false
set_option linter.unusedSimpArgs false
set_option linter.unnecessarySimpa false
set_option linter.deprecated false
namespace Go.Proofs.Ytedgkcdofiildaa.Sl
open Go Go.RowKit
section
variable {P : Program} {n d : Nat} {ty t t' : TypeId} {pos : String} {af : Array Edge} {g : Option (Nat × Bool)} {N : Ent → Prop}
theorem op_fieldAddrM {id off : Nat} {agg : Bool} {o : Operand} {fs : Array Field} {f : Field} {j : Nat} (hd : Nat.blt d n = true) (hu : P.underlying t = some (.struct fs)) (hf : fs[j]? = some f) (hk : MZ P f.type agg) (hp : Arg N o (VA.ptr id off)) :
    OpSpec P n ⟨some d, .fieldAddr t o j, ty, pos, af, g⟩ N [Ent.t d (VA.ptr id (off + f.offset))] := op_pure hd fun θ S act w hN => by
  obtain ⟨_, _, e1⟩ := hp θ S act w hN
  refine ⟨.pointer (some ⟨θ id, off + f.offset, none⟩), ?_, rfl, rfl⟩
  have hs := hk.size
  clear hp hN
  generalize act.eval = ρ at *
  simp [execOp, Instr.fieldAt, Instr.sureAddr, e1, run_underlying hu, hf, fieldPlace, hs, add_add, Sem.run_bind, Sem.run_pure, Result.andThen_ok]
end
end Go.Proofs.Ytedgkcdofiildaa.Sl
/- Rows cut to their own length: what is appended to them goes into a row of its own. -/
set_option linter.unusedVariables false
set_option linter.unusedSimpArgs false
set_option linter.unnecessarySimpa false
set_option linter.deprecated false
namespace Go.Proofs.Ytedgkcdofiildaa.Sl
open Go Go.RowKit
end Go.Proofs.Ytedgkcdofiildaa.Sl
namespace Go.Proofs.Ytedgkcdofiildaa.Sl
/-- Two fuels at once. -/
theorem Tends.diag {α : Type} {f : Nat → Nat → Option α} {g : Nat → Option α} {b : Option α} (h : ∀ K, Tends (fun j => f K j) (g K)) (hm : ∀ {K K' : Nat}, K ≤ K' → ∀ j, Le (f K j) (f K' j)) (hv : Tends g b) : Tends (fun k => f k k) b :=
  ⟨fun k r hr => hv.1 k r ((h k).1 k r hr), fun r hr => by
    obtain ⟨K0, h0⟩ := hv.2 r hr
    obtain ⟨J, hJ⟩ := (h K0).2 r (h0 K0 (Nat.le_refl _))
    exact ⟨max K0 J, fun k hk => hm (Nat.le_trans (Nat.le_max_left _ _) hk) k r (hJ k (Nat.le_trans (Nat.le_max_right _ _) hk))⟩⟩
end Go.Proofs.Ytedgkcdofiildaa.Sl
/- A range over a string: its iterator stands in a block that the frame alone writes. -/
set_option linter.unusedVariables false
set_option linter.unusedSimpArgs false
set_option linter.unnecessarySimpa false
set_option linter.deprecated false
namespace Go.Proofs.Ytedgkcdofiildaa.Sl
open Go Go.RowKit
section
variable {P : Program} {n d : Nat} {ty t : TypeId} {pos : String} {af : Array Edge} {g : Option (Nat × Bool)} {N : Ent → Prop}
theorem Arg.fn {F : FuncId} : Arg N (.func F) (VA.clo F [] []) := fun θ S a w hN => ⟨bk none, rfl, ⟨rfl, rfl⟩, [], [], rfl, trivial, trivial⟩
end
end Go.Proofs.Ytedgkcdofiildaa.Sl
/- Structs compared with ==. -/
set_option linter.unusedVariables false
set_option linter.unusedSimpArgs false
set_option linter.unnecessarySimpa false
set_option linter.deprecated false
namespace Go.Proofs.Ytedgkcdofiildaa.Sl
open Go Go.RowKit
end Go.Proofs.Ytedgkcdofiildaa.Sl
/- slices.Sort and slices.Compact at []string: a lent row is sorted; a row is consumed and comes back cut. Between the shelf's words and the frame's. -/
set_option linter.unusedVariables false
set_option linter.unusedSimpArgs false
set_option linter.unnecessarySimpa false
set_option linter.deprecated false
namespace Go.Proofs.Ytedgkcdofiildaa.Sl
open Go Go.RowKit Go.Sort
def toB (x : ByteArray) : List UInt8 := x.data.toList
end Go.Proofs.Ytedgkcdofiildaa.Sl
/- slices.Insert of one element into a row that is consumed. -/
set_option linter.unusedVariables false
set_option linter.unusedSimpArgs false
set_option linter.unnecessarySimpa false
set_option linter.deprecated false
namespace Go.Proofs.Ytedgkcdofiildaa.Sl
open Go Go.RowKit
section
variable {P : Program} {F : FuncId} {t e : TypeId}
/-- What a text of Ins.tpl shows. -/
structure InsAt (P : Program) (F : FuncId) (t e : TypeId) : Prop where
  cells : ∀ (cur X Y C : List Value) (n i : Nat), i < n → (n + 1) * 3 ≤ cur.length → cur.take (i * 3) = X → Y.length = 3 → C.length = (n - i) * 3 →
    (splice (splice cur ((i + 1) * 3) C) (i * 3) Y).take ((n + 1) * 3) = X ++ (Y ++ C) ∧ (splice (splice cur (i * 3) Y) ((i + 1) * 3) C).take ((n + 1) * 3) = X ++ (Y ++ C)
  shift : ∀ (g n c i vb vc : Nat) (cur Y YC : List Value) (w : World), i < n → n + 1 ≤ c → c ≤ 9223372036854775807 → vb ≠ g → cur.length = c * 3 → Y.length = 3 →
    w.heap[g]? = some (.cells cur.toArray e (0, 0)) → w.heap[vb]? = some (.cells YC.toArray e (0, 0)) → YC.take 3 = Y → (∀ u ∈ (cur.drop (i * 3)).take ((n - i) * 3), u.oneCell' = true) → (∀ u ∈ Y, u.oneCell' = true) →
    Calls P F #[.slice (some ⟨g, 0, none⟩) n c, .int .i64 i, .slice (some ⟨vb, 0, none⟩) 1 vc] w fun e_ w' =>
      e_ = .returned (.slice (some ⟨g, 0, none⟩) (n + 1) c) ∧ w'.heap[g]? = some (.cells (splice (splice cur ((i + 1) * 3) ((cur.drop (i * 3)).take ((n - i) * 3))) (i * 3) Y).toArray e (0, 0)) ∧ w.grownBy w' (some g)
  grow : ∀ (g n c i vb vc : Nat) (cur Y YC : List Value) (w : World), i < n → n ≤ c → c < n + 1 → c ≤ 9223372036854775807 → (n + 1) * 40 ≤ 140737488355328 → vb ≠ g → cur.length = c * 3 → Y.length = 3 →
    w.heap[g]? = some (.cells cur.toArray e (0, 0)) → w.heap[vb]? = some (.cells YC.toArray e (0, 0)) → YC.take 3 = Y → (∀ u ∈ (cur.drop (i * 3)).take ((n - i) * 3), u.oneCell' = true) → (∀ u ∈ Y, u.oneCell' = true) →
    Calls P F #[.slice (some ⟨g, 0, none⟩) n c, .int .i64 i, .slice (some ⟨vb, 0, none⟩) 1 vc] w fun e_ w' =>
      ∃ G ROW, e_ = .returned (.slice (some ⟨w.heap.size, 0, none⟩) (n + 1) G) ∧ n + 1 ≤ G ∧ G ≤ maxLen ∧ ROW.length = G * 3 ∧ ROW.take (i * 3) = cur.take (i * 3) ∧ w'.heap[w.heap.size]? = some (.cells (splice (splice ROW (i * 3) Y) ((i + 1) * 3) ((cur.drop (i * 3)).take ((n - i) * 3))).toArray e (0, 0)) ∧ Below w.heap.size w w'
  last : ∀ (A : Option Addr) (n c vb vc : Nat) (w w' : World) (v' : Value), n ≤ c → c ≤ 9223372036854775807 → (A = none → n = 0) → (Builtin.append_ #[t, t] t #[.slice A n c, .slice (some ⟨vb, 0, none⟩) 1 vc]).run P w = .ok v' w' →
    Calls P F #[.slice A n c, .int .i64 n, .slice (some ⟨vb, 0, none⟩) 1 vc] w fun e_ wx => e_ = .returned v' ∧ wx = w'
end
end Go.Proofs.Ytedgkcdofiildaa.Sl
/- Bytes as a string; the length of a numbered row under another term. -/
set_option linter.unusedVariables false
set_option linter.unusedSimpArgs false
set_option linter.unnecessarySimpa false
set_option linter.deprecated false
namespace Go.Proofs.Ytedgkcdofiildaa.Sl
open Go Go.RowKit
end Go.Proofs.Ytedgkcdofiildaa.Sl
namespace Go.Proofs.Ytedgkcdofiildaa.Sl
open Go Go.RowKit
/-- An operation's own row gets a number at once. -/
theorem OpSpec.number {α : Type} {P : Program} {n d : Nat} {o : Oper} {N : Ent → Prop} {e : TypeId} {K : Kn α} {xs : List α} {Δ : List Ent} (h : OpSpec P n o N (Ent.t d (VA.own e K xs) :: Δ)) (r : Nat) (hd : Nat.blt d 500000 = true) (hr : Nat.blt r 500000 = true) :
    OpSpec P n o N (Ent.t d (VA.rw r xs.length) :: Ent.r r e K xs :: Ent.bind r :: Ent.bind (500000 + r) :: Ent.t d (VA.own e K xs) :: Δ) := fun c Γ a w Q hc hN hi =>
  Oper.wp_mono (fun a' w' h' => inv_number r hd hr (.here (dead_nil _)) h') (h c Γ a w Q hc hN hi)
end Go.Proofs.Ytedgkcdofiildaa.Sl
namespace Go.Proofs.Ytedgkcdofiildaa.Sl
open Go Go.RowKit
end Go.Proofs.Ytedgkcdofiildaa.Sl
namespace Go.Proofs.Ytedgkcdofiildaa.Sl
open Go Go.RowKit
end Go.Proofs.Ytedgkcdofiildaa.Sl
namespace Go.Proofs.Ytedgkcdofiildaa.Sl
open Go Go.RowKit
end Go.Proofs.Ytedgkcdofiildaa.Sl
