import Derived.Test.YtlpmolohppoofaaSm3
import Derived.ArgAppend
import Derived.Laws.RangeString
import Derived.Laws.StructEq
import Derived.Sort.OwnSorted
import Derived.Lib.SlicesCompact
import Derived.Laws.CopyOwn
import Derived.Laws.BytesArg
/- Calls that write what they are lent: what stands ahead of the call and what stands behind it, under the caller's own numbers. -/
set_option linter.unusedVariables false
set_option linter.unusedSimpArgs false
set_option linter.unnecessarySimpa false
set_option linter.deprecated false
namespace Go.Proofs.Ytlpmolohppoofaa.Sl
open Go Go.RowKit
def act0 : Act := { tmps := #[], defers := [] }
/-- Results, and what is given back beside them. -/
def resSatE (θ : Nat → Nat) (S : Blk) (w : World) : List VA → List Value → List Ent → Blk → Prop
  | [], [], post, av => sat θ S act0 w [] post av
  | A :: As, v :: vs, post, av => ∃ ob, A.sem θ S ob w v ∧ (∀ b, ob b → av b) ∧ resSatE θ S w As vs post (fun b => av b ∧ ¬ ob b)
  | _, _, _, _ => False
def EPost (w0 : World) (S0 : Blk) (X : List Nat) (β : Nat → Nat) (fix : List Nat) (res : List VA) (post : List Ent) (e : Ending) (w' : World) : Prop :=
  ∃ (rs : List Value) (S' : Blk) (θ' : Nat → Nat), e = .returned (tup rs) ∧ Fr X w0 w' ∧ (∀ b, S' b → since w0 w' b ∨ b ∈ X) ∧ (∀ k, k ∈ fix → θ' k = β k) ∧
    resSatE θ' (fun b => S0 b ∨ S' b) w' res rs post (fun b => (since w0 w' b ∨ b ∈ X) ∧ ¬ S' b)
/-- Function f, lent what pre says, gives back what post says; the numbers of fix name the same blocks behind it. -/
def ConE (P : Program) (f : FuncId) (fix : List Nat) (pre : List Ent) (args res : List VA) (post : List Ent) : Prop :=
  ∀ (θ : Nat → Nat) (S : Blk) (w : World) (vs : List Value) (X : List Nat), (∀ b, S b → b < w.heap.size) → (∀ b, b ∈ X → ¬ S b ∧ b < w.heap.size) → sat θ S act0 w [] pre (· ∈ X) → argSat θ S w args vs →
    Calls P f vs.toArray w (EPost w S X θ fix res post)
def noSlots (l : List Ent) : Bool := l.all (·.slots.isEmpty)
theorem noSlots_cons {e : Ent} {l : List Ent} (h : noSlots (e :: l) = true) : e.slots = [] ∧ noSlots l = true := by
  simpa [noSlots] using h
theorem sat_act {θ : Nat → Nat} {S : Blk} {a a' : Act} {w : World} : ∀ {Γ : List Ent} {ks : List Nat} {av : Blk}, noSlots Γ = true → sat θ S a w ks Γ av → sat θ S a' w ks Γ av
  | [], _, _, _, _ => trivial
  | e :: Γ, ks, av, hn, h => by
    obtain ⟨h0, hn⟩ := noSlots_cons hn
    unfold sat at h ⊢
    by_cases hd : dead ks e = true
    · rw [if_pos hd] at h ⊢; exact sat_act hn h
    · rw [if_neg hd] at h ⊢
      obtain ⟨ob, h1, h2, h3⟩ := h
      exact ⟨ob, e.move h1 (Agree.refl _ _) (fun b hb => hb) (fun b _ => rfl) (fun t ht => by rw [h0] at ht; cases ht) (fun k _ => rfl), h2, sat_act hn h3⟩
/-- Two lists over blocks of their own. -/
theorem sat_append {θ : Nat → Nat} {S : Blk} {a : Act} {w : World} {Γ2 : List Ent} : ∀ {Γ1 : List Ent} {ks ks2 : List Nat} {av av1 av2 : Blk}, sat θ S a w ks Γ1 av1 → sat θ S a w ks2 Γ2 av2 → (∀ k, k ∈ ks2 → k ∈ ks ∨ k ∈ Γ1.map (·.key)) →
    (∀ b, av1 b → av b) → (∀ b, av2 b → av b) → (∀ b, av2 b → ¬ av1 b) → sat θ S a w ks (Γ1 ++ Γ2) av
  | [], ks, ks2, av, av1, av2, _, h2, hk, _, ha2, _ => sat_mono h2 (fun k hk' => by simpa using hk k hk') ha2
  | e :: Γ1, ks, ks2, av, av1, av2, h1, h2, hk, ha1, ha2, hd12 => by
    have hk' : ∀ k, k ∈ ks2 → k ∈ e.key :: ks ∨ k ∈ Γ1.map (·.key) := fun k hm => by
      rcases hk k hm with h | h
      · exact .inl (List.mem_cons_of_mem _ h)
      · rcases List.mem_cons.1 h with rfl | h
        · exact .inl List.mem_cons_self
        · exact .inr h
    show sat θ S a w ks (e :: (Γ1 ++ Γ2)) av
    unfold sat at h1 ⊢
    by_cases hd : dead ks e = true
    · rw [if_pos hd] at h1 ⊢
      exact sat_append h1 h2 hk' ha1 ha2 hd12
    · rw [if_neg hd] at h1 ⊢
      obtain ⟨ob, g1, g2, g3⟩ := h1
      exact ⟨ob, g1, fun b hb => ha1 b (g2 b hb), sat_append g3 h2 hk' (fun b hb => ⟨ha1 b hb.1, hb.2⟩) (fun b hb => ⟨ha2 b hb, fun e' => hd12 b hb (g2 b e')⟩) (fun b hb h => hd12 b hb h.1)⟩
theorem sat_free {θ : Nat → Nat} {S : Blk} {a : Act} {w : World} : ∀ {Γ : List Ent} {ks ks1 : List Nat} {av : Blk}, sat θ S a w ks Γ av → (∀ e, e ∈ Γ → ∀ k, k ∈ ks → k ∈ e.deps → k ∈ ks1) → sat θ S a w ks1 Γ av
  | [], _, _, _, _, _ => trivial
  | e :: Γ, ks, ks1, av, h, hk => by
    unfold sat at h ⊢
    have hsub : dead ks e = true → dead ks1 e = true := fun hd => by
      obtain ⟨k, h1, h2⟩ := List.any_eq_true.1 hd
      have h2' : k ∈ ks := by simpa using h2
      exact List.any_eq_true.2 ⟨k, h1, by simpa using hk e (by simp) k h2' h1⟩
    have hrest : ∀ e', e' ∈ Γ → ∀ k, k ∈ e.key :: ks → k ∈ e'.deps → k ∈ e.key :: ks1 := fun e' he' k hk1 hk2 => by
      rcases List.mem_cons.1 hk1 with rfl | hk1
      · exact List.mem_cons_self
      · exact List.mem_cons_of_mem _ (hk e' (List.mem_cons_of_mem _ he') k hk1 hk2)
    by_cases hd : dead ks e = true
    · rw [if_pos hd] at h
      rw [if_pos (hsub hd)]
      exact sat_free h hrest
    · rw [if_neg hd] at h
      obtain ⟨ob, h1, h2, h3⟩ := h
      by_cases hd1 : dead ks1 e = true
      · rw [if_pos hd1]; exact sat_mono (sat_free h3 hrest) (fun k hk => hk) (fun b hb => hb.1)
      · rw [if_neg hd1]; exact ⟨ob, h1, h2, sat_free h3 hrest⟩
/-- No part of the list leans on the key of one ahead of it. -/
def indep : List Ent → Bool
  | [] => true
  | e :: l => l.all (fun x => !x.deps.elem e.key) && indep l
/-- The blocks below N of a set, as a list. -/
theorem blk_list (N : Nat) (ob : Blk) (h : ∀ b, ob b → b < N) : ∃ L : List Nat, ∀ b, b ∈ L ↔ ob b := by
  classical
  exact ⟨(List.range N).filter (fun b => decide (ob b)), fun b => by simp only [List.mem_filter, List.mem_range, decide_eq_true_eq]; exact ⟨fun h => h.2, fun hb => ⟨h b hb, hb⟩⟩⟩
/-- The parts of pre are taken out. -/
theorem sat_takes {θ : Nat → Nat} {S : Blk} {a : Act} {w : World} {Γ : List Ent} {N : Nat} : ∀ {pre : List Ent} {ks : List Nat} {av : Blk}, (∀ b, av b → b < N) → indep pre = true → (∀ e, e ∈ pre → Has ks Γ e) → sat θ S a w ks Γ av →
    ∃ (X : List Nat) (ks2 : List Nat), (∀ b, b ∈ X → av b) ∧ sat θ S a w ks pre (· ∈ X) ∧ sat θ S a w ks2 Γ (fun b => av b ∧ b ∉ X) ∧ (∀ k, k ∈ ks2 → k ∈ ks ∨ k ∈ pre.map (·.key))
  | [], ks, av, _, _, _, h => ⟨[], ks, fun b hb => (by cases hb), trivial, sat_mono h (fun k hk => hk) (fun b hb => ⟨hb, by simp⟩), fun k hk => .inl hk⟩
  | e :: pre, ks, av, hN, hi, hH, h => by
    simp only [indep, Bool.and_eq_true] at hi
    obtain ⟨ob, h1, h2, h3⟩ := sat_take (hH e (by simp)) h
    have hH' : ∀ x, x ∈ pre → Has (e.key :: ks) Γ x := fun x hx => (hH x (List.mem_cons_of_mem _ hx)).kill (by
      have := List.all_eq_true.1 hi.1 x hx
      simpa using this)
    obtain ⟨X, ks2, g1, g2, g3, g4⟩ := sat_takes (fun b hb => hN b hb.1) hi.2 hH' h3
    have hlive := (hH e (by simp)).live
    obtain ⟨L, hL⟩ := blk_list N ob (fun b hb => hN b (h2 b hb))
    refine ⟨L ++ X, ks2, fun b hb => ?_, ?_, sat_mono g3 (fun k hk => hk) (fun b hb => ⟨hb.1.1, fun hm => ?_⟩), fun k hk => ?_⟩
    · rcases List.mem_append.1 hb with hb | hb
      · exact h2 _ ((hL b).1 hb)
      · exact (g1 b hb).1
    · exact sat_consO hlive h1 (fun b hb => List.mem_append_left _ ((hL b).2 hb)) (sat_mono g2 (fun k hk => hk) (fun b hb => ⟨List.mem_append_right _ hb, (g1 b hb).2⟩))
    · rcases List.mem_append.1 hm with e' | hm
      · exact hb.1.2 ((hL b).1 e')
      · exact hb.2 hm
    · rcases g4 k hk with h | h
      · rcases List.mem_cons.1 h with rfl | h
        · exact .inr (by simp)
        · exact .inl h
      · exact .inr (List.mem_cons_of_mem _ h)
/-! ### entering and leaving -/
/-- Results, then what is given back. -/
inductive RetsE (P : Program) (Γ : List Ent) (post : List Ent) : List Nat → List ResultVar → List VA → Prop
  | nil {ks : List Nat} : (∀ e, e ∈ post → ∃ k, findE ks Γ k = some e) → noSlots post = true → RetsE P Γ post ks [] []
  | g {ks : List Nat} {key : Nat} {rv : ResultVar} {rs : List ResultVar} {A : VA} {As : List VA} : RGet P Γ ks key rv A → RetsE P Γ post (key :: ks) rs As → RetsE P Γ post ks (rv :: rs) (A :: As)
theorem RetsE.t {P : Program} {Γ post : List Ent} {ks : List Nat} {r : Nat} {rs : List ResultVar} {A : VA} {As : List VA} (h1 : findE ks Γ r = some (Ent.t r A)) (h : RetsE P Γ post (r :: ks) rs As) : RetsE P Γ post ks (.tmp r :: rs) (A :: As) := .g (fun F θ S a w av0 av hF hG h0 hs => by
  obtain ⟨ob, g1, g2, g3⟩ := sat_take (has_find h1) hs
  exact ⟨a.tmps.getD r undef, ob, by rw [hF, Sem.run_pure], g1, g2, g3⟩) h
theorem RetsE.c {P : Program} {Γ post : List Ent} {α : Type} {ks : List Nat} {r id : Nat} {t e : TypeId} {K : Kn α} {x : α} {rs : List ResultVar} {As : List VA} (h1 : findE [] Γ r = some (Ent.t r (VA.ptr id 0))) (h2 : findE [] Γ (2000000 + id) = some (Ent.h id (HE.box e K x))) (hk : TK P t K) (h : RetsE P Γ post (3999999 :: ks) rs As) : RetsE P Γ post ks (.cell r t :: rs) (VA.k K x :: As) := .g (fun F θ S a w av0 av hF hG h0 hs => by
  obtain ⟨_, ⟨_, e1⟩, _⟩ := sat_take (has_find h1) h0
  obtain ⟨_, ⟨_, cs, hc, hr⟩, _⟩ := sat_take (has_find h2) h0
  have hl := run_loadVar_at (w := w) (ad := ⟨θ id, 0, none⟩) hk (K.len hr) (fun i u hu => by
    rw [add_add, cell_of_row w (θ id) _ cs _ (0, 0) hc, Nat.zero_add]
    simpa using hu)
  exact ⟨K.mk_ cs.toList, bk none, by rw [hG r t _ e1, hl], ⟨rfl, _, hr, rfl⟩, fun b hb => (by cases hb), sat_mono hs (fun k hk => List.mem_cons_of_mem _ hk) (fun b hb => ⟨hb, by simp⟩)⟩) h
/-- What is given back stands in Γ. -/
inductive ToldK (ks : List Nat) (Γ : List Ent) : List Ent → Prop
  | nil : ToldK ks Γ []
  | cons {e : Ent} {l : List Ent} : findE ks Γ e.key = some e → ToldK ks Γ l → ToldK ks Γ (e :: l)
theorem ToldK.all {ks : List Nat} {Γ l : List Ent} (h : ToldK ks Γ l) : ∀ e, e ∈ l → ∃ k, findE ks Γ k = some e := by
  induction h with
  | nil => intro e he; cases he
  | cons h1 _ ih =>
    intro e he
    rcases List.mem_cons.1 he with rfl | he
    · exact ⟨_, h1⟩
    · exact ih e he
theorem RetsE.post {P : Program} {Γ post : List Ent} {ks : List Nat} (h : ToldK ks Γ post) (hn : noSlots post = true) : RetsE P Γ post ks [] [] := .nil h.all hn
theorem RetsE.sat {P : Program} {Γ post : List Ent} {θ : Nat → Nat} {S : Blk} {a : Act} {w : World} {av0 : Blk} (F : ResultVar → Sem Value) (hF : ∀ t, F (.tmp t) = pure (a.tmps.getD t undef)) (hG : ∀ r t ad, a.tmps.getD r undef = .pointer (some ad) → (F (.cell r t)).run P w = (loadVar t ad).run P w) (h0 : sat θ S a w [] Γ av0) {ks : List Nat} {rts : List ResultVar} {res : List VA} (h : RetsE P Γ post ks rts res) :
    ∀ {av : Blk}, sat θ S a w ks Γ av → ∃ vs, (List.mapM F rts).run P w = .ok vs w ∧ resSatE θ S w res vs post av := by
  induction h with
  | @nil ks h1 h2 =>
    intro av hs
    refine ⟨[], rfl, ?_⟩
    have hH : ∀ e, e ∈ post → Has ks Γ e := fun e he => by obtain ⟨k, hk⟩ := h1 e he; exact has_find hk
    have h3 : Sl.sat θ S a w ks post av := sat_sub hs (fun k hk => hk) (fun e he => hH e he.mem)
    refine sat_act h2 (sat_free h3 (fun e he k hk hd => ?_))
    exact absurd hd (not_dep (hH e he).live hk)
  | @g ks key rv rs A As h1 _ ih =>
    intro av hs
    obtain ⟨v, ob, e1, g1, g2, g3⟩ := h1 F θ S a w av0 av hF hG h0 hs
    obtain ⟨vs, e, hr⟩ := ih g3
    refine ⟨v :: vs, ?_, ob, g1, g2, hr⟩
    rw [List.mapM_cons, Sem.run_bind, e1, Result.andThen_ok, Sem.run_bind, e, Result.andThen_ok, Sem.run_pure]
inductive FixIn (Γ : List Ent) (β : Nat → Nat) : List Nat → Prop
  | nil : FixIn Γ β []
  | cons {k : Nat} {l : List Nat} : findE [] Γ (4000000 + k) = some (Ent.isb k (β k)) → FixIn Γ β l → FixIn Γ β (k :: l)
theorem FixIn.all {Γ : List Ent} {β θ : Nat → Nat} {S : Blk} {a : Act} {w : World} {av : Blk} {fix : List Nat} (h : FixIn Γ β fix) (hs : sat θ S a w [] Γ av) : ∀ k, k ∈ fix → θ k = β k := by
  induction h with
  | nil => intro k hk; cases hk
  | cons h1 _ ih =>
    intro k hk
    rcases List.mem_cons.1 hk with rfl | hk
    · obtain ⟨_, ⟨_, e⟩, _⟩ := sat_take (has_find h1) hs
      exact e
    · exact ih k hk
end Go.Proofs.Ytlpmolohppoofaa.Sl
/- Calls of functions with contracts that lend. -/
set_option linter.unusedVariables false
set_option linter.unusedSimpArgs false
set_option linter.unnecessarySimpa false
set_option linter.deprecated false
namespace Go.Proofs.Ytlpmolohppoofaa.Sl
open Go Go.RowKit
theorem resSatE_split {θ : Nat → Nat} {S : Blk} {w : World} {post : List Ent} : ∀ {As : List VA} {vs : List Value} {av : Blk}, resSatE θ S w As vs post av → ∃ avp : Blk, (∀ b, avp b → av b) ∧ resSat θ S w As vs (fun b => av b ∧ ¬ avp b) ∧ sat θ S act0 w [] post avp
  | [], [], av, h => ⟨av, fun b hb => hb, trivial, h⟩
  | A :: As, v :: vs, av, h => by
    obtain ⟨ob, h1, h2, h3⟩ := h
    obtain ⟨avp, g1, g2, g3⟩ := resSatE_split h3
    exact ⟨avp, fun b hb => (g1 b hb).1, ⟨ob, h1, fun b hb => ⟨h2 b hb, fun hp => (g1 b hp).2 hb⟩, resSat_move (fun b hb => hb) (fun b hb => ⟨⟨hb.1.1, hb.2⟩, hb.1.2⟩) g2⟩, g3⟩
theorem resSat_ids {θ θ' : Nat → Nat} {S : Blk} {w : World} : ∀ {As : List VA} {vs : List Value} {av : Blk}, (∀ A, A ∈ As → ∀ k, k ∈ A.ids → θ' k = θ k) → resSat θ S w As vs av → resSat θ' S w As vs av
  | [], [], _, _, _ => trivial
  | A :: As, v :: vs, av, hi, h => by
    obtain ⟨ob, h1, h2, h3⟩ := h
    exact ⟨ob, A.move h1 (Agree.refl _ _) (fun b hb => hb) (fun b _ => rfl) (fun k hk => hi A (by simp) k hk), h2, resSat_ids (fun A hA => hi A (List.mem_cons_of_mem _ hA)) h3⟩
  | [], _ :: _, _, _, h => h.elim
  | _ :: _, [], _, _, h => h.elim
theorem sat_ids {θ θ' : Nat → Nat} {S : Blk} {a : Act} {w : World} : ∀ {Γ : List Ent} {ks : List Nat} {av : Blk}, (∀ e, e ∈ Γ → ∀ k, k ∈ e.ids → θ' k = θ k) → sat θ S a w ks Γ av → sat θ' S a w ks Γ av
  | [], _, _, _, _ => trivial
  | e :: Γ, ks, av, hi, h => by
    unfold sat at h ⊢
    by_cases hd : dead ks e = true
    · rw [if_pos hd] at h ⊢; exact sat_ids (fun x hx => hi x (List.mem_cons_of_mem _ hx)) h
    · rw [if_neg hd] at h ⊢
      obtain ⟨ob, h1, h2, h3⟩ := h
      exact ⟨ob, e.move h1 (Agree.refl _ _) (fun b hb => hb) (fun b _ => rfl) (fun t _ => rfl) (fun k hk => hi e (by simp) k hk), h2, sat_ids (fun x hx => hi x (List.mem_cons_of_mem _ hx)) h3⟩
/-- The slot's result, or its components. -/
def resE (d : Nat) (res : List VA) : List Ent := match res with
  | [A] => [Ent.t d A]
  | res => resEnts d res 0
theorem res_sat' {θ : Nat → Nat} {S : Blk} {a : Act} {w : World} {d : Nat} {all : Array Value} (hd : d < 1000000) (hall : a.tmps.getD d undef = .tuple all) :
    ∀ {As : List VA} {vs : List Value} {j : Nat} {ks : List Nat} {av : Blk}, resSat θ S w As vs av → (∀ A, A ∈ As → ∀ k, k ∈ A.ids → k < 1000000) → (∀ i v, vs[i]? = some v → all[j + i]? = some v) →
      (∀ k, k ∈ ks → 3000000 + 1000 * d ≤ k ∧ k < 3000000 + 1000 * d + j) → sat θ S a w ks (resEnts d As j) av
  | [], [], j, ks, av, _, _, _, hks => by
    refine sat_consK (dead_iff (fun k hk' => ?_)) rfl trivial
    simp only [Ent.deps, Ent.t, VA.any, List.map_nil, List.append_nil, List.mem_cons, List.not_mem_nil, or_false]
    have := hks k hk'
    omega
  | A :: As, v :: vs, j, ks, av, hr, hids, hv, hks => by
    obtain ⟨ob, h1, h2, h3⟩ := hr
    refine sat_consO (ob := ob) (dead_iff (fun k hk' => ?_)) ⟨all, v, hall, hv 0 v rfl, h1⟩ h2 ?_
    · simp only [Ent.deps, Ent.c, List.mem_cons, List.mem_append, List.mem_map, List.not_mem_nil, or_false]
      have := hks k hk'
      rintro (h | h | ⟨x, hx, h⟩)
      · omega
      · omega
      · have := hids A (by simp) x hx; omega
    · refine res_sat' hd hall h3 (fun A hA => hids A (List.mem_cons_of_mem _ hA)) (fun i v hi => by have := hv (i + 1) v hi; rw [← this]; congr 1; omega) (fun k hk' => ?_)
      rcases List.mem_cons.1 hk' with rfl | hk'
      · simp only [Ent.c]; omega
      · have := hks k hk'; omega
theorem resSat_len {θ : Nat → Nat} {S : Blk} {w : World} : ∀ {As : List VA} {vs : List Value} {av : Blk}, resSat θ S w As vs av → vs.length = As.length
  | [], [], _, _ => rfl
  | _ :: _, _ :: _, _, h => by obtain ⟨_, _, _, h⟩ := h; simp [resSat_len h]
  | [], _ :: _, _, h => h.elim
  | _ :: _, [], _, h => h.elim
theorem resE_sat {θ : Nat → Nat} {S : Blk} {a : Act} {w : World} {d : Nat} {res : List VA} {rs : List Value} {av : Blk} (hd : d < 1000000) (hs : d < a.tmps.size) (h : resSat θ S w res rs av) (hids : ∀ A, A ∈ res → ∀ k, k ∈ A.ids → k < 1000000) : sat θ S (a.put (some d) (tup rs)) w [] (resE d res) av := by
  have hl := resSat_len h
  match res, rs, h with
  | [A], [v], h =>
    obtain ⟨ob, r1, r2, _⟩ := h
    refine sat_consO (ob := ob) (dead_nil _) ?_ r2 trivial
    show A.sem θ _ ob w ((a.put (some d) v).tmps.getD d undef)
    rw [put_getD_self hs]; exact r1
  | [], [], h => exact res_sat' (all := #[]) hd (by rw [put_getD_self hs]; rfl) h hids (fun i v hi => by simp at hi) (fun k hk => by cases hk)
  | A :: B :: As, v :: u :: vs, h => exact res_sat' (all := (v :: u :: vs).toArray) hd (by rw [put_getD_self hs]; rfl) h hids (fun i x hi => by rw [Nat.zero_add]; simpa using hi) (fun k hk => by cases hk)
/-- What the caller knows behind such a call. -/
def callΔ (d : Nat) (res : List VA) (post : List Ent) (gone : List Nat) (chg : List Nat) : List Ent := resE d res ++ (post ++ (gone.map Ent.gone ++ chg.map Ent.bind))
def idsOk (fix chg : List Nat) (l : List Nat) : Bool := l.all fun k => chg.elem k || fix.elem k
def coverOk (pre post : List Ent) (gone : List Nat) : Bool := pre.all fun e => gone.elem e.key || (post.map (·.key)).elem e.key
def callOk (fix chg : List Nat) (pre post : List Ent) (res : List VA) (gone : List Nat) : Bool :=
  indep pre && idsOk fix chg (post.flatMap (·.ids)) && idsOk fix chg (res.flatMap (·.ids)) && (res.flatMap (·.ids)).all (fun k => Nat.blt k 1000000) && coverOk pre post gone && noSlots pre && noSlots post
theorem sat_gone {θ : Nat → Nat} {S : Blk} {a : Act} {w : World} : ∀ {l m : List Nat} {ks : List Nat} {av : Blk}, sat θ S a w ks (l.map Ent.gone ++ m.map Ent.bind) av
  | [], [], _, _ => trivial
  | [], k :: m, ks, av => by
    show sat θ S a w ks (Ent.bind k :: (([] : List Nat).map Ent.gone ++ m.map Ent.bind)) av
    unfold sat
    by_cases hd : dead ks (Ent.bind k) = true
    · rw [if_pos hd]; exact sat_gone
    · rw [if_neg hd]; exact ⟨bk none, rfl, fun b hb => (by cases hb), sat_gone⟩
  | k :: l, m, ks, av => by
    show sat θ S a w ks (Ent.gone k :: (l.map Ent.gone ++ m.map Ent.bind)) av
    unfold sat
    by_cases hd : dead ks (Ent.gone k) = true
    · rw [if_pos hd]; exact sat_gone
    · rw [if_neg hd]; exact ⟨bk none, rfl, fun b hb => (by cases hb), sat_gone⟩
theorem after_callE {c : Ctx} {Γ : List Ent} {a : Act} {w w' : World} {θ : Nat → Nat} {S : Blk} {d : Nat} {fix : List Nat} {pre post : List Ent} {res : List VA} {X ks2 : List Nat} {e : Ending} (gone chg : List Nat) (hd : Nat.blt d c.n = true)
    (hok : callOk fix chg pre post res gone = true) (g1 : ∀ b, b ∈ X → free c S w b) (g3 : sat θ S a w ks2 Γ (fun b => free c S w b ∧ b ∉ X)) (g4 : ∀ k, k ∈ ks2 → k ∈ ([] : List Nat) ∨ k ∈ pre.map (·.key)) (h1 : a.defers = c.df) (h2 : a.tmps.size = c.n ∧ c.n ≤ 1000000) (h3 : Fr c.X c.w0 w) (h4 : SOk c S w)
    (hE : EPost w S X θ fix res post e w') : ∃ v, e = .returned v ∧ Inv c (callΔ d res post gone chg ++ Γ) (a.put (some d) v) w' := by
  simp only [callOk, Bool.and_eq_true] at hok
  obtain ⟨⟨⟨⟨⟨⟨k1, k2⟩, k3⟩, k4⟩, k5⟩, k6⟩, k7⟩ := hok
  have hdn := blt_lt hd
  obtain ⟨rs, S', θ', rfl, hfr, hS', hfix, hr⟩ := hE
  obtain ⟨avp, p1, p2, p3⟩ := resSatE_split hr
  refine ⟨tup rs, rfl, ?_⟩
  have hsz := hfr.size
  have h3s := h3.size
  let θ2 : Nat → Nat := fun k => if k ∈ chg then θ' k else θ k
  have hθ2 : ∀ k, (chg.elem k || fix.elem k) = true → θ2 k = θ' k := fun k hk => by
    show (if k ∈ chg then θ' k else θ k) = θ' k
    by_cases hm : k ∈ chg
    · rw [if_pos hm]
    · rw [if_neg hm]
      have : k ∈ fix := by
        simp only [Bool.or_eq_true, List.elem_eq_mem, decide_eq_true_eq] at hk
        rcases hk with hk | hk
        · exact absurd hk hm
        · exact hk
      exact (hfix k this).symm
  have hidp : ∀ e, e ∈ post → ∀ k, k ∈ e.ids → θ2 k = θ' k := fun e he k hk => hθ2 k (List.all_eq_true.1 k2 k (List.mem_flatMap.2 ⟨e, he, hk⟩))
  have hidr : ∀ A, A ∈ res → ∀ k, k ∈ A.ids → θ2 k = θ' k := fun A hA k hk => hθ2 k (List.all_eq_true.1 k3 k (List.mem_flatMap.2 ⟨A, hA, hk⟩))
  have hidl : ∀ A, A ∈ res → ∀ k, k ∈ A.ids → k < 1000000 := fun A hA k hk => blt_lt (List.all_eq_true.1 k4 k (List.mem_flatMap.2 ⟨A, hA, hk⟩))
  have hXf : ∀ b, b ∈ X → free c S w b := g1
  have hag : Agree S w w' := fun b hb => hfr.block b (h4 b hb).1 (fun hx => (hXf b hx).1 hb)
  have hfr' : Fr c.X c.w0 w' := ⟨hfr.os.trans h3.os, hfr.tape.trans h3.tape, hfr.output.trans h3.output, by omega, fun k hk hx => (hfr.block k (by omega) (fun hm => by
    rcases (hXf k hm).2.2 with h | h
    · omega
    · exact hx h)).trans (h3.block k hk hx)⟩
  have hok' : SOk c (fun b => S b ∨ S' b) w' := fun b hb => by
    rcases hb with hb | hb
    · have := h4 b hb; exact ⟨by omega, this.2⟩
    · rcases hS' b hb with h | h
      · exact ⟨h.2, .inr (.inl (by have := h.1; omega))⟩
      · have := hXf b h; exact ⟨by have := this.2.1; omega, .inr this.2.2⟩
  -- what the call gives
  have hnew : ∀ b, ((since w w' b ∨ b ∈ X) ∧ ¬ S' b) → free c (fun b => S b ∨ S' b) w' b := fun b hb => by
    rcases hb.1 with h | h
    · exact ⟨fun hs => by
        rcases hs with hs | hs
        · have := (h4 b hs).1; have := h.1; omega
        · exact hb.2 hs, h.2, .inl (by have := h.1; omega)⟩
    · have := hXf b h
      exact ⟨fun hs => by
        rcases hs with hs | hs
        · exact this.1 hs
        · exact hb.2 hs, by have := this.2.1; omega, this.2.2⟩
  have hold : ∀ b, (free c S w b ∧ b ∉ X) → free c (fun b => S b ∨ S' b) w' b := fun b hb => ⟨fun hs => by
    rcases hs with hs | hs
    · exact hb.1.1 hs
    · rcases hS' b hs with h | h
      · have := hb.1.2.1; have := h.1; omega
      · exact hb.2 h, by have := hb.1.2.1; omega, hb.1.2.2⟩
  have hdis : ∀ b, (free c S w b ∧ b ∉ X) → ¬ ((since w w' b ∨ b ∈ X) ∧ ¬ S' b) := fun b hb h => by
    rcases h.1 with h | h
    · have := hb.1.2.1; have := h.1; omega
    · exact hb.2 h
  have hR := resE_sat (a := a) (d := d) (by omega) (by omega) (resSat_ids hidr p2) hidl
  have hP := sat_act (a' := a.put (some d) (tup rs)) k7 (sat_ids hidp p3)
  have hG : sat θ2 (fun b => S b ∨ S' b) (a.put (some d) (tup rs)) w' (d :: (ks2 ++ chg.map (1000000 + ·))) Γ (fun b => free c S w b ∧ b ∉ X) := by
    refine sat_move (sat_mono g3 (fun k hk => List.mem_cons_of_mem _ (List.mem_append_left _ hk)) (fun b hb => hb)) hag (fun b hb => .inl hb) (fun b hb => hfr.block b hb.1.2.1 hb.2) (fun t ht => put_getD_ne (fun e => ht (by simp [e]))) (fun k hk => ?_)
    show (if k ∈ chg then θ' k else θ k) = θ k
    rw [if_neg (fun hm => hk (List.mem_cons_of_mem _ (List.mem_append_right _ (List.mem_map.2 ⟨k, hm, rfl⟩))))]
  refine ⟨by rw [put_defers]; exact h1, by rw [put_size]; exact h2, hfr', θ2, _, hok', ?_⟩
  have hPG : sat θ2 (fun b => S b ∨ S' b) (a.put (some d) (tup rs)) w' [] (post ++ (gone.map Ent.gone ++ chg.map Ent.bind)) avp := sat_append (av1 := avp) (av2 := fun _ => False) (ks2 := []) hP sat_gone (fun k hk => by cases hk) (fun b hb => hb) (fun b hb => hb.elim) (fun b hb => hb.elim)
  have hRP : sat θ2 (fun b => S b ∨ S' b) (a.put (some d) (tup rs)) w' [] (callΔ d res post gone chg) (fun b => (since w w' b ∨ b ∈ X) ∧ ¬ S' b) := sat_append hR hPG (fun k hk => by cases hk) (fun b hb => hb.1) p1 (fun b hb h => h.2 hb)
  refine sat_append hRP hG (fun k hk => .inr ?_) hnew hold hdis
  simp only [callΔ, List.map_append, List.mem_append]
  rcases List.mem_cons.1 hk with rfl | hk
  · left
    unfold resE
    split
    · simp [Ent.t]
    · rename_i res _
      have : ∀ (As : List VA) (j : Nat), k ∈ (resEnts k As j).map (·.key) := by
        intro As
        induction As with
        | nil => intro j; simp [resEnts, Ent.t]
        | cons A As ih => intro j; exact List.mem_cons_of_mem _ (ih (j + 1))
      exact this _ 0
  · right
    rcases List.mem_append.1 hk with hk | hk
    · rcases g4 k hk with h | h
      · cases h
      · obtain ⟨e, he, rfl⟩ := List.mem_map.1 h
        have := List.all_eq_true.1 k5 e he
        simp only [Bool.or_eq_true, List.elem_eq_mem, decide_eq_true_eq] at this
        rcases this with h | h
        · right; left
          exact List.mem_map.2 ⟨Ent.gone e.key, List.mem_map.2 ⟨_, h, rfl⟩, rfl⟩
        · exact .inl h
    · right; right
      obtain ⟨x, hx, rfl⟩ := List.mem_map.1 hk
      exact List.mem_map.2 ⟨Ent.bind x, List.mem_map.2 ⟨x, hx, rfl⟩, rfl⟩
theorem callOk_parts {fix chg : List Nat} {pre post : List Ent} {res : List VA} {gone : List Nat} (h : callOk fix chg pre post res gone = true) : indep pre = true ∧ noSlots pre = true ∧ noSlots post = true := by
  simp only [callOk, Bool.and_eq_true] at h
  exact ⟨h.1.1.1.1.1.1, h.1.2, h.2⟩
theorem inv_callE {P : Program} {c : Ctx} {Γ : List Ent} {a : Act} {w : World} {θ : Nat → Nat} {S : Blk} {d : Nat} {f : FuncId} {fix : List Nat} {pre post : List Ent} {As res : List VA} {vs : List Value} (gone chg : List Nat) (hd : Nat.blt d c.n = true)
    (hC : ConE P f fix pre As res post) (hok : callOk fix chg pre post res gone = true) (hpre : ∀ e, e ∈ pre → Has [] Γ e) (h1 : a.defers = c.df) (h2 : a.tmps.size = c.n ∧ c.n ≤ 1000000) (h3 : Fr c.X c.w0 w) (h4 : SOk c S w)
    (h5 : sat θ S a w [] Γ (free c S w)) (ha : argSat θ S w As vs) : Calls P f vs.toArray w fun e w' => ∃ v, e = .returned v ∧ Inv c (callΔ d res post gone chg ++ Γ) (a.put (some d) v) w' := by
  obtain ⟨k1, k6, _⟩ := callOk_parts hok
  obtain ⟨X, ks2, g1, g2, g3, g4⟩ := sat_takes (N := w.heap.size) (fun b hb => hb.2.1) k1 hpre h5
  exact (hC θ S w vs X (fun b hb => (h4 b hb).1) (fun b hb => ⟨(g1 b hb).1, (g1 b hb).2.1⟩) (sat_act k6 g2) ha).mono fun e w' hE => after_callE gone chg hd hok g1 g3 g4 h1 h2 h3 h4 hE
/-! ### what such a call is lent to read -/
def ArgR (N : Ent → Prop) (x : Operand) (A : VA) : Prop := ∀ (θ : Nat → Nat) (S : Blk) (a : Act) (w : World) (R : Blk), (∀ e, N e → ∃ ob, e.sem θ S ob a w ∧ ∀ b, ob b → R b) → (∀ b, S b → R b) → A.sem θ R (bk none) w (a.eval x)
theorem Args.satR {N : Ent → Prop} {xs : List Operand} {As : List VA} (h : Args (ArgR N) xs As) {θ : Nat → Nat} {S : Blk} {a : Act} {w : World} {R : Blk} (hN : ∀ e, N e → ∃ ob, e.sem θ S ob a w ∧ ∀ b, ob b → R b) (hS : ∀ b, S b → R b) : argSat θ R w As (xs.map a.eval) := by
  induction h with
  | nil => trivial
  | cons h _ ih => exact ⟨h θ S a w R hN hS, ih⟩
theorem ArgR.k {α : Type} {N : Ent → Prop} {x : Operand} {K : Kn α} {y : α} (h : Arg N x (VA.k K y)) : ArgR N x (VA.k K y) := fun θ S a w R hN hS => by
  obtain ⟨ob, h1⟩ := h θ S a w (fun e he => by obtain ⟨ob, h, _⟩ := hN e he; exact ⟨ob, h⟩)
  exact (VA.k K y).move ⟨rfl, h1.2⟩ (Agree.refl _ _) hS (fun b _ => rfl) (fun k _ => rfl)
theorem ArgR.own {α : Type} {N : Ent → Prop} {s : Nat} {e : TypeId} {K : Kn α} {y : List α} (hp : Nat.blt 0 K.sz = true) (h : N (Ent.t s (VA.own e K y))) : ArgR N (.tmp s) (VA.k (kslice K) y) := fun θ S a w R hN hS => by
  obtain ⟨ob, h1, hb⟩ := hN _ h
  exact own_reads (θ := θ) h1 hS hb (blt_lt hp)
theorem ArgR.owns {α : Type} {N : Ent → Prop} {d s : Nat} {e : TypeId} {K : Kn α} {y : List α} (hp : Nat.blt 0 K.sz = true) (h0 : N (Ent.same d s)) (h : N (Ent.t s (VA.own e K y))) : ArgR N (.tmp d) (VA.k (kslice K) y) := fun θ S a w R hN hS => by
  have := ArgR.own hp h θ S a w R hN hS
  obtain ⟨_, ⟨_, e0⟩, _⟩ := hN _ h0
  show (VA.k (kslice K) y).sem θ _ (bk none) w (a.tmps.getD d undef)
  rw [e0]; exact this
theorem ArgR.mp {N : Ent → Prop} {α : Type} {P : Program} {kt : TypeId} {K : Kn α} {x : Operand} {id : Nat} {m : GM α} (h : Arg N x (VA.mp false id)) (hm : N (Ent.h id (HE.map P kt K m))) : ArgR N x (VA.k (kmap P kt K) m) := fun θ S a w R hN hS => by
  have hN2 : ∀ e, N e → ∃ ob, e.sem θ S ob a w := fun e he => by obtain ⟨ob, h, _⟩ := hN e he; exact ⟨ob, h⟩
  obtain ⟨_, _, e1⟩ := h θ S a w hN2
  obtain ⟨_, ⟨rfl, hmap⟩, hlt⟩ := hN _ hm
  refine ⟨rfl, [.map (some (θ id))], ⟨θ id, rfl, hlt _ rfl, ?_⟩, e1⟩
  exact MapS.move hmap (Agree.refl _ _) hS rfl
theorem ArgR.ptk {N : Ent → Prop} {α β : Type} {K : Kn α} {K' : Kn β} {get : α → β} {set : α → β → α} {e : TypeId} {x : Operand} {id off : Nat} {y : α} (hF : Fld K off K' get set) (h : Arg N x (VA.ptr id off)) (hb : N (Ent.h id (HE.box e K y))) : ArgR N x (VA.pt K' (get y)) := fun θ S a w R hN hS => by
  have hN2 : ∀ e, N e → ∃ ob, e.sem θ S ob a w := fun e he => by obtain ⟨ob, h, _⟩ := hN e he; exact ⟨ob, h⟩
  obtain ⟨_, _, e1⟩ := h θ S a w hN2
  obtain ⟨_, ⟨rfl, cs, hc, hr⟩, hlt⟩ := hN _ hb
  have hg := hF.get hr
  refine ⟨rfl, _, e1, hlt _ rfl, _, K'.move hg (Agree.refl _ _) hS, fun i u hu => ?_⟩
  rw [add_add, cell_of_row w (θ id) (off + i) cs e (0, 0) hc]
  rw [List.getElem?_take] at hu
  split at hu
  · rw [List.getElem?_drop] at hu
    simpa using hu
  · cases hu
theorem ArgR.pt {N : Ent → Prop} {α : Type} {K : Kn α} {x : Operand} {y : α} (h : Arg N x (VA.pt K y)) : ArgR N x (VA.pt K y) := fun θ S a w R hN hS => by
  obtain ⟨ob, h1⟩ := h θ S a w (fun e he => by obtain ⟨ob, h, _⟩ := hN e he; exact ⟨ob, h⟩)
  obtain rfl : ob = bk none := h1.1
  exact (VA.pt K y).move h1 (Agree.refl _ _) hS (fun b _ => rfl) (fun k _ => rfl)
theorem ArgR.mf {N : Ent → Prop} {F : FuncId} {s : Nat} {ys xs : List Nat} {pre caps : List VA} (hn : noIds pre = true) (hm : noIds caps = true) (h : N (Ent.mf s F ys xs)) (hp : Args (ArgR N) (ys.map Operand.tmp) pre) (hc : Args (ArgR N) (xs.map Operand.tmp) caps) : ArgR N (.tmp s) (VA.clo F pre caps) := fun θ S a w R hN hS => by
  obtain ⟨_, ⟨_, e⟩, _⟩ := hN _ h
  have h1 := hp.satR hN hS
  have h2 := hc.satR hN hS
  rw [List.map_map] at h1 h2
  exact ⟨rfl, ⟨hn, hm⟩, _, _, e, h1, h2⟩
theorem ArgR.fn {N : Ent → Prop} {F : FuncId} : ArgR N (.func F) (VA.clo F [] []) := fun θ S a w R hN hS => ⟨rfl, ⟨rfl, rfl⟩, [], [], rfl, trivial, trivial⟩
theorem ArgR.clo {N : Ent → Prop} {F : FuncId} {x : Operand} {pre caps : List VA} (h : Arg N x (VA.clo F pre caps)) : ArgR N x (VA.clo F pre caps) := fun θ S a w R hN hS => by
  obtain ⟨ob, h1⟩ := h θ S a w (fun e he => by obtain ⟨ob, h, _⟩ := hN e he; exact ⟨ob, h⟩)
  obtain rfl : ob = bk none := h1.1
  exact (VA.clo F pre caps).move h1 (Agree.refl _ _) hS (fun b _ => rfl) (fun k _ => rfl)
theorem ArgR.om {α : Type} {P : Program} {kt : TypeId} {K : Kn α} {N : Ent → Prop} {s : Nat} {m : GM α} (h : N (Ent.t s (VA.om P kt K false m))) : ArgR N (.tmp s) (VA.k (kmap P kt K) m) := fun θ S a w R hN hS => by
  obtain ⟨_, ⟨b, rfl, e1, hm⟩, hlt⟩ := hN _ h
  exact ⟨rfl, [.map (some b)], ⟨b, rfl, hlt _ rfl, hm.move (Agree.refl _ _) hS rfl⟩, e1⟩
theorem ArgR.a {N : Ent → Prop} {x : Operand} {A : VA} (hp : Plain A) (h : Arg N x A) : ArgR N x A := fun θ S a w R hN hS => by
  obtain ⟨ob, h1⟩ := h θ S a w (fun e he => by obtain ⟨ob, h, _⟩ := hN e he; exact ⟨ob, h⟩)
  obtain rfl := hp h1
  exact A.move h1 (Agree.refl _ _) hS (fun b _ => rfl) (fun k _ => rfl)
/-- A function's number with what is bound and what is captured; pointers too. -/
def VA.cl (F : FuncId) (pre caps : List VA) : VA where
  ids := (pre ++ caps).flatMap (·.ids)
  sem := fun θ S ob w v => ob = bk none ∧ ∃ us vs : List Value, v = .func (.func F) us.toArray vs.toArray ∧ argSat θ S w pre us ∧ argSat θ S w caps vs
  move := by rintro θ θ' S S' ob w w' v ⟨h0, us, vs, h1, h2, h3⟩ hA hS _ hi; exact ⟨h0, us, vs, h1, argSat_move h2 hA hS (fun k hk => hi k (by rw [List.flatMap_append]; exact List.mem_append_left _ hk)), argSat_move h3 hA hS (fun k hk => hi k (by rw [List.flatMap_append]; exact List.mem_append_right _ hk))⟩
def EPostF (w0 : World) (X : List Nat) (β : Nat → Nat) (fix : List Nat) (res : List VA) (post : List Ent) (e : Ending) (w' : World) : Prop :=
  ∃ (rs : List Value) (S' : Blk) (θ' : Nat → Nat), e = .returned (tup rs) ∧ Fr X w0 w' ∧ (∀ b, S' b → since w0 w' b ∨ b ∈ X) ∧ (∀ k, k ∈ fix → θ' k = β k) ∧
    resSatE θ' S' w' res rs post (fun b => (since w0 w' b ∨ b ∈ X) ∧ ¬ S' b)
/-- The same, where what comes back shares nothing with what was lent to be read. -/
def ConEF (P : Program) (f : FuncId) (fix : List Nat) (pre : List Ent) (args res : List VA) (post : List Ent) : Prop :=
  ∀ (θ : Nat → Nat) (S : Blk) (w : World) (vs : List Value) (X : List Nat), (∀ b, S b → b < w.heap.size) → (∀ b, b ∈ X → ¬ S b ∧ b < w.heap.size) → sat θ S act0 w [] pre (· ∈ X) → argSat θ S w args vs →
    Calls P f vs.toArray w (EPostF w X θ fix res post)
def FreeEnt (x : Ent) : Prop := ∀ {θ : Nat → Nat} {S S' : Blk} {ob : Blk} {a : Act} {w : World}, x.sem θ S ob a w → x.sem θ S' ob a w
theorem sat_freeE {θ : Nat → Nat} {S S' : Blk} {a : Act} {w : World} : ∀ {Γ : List Ent} {ks : List Nat} {av : Blk}, (∀ e, e ∈ Γ → FreeEnt e) → sat θ S a w ks Γ av → sat θ S' a w ks Γ av
  | [], _, _, _, _ => trivial
  | e :: Γ, ks, av, hf, h => by
    unfold sat at h ⊢
    by_cases hd : dead ks e = true
    · rw [if_pos hd] at h ⊢; exact sat_freeE (fun x hx => hf x (List.mem_cons_of_mem _ hx)) h
    · rw [if_neg hd] at h ⊢
      obtain ⟨ob, h1, h2, h3⟩ := h
      exact ⟨ob, hf e (by simp) h1, h2, sat_freeE (fun x hx => hf x (List.mem_cons_of_mem _ hx)) h3⟩
theorem resSatE_free {θ : Nat → Nat} {S S' : Blk} {w : World} {post : List Ent} (hp : ∀ e, e ∈ post → FreeEnt e) : ∀ {As : List VA} {vs : List Value} {av : Blk}, (∀ A, A ∈ As → Free A) → resSatE θ S w As vs post av → resSatE θ S' w As vs post av
  | [], [], av, _, h => sat_freeE hp h
  | A :: As, v :: vs, av, hf, h => by
    obtain ⟨ob, h1, h2, h3⟩ := h
    exact ⟨ob, hf A (by simp) h1, h2, resSatE_free hp (fun B hB => hf B (List.mem_cons_of_mem _ hB)) h3⟩
theorem ConE.freeL {P : Program} {f : FuncId} {fix : List Nat} {pre post : List Ent} {As res : List VA} (h : ConE P f fix pre As res post) (hf : FreeL res) (hp : ∀ e, e ∈ post → FreeEnt e) : ConEF P f fix pre As res post := fun θ S w vs X hS hX hpre ha => (h θ S w vs X hS hX hpre ha).mono fun e w' ⟨rs, S', θ', h1, h2, h3, h4, h5⟩ => ⟨rs, S', θ', h1, h2, h3, h4, resSatE_free hp hf.spec h5⟩
/-- What no part of pre hides. -/
def NR (N : Ent → Prop) (pre : List Ent) : Ent → Prop := fun e => N e ∧ pre.all (fun x => !e.deps.elem x.key) = true
theorem NR.mk {N : Ent → Prop} {pre : List Ent} {e : Ent} (h : N e) (h1 : pre.all (fun x => !e.deps.elem x.key) = true) : NR N pre e := ⟨h, h1⟩
theorem Has.kills {Γ : List Ent} {e : Ent} {ks : List Nat} (h : Has [] Γ e) (hk : ∀ k, k ∈ ks → k ∉ e.deps) : Has ks Γ e := by
  induction ks with
  | nil => exact h
  | cons k ks ih => exact (ih (fun x hx => hk x (List.mem_cons_of_mem _ hx))).kill (hk k (by simp))
inductive All (N : Ent → Prop) : List Ent → Prop
  | nil : All N []
  | cons {e : Ent} {l : List Ent} : N e → All N l → All N (e :: l)
theorem All.spec {N : Ent → Prop} {l : List Ent} (h : All N l) : ∀ e, e ∈ l → N e := by
  induction h with
  | nil => intro e he; cases he
  | cons h1 _ ih =>
    intro e he
    rcases List.mem_cons.1 he with rfl | he
    · exact h1
    · exact ih e he
section
variable {P : Program} {n d : Nat} {ty t t' : TypeId} {pos : String} {af : Array Edge} {g : Option (Nat × Bool)} {N : Ent → Prop}
theorem op_callE {f : FuncId} {xs : List Operand} {at_ : Array TypeId} {fix : List Nat} {pre post : List Ent} {As res : List VA} (gone chg : List Nat) (hd : Nat.blt d n = true) (hf : Enters P f) (hC : ConE P f fix pre As res post) (hok : callOk fix chg pre post res gone = true) (hpre : All N pre) (hx : Args (ArgP N) xs As) :
    OpSpec P n ⟨some d, .call { callee := .value (.func f), args := xs.toArray, argTypes := at_ }, ty, pos, af, g⟩ N (callΔ d res post gone chg) := by
  rintro c Γ a w Q rfl hN ⟨h1, h2, h3, θ, S, h4, h5⟩
  unfold Oper.wp
  rw [run_call_op hf rfl]
  refine (inv_callE gone chg hd hC hok (fun e he => hN e (hpre.spec e he)) h1 h2 h3 h4 h5 (hx.sat (sems hN h5) (fun b hb => (h4 b hb).1))).mono ?_
  rintro e w' ⟨v, rfl, h⟩
  exact h
end
end Go.Proofs.Ytlpmolohppoofaa.Sl
/- Own rows cut, their ends cleared, tested for nil; rows stored into boxes that are known field by field. -/
set_option linter.unusedVariables false
set_option linter.unusedSimpArgs false
set_option linter.unnecessarySimpa false
set_option linter.deprecated false
namespace Go.Proofs.Ytlpmolohppoofaa.Sl
open Go Go.RowKit
/-- Slot d holds the end of slot s's row, from lo on. -/
def Ent.tl (d s lo sz : Nat) : Ent where
  key := d
  slots := [d, s]
  ids := []
  sem := fun _ _ ob a _ => ob = bk none ∧ ∃ A n c, a.tmps.getD s undef = .slice A n c ∧ lo ≤ n ∧ n ≤ c ∧ a.tmps.getD d undef = .slice (if c = lo then A else A.map (·.add (lo * sz))) (n - lo) (c - lo)
  move := by
    rintro θ θ' S S' ob a a' w w' ⟨h0, A, n, c, h1, h2, h2', h3⟩ _ _ _ ht _
    exact ⟨h0, A, n, c, by rw [ht s (by simp)]; exact h1, h2, h2', by rw [ht d (by simp)]; exact h3⟩
theorem own_le {α : Type} {e : TypeId} {K : Kn α} {θ : Nat → Nat} {S : Blk} {ob : Blk} {w : World} {xs : List α} {v : Value} (h : (VA.own e K xs).sem θ S ob w v) : ∃ A c, v = .slice A xs.length c ∧ xs.length ≤ c ∧ c ≤ maxLen := by
  obtain ⟨_, inner, ⟨_, ho⟩, _⟩ := h
  rcases ho with ⟨rfl, hn⟩ | ⟨g, cap, cur, rfl, _, _, h1, h2, _⟩
  · exact ⟨none, 0, by rw [hn], by omega, Nat.zero_le _⟩
  · exact ⟨_, cap, rfl, h1, h2⟩
section
variable {P : Program} {n d : Nat} {ty t t' : TypeId} {pos : String} {af : Array Edge} {g : Option (Nat × Bool)} {N : Ent → Prop}
/-- An own row is cut behind its first elements; the old slot is struck. -/
theorem op_slice_own {α : Type} {K : Kn α} {xs : List α} {q s : Nat} {hi : Operand} {i : Int} {e e' : TypeId} (hd : Nat.blt d n = true) (hds : Nat.beq s d = false) (hu : P.underlying t = some (.slice e)) (hk : TK P e K) (h0 : 0 ≤ i) (hle : i ≤ xs.length) (hq : Slot N q s) (ho : N (Ent.t s (VA.own e' K xs))) (hh : Arg N hi (VA.k (kint .i64) i)) :
    OpSpec P n ⟨some d, .slice t (.tmp q) none (some hi) none, ty, pos, af, g⟩ N [Ent.t d (VA.own e' K (xs.take i.toNat)), Ent.t s VA.any] := by
  rintro c Γ a w Q rfl hN ⟨h1, h2, h3, θ, S, h4, h5⟩
  have hN2 := sems hN h5
  obtain ⟨_, hlo⟩ := hh θ S a w hN2
  have e4 := k_int hlo
  obtain ⟨ob, hw, hav, h6⟩ := sat_take (hN _ ho) h5
  obtain ⟨A, cp, e1, e2, e3⟩ := own_le (θ := θ) hw
  have e1' : a.eval (.tmp q) = .slice A xs.length cp := (hq.eval hN2).trans e1
  have hb := run_sliceBounds (P := P) (isS := true) (len := xs.length) (cap := cp) (lo := none) (hi := some i) w (Int.le_refl _) (by simpa using h0) (by simp; omega) e2
  simp only [Option.map_some, Option.map_none, Option.getD_some, Option.getD_none] at hb
  have hrun : (execOp a.eval ⟨some d, .slice t (.tmp q) none (some hi) none, ty, pos, af, g⟩).run P w = .ok (.value (.slice (if cp = 0 then A else A.map (·.add 0)) i.toNat cp)) w := by
    clear hlo hh ho hN hN2 hw e1 hq h5 h1 h2 h6
    generalize a.eval = ρ at *
    simp [execOp, Instr.sliceAt, Instr.slice, e1', e4, run_underlying hu, hb, hk.size, Sem.run_bind, Sem.run_pure, Result.andThen_ok]
  have hadd : ∀ A : Option Addr, A.map (·.add 0) = A := fun A => by cases A <;> simp [Addr.add]
  have hite : (if cp = 0 then A else A.map (·.add 0)) = A := by rw [hadd]; exact ite_self A
  rw [hite] at hrun
  unfold Oper.wp
  rw [hrun]
  have hdn := blt_lt hd
  have hne : s ≠ d := fun e => by rw [e, Nat.beq_refl] at hds; cases hds
  show Inv c _ (a.put (some d) _) w
  refine ⟨by rw [put_defers]; exact h1, by rw [put_size]; exact h2, h3, θ, S, h4, ?_⟩
  refine sat_consO (ob := ob) (dead_nil _) ?_ hav (sat_consK ?_ rfl ?_)
  · show (VA.own e' K (xs.take i.toNat)).sem θ S ob w ((a.put (some d) _).tmps.getD d undef)
    rw [put_getD_self (by omega)]
    have hw' : (VA.own e' K xs).sem θ S ob w (a.tmps.getD s undef) := hw
    obtain ⟨hob, inner, ⟨hlen, hor⟩, hr⟩ := hw'
    have e1'' : a.tmps.getD s undef = .slice A xs.length cp := e1
    have hil : i.toNat ≤ xs.length := by omega
    have hmul : i.toNat * K.sz ≤ xs.length * K.sz := Nat.mul_le_mul_right _ hil
    have htl : (xs.take i.toNat).length = i.toNat := by rw [List.length_take]; exact Nat.min_eq_left hil
    refine ⟨?_, inner.take (i.toNat * K.sz), ⟨by rw [List.length_take, hlen, htl]; exact Nat.min_eq_left hmul, ?_⟩, fun j p hj => ?_⟩
    · rw [hob, e1'']; cases A <;> rfl
    · rcases hor with ⟨hv, hn⟩ | ⟨g2, cap, cur, hv, f1, f2, f3, f4, f5, f6⟩
      · rw [e1''] at hv
        injection hv with v1 v2 v3
        subst v1; subst v3
        have : i.toNat = 0 := by omega
        left
        rw [this]; exact ⟨rfl, by simp⟩
      · rw [e1''] at hv
        injection hv with v1 v2 v3
        subst v1; subst v3
        right
        refine ⟨g2, cp, cur, by rw [htl], f1, f2, by rw [htl]; omega, f4, f5, ?_⟩
        rw [htl, ← f6, List.take_take, Nat.min_eq_left hmul]
    · have hj2 := hj
      rw [List.getElem?_take] at hj2
      split at hj2
      · rename_i hlt
        have := hr j p hj2
        have hjb : j * K.sz + K.sz ≤ i.toNat * K.sz := by rw [← Nat.succ_mul]; exact Nat.mul_le_mul_right _ hlt
        rw [List.drop_take, List.take_take, Nat.min_eq_left (by omega)]
        exact this
      · cases hj2
  · refine dead_iff (fun k hk => ?_)
    simp only [Ent.t, List.mem_singleton] at hk
    simp only [Ent.deps, Ent.t, VA.any, List.map_nil, List.append_nil, List.mem_cons, List.not_mem_nil, or_false]
    omega
  · have h7 := sat_mono h6 (ks' := [s, d]) (fun k hk => by simp [Ent.t] at hk; simp [hk]) (fun b hb => hb)
    exact sat_mono (sat_move h7 (Agree.refl _ _) (fun b hb => hb) (fun b _ => rfl) (fun t ht => put_getD_ne (fun e => ht (by simp [e]))) (fun k _ => rfl)) (fun k hk => hk) (fun b hb => hb)
/-- Is a row nil? If it is, it is empty. -/
def VA.nilb {α : Type} (xs : List α) : VA where
  ids := []
  sem := fun _ _ ob _ v => ob = bk none ∧ ∃ b, v = .bool b ∧ (b = true → xs = [])
  move := fun h _ _ _ _ => h
theorem run_eqIn_slice {P : Program} (d : Nat) {t e : TypeId} (ht : P.underlying t = some (.slice e)) (w : World) (A : Option Addr) (n c : Nat) : (Op.equalIn (d + 1) t (.slice A n c) (.slice none 0 0)).run P w = .ok A.isNone w := by
  unfold Op.equalIn
  cases A <;> simp [run_underlying ht, Sem.run_bind, Sem.run_pure, Result.andThen_ok]
theorem run_eq_slice {P : Program} {t e : TypeId} (ht : P.underlying t = some (.slice e)) (w : World) (A : Option Addr) (n c : Nat) : (Op.equal t (.slice A n c) (.slice none 0 0)).run P w = .ok A.isNone w := run_eqIn_slice 9999 ht w A n c
theorem op_isnil {α : Type} {K : Kn α} {xs : List α} {x : Operand} {e : TypeId} (hd : Nat.blt d n = true) (hu : P.underlying t = some (.slice e)) (hx : Arg N x (VA.k (kslice K) xs)) :
    OpSpec P n ⟨some d, .binOp .eql t x (.const (.slice none 0 0)) t', ty, pos, af, g⟩ N [Ent.t d (VA.nilb xs)] := op_pure hd fun θ S act w hN => by
  obtain ⟨_, h1⟩ := hx θ S act w hN
  obtain ⟨A, c, e1, hc, hm, hr⟩ := k_slice h1
  have hq : ∀ w, (Op.equal t (.slice A xs.length c) (.slice none 0 0)).run P w = .ok A.isNone w := fun w => by
    exact run_eq_slice hu w A xs.length c
  refine ⟨.bool A.isNone, ?_, rfl, A.isNone, rfl, fun hA => ?_⟩
  · clear h1 hx hN
    have he : act.eval (.const (.slice none 0 0)) = .slice none 0 0 := rfl
    generalize act.eval = ρ at *
    have e2 : ρ (.const (.slice none 0 0)) = .slice none 0 0 := he
    have hg : eqGuard .eql t x (.const (.slice none 0 0)) (.slice A xs.length c) (.slice none 0 0) = pure () := rfl
    simp [execOp, e1, e2, hg, binOp, hq, Sem.run_bind, Sem.run_pure, Result.andThen_ok]
  · cases A with
    | some _ => cases hA
    | none =>
      rcases Nat.eq_zero_or_pos xs.length with h | h
      · exact List.length_eq_zero_iff.1 h
      · obtain ⟨ad, e, _⟩ := hr h
        cases e
theorem goes_ifnil {c : Ctx} {Γ : List Ent} {Q : Exit → Act → World → Prop} {α : Type} {xs : List α} {x y : Code} {o : Operand} (hc : Arg (Has [] Γ) o (VA.nilb xs)) (ht : xs = [] → Goes P c Γ x Q) (hf : Goes P c Γ y Q) : Goes P c Γ (.cond o x y) Q := fun a w hi => by
  obtain ⟨h1, h2, h3, θ, S, h4, h5⟩ := id hi
  obtain ⟨_, _, b, e1, hb⟩ := hc θ S a w (sems (fun _ he => he) h5)
  exact wpIn_cond_split e1 (fun e => ht (hb e) a w hi) (fun e => hf a w hi)
end
end Go.Proofs.Ytlpmolohppoofaa.Sl
/- Boxes that are known field by field: what stores and loads do, whole and in part. -/
set_option linter.unusedVariables false
set_option linter.unusedSimpArgs false
set_option linter.unnecessarySimpa false
set_option linter.deprecated false
namespace Go.Proofs.Ytlpmolohppoofaa.Sl
open Go Go.RowKit
/-- A slice that is nil. -/
def knil : Kn Unit := Kn.scalar (fun _ => Value.slice none 0 0) (fun _ => rfl)
theorem Arg.knil {N : Ent → Prop} : Arg N (.const (.slice none 0 0)) (VA.k knil ()) := fun θ S a w hN => ⟨bk none, rfl, _, rfl, rfl⟩
/-- A value, field by field, from offset o on. -/
inductive FieldsOf : {α : Type} → Kn α → α → Nat → List FA → Prop
  | leaf {α : Type} {K : Kn α} {x : α} {o : Nat} : FieldsOf K x o [FA.k o K x]
  | nil {o : Nat} : FieldsOf knil () o [FA.v o (.slice none 0 0)]
  | pair {α β : Type} {a : Kn α} {b : Kn β} {x : α} {y : β} {o : Nat} {la lb : List FA} : FieldsOf a x o la → FieldsOf b y (o + a.sz) lb → FieldsOf (kpair a b) (x, y) o (la ++ lb)
  | iso {α β : Type} {d : Kn α} {f : β → α} {y : β} {x : α} {o : Nat} {l : List FA} : FieldsOf d x o l → f y = x → FieldsOf (kiso d f) y o l
theorem FieldsOf.out {θ : Nat → Nat} {S : Blk} {w : World} {α : Type} {K : Kn α} {x : α} {o : Nat} {l : List FA} (h : FieldsOf K x o l) : ∀ {cs : List Value}, K.R S w x cs → ∀ f, f ∈ l → o ≤ f.off ∧ f.off + f.sz ≤ o + K.sz ∧ f.sem θ S w ((cs.drop (f.off - o)).take f.sz) := by
  induction h with
  | @leaf α K x o =>
    intro cs hr f hf
    rw [List.mem_singleton.1 hf]
    have hl := K.len hr
    refine ⟨Nat.le_refl _, Nat.le_refl _, ?_⟩
    show K.R S w x ((cs.drop (o - o)).take K.sz)
    rw [Nat.sub_self, List.drop_zero, ← hl, List.take_length]; exact hr
  | @nil o =>
    intro cs hr f hf
    rw [List.mem_singleton.1 hf]
    refine ⟨Nat.le_refl _, Nat.le_refl _, ?_⟩
    have hr' : cs = [.slice none 0 0] := hr
    show (cs.drop (o - o)).take 1 = [.slice none 0 0]
    rw [hr', Nat.sub_self]; rfl
  | @pair α β a b x y o la lb _ _ ih1 ih2 =>
    intro cs hr f hf
    obtain ⟨c0, c1, rfl, h0, h1⟩ := hr
    have l0 := a.len h0
    have l1 := b.len h1
    have hsz : (kpair a b).sz = a.sz + b.sz := rfl
    rcases List.mem_append.1 hf with hf | hf
    · obtain ⟨g1, g2, g3⟩ := ih1 h0 f hf
      refine ⟨g1, by omega, ?_⟩
      rw [List.drop_append_of_le_length (by omega), List.take_append_of_le_length (by rw [List.length_drop]; omega)]
      exact g3
    · obtain ⟨g1, g2, g3⟩ := ih2 h1 f hf
      refine ⟨by omega, by omega, ?_⟩
      have : f.off - o = c0.length + (f.off - (o + a.sz)) := by omega
      rw [this, drop_app]
      exact g3
  | iso _ e ih =>
    intro cs hr f hf
    refine ih ?_ f hf
    rw [← e]; exact hr
theorem FieldsOf.bounds {α : Type} {K : Kn α} {x : α} {o : Nat} {l : List FA} (h : FieldsOf K x o l) : ∀ f, f ∈ l → o ≤ f.off ∧ f.off + f.sz ≤ o + K.sz := by
  induction h with
  | @leaf α K x o => intro f hf; rw [List.mem_singleton.1 hf]; exact ⟨Nat.le_refl _, Nat.le_refl _⟩
  | @nil o => intro f hf; rw [List.mem_singleton.1 hf]; exact ⟨Nat.le_refl _, Nat.le_refl _⟩
  | @pair α β a b x y o la lb _ _ ih1 ih2 =>
    intro f hf
    have hsz : (kpair a b).sz = a.sz + b.sz := rfl
    rcases List.mem_append.1 hf with hf | hf
    · have := ih1 f hf; exact ⟨by omega, by omega⟩
    · have := ih2 f hf; exact ⟨by omega, by omega⟩
  | iso _ e ih => exact fun f hf => ih f hf
theorem FieldsOf.back {θ : Nat → Nat} {S : Blk} {w : World} {α : Type} {K : Kn α} {x : α} {o : Nat} {l : List FA} (h : FieldsOf K x o l) : ∀ {cs : List Value}, cs.length = K.sz → (∀ f, f ∈ l → f.sem θ S w ((cs.drop (f.off - o)).take f.sz)) → K.R S w x cs ∧ ∀ f, f ∈ l → o ≤ f.off ∧ f.off + f.sz ≤ o + K.sz := by
  induction h with
  | @leaf α K x o =>
    intro cs hl hf
    have := hf (FA.k o K x) (by simp)
    have h2 : K.R S w x ((cs.drop (o - o)).take K.sz) := this
    rw [Nat.sub_self, List.drop_zero, ← hl, List.take_length] at h2
    exact ⟨h2, fun f hf => by rw [List.mem_singleton.1 hf]; exact ⟨Nat.le_refl _, Nat.le_refl _⟩⟩
  | @nil o =>
    intro cs hl hf
    have h2 : (cs.drop (o - o)).take 1 = [.slice none 0 0] := hf (FA.v o (.slice none 0 0)) (by simp)
    have hl' : cs.length = 1 := hl
    rw [Nat.sub_self, List.drop_zero, ← hl', List.take_length] at h2
    exact ⟨h2, fun f hf => by rw [List.mem_singleton.1 hf]; exact ⟨Nat.le_refl _, Nat.le_refl _⟩⟩
  | @pair α β a b x y o la lb q1 q2 ih1 ih2 =>
    intro cs hl hf
    have hsz : (kpair a b).sz = a.sz + b.sz := rfl
    have r1 : la = [] ∨ la ≠ [] := Classical.em _
    have h1 := ih1 (cs := cs.take a.sz) (by rw [List.length_take]; omega)
    have h2 := ih2 (cs := cs.drop a.sz) (by rw [List.length_drop]; omega)
    have bnd1 : ∀ f, f ∈ la → o ≤ f.off ∧ f.off + f.sz ≤ o + a.sz := fun f hm => q1.bounds f hm
    have bnd2 : ∀ f, f ∈ lb → o + a.sz ≤ f.off ∧ f.off + f.sz ≤ o + a.sz + b.sz := fun f hm => q2.bounds f hm
    obtain ⟨k1, _⟩ := h1 (fun f hm => by
      have := hf f (List.mem_append_left _ hm)
      have := bnd1 f hm
      rw [List.drop_take, List.take_take, Nat.min_eq_left (by omega)]
      assumption)
    obtain ⟨k2, _⟩ := h2 (fun f hm => by
      have := hf f (List.mem_append_right _ hm)
      have := bnd2 f hm
      rw [List.drop_drop, show a.sz + (f.off - (o + a.sz)) = f.off - o by omega]
      assumption)
    refine ⟨⟨_, _, (List.take_append_drop a.sz cs).symm, k1, k2⟩, fun f hm => ?_⟩
    rcases List.mem_append.1 hm with hm | hm
    · have := bnd1 f hm; exact ⟨by omega, by omega⟩
    · have := bnd2 f hm; exact ⟨by omega, by omega⟩
  | iso _ e ih =>
    intro cs hl hf
    obtain ⟨h1, h2⟩ := ih hl hf
    refine ⟨?_, h2⟩
    subst e
    exact h1
/-- Fields told anew: each is one that was told, or nothing is told of its place. -/
inductive Weak (fs : List FA) : List FA → Prop
  | nil : Weak fs []
  | keep {f : FA} {l : List FA} : f ∈ fs → Weak fs l → Weak fs (f :: l)
  | any {f : FA} {l : List FA} : f ∈ fs → Weak fs l → Weak fs (FA.any f.off f.sz :: l)
theorem Weak.out {fs fs' : List FA} (h : Weak fs fs') {θ : Nat → Nat} {S : Blk} {w : World} {cs : List Value} {m : Nat} (hf : ∀ f, f ∈ fs → f.off + f.sz ≤ m ∧ f.sem θ S w ((cs.drop f.off).take f.sz)) : ∀ f, f ∈ fs' → f.off + f.sz ≤ m ∧ f.sem θ S w ((cs.drop f.off).take f.sz) := by
  induction h with
  | nil => intro f h; cases h
  | keep h1 _ ih =>
    intro f h
    rcases List.mem_cons.1 h with rfl | h
    · exact hf _ h1
    · exact ih f h
  | any h1 _ ih =>
    intro f h
    rcases List.mem_cons.1 h with rfl | h
    · exact ⟨(hf _ h1).1, trivial⟩
    · exact ih f h
end Go.Proofs.Ytlpmolohppoofaa.Sl
/- Rows by number: their length, their elements, lent to be read. -/
set_option linter.unusedVariables false
set_option linter.unusedSimpArgs false
set_option linter.unnecessarySimpa false
set_option linter.deprecated false
namespace Go.Proofs.Ytlpmolohppoofaa.Sl
open Go Go.RowKit
section
variable {P : Program} {n d : Nat} {ty t t' : TypeId} {pos : String} {af : Array Edge} {g : Option (Nat × Bool)} {N : Ent → Prop}
theorem r_own {α : Type} {N : Ent → Prop} {x : Operand} {r : Nat} {e : TypeId} {K : Kn α} {xs : List α} (h : Arg N x (VA.rw r xs.length)) (ho : N (Ent.r r e K xs)) {θ : Nat → Nat} {S : Blk} {a : Act} {w : World} (hN : ∀ e, N e → ∃ ob, e.sem θ S ob a w) : ∃ ob, (VA.own e K xs).sem θ S ob w (a.eval x) := by
  obtain ⟨_, _, e1⟩ := h θ S a w hN
  obtain ⟨ob, h2⟩ := hN _ ho
  exact ⟨ob, by rw [e1]; exact h2⟩
theorem ReadsArg.rw {α : Type} {r : Nat} {e : TypeId} {K : Kn α} {x : Operand} {ys : List α} (h : Arg N x (VA.rw r ys.length)) (ho : N (Ent.r r e K ys)) : ReadsArg N K x ys := fun θ S a w hN => by
  obtain ⟨_, h1⟩ := r_own h ho hN
  exact reads_own h1
theorem ArgR.rw {α : Type} {r : Nat} {e : TypeId} {K : Kn α} {x : Operand} {ys : List α} (hp : Nat.blt 0 K.sz = true) (h : Arg N x (VA.rw r ys.length)) (ho : N (Ent.r r e K ys)) : ArgR N x (VA.k (kslice K) ys) := fun θ S a w R hN hS => by
  obtain ⟨_, _, e1⟩ := h θ S a w (fun e he => by obtain ⟨ob, h, _⟩ := hN e he; exact ⟨ob, h⟩)
  obtain ⟨ob, h2, hb⟩ := hN _ ho
  rw [e1]
  exact own_reads (θ := θ) h2 hS hb (blt_lt hp)
theorem ArgB.rw {α : Type} {r : Nat} {e : TypeId} {K : Kn α} {x : Operand} {ys : List α} (hp : Nat.blt 0 K.sz = true) (h : Arg N x (VA.rw r ys.length)) (ho : N (Ent.r r e K ys)) : ArgB N x (VA.k (kslice K) ys) := fun θ S a w hN hS => by
  obtain ⟨_, _, e1⟩ := h θ S a w (fun e he => by obtain ⟨ob, h, _⟩ := hN e he; exact ⟨ob, h⟩)
  obtain ⟨ob, h2, hb⟩ := hN _ ho
  rw [e1]
  exact own_reads (θ := θ) h2 hS hb (blt_lt hp)
end
end Go.Proofs.Ytlpmolohppoofaa.Sl
/- Struct values that are known field by field: built, and stored whole. -/
set_option linter.unusedVariables false
set_option linter.unusedSimpArgs false
set_option linter.unnecessarySimpa false
set_option linter.deprecated false
namespace Go.Proofs.Ytlpmolohppoofaa.Sl
open Go Go.RowKit
def FA.whole (m : Nat) (fs : List FA) : FA where
  off := 0
  sz := m
  ids := fs.flatMap (·.ids)
  sem := fun θ S w cs => ∀ f, f ∈ fs → f.off + f.sz ≤ m ∧ f.sem θ S w ((cs.drop f.off).take f.sz)
  move := fun h hA hS hi f hf => ⟨(h f hf).1, f.move (h f hf).2 hA hS (fun k hk => hi k (List.mem_flatMap.2 ⟨f, hf, hk⟩))⟩
def VA.fl (m : Nat) (fs : List FA) : VA where
  ids := fs.flatMap (·.ids)
  sem := fun θ S ob w v => ob = bk none ∧ v.cells.size = m ∧ (∀ u, u ∈ v.cells.toList → u.oneCell' = true) ∧ (FA.whole m fs).sem θ S w v.cells.toList
  move := by rintro θ θ' S S' ob w w' v ⟨h0, h1, h2, h3⟩ hA hS _ hi; exact ⟨h0, h1, h2, (FA.whole m fs).move h3 hA hS hi⟩
/-- What an operand gives a field. -/
structure GivesF (P : Program) (ft : TypeId) (A : VA) (fa : FA) : Prop where
  plain : Plain A
  sz : P.cellsOf ft = fa.sz
  val : ∀ θ S w v, A.sem θ S (bk none) w v → v.cells.size = fa.sz ∧ (∀ u, u ∈ v.cells.toList → u.oneCell' = true) ∧ fa.sem θ S w v.cells.toList
inductive FLParts (N : Ent → Prop) (P : Program) (fs : Array Field) : List (Nat × Operand) → List FA → List FA → Prop
  | nil (fl : List FA) : FLParts N P fs [] fl fl
  | cons {j : Nat} {f : Field} {o : Operand} {A : VA} (l1 : List FA) {fa : FA} (fa' : FA) (l2 : List FA) {ps : List (Nat × Operand)} {r : List FA} : fs[j]? = some f → fa.off = f.offset → fa'.off = f.offset → fa.sz = fa'.sz → GivesF P f.type A fa' → (l1 ++ l2).all (fun g => Nat.ble (g.off + g.sz) f.offset || Nat.ble (f.offset + fa'.sz) g.off) = true → Arg N o A → FLParts N P fs ps (l1 ++ fa' :: l2) r → FLParts N P fs ((j, o) :: ps) (l1 ++ fa :: l2) r
end Go.Proofs.Ytlpmolohppoofaa.Sl
/- Small laws: boxes of rows that are laid; parts of fields; places in a row. -/
set_option linter.unusedVariables false
set_option linter.unusedSimpArgs false
set_option linter.unnecessarySimpa false
set_option linter.deprecated false
namespace Go.Proofs.Ytlpmolohppoofaa.Sl
open Go Go.RowKit
def inrow {α : Type} (l : List α) (i : Int) : Option Unit := if 0 ≤ i ∧ i ≤ l.length then some () else none
theorem inrow_spec {α : Type} {l : List α} {i : Int} {z : Unit} (h : inrow l i = some z) : 0 ≤ i ∧ i ≤ l.length := by
  unfold inrow at h
  split at h
  · assumption
  · cases h
section
variable {P : Program} {n d : Nat} {ty t t' : TypeId} {pos : String} {af : Array Edge} {g : Option (Nat × Bool)} {N : Ent → Prop}
theorem op_buildSlice0 {α : Type} {e : TypeId} {K : Kn α} {bytes : Nat} (hd : Nat.blt d n = true) (hT : AT P t e K bytes) :
    OpSpec P n ⟨some d, .buildSlice t 0 #[], ty, pos, af, g⟩ N [Ent.t d (VA.own e K [])] := by
  rintro c Γ a w Q rfl hN ⟨h1, h2, h3, θ, S, h4, h5⟩
  obtain ⟨i, z, hi, hz, hs, hby, hzs⟩ := hT.i
  have hrun : (execOp a.eval ⟨some d, .buildSlice t 0 #[], ty, pos, af, g⟩).run P w = .ok (.value (.slice (some ⟨w.heap.size, 0, none⟩) 0 0)) (w.alloc (.cells #[] e)) := by
    clear hN h1 h2 h5
    generalize a.eval = ρ at *
    simp [execOp, Instr.buildSlice, run_underlying hT.u, sizeOf, typeInfo, hi, Instr.fill, newRow, Sem.run_bind, Sem.run_pure, Result.andThen_ok]
    rw [show Array.map (fun x => (default : Value)) (Array.range 0) = #[] from Array.eq_empty_of_size_eq_zero (by simp)]
  have hrow := World.ownsRow_lit (base := 0) (e := e) (size := K.sz) w #[] 0 (Nat.zero_le _) (Nat.zero_le _) (by simp)
  have hdn := blt_lt hd
  unfold Oper.wp
  rw [hrun]
  show Inv c _ (a.put (some d) _) _
  refine ⟨by rw [put_defers]; exact h1, by rw [put_size]; exact h2, h3.alloc _, θ, S, h4.grow (by simp), ?_⟩
  refine sat_consB (b := w.heap.size) (dead_nil _) ?_ ⟨fun hS => (by have := (h4 _ hS).1; omega), by simp, .inl h3.size⟩ ?_
  · show (VA.own e K []).sem θ S _ _ ((a.put (some d) _).tmps.getD d undef)
    rw [put_getD_self (by omega)]
    refine ⟨rfl, [], hrow, fun j p hj => by simp at hj⟩
  · refine sat_mono (sat_move (ks := [d]) (sat_mono h5 (fun k hk => by cases hk) (fun b hb => hb)) (agree_alloc h4 _) (fun b hb => hb) (fun b hb => Below.heap_alloc _ _ _ hb.2.1) (fun t ht => put_getD_ne (fun e => ht (by simp [e]))) (fun k hk => rfl)) (fun k hk => hk) (fun b hb => ⟨⟨hb.1, by have := hb.2.1; simp; omega, hb.2.2⟩, by have := hb.2.1; omega⟩)
end
end Go.Proofs.Ytlpmolohppoofaa.Sl
/- Rows cut to their own length: what is appended to them goes into a row of its own. -/
set_option linter.unusedVariables false
set_option linter.unusedSimpArgs false
set_option linter.unnecessarySimpa false
set_option linter.deprecated false
namespace Go.Proofs.Ytlpmolohppoofaa.Sl
open Go Go.RowKit
end Go.Proofs.Ytlpmolohppoofaa.Sl
namespace Go.Proofs.Ytlpmolohppoofaa.Sl
/-- Two fuels at once. -/
theorem Tends.diag {α : Type} {f : Nat → Nat → Option α} {g : Nat → Option α} {b : Option α} (h : ∀ K, Tends (fun j => f K j) (g K)) (hm : ∀ {K K' : Nat}, K ≤ K' → ∀ j, Le (f K j) (f K' j)) (hv : Tends g b) : Tends (fun k => f k k) b :=
  ⟨fun k r hr => hv.1 k r ((h k).1 k r hr), fun r hr => by
    obtain ⟨K0, h0⟩ := hv.2 r hr
    obtain ⟨J, hJ⟩ := (h K0).2 r (h0 K0 (Nat.le_refl _))
    exact ⟨max K0 J, fun k hk => hm (Nat.le_trans (Nat.le_max_left _ _) hk) k r (hJ k (Nat.le_trans (Nat.le_max_right _ _) hk))⟩⟩
end Go.Proofs.Ytlpmolohppoofaa.Sl
/- A range over a string: its iterator stands in a block that the frame alone writes. -/
set_option linter.unusedVariables false
set_option linter.unusedSimpArgs false
set_option linter.unnecessarySimpa false
set_option linter.deprecated false
namespace Go.Proofs.Ytlpmolohppoofaa.Sl
open Go Go.RowKit
def HE.iter (s : ByteArray) (pos : Nat) : HE where
  ids := []
  sem := fun _ b _ w => w.heap[b]? = some (.stringIter s pos)
  move := fun h _ _ hb _ => hb.trans h
def nxPos (s : ByteArray) (pos : Nat) : Nat := bif decide (pos < s.size) then pos + (Utf8.decode s pos).2 else pos
/-- What 'next' gives at a place of a string. -/
def VA.nx (s : ByteArray) (pos : Nat) : VA where
  ids := []
  sem := fun _ _ ob _ v => ob = bk none ∧ v = .tuple (bif decide (pos < s.size) then #[.bool true, .int .i64 (pos : Int), .int .i32 ((Utf8.decode s pos).1 : Int)] else #[.bool false])
  move := fun h _ _ _ _ => h
section
variable {P : Program} {n d : Nat} {ty t : TypeId} {pos : String} {af : Array Edge} {g : Option (Nat × Bool)} {N : Ent → Prop}
theorem inv_turn {c : Ctx} {Γ : List Ent} {a : Act} {w : World} {id : Nat} {H : HE} {θ : Nat → Nat} {S : Blk} {H0 : HE} {U : Array Obj} (h1 : a.defers = c.df) (h2 : a.tmps.size = c.n ∧ c.n ≤ 1000000) (h3 : Fr c.X c.w0 w) (h4 : SOk c S w) (hfree : free c S w (θ id))
    (h6 : sat θ S a w [(Ent.h id H0).key] Γ (fun b => free c S w b ∧ some (θ id) ≠ some b)) (hsz : U.size = w.heap.size) (hne : ∀ b, b ≠ θ id → U[b]? = w.heap[b]?) (hH : H.sem θ (θ id) S { w with heap := U }) : Inv c ([Ent.h id H] ++ Γ) a { w with heap := U } := by
  have hag : Agree S w { w with heap := U } := fun b hs => hne b (fun e => hfree.1 (e ▸ hs))
  have hsz' : ({ w with heap := U } : World).heap.size = w.heap.size := hsz
  refine ⟨h1, h2, ⟨h3.os, h3.tape, h3.output, by rw [hsz']; exact h3.size, fun k hk hx => (hne k (fun e => ?_)).trans (h3.block k hk hx)⟩, θ, S, h4.grow (by rw [hsz']; exact Nat.le_refl _), ?_⟩
  · rcases hfree.2.2 with h | h
    · rw [← e] at h; omega
    · exact hx (e ▸ h)
  · refine sat_consB (b := θ id) (dead_nil _) ⟨rfl, hH⟩ ⟨hfree.1, by rw [hsz']; exact hfree.2.1, hfree.2.2⟩ ?_
    refine sat_mono (sat_move h6 hag (fun b hb => hb) (fun b hb => hne b (fun e => hb.2 (by rw [e]))) (fun t _ => rfl) (fun k _ => rfl)) (fun k hk => hk) (fun b hb => ⟨⟨hb.1.1, by rw [hsz']; exact hb.1.2.1, hb.1.2.2⟩, fun e => hb.2 (by rw [e])⟩)
theorem op_range {s : ByteArray} {o : Operand} (id : Nat) (hd : Nat.blt d n = true) (hu : P.underlying t = some .string) (ho : Arg N o (VA.k kstr s)) : OpSpec P n ⟨some d, .range t o, ty, pos, af, g⟩ N [Ent.t d (VA.ptr id 0), Ent.h id (HE.iter s 0), Ent.bind id] := by
  rintro c Γ a w Q rfl hN ⟨h1, h2, h3, θ, S, h4, h5⟩
  obtain ⟨_, hv⟩ := ho θ S a w (sems hN h5)
  have e1 := k_str hv
  have hrun : (execOp a.eval ⟨some d, .range t o, ty, pos, af, g⟩).run P w = .ok (.value (.pointer (some ⟨w.heap.size, 0, none⟩))) (w.alloc (.stringIter s 0)) := by
    have e := run_range_string (P := P) w t s hu
    clear hv hN ho h1 h2 h5
    generalize a.eval = ρ at *
    simp [execOp, e1, e, World.iter, Sem.run_bind, Sem.run_pure, Result.andThen_ok]
  unfold Oper.wp
  rw [hrun]
  exact inv_box hd h1 h2 h3 h4 h5 _ (fun θ' h => ⟨rfl, by rw [h]⟩) (fun θ' _ _ => heap_alloc_new w _)
theorem op_next {s : ByteArray} {p id : Nat} {o : Operand} (hd : Nat.blt d n = true) (ho : Arg N o (VA.ptr id 0)) (hb : N (Ent.h id (HE.iter s p))) : OpSpec P n ⟨some d, .next o true, ty, pos, af, g⟩ N [Ent.t d (VA.nx s p), Ent.h id (HE.iter s (nxPos s p))] := by
  rintro c Γ a w Q rfl hN ⟨h1, h2, h3, θ, S, h4, h5⟩
  have hN2 := sems hN h5
  obtain ⟨_, _, e1⟩ := ho θ S a w hN2
  obtain ⟨ob, ⟨rfl, hk⟩, hav, h6⟩ := sat_take (hN _ hb) h5
  have hfree := hav _ rfl
  have hk' : w.heap[θ id]? = some (.stringIter s p) := hk
  have hlt : θ id < w.heap.size := (Array.getElem?_eq_some_iff.1 hk').1
  have e1' : a.eval o = .pointer (some ⟨θ id, 0, none⟩) := e1
  by_cases h : p < s.size
  · have hrun : (execOp a.eval ⟨some d, .next o true, ty, pos, af, g⟩).run P w = .ok (.value (.tuple #[.bool true, .int .i64 (p : Int), .int .i32 ((Utf8.decode s p).1 : Int)])) { w with heap := w.heap.setIfInBounds (θ id) (.stringIter s (p + (Utf8.decode s p).2)) } := by
      clear hN hN2 ho hb h1 h2 h5 h6 e1
      generalize a.eval = ρ at *
      simp only [execOp, e1', Instr.next, getObj, setObj, Sem.run_bind, Sem.run, hk', Result.andThen, h, if_true]
      simp [goInt]
    unfold Oper.wp
    rw [hrun]
    obtain ⟨k1, k2, k3, θ', S', k4, k5⟩ := inv_turn (H := HE.iter s (nxPos s p)) (U := w.heap.setIfInBounds (θ id) (.stringIter s (p + (Utf8.decode s p).2))) h1 h2 h3 h4 hfree h6 (by simp) (fun b hb => by rw [Array.getElem?_setIfInBounds, if_neg (fun e => hb e.symm)]) (by
      show (w.heap.setIfInBounds (θ id) (.stringIter s (p + (Utf8.decode s p).2)))[θ id]? = some (.stringIter s (nxPos s p))
      unfold nxPos
      rw [decide_eq_true h]
      simp [hlt])
    exact inv_put hd k1 k2 k3 k4 k5 rfl ⟨rfl, by rw [decide_eq_true h]; rfl⟩
  · have hrun : (execOp a.eval ⟨some d, .next o true, ty, pos, af, g⟩).run P w = .ok (.value (.tuple #[.bool false])) w := by
      clear hN hN2 ho hb h1 h2 h5 h6 e1
      generalize a.eval = ρ at *
      simp [execOp, e1', Instr.next, getObj, Sem.run_bind, Sem.run, hk', h]
    unfold Oper.wp
    rw [hrun]
    obtain ⟨k1, k2, k3, θ', S', k4, k5⟩ := inv_turn (H := HE.iter s (nxPos s p)) (U := w.heap) h1 h2 h3 h4 hfree h6 rfl (fun b hb => rfl) (by
      show w.heap[θ id]? = some (.stringIter s (nxPos s p))
      unfold nxPos
      rw [decide_eq_false h]
      exact hk')
    exact inv_put hd k1 k2 k3 k4 k5 rfl ⟨rfl, by rw [decide_eq_false h]; rfl⟩
theorem op_extract_nx0 {s : ByteArray} {p q : Nat} (hd : Nat.blt d n = true) (h : N (Ent.t q (VA.nx s p))) : OpSpec P n ⟨some d, .extract (.tmp q) 0, ty, pos, af, g⟩ N [Ent.t d (VA.k kbool (decide (p < s.size)))] := op_pure hd fun θ S act w hN => by
  obtain ⟨_, _, e1⟩ := hN _ h
  have e1' : act.eval (.tmp q) = .tuple (bif decide (p < s.size) then #[.bool true, .int .i64 (p : Int), .int .i32 ((Utf8.decode s p).1 : Int)] else #[.bool false]) := e1
  refine ⟨.bool (decide (p < s.size)), ?_, mk_bool _ _ _ _⟩
  clear e1 hN
  generalize act.eval = ρ at *
  cases hb : decide (p < s.size) <;> simp [execOp, Instr.extract, e1', hb, Sem.run_bind, Sem.run_pure, Result.andThen_ok]
theorem op_extract_nx1 {s : ByteArray} {p q : Nat} (hd : Nat.blt d n = true) (hb : decide (p < s.size) = true) (h : N (Ent.t q (VA.nx s p))) : OpSpec P n ⟨some d, .extract (.tmp q) 1, ty, pos, af, g⟩ N [Ent.t d (VA.k (kint .i64) (p : Int))] := op_pure hd fun θ S act w hN => by
  obtain ⟨_, _, e1⟩ := hN _ h
  have e1' : act.eval (.tmp q) = .tuple (bif decide (p < s.size) then #[.bool true, .int .i64 (p : Int), .int .i32 ((Utf8.decode s p).1 : Int)] else #[.bool false]) := e1
  refine ⟨.int .i64 (p : Int), ?_, rfl, _, rfl, rfl⟩
  clear e1 hN
  generalize act.eval = ρ at *
  simp [execOp, Instr.extract, e1', hb, Sem.run_bind, Sem.run_pure, Result.andThen_ok]
theorem op_extract_nx2 {s : ByteArray} {p q : Nat} (hd : Nat.blt d n = true) (hb : decide (p < s.size) = true) (h : N (Ent.t q (VA.nx s p))) : OpSpec P n ⟨some d, .extract (.tmp q) 2, ty, pos, af, g⟩ N [Ent.t d (VA.k (kint .i32) ((Utf8.decode s p).1 : Int))] := op_pure hd fun θ S act w hN => by
  obtain ⟨_, _, e1⟩ := hN _ h
  have e1' : act.eval (.tmp q) = .tuple (bif decide (p < s.size) then #[.bool true, .int .i64 (p : Int), .int .i32 ((Utf8.decode s p).1 : Int)] else #[.bool false]) := e1
  refine ⟨.int .i32 ((Utf8.decode s p).1 : Int), ?_, rfl, _, rfl, rfl⟩
  clear e1 hN
  generalize act.eval = ρ at *
  simp [execOp, Instr.extract, e1', hb, Sem.run_bind, Sem.run_pure, Result.andThen_ok]
theorem Arg.fn {F : FuncId} : Arg N (.func F) (VA.clo F [] []) := fun θ S a w hN => ⟨bk none, rfl, ⟨rfl, rfl⟩, [], [], rfl, trivial, trivial⟩
end
end Go.Proofs.Ytlpmolohppoofaa.Sl
/- Structs compared with ==. -/
set_option linter.unusedVariables false
set_option linter.unusedSimpArgs false
set_option linter.unnecessarySimpa false
set_option linter.deprecated false
namespace Go.Proofs.Ytlpmolohppoofaa.Sl
open Go Go.RowKit
end Go.Proofs.Ytlpmolohppoofaa.Sl
/- slices.Sort and slices.Compact at []string: a lent row is sorted; a row is consumed and comes back cut. Between the shelf's words and the frame's. -/
set_option linter.unusedVariables false
set_option linter.unusedSimpArgs false
set_option linter.unnecessarySimpa false
set_option linter.deprecated false
namespace Go.Proofs.Ytlpmolohppoofaa.Sl
open Go Go.RowKit Go.Sort
def toB (x : ByteArray) : List UInt8 := x.data.toList
def ofB (l : List UInt8) : ByteArray := ⟨l.toArray⟩
theorem encStr_toB (x : ByteArray) : encStr (toB x) = .string x := rfl
/-- The list in order. -/
def sortB (xs : List ByteArray) : List ByteArray := ((xs.map toB).mergeSort fun x y => decide (x ≤ y)).map ofB
/-- One of each run of equals. -/
def compactB (xs : List ByteArray) : List ByteArray := (Lib.compact (xs.map toB)).map ofB
theorem own_str {θ : Nat → Nat} {S : Blk} {ob : Blk} {w : World} {v : Value} {e : TypeId} {xs : List ByteArray} (h : (VA.own e kstr xs).sem θ S ob w v) : ob = bk v.ownBlock ∧ w.ownsRow 0 e 1 v xs.length ((xs.map toB).map encStr) := by
  obtain ⟨h0, inner, ho, hr⟩ := h
  refine ⟨h0, ?_⟩
  have hl : inner.length = xs.length := by have := ho.1; simpa [kstr, Kn.scalar] using this
  have : inner = (xs.map toB).map encStr := by
    apply List.ext_getElem (by simp [hl])
    intro j h1 h2
    have hj : j < xs.length := by rw [← hl]; exact h1
    have h3 := hr j xs[j] (List.getElem?_eq_getElem hj)
    have h4 : (inner.drop (j * 1)).take 1 = [.string xs[j]] := h3
    rw [Nat.mul_one, List.drop_eq_getElem_cons h1] at h4
    simp only [List.take_succ_cons, List.take_zero, List.cons.injEq, and_true] at h4
    rw [h4]; simp [encStr_toB]
  rw [← this]
  exact ho
theorem str_own {θ : Nat → Nat} {S : Blk} {w : World} {v : Value} {e : TypeId} {ts : List (List UInt8)} (h : w.ownsRow 0 e 1 v ts.length (ts.map encStr)) : (VA.own e kstr (ts.map ofB)).sem θ S (bk v.ownBlock) w v := by
  refine ⟨rfl, ts.map encStr, by rw [List.length_map]; exact h, fun j p hj => ?_⟩
  have hlt : j < ts.length := by have := (List.getElem?_eq_some_iff.1 hj).1; simpa using this
  have hp : p = ofB ts[j] := by
    rw [List.getElem?_map, List.getElem?_eq_getElem hlt] at hj
    exact (Option.some.inj hj).symm
  show ((ts.map encStr).drop (j * 1)).take 1 = [.string p]
  rw [Nat.mul_one, List.drop_eq_getElem_cons (by simpa using hlt), hp]
  simp [encStr, ofB]
theorem fr_sorted {w : World} {g n : Nat} {X : List Nat} {os : Array Obj} (d : Array (List UInt8)) (hg : g ∈ X) : Fr X w (grow (putRow encStr (Sort.ahead w n) g 0 d) os) := by
  obtain ⟨h1, h2, h3, h4, h5⟩ := grownBy_sorted (w := w) (g := g) (n := n) (os := os) d
  exact ⟨h1, h2, h3, h4, fun k hk hx => h5 k hk (fun e => hx (by rw [Option.some.inj e]; exact hg))⟩
section
variable {P : Program} {F : FuncId} {e : TypeId}
theorem conE_sort (id : Nat) (hS : ∀ (blk off cap : Nat) (ss : List (List UInt8)) (w : World), Holds encStr w blk off ss.toArray → blk < w.heap.size → ss.length < 4611686018427387904 →
      Calls P F #[.slice (some ⟨blk, off, none⟩) ss.length cap] w fun e w' => e = .returned (.tuple #[]) ∧ ∃ n os, w' = grow (putRow encStr (Sort.ahead w n) blk off (ss.mergeSort fun x y => decide (x ≤ y)).toArray) os)
    (h0 : ∀ (p : Option Addr) (cap : Nat) (w : World), Calls P F #[.slice p 0 cap] w fun e w' => e = .returned (.tuple #[]) ∧ w' = w)
    (xs : List ByteArray) (hx : xs.length < 4611686018427387904) : ConE P F [id, 500000 + id] [Ent.r id e kstr xs] [VA.rw id xs.length] [] [Ent.r id e kstr (sortB xs)] := fun θ S w vs X hS' hX hpre ha => by
  match vs, ha with
  | [v0], ha =>
    obtain ⟨⟨_, hv0⟩, _⟩ := ha
    have hlen : (sortB xs).length = xs.length := by simp [sortB]
    have hpre' := hpre
    unfold sat at hpre'
    rw [if_neg (by simp [dead])] at hpre'
    obtain ⟨ob, hown, hob, _⟩ := hpre'
    obtain ⟨hob2, hrow⟩ := own_str (θ := θ) (S := S) hown
    rw [← hv0] at hrow hob2
    rcases hrow.2 with ⟨hnil, hz⟩ | ⟨g, cap, cur, hv, hb0, hb, h1, h2, h3, h4⟩
    · have hxs : xs = [] := List.length_eq_zero_iff.1 hz
      rw [hnil]
      refine (h0 none 0 w).mono ?_
      rintro e' w' ⟨rfl, rfl⟩
      refine ⟨[], fun _ => False, θ, rfl, Fr.refl _ _, fun b hb => hb.elim, fun k hk => rfl, ?_⟩
      have hs : sortB xs = xs := by rw [hxs]; simp [sortB]
      show sat θ _ act0 w' [] [Ent.r id e kstr (sortB xs)] _
      rw [hs]
      exact sat_mono (sat_move hpre (Agree.refl _ _) (fun b hb => .inl hb) (fun b _ => rfl) (fun t _ => rfl) (fun k _ => rfl)) (fun k hk => hk) (fun b hb => ⟨.inr hb, fun h => h.elim⟩)
    · have hg : g ∈ X := by
        rw [hv] at hob2
        exact hob g (by rw [hob2]; rfl)
      rw [hv]
      have hH := holds_of_block (ss := xs.map toB) hb (by rw [List.length_map, ← Nat.mul_one xs.length]; exact h4)
      have hC := hS g 0 cap (xs.map toB) w hH (Array.getElem?_eq_some_iff.1 hb).1 (by simpa using hx)
      rw [List.length_map] at hC
      refine hC.mono ?_
      rintro e' w' ⟨rfl, n, os, rfl⟩
      refine ⟨[], fun _ => False, θ, rfl, fr_sorted _ hg, fun b hb => hb.elim, fun k hk => rfl, ?_⟩
      have ho := ownsRow_sorted (n := n) (os := os) (ss := xs.map toB) (ts := (xs.map toB).mergeSort fun x y => decide (x ≤ y)) (by simp) hb0 hb (by simpa using h1) h2 h3
      have ho2 : (grow (putRow encStr (Sort.ahead w n) g 0 ((xs.map toB).mergeSort fun x y => decide (x ≤ y)).toArray) os).ownsRow 0 e 1 (.slice (some ⟨g, 0, none⟩) xs.length cap) ((xs.map toB).mergeSort fun x y => decide (x ≤ y)).length (((xs.map toB).mergeSort fun x y => decide (x ≤ y)).map encStr) := by
        have := ho
        rw [List.length_map] at this
        rw [show ((xs.map toB).mergeSort fun x y => decide (x ≤ y)).length = xs.length by simp]
        exact this
      refine sat_consO (ob := bk (some g)) (by simp [dead]) ?_ (fun b hb' => ?_) trivial
      · show (VA.own e kstr (sortB xs)).sem θ _ (bk (some g)) _ (rowVal (θ id) (θ (500000 + id)) (sortB xs).length)
        rw [hlen, ← hv0, hv]
        exact str_own (θ := θ) ho2
      · obtain rfl := Option.some.inj hb'
        exact ⟨.inr hg, fun h => h.elim⟩
theorem compact_le (zs : List (List UInt8)) : (Lib.compact zs).length ≤ zs.length := by
  unfold Lib.compact Lib.compactUpTo
  rw [List.length_map]
  exact Nat.le_trans (List.length_filter_le _ _) (by simp)
theorem conE_compact (id : Nat) (hS : ∀ (blk off cap : Nat) (zs : List (List UInt8)) (w : World), Holds encStr w blk off zs.toArray → zs.length ≤ 9223372036854775807 → zs.length ≤ cap →
      Calls P F #[.slice (some ⟨blk, off, none⟩) zs.length cap] w fun e w' => e = .returned (.slice (some ⟨blk, off, none⟩) (Lib.compact zs).length cap) ∧ ∃ q, w' = putRow encStr (Sort.ahead w q) blk off (Lib.compact zs ++ List.replicate (zs.length - (Lib.compact zs).length) []).toArray)
    (h0 : ∀ (a : Option Addr) (cap : Nat) (w : World), Calls P F #[.slice a 0 cap] w fun e w' => e = .returned (.slice a 0 cap) ∧ w' = w)
    (xs : List ByteArray) : ConE P F [] [Ent.r id e kstr xs] [VA.rw id xs.length] [VA.own e kstr (compactB xs)] [] := fun θ S w vs X hS' hX hpre ha => by
  match vs, ha with
  | [v0], ha =>
    obtain ⟨⟨_, hv0⟩, _⟩ := ha
    have hpre' := hpre
    unfold sat at hpre'
    rw [if_neg (by simp [dead])] at hpre'
    obtain ⟨ob, hown, hob, _⟩ := hpre'
    obtain ⟨hob2, hrow⟩ := own_str (θ := θ) (S := S) hown
    rw [← hv0] at hrow hob2
    rcases hrow.2 with ⟨hnil, hz⟩ | ⟨g, cap, cur, hv, hb0, hb, h1, h2, h3, h4⟩
    · have hxs : xs = [] := List.length_eq_zero_iff.1 hz
      rw [hnil]
      refine (h0 none 0 w).mono ?_
      rintro e' w' ⟨rfl, rfl⟩
      refine ⟨[.slice none 0 0], fun _ => False, θ, rfl, Fr.refl _ _, fun b hb => hb.elim, fun k hk => (by cases hk), bk none, ?_, fun b hb => (by cases hb), trivial⟩
      have hs : compactB xs = [] := by rw [hxs]; simp [compactB, Lib.compact, Lib.compactUpTo]
      rw [hs]
      exact str_own (θ := θ) (ts := []) ⟨rfl, .inl ⟨rfl, rfl⟩⟩
    · have hg : g ∈ X := by
        rw [hv] at hob2
        exact hob g (by rw [hob2]; rfl)
      rw [hv]
      have hH := holds_of_block (ss := xs.map toB) hb (by rw [List.length_map, ← Nat.mul_one xs.length]; exact h4)
      have hC := hS g 0 cap (xs.map toB) w hH (by rw [List.length_map]; have : maxLen = 9223372036854775807 := rfl; omega) (by rw [List.length_map]; exact h1)
      rw [List.length_map] at hC
      refine hC.mono ?_
      rintro e' w' ⟨rfl, q, rfl⟩
      have hcl := compact_le (xs.map toB)
      rw [List.length_map] at hcl
      have hfr := fr_sorted (w := w) (n := q) (os := #[]) (Lib.compact (xs.map toB) ++ List.replicate (xs.length - (Lib.compact (xs.map toB)).length) []).toArray hg
      have hhp := heap_sorted (n := q) (os := #[]) (Lib.compact (xs.map toB) ++ List.replicate (xs.length - (Lib.compact (xs.map toB)).length) []).toArray hb
      rw [grow_empty] at hfr hhp
      refine ⟨[.slice (some ⟨g, 0, none⟩) (Lib.compact (xs.map toB)).length cap], fun _ => False, θ, rfl, hfr, fun b hb => hb.elim, fun k hk => (by cases hk), bk (some g), ?_, fun b hb' => ?_, trivial⟩
      · refine str_own (θ := θ) (ts := Lib.compact (xs.map toB)) ⟨by simp, .inr ⟨g, cap, _, rfl, hb0, hhp, by omega, h2, by simp [putCells, h3], ?_⟩⟩
        have ht := take_putCells cur (Lib.compact (xs.map toB) ++ List.replicate (xs.length - (Lib.compact (xs.map toB)).length) []) (by simp; omega)
        have ht2 := congrArg (List.take (Lib.compact (xs.map toB)).length) ht
        rw [List.take_take, List.map_append, List.take_left' (by simp), Nat.min_eq_left (by simp)] at ht2
        rw [Nat.mul_one]
        exact ht2
      · obtain rfl := Option.some.inj hb'
        exact ⟨.inr hg, fun h => h.elim⟩
end
theorem sortB_length (xs : List ByteArray) : (sortB xs).length = xs.length := by simp [sortB]
end Go.Proofs.Ytlpmolohppoofaa.Sl
/- slices.Insert of one element into a row that is consumed. -/
set_option linter.unusedVariables false
set_option linter.unusedSimpArgs false
set_option linter.unnecessarySimpa false
set_option linter.deprecated false
namespace Go.Proofs.Ytlpmolohppoofaa.Sl
open Go Go.RowKit
section
variable {P : Program} {F : FuncId} {t e : TypeId}
/-- What a text of Ins.tpl shows. -/
structure InsAt (P : Program) (F : FuncId) (t e : TypeId) : Prop where
  cells : ∀ (cur X Y C : List Value) (n i : Nat), i < n → (n + 1) * 3 ≤ cur.length → cur.take (i * 3) = X → Y.length = 3 → C.length = (n - i) * 3 →
    (splice (splice cur ((i + 1) * 3) C) (i * 3) Y).take ((n + 1) * 3) = X ++ (Y ++ C) ∧ (splice (splice cur (i * 3) Y) ((i + 1) * 3) C).take ((n + 1) * 3) = X ++ (Y ++ C)
  shift : ∀ (g n c i vb vc : Nat) (cur Y YC : List Value) (w : World), i < n → n + 1 ≤ c → c ≤ 9223372036854775807 → vb ≠ g → cur.length = c * 3 → Y.length = 3 →
    w.heap[g]? = some (.cells cur.toArray e (0, 0)) → w.heap[vb]? = some (.cells YC.toArray e (0, 0)) → YC.take 3 = Y → (∀ u ∈ (cur.drop (i * 3)).take ((n - i) * 3), u.oneCell' = true) → (∀ u ∈ Y, u.oneCell' = true) →
    Calls P F #[.slice (some ⟨g, 0, none⟩) n c, .int .i64 i, .slice (some ⟨vb, 0, none⟩) 1 vc] w fun e_ w' =>
      e_ = .returned (.slice (some ⟨g, 0, none⟩) (n + 1) c) ∧ w'.heap[g]? = some (.cells (splice (splice cur ((i + 1) * 3) ((cur.drop (i * 3)).take ((n - i) * 3))) (i * 3) Y).toArray e (0, 0)) ∧ w.grownBy w' (some g)
  grow : ∀ (g n c i vb vc : Nat) (cur Y YC : List Value) (w : World), i < n → n ≤ c → c < n + 1 → c ≤ 9223372036854775807 → (n + 1) * 40 ≤ 140737488355328 → vb ≠ g → cur.length = c * 3 → Y.length = 3 →
    w.heap[g]? = some (.cells cur.toArray e (0, 0)) → w.heap[vb]? = some (.cells YC.toArray e (0, 0)) → YC.take 3 = Y → (∀ u ∈ (cur.drop (i * 3)).take ((n - i) * 3), u.oneCell' = true) → (∀ u ∈ Y, u.oneCell' = true) →
    Calls P F #[.slice (some ⟨g, 0, none⟩) n c, .int .i64 i, .slice (some ⟨vb, 0, none⟩) 1 vc] w fun e_ w' =>
      ∃ G ROW, e_ = .returned (.slice (some ⟨w.heap.size, 0, none⟩) (n + 1) G) ∧ n + 1 ≤ G ∧ G ≤ maxLen ∧ ROW.length = G * 3 ∧ ROW.take (i * 3) = cur.take (i * 3) ∧ w'.heap[w.heap.size]? = some (.cells (splice (splice ROW (i * 3) Y) ((i + 1) * 3) ((cur.drop (i * 3)).take ((n - i) * 3))).toArray e (0, 0)) ∧ Below w.heap.size w w'
  last : ∀ (A : Option Addr) (n c vb vc : Nat) (w w' : World) (v' : Value), n ≤ c → c ≤ 9223372036854775807 → (A = none → n = 0) → (Builtin.append_ #[t, t] t #[.slice A n c, .slice (some ⟨vb, 0, none⟩) 1 vc]).run P w = .ok v' w' →
    Calls P F #[.slice A n c, .int .i64 n, .slice (some ⟨vb, 0, none⟩) 1 vc] w fun e_ wx => e_ = .returned v' ∧ wx = w'
end
end Go.Proofs.Ytlpmolohppoofaa.Sl
/- Bytes as a string; the length of a numbered row under another term. -/
set_option linter.unusedVariables false
set_option linter.unusedSimpArgs false
set_option linter.unnecessarySimpa false
set_option linter.deprecated false
namespace Go.Proofs.Ytlpmolohppoofaa.Sl
open Go Go.RowKit
section
variable {P : Program} {n d : Nat} {ty s t e : TypeId} {pos : String} {af : Array Edge} {g : Option (Nat × Bool)} {N : Ent → Prop}
variable {c : Ctx} {Γ : List Ent} {Q : Exit → Act → World → Prop} {ops : Array Oper} {l : List Oper}
/-- A numbered row's length under another term. -/
theorem goesO_relen {id m m' : Nat} (q : Nat) (h : m = m') (h1 : findE [] Γ q = some (Ent.t q (VA.rw id m))) (next : GoesO P c (Ent.t q (VA.rw id m') :: Γ) ops l Q) : GoesO P c Γ ops l Q := goesO_by (fun a w hi => by
  subst h
  obtain ⟨k1, k2, k3, θ, S, k4, k5⟩ := hi
  obtain ⟨ob, hown, _, _⟩ := sat_take (has_find h1) k5
  have hob : ob = bk none := hown.1
  rw [hob] at hown
  exact ⟨k1, k2, k3, θ, S, k4, sat_cons hown (sat_mono k5 (fun k hk => by cases hk) (fun b hb => hb))⟩) next
end
end Go.Proofs.Ytlpmolohppoofaa.Sl
namespace Go.Proofs.Ytlpmolohppoofaa.Sl
open Go Go.RowKit
/-- An operation's own row gets a number at once. -/
theorem OpSpec.number {α : Type} {P : Program} {n d : Nat} {o : Oper} {N : Ent → Prop} {e : TypeId} {K : Kn α} {xs : List α} {Δ : List Ent} (h : OpSpec P n o N (Ent.t d (VA.own e K xs) :: Δ)) (r : Nat) (hd : Nat.blt d 500000 = true) (hr : Nat.blt r 500000 = true) :
    OpSpec P n o N (Ent.t d (VA.rw r xs.length) :: Ent.r r e K xs :: Ent.bind r :: Ent.bind (500000 + r) :: Ent.t d (VA.own e K xs) :: Δ) := fun c Γ a w Q hc hN hi =>
  Oper.wp_mono (fun a' w' h' => inv_number r hd hr (.here (dead_nil _)) h') (h c Γ a w Q hc hN hi)
end Go.Proofs.Ytlpmolohppoofaa.Sl
namespace Go.Proofs.Ytlpmolohppoofaa.Sl
open Go Go.RowKit
end Go.Proofs.Ytlpmolohppoofaa.Sl
namespace Go.Proofs.Ytlpmolohppoofaa.Sl
open Go Go.RowKit
end Go.Proofs.Ytlpmolohppoofaa.Sl
namespace Go.Proofs.Ytlpmolohppoofaa.Sl
open Go Go.RowKit
end Go.Proofs.Ytlpmolohppoofaa.Sl
