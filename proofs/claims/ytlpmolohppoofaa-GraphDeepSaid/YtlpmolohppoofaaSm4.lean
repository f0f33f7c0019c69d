import Derived.Test.YtlpmolohppoofaaSm3
import Derived.ArgAppend
import Derived.Laws.RangeString
import Derived.Laws.StructEq
import Derived.Sort.OwnSorted
import Derived.Lib.SlicesCompact
import Derived.Laws.CopyOwn
import Derived.Laws.BytesArg
/- Calls that write what they are lent: what stands ahead of the call and what stands behind it, under the caller's own numbers. -/
set_option linter.unusedVariables false
set_option linter.unusedSimpArgs false
set_option linter.unnecessarySimpa false
set_option linter.deprecated false
namespace Go.Proofs.Ytlpmolohppoofaa.Sl
open Go Go.RowKit
def act0 : Act := { tmps := #[], defers := [] }
/-- Results, and what is given back beside them. -/
def resSatE (θ : Nat → Nat) (S : Blk) (w : World) : List VA → List Value → List Ent → Blk → Prop
  | [], [], post, av => sat θ S act0 w [] post av
  | A :: As, v :: vs, post, av => ∃ ob, A.sem θ S ob w v ∧ (∀ b, ob b → av b) ∧ resSatE θ S w As vs post (fun b => av b ∧ ¬ ob b)
  | _, _, _, _ => False
def EPost (w0 : World) (S0 : Blk) (X : List Nat) (β : Nat → Nat) (fix : List Nat) (res : List VA) (post : List Ent) (e : Ending) (w' : World) : Prop :=
  ∃ (rs : List Value) (S' : Blk) (θ' : Nat → Nat), e = .returned (tup rs) ∧ Fr X w0 w' ∧ (∀ b, S' b → since w0 w' b ∨ b ∈ X) ∧ (∀ k, k ∈ fix → θ' k = β k) ∧
    resSatE θ' (fun b => S0 b ∨ S' b) w' res rs post (fun b => (since w0 w' b ∨ b ∈ X) ∧ ¬ S' b)
/-- Function f, lent what pre says, gives back what post says; the numbers of fix name the same blocks behind it. -/
def ConE (P : Program) (f : FuncId) (fix : List Nat) (pre : List Ent) (args res : List VA) (post : List Ent) : Prop :=
  ∀ (θ : Nat → Nat) (S : Blk) (w : World) (vs : List Value) (X : List Nat), (∀ b, S b → b < w.heap.size) → (∀ b, b ∈ X → ¬ S b ∧ b < w.heap.size) → sat θ S act0 w [] pre (· ∈ X) → argSat θ S w args vs →
    Calls P f vs.toArray w (EPost w S X θ fix res post)
def noSlots (l : List Ent) : Bool := l.all (·.slots.isEmpty)
theorem noSlots_cons {e : Ent} {l : List Ent} (h : noSlots (e :: l) = true) : e.slots = [] ∧ noSlots l = true := by
  simpa [noSlots] using h
theorem sat_act {θ : Nat → Nat} {S : Blk} {a a' : Act} {w : World} : ∀ {Γ : List Ent} {ks : List Nat} {av : Blk}, noSlots Γ = true → sat θ S a w ks Γ av → sat θ S a' w ks Γ av
  | [], _, _, _, _ => trivial
  | e :: Γ, ks, av, hn, h => by
    obtain ⟨h0, hn⟩ := noSlots_cons hn
    unfold sat at h ⊢
    by_cases hd : dead ks e = true
    · rw [if_pos hd] at h ⊢; exact sat_act hn h
    · rw [if_neg hd] at h ⊢
      obtain ⟨ob, h1, h2, h3⟩ := h
      exact ⟨ob, e.move h1 (Agree.refl _ _) (fun b hb => hb) (fun b _ => rfl) (fun t ht => by rw [h0] at ht; cases ht) (fun k _ => rfl), h2, sat_act hn h3⟩
def fixEnts (β : Nat → Nat) (fix : List Nat) : List Ent := fix.map fun k => Ent.isb k (β k)
theorem sat_fix {θ : Nat → Nat} {S : Blk} {a : Act} {w : World} : ∀ {fix : List Nat} {ks : List Nat} {av : Blk}, sat θ S a w ks (fixEnts θ fix) av
  | [], _, _ => trivial
  | k :: fix, ks, av => by
    show sat θ S a w ks (Ent.isb k (θ k) :: fixEnts θ fix) av
    unfold sat
    by_cases hd : dead ks (Ent.isb k (θ k)) = true
    · rw [if_pos hd]; exact sat_fix
    · rw [if_neg hd]; exact ⟨bk none, ⟨rfl, rfl⟩, fun b hb => (by cases hb), sat_fix⟩
/-- Two lists over blocks of their own. -/
theorem sat_append {θ : Nat → Nat} {S : Blk} {a : Act} {w : World} {Γ2 : List Ent} : ∀ {Γ1 : List Ent} {ks ks2 : List Nat} {av av1 av2 : Blk}, sat θ S a w ks Γ1 av1 → sat θ S a w ks2 Γ2 av2 → (∀ k, k ∈ ks2 → k ∈ ks ∨ k ∈ Γ1.map (·.key)) →
    (∀ b, av1 b → av b) → (∀ b, av2 b → av b) → (∀ b, av2 b → ¬ av1 b) → sat θ S a w ks (Γ1 ++ Γ2) av
  | [], ks, ks2, av, av1, av2, _, h2, hk, _, ha2, _ => sat_mono h2 (fun k hk' => by simpa using hk k hk') ha2
  | e :: Γ1, ks, ks2, av, av1, av2, h1, h2, hk, ha1, ha2, hd12 => by
    have hk' : ∀ k, k ∈ ks2 → k ∈ e.key :: ks ∨ k ∈ Γ1.map (·.key) := fun k hm => by
      rcases hk k hm with h | h
      · exact .inl (List.mem_cons_of_mem _ h)
      · rcases List.mem_cons.1 h with rfl | h
        · exact .inl List.mem_cons_self
        · exact .inr h
    show sat θ S a w ks (e :: (Γ1 ++ Γ2)) av
    unfold sat at h1 ⊢
    by_cases hd : dead ks e = true
    · rw [if_pos hd] at h1 ⊢
      exact sat_append h1 h2 hk' ha1 ha2 hd12
    · rw [if_neg hd] at h1 ⊢
      obtain ⟨ob, g1, g2, g3⟩ := h1
      exact ⟨ob, g1, fun b hb => ha1 b (g2 b hb), sat_append g3 h2 hk' (fun b hb => ⟨ha1 b hb.1, hb.2⟩) (fun b hb => ⟨ha2 b hb, fun e' => hd12 b hb (g2 b e')⟩) (fun b hb h => hd12 b hb h.1)⟩

theorem sat_free {θ : Nat → Nat} {S : Blk} {a : Act} {w : World} : ∀ {Γ : List Ent} {ks ks1 : List Nat} {av : Blk}, sat θ S a w ks Γ av → (∀ e, e ∈ Γ → ∀ k, k ∈ ks → k ∈ e.deps → k ∈ ks1) → sat θ S a w ks1 Γ av
  | [], _, _, _, _, _ => trivial
  | e :: Γ, ks, ks1, av, h, hk => by
    unfold sat at h ⊢
    have hsub : dead ks e = true → dead ks1 e = true := fun hd => by
      obtain ⟨k, h1, h2⟩ := List.any_eq_true.1 hd
      have h2' : k ∈ ks := by simpa using h2
      exact List.any_eq_true.2 ⟨k, h1, by simpa using hk e (by simp) k h2' h1⟩
    have hrest : ∀ e', e' ∈ Γ → ∀ k, k ∈ e.key :: ks → k ∈ e'.deps → k ∈ e.key :: ks1 := fun e' he' k hk1 hk2 => by
      rcases List.mem_cons.1 hk1 with rfl | hk1
      · exact List.mem_cons_self
      · exact List.mem_cons_of_mem _ (hk e' (List.mem_cons_of_mem _ he') k hk1 hk2)
    by_cases hd : dead ks e = true
    · rw [if_pos hd] at h
      rw [if_pos (hsub hd)]
      exact sat_free h hrest
    · rw [if_neg hd] at h
      obtain ⟨ob, h1, h2, h3⟩ := h
      by_cases hd1 : dead ks1 e = true
      · rw [if_pos hd1]; exact sat_mono (sat_free h3 hrest) (fun k hk => hk) (fun b hb => hb.1)
      · rw [if_neg hd1]; exact ⟨ob, h1, h2, sat_free h3 hrest⟩
/-- No part of the list leans on the key of one ahead of it. -/
def indep : List Ent → Bool
  | [] => true
  | e :: l => l.all (fun x => !x.deps.elem e.key) && indep l
/-- The blocks below N of a set, as a list. -/
theorem blk_list (N : Nat) (ob : Blk) (h : ∀ b, ob b → b < N) : ∃ L : List Nat, ∀ b, b ∈ L ↔ ob b := by
  classical
  exact ⟨(List.range N).filter (fun b => decide (ob b)), fun b => by simp only [List.mem_filter, List.mem_range, decide_eq_true_eq]; exact ⟨fun h => h.2, fun hb => ⟨h b hb, hb⟩⟩⟩
/-- The parts of pre are taken out. -/
theorem sat_takes {θ : Nat → Nat} {S : Blk} {a : Act} {w : World} {Γ : List Ent} {N : Nat} : ∀ {pre : List Ent} {ks : List Nat} {av : Blk}, (∀ b, av b → b < N) → indep pre = true → (∀ e, e ∈ pre → Has ks Γ e) → sat θ S a w ks Γ av →
    ∃ (X : List Nat) (ks2 : List Nat), (∀ b, b ∈ X → av b) ∧ sat θ S a w ks pre (· ∈ X) ∧ sat θ S a w ks2 Γ (fun b => av b ∧ b ∉ X) ∧ (∀ k, k ∈ ks2 → k ∈ ks ∨ k ∈ pre.map (·.key))
  | [], ks, av, _, _, _, h => ⟨[], ks, fun b hb => (by cases hb), trivial, sat_mono h (fun k hk => hk) (fun b hb => ⟨hb, by simp⟩), fun k hk => .inl hk⟩
  | e :: pre, ks, av, hN, hi, hH, h => by
    simp only [indep, Bool.and_eq_true] at hi
    obtain ⟨ob, h1, h2, h3⟩ := sat_take (hH e (by simp)) h
    have hH' : ∀ x, x ∈ pre → Has (e.key :: ks) Γ x := fun x hx => (hH x (List.mem_cons_of_mem _ hx)).kill (by
      have := List.all_eq_true.1 hi.1 x hx
      simpa using this)
    obtain ⟨X, ks2, g1, g2, g3, g4⟩ := sat_takes (fun b hb => hN b hb.1) hi.2 hH' h3
    have hlive := (hH e (by simp)).live
    obtain ⟨L, hL⟩ := blk_list N ob (fun b hb => hN b (h2 b hb))
    refine ⟨L ++ X, ks2, fun b hb => ?_, ?_, sat_mono g3 (fun k hk => hk) (fun b hb => ⟨hb.1.1, fun hm => ?_⟩), fun k hk => ?_⟩
    · rcases List.mem_append.1 hb with hb | hb
      · exact h2 _ ((hL b).1 hb)
      · exact (g1 b hb).1
    · exact sat_consO hlive h1 (fun b hb => List.mem_append_left _ ((hL b).2 hb)) (sat_mono g2 (fun k hk => hk) (fun b hb => ⟨List.mem_append_right _ hb, (g1 b hb).2⟩))
    · rcases List.mem_append.1 hm with e' | hm
      · exact hb.1.2 ((hL b).1 e')
      · exact hb.2 hm
    · rcases g4 k hk with h | h
      · rcases List.mem_cons.1 h with rfl | h
        · exact .inr (by simp)
        · exact .inl h
      · exact .inr (List.mem_cons_of_mem _ h)
/-! ### entering and leaving -/
theorem con_enterE {P : Program} {f : FuncId} {fn : Func} {body : Code} {fix : List Nat} {pre : List Ent} {As res : List VA} {post : List Ent} (hf : P.funcs[f]? = some fn) (hb : fn.body = some body) (hn : Nat.ble As.length fn.ntmps = true) (hm : Nat.ble fn.ntmps 1000000 = true) (hs : noSlots pre = true) (hkey : pre.all (fun e => Nat.ble 1000000 e.key) = true)
    (h : ∀ w0 S0 X β, Goes P (ctx w0 S0 X fn.ntmps) (argEnts As 0 ++ (pre ++ fixEnts β fix)) body (bodyPost P fn (EPost w0 S0 X β fix res post))) : ConE P f fix pre As res post := fun θ S w vs X hS hX hpre ha => by
  refine calls_of_wp hf hb (wpIn_wide.1 (h w S X θ _ w ?_))
  have hl := argSat_len ha
  have hn' := Nat.le_of_ble_eq_true hn
  have hm' := Nat.le_of_ble_eq_true hm
  have hget : ∀ i v, vs[i]? = some v → ({ tmps := vs.toArray ++ Array.replicate (fn.ntmps - vs.toArray.size) undef, defers := [] } : Act).tmps.getD (0 + i) undef = v := fun i v hi => by
    have hlt := (List.getElem?_eq_some_iff.1 hi).1
    simp only [Array.getD_eq_getD_getElem?, Nat.zero_add]
    rw [Array.getElem?_append_left (by simpa using hlt)]
    simp [hi]
  refine ⟨rfl, ⟨by simp [hl]; omega, hm'⟩, Fr.refl _ _, θ, S, fun b hb => ⟨hS b hb, .inl hb⟩, ?_⟩
  refine arg_sat_app ha hget (fun k hk => by cases hk) (by omega) ?_
  exact sat_append (av1 := (· ∈ X)) (av2 := fun _ => False) (ks2 := []) (sat_act hs hpre) sat_fix (fun k hk => by cases hk) (fun b hb => ⟨(hX b hb).1, (hX b hb).2, .inr hb⟩) (fun b hb => hb.elim) (fun b hb => hb.elim)
/-- Results, then what is given back. -/
inductive RetsE (P : Program) (Γ : List Ent) (post : List Ent) : List Nat → List ResultVar → List VA → Prop
  | nil {ks : List Nat} : (∀ e, e ∈ post → ∃ k, findE ks Γ k = some e) → noSlots post = true → RetsE P Γ post ks [] []
  | g {ks : List Nat} {key : Nat} {rv : ResultVar} {rs : List ResultVar} {A : VA} {As : List VA} : RGet P Γ ks key rv A → RetsE P Γ post (key :: ks) rs As → RetsE P Γ post ks (rv :: rs) (A :: As)
theorem RetsE.t {P : Program} {Γ post : List Ent} {ks : List Nat} {r : Nat} {rs : List ResultVar} {A : VA} {As : List VA} (h1 : findE ks Γ r = some (Ent.t r A)) (h : RetsE P Γ post (r :: ks) rs As) : RetsE P Γ post ks (.tmp r :: rs) (A :: As) := .g (fun F θ S a w av0 av hF hG h0 hs => by
  obtain ⟨ob, g1, g2, g3⟩ := sat_take (has_find h1) hs
  exact ⟨a.tmps.getD r undef, ob, by rw [hF, Sem.run_pure], g1, g2, g3⟩) h
theorem RetsE.c {P : Program} {Γ post : List Ent} {α : Type} {ks : List Nat} {r id : Nat} {t e : TypeId} {K : Kn α} {x : α} {rs : List ResultVar} {As : List VA} (h1 : findE [] Γ r = some (Ent.t r (VA.ptr id 0))) (h2 : findE [] Γ (2000000 + id) = some (Ent.h id (HE.box e K x))) (hk : TK P t K) (h : RetsE P Γ post (3999999 :: ks) rs As) : RetsE P Γ post ks (.cell r t :: rs) (VA.k K x :: As) := .g (fun F θ S a w av0 av hF hG h0 hs => by
  obtain ⟨_, ⟨_, e1⟩, _⟩ := sat_take (has_find h1) h0
  obtain ⟨_, ⟨_, cs, hc, hr⟩, _⟩ := sat_take (has_find h2) h0
  have hl := run_loadVar_at (w := w) (ad := ⟨θ id, 0, none⟩) hk (K.len hr) (fun i u hu => by
    rw [add_add, cell_of_row w (θ id) _ cs _ (0, 0) hc, Nat.zero_add]
    simpa using hu)
  exact ⟨K.mk_ cs.toList, bk none, by rw [hG r t _ e1, hl], ⟨rfl, _, hr, rfl⟩, fun b hb => (by cases hb), sat_mono hs (fun k hk => List.mem_cons_of_mem _ hk) (fun b hb => ⟨hb, by simp⟩)⟩) h
/-- What is given back stands in Γ. -/
inductive ToldK (ks : List Nat) (Γ : List Ent) : List Ent → Prop
  | nil : ToldK ks Γ []
  | cons {e : Ent} {l : List Ent} : findE ks Γ e.key = some e → ToldK ks Γ l → ToldK ks Γ (e :: l)
theorem ToldK.all {ks : List Nat} {Γ l : List Ent} (h : ToldK ks Γ l) : ∀ e, e ∈ l → ∃ k, findE ks Γ k = some e := by
  induction h with
  | nil => intro e he; cases he
  | cons h1 _ ih =>
    intro e he
    rcases List.mem_cons.1 he with rfl | he
    · exact ⟨_, h1⟩
    · exact ih e he
theorem RetsE.post {P : Program} {Γ post : List Ent} {ks : List Nat} (h : ToldK ks Γ post) (hn : noSlots post = true) : RetsE P Γ post ks [] [] := .nil h.all hn
theorem RetsE.sat {P : Program} {Γ post : List Ent} {θ : Nat → Nat} {S : Blk} {a : Act} {w : World} {av0 : Blk} (F : ResultVar → Sem Value) (hF : ∀ t, F (.tmp t) = pure (a.tmps.getD t undef)) (hG : ∀ r t ad, a.tmps.getD r undef = .pointer (some ad) → (F (.cell r t)).run P w = (loadVar t ad).run P w) (h0 : sat θ S a w [] Γ av0) {ks : List Nat} {rts : List ResultVar} {res : List VA} (h : RetsE P Γ post ks rts res) :
    ∀ {av : Blk}, sat θ S a w ks Γ av → ∃ vs, (List.mapM F rts).run P w = .ok vs w ∧ resSatE θ S w res vs post av := by
  induction h with
  | @nil ks h1 h2 =>
    intro av hs
    refine ⟨[], rfl, ?_⟩
    have hH : ∀ e, e ∈ post → Has ks Γ e := fun e he => by obtain ⟨k, hk⟩ := h1 e he; exact has_find hk
    have h3 : Sl.sat θ S a w ks post av := sat_sub hs (fun k hk => hk) (fun e he => hH e he.mem)
    refine sat_act h2 (sat_free h3 (fun e he k hk hd => ?_))
    exact absurd hd (not_dep (hH e he).live hk)
  | @g ks key rv rs A As h1 _ ih =>
    intro av hs
    obtain ⟨v, ob, e1, g1, g2, g3⟩ := h1 F θ S a w av0 av hF hG h0 hs
    obtain ⟨vs, e, hr⟩ := ih g3
    refine ⟨v :: vs, ?_, ob, g1, g2, hr⟩
    rw [List.mapM_cons, Sem.run_bind, e1, Result.andThen_ok, Sem.run_bind, e, Result.andThen_ok, Sem.run_pure]
theorem resSatE_move {θ : Nat → Nat} {S S' : Blk} {w : World} {post : List Ent} (hS : ∀ b, S b → S' b) : ∀ {As : List VA} {vs : List Value} {av av' : Blk}, (∀ b, av b → av' b) → resSatE θ S w As vs post av → resSatE θ S' w As vs post av'
  | [], [], av, av', hav, h => sat_mono (sat_move h (Agree.refl _ _) hS (fun b _ => rfl) (fun t _ => rfl) (fun k _ => rfl)) (fun k hk => hk) hav
  | A :: As, v :: vs, av, av', hav, h => by
    obtain ⟨ob, h1, h2, h3⟩ := h
    exact ⟨ob, A.move h1 (Agree.refl _ _) hS (fun b _ => rfl) (fun k _ => rfl), fun b hb => hav b (h2 b hb), resSatE_move hS (fun b hb => ⟨hav b hb.1, hb.2⟩) h3⟩
inductive FixIn (Γ : List Ent) (β : Nat → Nat) : List Nat → Prop
  | nil : FixIn Γ β []
  | cons {k : Nat} {l : List Nat} : findE [] Γ (4000000 + k) = some (Ent.isb k (β k)) → FixIn Γ β l → FixIn Γ β (k :: l)
theorem FixIn.all {Γ : List Ent} {β θ : Nat → Nat} {S : Blk} {a : Act} {w : World} {av : Blk} {fix : List Nat} (h : FixIn Γ β fix) (hs : sat θ S a w [] Γ av) : ∀ k, k ∈ fix → θ k = β k := by
  induction h with
  | nil => intro k hk; cases hk
  | cons h1 _ ih =>
    intro k hk
    rcases List.mem_cons.1 hk with rfl | hk
    · obtain ⟨_, ⟨_, e⟩, _⟩ := sat_take (has_find h1) hs
      exact e
    · exact ih k hk
section
variable {P : Program} {n : Nat} {w0 : World} {S0 : Blk} {X : List Nat} {β : Nat → Nat} {fix : List Nat} {Γ : List Ent} {fn : Func} {res : List VA} {post : List Ent}
theorem ends_retE {rts : List ResultVar} (hr : fn.results = rts.toArray) (hfix : FixIn Γ β fix) (h : RetsE P Γ post [] rts res) : Ends (ctx w0 S0 X n) Γ (bodyPost P fn (EPost w0 S0 X β fix res post)) .ret := by
  rintro a w ⟨h1, h2, h3, θ', S, h4, h5⟩
  have hres : ∃ vs, (results fn a.tmps).run P w = .ok (tup vs) w ∧ resSatE θ' S w res vs post (free (ctx w0 S0 X n) S w) := by
    unfold results
    rw [hr, List.mapM_toArray]
    simp only [Sem.run_bind, Sem.run_map]
    obtain ⟨vs, e, hrs⟩ := RetsE.sat (P := P) (a := a) (w := w) (fun x : ResultVar => match x with | .tmp t => (pure (a.tmps.getD t undef) : Sem Value) | .cell b t => do loadVar t (← asAddr (a.tmps.getD b undef))) (fun _ => rfl) (fun r t ad h => by simp only [h, asAddr, Sem.run_bind, Sem.run_pure, Result.andThen_ok]) h5 h h5
    refine ⟨vs, ?_, hrs⟩
    have e' := e
    refine Eq.trans (congrArg (fun z : Result (List Value) => ((z.andThen fun v w => .ok v.toArray w).andThen fun a' w' => (pure (if h : a'.size = 1 then a'[0] else Value.tuple a') : Sem Value).run P w')) e') ?_
    simp only [Result.andThen_ok, Sem.run_pure]
    congr 1
    match vs with
    | [] => rfl
    | [r] => rfl
    | r :: r' :: l => simp [tup]
  obtain ⟨vs, hrun, hrs⟩ := hres
  refine ⟨h1, _, hrun, _, (fun b => S b ∧ (since w0 w b ∨ b ∈ X)), θ', rfl, h3, fun b hb => hb.2, hfix.all h5, ?_⟩
  refine resSatE_move (fun b hb => ?_) (fun b hb => ?_) hrs
  · have := h4 b hb
    rcases this.2 with h | h | h
    · exact .inl h
    · exact .inr ⟨hb, .inl ⟨h, this.1⟩⟩
    · exact .inr ⟨hb, .inr h⟩
  · obtain ⟨f1, f2, f3⟩ := hb
    refine ⟨?_, fun h => f1 h.1⟩
    rcases f3 with h | h
    · exact .inl ⟨h, f2⟩
    · exact .inr h
end
end Go.Proofs.Ytlpmolohppoofaa.Sl
/- Calls of functions with contracts that lend. -/
set_option linter.unusedVariables false
set_option linter.unusedSimpArgs false
set_option linter.unnecessarySimpa false
set_option linter.deprecated false
namespace Go.Proofs.Ytlpmolohppoofaa.Sl
open Go Go.RowKit
theorem resSatE_split {θ : Nat → Nat} {S : Blk} {w : World} {post : List Ent} : ∀ {As : List VA} {vs : List Value} {av : Blk}, resSatE θ S w As vs post av → ∃ avp : Blk, (∀ b, avp b → av b) ∧ resSat θ S w As vs (fun b => av b ∧ ¬ avp b) ∧ sat θ S act0 w [] post avp
  | [], [], av, h => ⟨av, fun b hb => hb, trivial, h⟩
  | A :: As, v :: vs, av, h => by
    obtain ⟨ob, h1, h2, h3⟩ := h
    obtain ⟨avp, g1, g2, g3⟩ := resSatE_split h3
    exact ⟨avp, fun b hb => (g1 b hb).1, ⟨ob, h1, fun b hb => ⟨h2 b hb, fun hp => (g1 b hp).2 hb⟩, resSat_move (fun b hb => hb) (fun b hb => ⟨⟨hb.1.1, hb.2⟩, hb.1.2⟩) g2⟩, g3⟩
theorem resSat_ids {θ θ' : Nat → Nat} {S : Blk} {w : World} : ∀ {As : List VA} {vs : List Value} {av : Blk}, (∀ A, A ∈ As → ∀ k, k ∈ A.ids → θ' k = θ k) → resSat θ S w As vs av → resSat θ' S w As vs av
  | [], [], _, _, _ => trivial
  | A :: As, v :: vs, av, hi, h => by
    obtain ⟨ob, h1, h2, h3⟩ := h
    exact ⟨ob, A.move h1 (Agree.refl _ _) (fun b hb => hb) (fun b _ => rfl) (fun k hk => hi A (by simp) k hk), h2, resSat_ids (fun A hA => hi A (List.mem_cons_of_mem _ hA)) h3⟩
  | [], _ :: _, _, _, h => h.elim
  | _ :: _, [], _, _, h => h.elim
theorem sat_ids {θ θ' : Nat → Nat} {S : Blk} {a : Act} {w : World} : ∀ {Γ : List Ent} {ks : List Nat} {av : Blk}, (∀ e, e ∈ Γ → ∀ k, k ∈ e.ids → θ' k = θ k) → sat θ S a w ks Γ av → sat θ' S a w ks Γ av
  | [], _, _, _, _ => trivial
  | e :: Γ, ks, av, hi, h => by
    unfold sat at h ⊢
    by_cases hd : dead ks e = true
    · rw [if_pos hd] at h ⊢; exact sat_ids (fun x hx => hi x (List.mem_cons_of_mem _ hx)) h
    · rw [if_neg hd] at h ⊢
      obtain ⟨ob, h1, h2, h3⟩ := h
      exact ⟨ob, e.move h1 (Agree.refl _ _) (fun b hb => hb) (fun b _ => rfl) (fun t _ => rfl) (fun k hk => hi e (by simp) k hk), h2, sat_ids (fun x hx => hi x (List.mem_cons_of_mem _ hx)) h3⟩
/-- The slot's result, or its components. -/
def resE (d : Nat) (res : List VA) : List Ent := match res with
  | [A] => [Ent.t d A]
  | res => resEnts d res 0
theorem res_sat' {θ : Nat → Nat} {S : Blk} {a : Act} {w : World} {d : Nat} {all : Array Value} (hd : d < 1000000) (hall : a.tmps.getD d undef = .tuple all) :
    ∀ {As : List VA} {vs : List Value} {j : Nat} {ks : List Nat} {av : Blk}, resSat θ S w As vs av → (∀ A, A ∈ As → ∀ k, k ∈ A.ids → k < 1000000) → (∀ i v, vs[i]? = some v → all[j + i]? = some v) →
      (∀ k, k ∈ ks → 3000000 + 1000 * d ≤ k ∧ k < 3000000 + 1000 * d + j) → sat θ S a w ks (resEnts d As j) av
  | [], [], j, ks, av, _, _, _, hks => by
    refine sat_consK (dead_iff (fun k hk' => ?_)) rfl trivial
    simp only [Ent.deps, Ent.t, VA.any, List.map_nil, List.append_nil, List.mem_cons, List.not_mem_nil, or_false]
    have := hks k hk'
    omega
  | A :: As, v :: vs, j, ks, av, hr, hids, hv, hks => by
    obtain ⟨ob, h1, h2, h3⟩ := hr
    refine sat_consO (ob := ob) (dead_iff (fun k hk' => ?_)) ⟨all, v, hall, hv 0 v rfl, h1⟩ h2 ?_
    · simp only [Ent.deps, Ent.c, List.mem_cons, List.mem_append, List.mem_map, List.not_mem_nil, or_false]
      have := hks k hk'
      rintro (h | h | ⟨x, hx, h⟩)
      · omega
      · omega
      · have := hids A (by simp) x hx; omega
    · refine res_sat' hd hall h3 (fun A hA => hids A (List.mem_cons_of_mem _ hA)) (fun i v hi => by have := hv (i + 1) v hi; rw [← this]; congr 1; omega) (fun k hk' => ?_)
      rcases List.mem_cons.1 hk' with rfl | hk'
      · simp only [Ent.c]; omega
      · have := hks k hk'; omega
theorem resSat_len {θ : Nat → Nat} {S : Blk} {w : World} : ∀ {As : List VA} {vs : List Value} {av : Blk}, resSat θ S w As vs av → vs.length = As.length
  | [], [], _, _ => rfl
  | _ :: _, _ :: _, _, h => by obtain ⟨_, _, _, h⟩ := h; simp [resSat_len h]
  | [], _ :: _, _, h => h.elim
  | _ :: _, [], _, h => h.elim
theorem resE_sat {θ : Nat → Nat} {S : Blk} {a : Act} {w : World} {d : Nat} {res : List VA} {rs : List Value} {av : Blk} (hd : d < 1000000) (hs : d < a.tmps.size) (h : resSat θ S w res rs av) (hids : ∀ A, A ∈ res → ∀ k, k ∈ A.ids → k < 1000000) : sat θ S (a.put (some d) (tup rs)) w [] (resE d res) av := by
  have hl := resSat_len h
  match res, rs, h with
  | [A], [v], h =>
    obtain ⟨ob, r1, r2, _⟩ := h
    refine sat_consO (ob := ob) (dead_nil _) ?_ r2 trivial
    show A.sem θ _ ob w ((a.put (some d) v).tmps.getD d undef)
    rw [put_getD_self hs]; exact r1
  | [], [], h => exact res_sat' (all := #[]) hd (by rw [put_getD_self hs]; rfl) h hids (fun i v hi => by simp at hi) (fun k hk => by cases hk)
  | A :: B :: As, v :: u :: vs, h => exact res_sat' (all := (v :: u :: vs).toArray) hd (by rw [put_getD_self hs]; rfl) h hids (fun i x hi => by rw [Nat.zero_add]; simpa using hi) (fun k hk => by cases hk)
/-- What the caller knows behind such a call. -/
def callΔ (d : Nat) (res : List VA) (post : List Ent) (gone : List Nat) (chg : List Nat) : List Ent := resE d res ++ (post ++ (gone.map Ent.gone ++ chg.map Ent.bind))
def idsOk (fix chg : List Nat) (l : List Nat) : Bool := l.all fun k => chg.elem k || fix.elem k
def coverOk (pre post : List Ent) (gone : List Nat) : Bool := pre.all fun e => gone.elem e.key || (post.map (·.key)).elem e.key
def callOk (fix chg : List Nat) (pre post : List Ent) (res : List VA) (gone : List Nat) : Bool :=
  indep pre && idsOk fix chg (post.flatMap (·.ids)) && idsOk fix chg (res.flatMap (·.ids)) && (res.flatMap (·.ids)).all (fun k => Nat.blt k 1000000) && coverOk pre post gone && noSlots pre && noSlots post
theorem sat_gone {θ : Nat → Nat} {S : Blk} {a : Act} {w : World} : ∀ {l m : List Nat} {ks : List Nat} {av : Blk}, sat θ S a w ks (l.map Ent.gone ++ m.map Ent.bind) av
  | [], [], _, _ => trivial
  | [], k :: m, ks, av => by
    show sat θ S a w ks (Ent.bind k :: (([] : List Nat).map Ent.gone ++ m.map Ent.bind)) av
    unfold sat
    by_cases hd : dead ks (Ent.bind k) = true
    · rw [if_pos hd]; exact sat_gone
    · rw [if_neg hd]; exact ⟨bk none, rfl, fun b hb => (by cases hb), sat_gone⟩
  | k :: l, m, ks, av => by
    show sat θ S a w ks (Ent.gone k :: (l.map Ent.gone ++ m.map Ent.bind)) av
    unfold sat
    by_cases hd : dead ks (Ent.gone k) = true
    · rw [if_pos hd]; exact sat_gone
    · rw [if_neg hd]; exact ⟨bk none, rfl, fun b hb => (by cases hb), sat_gone⟩
theorem after_callE {c : Ctx} {Γ : List Ent} {a : Act} {w w' : World} {θ : Nat → Nat} {S : Blk} {d : Nat} {fix : List Nat} {pre post : List Ent} {res : List VA} {X ks2 : List Nat} {e : Ending} (gone chg : List Nat) (hd : Nat.blt d c.n = true)
    (hok : callOk fix chg pre post res gone = true) (g1 : ∀ b, b ∈ X → free c S w b) (g3 : sat θ S a w ks2 Γ (fun b => free c S w b ∧ b ∉ X)) (g4 : ∀ k, k ∈ ks2 → k ∈ ([] : List Nat) ∨ k ∈ pre.map (·.key)) (h1 : a.defers = c.df) (h2 : a.tmps.size = c.n ∧ c.n ≤ 1000000) (h3 : Fr c.X c.w0 w) (h4 : SOk c S w)
    (hE : EPost w S X θ fix res post e w') : ∃ v, e = .returned v ∧ Inv c (callΔ d res post gone chg ++ Γ) (a.put (some d) v) w' := by
  simp only [callOk, Bool.and_eq_true] at hok
  obtain ⟨⟨⟨⟨⟨⟨k1, k2⟩, k3⟩, k4⟩, k5⟩, k6⟩, k7⟩ := hok
  have hdn := blt_lt hd
  obtain ⟨rs, S', θ', rfl, hfr, hS', hfix, hr⟩ := hE
  obtain ⟨avp, p1, p2, p3⟩ := resSatE_split hr
  refine ⟨tup rs, rfl, ?_⟩
  have hsz := hfr.size
  have h3s := h3.size
  let θ2 : Nat → Nat := fun k => if k ∈ chg then θ' k else θ k
  have hθ2 : ∀ k, (chg.elem k || fix.elem k) = true → θ2 k = θ' k := fun k hk => by
    show (if k ∈ chg then θ' k else θ k) = θ' k
    by_cases hm : k ∈ chg
    · rw [if_pos hm]
    · rw [if_neg hm]
      have : k ∈ fix := by
        simp only [Bool.or_eq_true, List.elem_eq_mem, decide_eq_true_eq] at hk
        rcases hk with hk | hk
        · exact absurd hk hm
        · exact hk
      exact (hfix k this).symm
  have hidp : ∀ e, e ∈ post → ∀ k, k ∈ e.ids → θ2 k = θ' k := fun e he k hk => hθ2 k (List.all_eq_true.1 k2 k (List.mem_flatMap.2 ⟨e, he, hk⟩))
  have hidr : ∀ A, A ∈ res → ∀ k, k ∈ A.ids → θ2 k = θ' k := fun A hA k hk => hθ2 k (List.all_eq_true.1 k3 k (List.mem_flatMap.2 ⟨A, hA, hk⟩))
  have hidl : ∀ A, A ∈ res → ∀ k, k ∈ A.ids → k < 1000000 := fun A hA k hk => blt_lt (List.all_eq_true.1 k4 k (List.mem_flatMap.2 ⟨A, hA, hk⟩))
  have hXf : ∀ b, b ∈ X → free c S w b := g1
  have hag : Agree S w w' := fun b hb => hfr.block b (h4 b hb).1 (fun hx => (hXf b hx).1 hb)
  have hfr' : Fr c.X c.w0 w' := ⟨hfr.os.trans h3.os, hfr.tape.trans h3.tape, hfr.output.trans h3.output, by omega, fun k hk hx => (hfr.block k (by omega) (fun hm => by
    rcases (hXf k hm).2.2 with h | h
    · omega
    · exact hx h)).trans (h3.block k hk hx)⟩
  have hok' : SOk c (fun b => S b ∨ S' b) w' := fun b hb => by
    rcases hb with hb | hb
    · have := h4 b hb; exact ⟨by omega, this.2⟩
    · rcases hS' b hb with h | h
      · exact ⟨h.2, .inr (.inl (by have := h.1; omega))⟩
      · have := hXf b h; exact ⟨by have := this.2.1; omega, .inr this.2.2⟩
  -- what the call gives
  have hnew : ∀ b, ((since w w' b ∨ b ∈ X) ∧ ¬ S' b) → free c (fun b => S b ∨ S' b) w' b := fun b hb => by
    rcases hb.1 with h | h
    · exact ⟨fun hs => by
        rcases hs with hs | hs
        · have := (h4 b hs).1; have := h.1; omega
        · exact hb.2 hs, h.2, .inl (by have := h.1; omega)⟩
    · have := hXf b h
      exact ⟨fun hs => by
        rcases hs with hs | hs
        · exact this.1 hs
        · exact hb.2 hs, by have := this.2.1; omega, this.2.2⟩
  have hold : ∀ b, (free c S w b ∧ b ∉ X) → free c (fun b => S b ∨ S' b) w' b := fun b hb => ⟨fun hs => by
    rcases hs with hs | hs
    · exact hb.1.1 hs
    · rcases hS' b hs with h | h
      · have := hb.1.2.1; have := h.1; omega
      · exact hb.2 h, by have := hb.1.2.1; omega, hb.1.2.2⟩
  have hdis : ∀ b, (free c S w b ∧ b ∉ X) → ¬ ((since w w' b ∨ b ∈ X) ∧ ¬ S' b) := fun b hb h => by
    rcases h.1 with h | h
    · have := hb.1.2.1; have := h.1; omega
    · exact hb.2 h
  have hR := resE_sat (a := a) (d := d) (by omega) (by omega) (resSat_ids hidr p2) hidl
  have hP := sat_act (a' := a.put (some d) (tup rs)) k7 (sat_ids hidp p3)
  have hG : sat θ2 (fun b => S b ∨ S' b) (a.put (some d) (tup rs)) w' (d :: (ks2 ++ chg.map (1000000 + ·))) Γ (fun b => free c S w b ∧ b ∉ X) := by
    refine sat_move (sat_mono g3 (fun k hk => List.mem_cons_of_mem _ (List.mem_append_left _ hk)) (fun b hb => hb)) hag (fun b hb => .inl hb) (fun b hb => hfr.block b hb.1.2.1 hb.2) (fun t ht => put_getD_ne (fun e => ht (by simp [e]))) (fun k hk => ?_)
    show (if k ∈ chg then θ' k else θ k) = θ k
    rw [if_neg (fun hm => hk (List.mem_cons_of_mem _ (List.mem_append_right _ (List.mem_map.2 ⟨k, hm, rfl⟩))))]
  refine ⟨by rw [put_defers]; exact h1, by rw [put_size]; exact h2, hfr', θ2, _, hok', ?_⟩
  have hPG : sat θ2 (fun b => S b ∨ S' b) (a.put (some d) (tup rs)) w' [] (post ++ (gone.map Ent.gone ++ chg.map Ent.bind)) avp := sat_append (av1 := avp) (av2 := fun _ => False) (ks2 := []) hP sat_gone (fun k hk => by cases hk) (fun b hb => hb) (fun b hb => hb.elim) (fun b hb => hb.elim)
  have hRP : sat θ2 (fun b => S b ∨ S' b) (a.put (some d) (tup rs)) w' [] (callΔ d res post gone chg) (fun b => (since w w' b ∨ b ∈ X) ∧ ¬ S' b) := sat_append hR hPG (fun k hk => by cases hk) (fun b hb => hb.1) p1 (fun b hb h => h.2 hb)
  refine sat_append hRP hG (fun k hk => .inr ?_) hnew hold hdis
  simp only [callΔ, List.map_append, List.mem_append]
  rcases List.mem_cons.1 hk with rfl | hk
  · left
    unfold resE
    split
    · simp [Ent.t]
    · rename_i res _
      have : ∀ (As : List VA) (j : Nat), k ∈ (resEnts k As j).map (·.key) := by
        intro As
        induction As with
        | nil => intro j; simp [resEnts, Ent.t]
        | cons A As ih => intro j; exact List.mem_cons_of_mem _ (ih (j + 1))
      exact this _ 0
  · right
    rcases List.mem_append.1 hk with hk | hk
    · rcases g4 k hk with h | h
      · cases h
      · obtain ⟨e, he, rfl⟩ := List.mem_map.1 h
        have := List.all_eq_true.1 k5 e he
        simp only [Bool.or_eq_true, List.elem_eq_mem, decide_eq_true_eq] at this
        rcases this with h | h
        · right; left
          exact List.mem_map.2 ⟨Ent.gone e.key, List.mem_map.2 ⟨_, h, rfl⟩, rfl⟩
        · exact .inl h
    · right; right
      obtain ⟨x, hx, rfl⟩ := List.mem_map.1 hk
      exact List.mem_map.2 ⟨Ent.bind x, List.mem_map.2 ⟨x, hx, rfl⟩, rfl⟩
theorem callOk_parts {fix chg : List Nat} {pre post : List Ent} {res : List VA} {gone : List Nat} (h : callOk fix chg pre post res gone = true) : indep pre = true ∧ noSlots pre = true ∧ noSlots post = true := by
  simp only [callOk, Bool.and_eq_true] at h
  exact ⟨h.1.1.1.1.1.1, h.1.2, h.2⟩
theorem inv_callE {P : Program} {c : Ctx} {Γ : List Ent} {a : Act} {w : World} {θ : Nat → Nat} {S : Blk} {d : Nat} {f : FuncId} {fix : List Nat} {pre post : List Ent} {As res : List VA} {vs : List Value} (gone chg : List Nat) (hd : Nat.blt d c.n = true)
    (hC : ConE P f fix pre As res post) (hok : callOk fix chg pre post res gone = true) (hpre : ∀ e, e ∈ pre → Has [] Γ e) (h1 : a.defers = c.df) (h2 : a.tmps.size = c.n ∧ c.n ≤ 1000000) (h3 : Fr c.X c.w0 w) (h4 : SOk c S w)
    (h5 : sat θ S a w [] Γ (free c S w)) (ha : argSat θ S w As vs) : Calls P f vs.toArray w fun e w' => ∃ v, e = .returned v ∧ Inv c (callΔ d res post gone chg ++ Γ) (a.put (some d) v) w' := by
  obtain ⟨k1, k6, _⟩ := callOk_parts hok
  obtain ⟨X, ks2, g1, g2, g3, g4⟩ := sat_takes (N := w.heap.size) (fun b hb => hb.2.1) k1 hpre h5
  exact (hC θ S w vs X (fun b hb => (h4 b hb).1) (fun b hb => ⟨(g1 b hb).1, (g1 b hb).2.1⟩) (sat_act k6 g2) ha).mono fun e w' hE => after_callE gone chg hd hok g1 g3 g4 h1 h2 h3 h4 hE
/-! ### what such a call is lent to read -/
def ArgR (N : Ent → Prop) (x : Operand) (A : VA) : Prop := ∀ (θ : Nat → Nat) (S : Blk) (a : Act) (w : World) (R : Blk), (∀ e, N e → ∃ ob, e.sem θ S ob a w ∧ ∀ b, ob b → R b) → (∀ b, S b → R b) → A.sem θ R (bk none) w (a.eval x)
theorem Args.satR {N : Ent → Prop} {xs : List Operand} {As : List VA} (h : Args (ArgR N) xs As) {θ : Nat → Nat} {S : Blk} {a : Act} {w : World} {R : Blk} (hN : ∀ e, N e → ∃ ob, e.sem θ S ob a w ∧ ∀ b, ob b → R b) (hS : ∀ b, S b → R b) : argSat θ R w As (xs.map a.eval) := by
  induction h with
  | nil => trivial
  | cons h _ ih => exact ⟨h θ S a w R hN hS, ih⟩
theorem ArgR.k {α : Type} {N : Ent → Prop} {x : Operand} {K : Kn α} {y : α} (h : Arg N x (VA.k K y)) : ArgR N x (VA.k K y) := fun θ S a w R hN hS => by
  obtain ⟨ob, h1⟩ := h θ S a w (fun e he => by obtain ⟨ob, h, _⟩ := hN e he; exact ⟨ob, h⟩)
  exact (VA.k K y).move ⟨rfl, h1.2⟩ (Agree.refl _ _) hS (fun b _ => rfl) (fun k _ => rfl)
theorem ArgR.own {α : Type} {N : Ent → Prop} {s : Nat} {e : TypeId} {K : Kn α} {y : List α} (hp : Nat.blt 0 K.sz = true) (h : N (Ent.t s (VA.own e K y))) : ArgR N (.tmp s) (VA.k (kslice K) y) := fun θ S a w R hN hS => by
  obtain ⟨ob, h1, hb⟩ := hN _ h
  exact own_reads (θ := θ) h1 hS hb (blt_lt hp)
theorem ArgR.owns {α : Type} {N : Ent → Prop} {d s : Nat} {e : TypeId} {K : Kn α} {y : List α} (hp : Nat.blt 0 K.sz = true) (h0 : N (Ent.same d s)) (h : N (Ent.t s (VA.own e K y))) : ArgR N (.tmp d) (VA.k (kslice K) y) := fun θ S a w R hN hS => by
  have := ArgR.own hp h θ S a w R hN hS
  obtain ⟨_, ⟨_, e0⟩, _⟩ := hN _ h0
  show (VA.k (kslice K) y).sem θ _ (bk none) w (a.tmps.getD d undef)
  rw [e0]; exact this
theorem ArgR.mp {N : Ent → Prop} {α : Type} {P : Program} {kt : TypeId} {K : Kn α} {x : Operand} {id : Nat} {m : GM α} (h : Arg N x (VA.mp false id)) (hm : N (Ent.h id (HE.map P kt K m))) : ArgR N x (VA.k (kmap P kt K) m) := fun θ S a w R hN hS => by
  have hN2 : ∀ e, N e → ∃ ob, e.sem θ S ob a w := fun e he => by obtain ⟨ob, h, _⟩ := hN e he; exact ⟨ob, h⟩
  obtain ⟨_, _, e1⟩ := h θ S a w hN2
  obtain ⟨_, ⟨rfl, hmap⟩, hlt⟩ := hN _ hm
  refine ⟨rfl, [.map (some (θ id))], ⟨θ id, rfl, hlt _ rfl, ?_⟩, e1⟩
  exact MapS.move hmap (Agree.refl _ _) hS rfl
theorem ArgR.mps {N : Ent → Prop} {α β : Type} {P : Program} {kt : TypeId} {K : Kn α} {x : Operand} {id : Nat} {m : GM α} {f : β → GM α} {y : β} (h : Arg N x (VA.mp true id)) (hm : N (Ent.h id (HE.map P kt K m))) (hf : f y = m) : ArgR N x (VA.k (kiso (kmap P kt K) f) y) := fun θ S a w R hN hS => by
  have hN2 : ∀ e, N e → ∃ ob, e.sem θ S ob a w := fun e he => by obtain ⟨ob, h, _⟩ := hN e he; exact ⟨ob, h⟩
  obtain ⟨_, _, e1⟩ := h θ S a w hN2
  obtain ⟨_, ⟨rfl, hmap⟩, hlt⟩ := hN _ hm
  refine ⟨rfl, [.map (some (θ id))], ?_, e1⟩
  show (kmap P kt K).R _ w (f y) _
  rw [hf]
  exact ⟨θ id, rfl, hlt _ rfl, MapS.move hmap (Agree.refl _ _) hS rfl⟩
theorem ArgR.ptk {N : Ent → Prop} {α β : Type} {K : Kn α} {K' : Kn β} {get : α → β} {set : α → β → α} {e : TypeId} {x : Operand} {id off : Nat} {y : α} (hF : Fld K off K' get set) (h : Arg N x (VA.ptr id off)) (hb : N (Ent.h id (HE.box e K y))) : ArgR N x (VA.pt K' (get y)) := fun θ S a w R hN hS => by
  have hN2 : ∀ e, N e → ∃ ob, e.sem θ S ob a w := fun e he => by obtain ⟨ob, h, _⟩ := hN e he; exact ⟨ob, h⟩
  obtain ⟨_, _, e1⟩ := h θ S a w hN2
  obtain ⟨_, ⟨rfl, cs, hc, hr⟩, hlt⟩ := hN _ hb
  have hg := hF.get hr
  refine ⟨rfl, _, e1, hlt _ rfl, _, K'.move hg (Agree.refl _ _) hS, fun i u hu => ?_⟩
  rw [add_add, cell_of_row w (θ id) (off + i) cs e (0, 0) hc]
  rw [List.getElem?_take] at hu
  split at hu
  · rw [List.getElem?_drop] at hu
    simpa using hu
  · cases hu
theorem ArgR.pt {N : Ent → Prop} {α : Type} {K : Kn α} {x : Operand} {y : α} (h : Arg N x (VA.pt K y)) : ArgR N x (VA.pt K y) := fun θ S a w R hN hS => by
  obtain ⟨ob, h1⟩ := h θ S a w (fun e he => by obtain ⟨ob, h, _⟩ := hN e he; exact ⟨ob, h⟩)
  obtain rfl : ob = bk none := h1.1
  exact (VA.pt K y).move h1 (Agree.refl _ _) hS (fun b _ => rfl) (fun k _ => rfl)
theorem ArgR.ptm {N : Ent → Prop} {α β : Type} {P : Program} {kt : TypeId} {K : Kn α} {x : Operand} {id idm : Nat} {e : TypeId} {m : GM α} {f : β → GM α} {y : β} (h : Arg N x (VA.ptr id 0)) (hb : N (Ent.h id (HE.boxm e idm))) (hm : N (Ent.h idm (HE.map P kt K m))) (hf : f y = m) : ArgR N x (VA.pt (kiso (kmap P kt K) f) y) := fun θ S a w R hN hS => by
  have hN2 : ∀ e, N e → ∃ ob, e.sem θ S ob a w := fun e he => by obtain ⟨ob, h, _⟩ := hN e he; exact ⟨ob, h⟩
  obtain ⟨_, _, e1⟩ := h θ S a w hN2
  obtain ⟨_, ⟨rfl, hc⟩, hlt⟩ := hN _ hb
  obtain ⟨_, ⟨rfl, hmap⟩, hlt2⟩ := hN _ hm
  refine ⟨rfl, _, e1, hlt _ rfl, [.map (some (θ idm))], ?_, fun i u hu => ?_⟩
  · show (kmap P kt K).R _ w (f y) _
    rw [hf]
    exact ⟨θ idm, rfl, hlt2 _ rfl, MapS.move hmap (Agree.refl _ _) hS rfl⟩
  · cases i with
    | zero =>
      cases hu
      rw [add_add, cell_of_row w (θ id) _ _ e (0, 0) hc]; rfl
    | succ i => simp at hu
theorem ArgR.ptmm {N : Ent → Prop} {α : Type} {P : Program} {kt : TypeId} {K : Kn α} {x : Operand} {id idm : Nat} {e : TypeId} {m : GM α} (h : Arg N x (VA.ptr id 0)) (hb : N (Ent.h id (HE.boxm e idm))) (hm : N (Ent.h idm (HE.map P kt K m))) : ArgR N x (VA.pt (kmap P kt K) m) := fun θ S a w R hN hS => by
  have hN2 : ∀ e, N e → ∃ ob, e.sem θ S ob a w := fun e he => by obtain ⟨ob, h, _⟩ := hN e he; exact ⟨ob, h⟩
  obtain ⟨_, _, e1⟩ := h θ S a w hN2
  obtain ⟨_, ⟨rfl, hc⟩, hlt⟩ := hN _ hb
  obtain ⟨_, ⟨rfl, hmap⟩, hlt2⟩ := hN _ hm
  refine ⟨rfl, _, e1, hlt _ rfl, [.map (some (θ idm))], ⟨θ idm, rfl, hlt2 _ rfl, MapS.move hmap (Agree.refl _ _) hS rfl⟩, fun i u hu => ?_⟩
  cases i with
  | zero =>
    cases hu
    rw [add_add, cell_of_row w (θ id) _ _ e (0, 0) hc]; rfl
  | succ i => simp at hu
theorem ArgR.mf {N : Ent → Prop} {F : FuncId} {s : Nat} {ys xs : List Nat} {pre caps : List VA} (hn : noIds pre = true) (hm : noIds caps = true) (h : N (Ent.mf s F ys xs)) (hp : Args (ArgR N) (ys.map Operand.tmp) pre) (hc : Args (ArgR N) (xs.map Operand.tmp) caps) : ArgR N (.tmp s) (VA.clo F pre caps) := fun θ S a w R hN hS => by
  obtain ⟨_, ⟨_, e⟩, _⟩ := hN _ h
  have h1 := hp.satR hN hS
  have h2 := hc.satR hN hS
  rw [List.map_map] at h1 h2
  exact ⟨rfl, ⟨hn, hm⟩, _, _, e, h1, h2⟩
theorem ArgR.fn {N : Ent → Prop} {F : FuncId} : ArgR N (.func F) (VA.clo F [] []) := fun θ S a w R hN hS => ⟨rfl, ⟨rfl, rfl⟩, [], [], rfl, trivial, trivial⟩
theorem ArgR.clo {N : Ent → Prop} {F : FuncId} {x : Operand} {pre caps : List VA} (h : Arg N x (VA.clo F pre caps)) : ArgR N x (VA.clo F pre caps) := fun θ S a w R hN hS => by
  obtain ⟨ob, h1⟩ := h θ S a w (fun e he => by obtain ⟨ob, h, _⟩ := hN e he; exact ⟨ob, h⟩)
  obtain rfl : ob = bk none := h1.1
  exact (VA.clo F pre caps).move h1 (Agree.refl _ _) hS (fun b _ => rfl) (fun k _ => rfl)
theorem ArgR.om {α : Type} {P : Program} {kt : TypeId} {K : Kn α} {N : Ent → Prop} {s : Nat} {m : GM α} (h : N (Ent.t s (VA.om P kt K false m))) : ArgR N (.tmp s) (VA.k (kmap P kt K) m) := fun θ S a w R hN hS => by
  obtain ⟨_, ⟨b, rfl, e1, hm⟩, hlt⟩ := hN _ h
  exact ⟨rfl, [.map (some b)], ⟨b, rfl, hlt _ rfl, hm.move (Agree.refl _ _) hS rfl⟩, e1⟩
theorem ArgR.oms {α β : Type} {P : Program} {kt : TypeId} {K : Kn α} {N : Ent → Prop} {s : Nat} {m : GM α} {f : β → GM α} {y : β} (h : N (Ent.t s (VA.om P kt K true m))) (hf : f y = m) : ArgR N (.tmp s) (VA.k (kiso (kmap P kt K) f) y) := fun θ S a w R hN hS => by
  obtain ⟨_, ⟨b, rfl, e1, hm⟩, hlt⟩ := hN _ h
  refine ⟨rfl, [.map (some b)], ?_, e1⟩
  show (kmap P kt K).R _ w (f y) _
  rw [hf]
  exact ⟨b, rfl, hlt _ rfl, hm.move (Agree.refl _ _) hS rfl⟩
theorem ArgR.a {N : Ent → Prop} {x : Operand} {A : VA} (hp : Plain A) (h : Arg N x A) : ArgR N x A := fun θ S a w R hN hS => by
  obtain ⟨ob, h1⟩ := h θ S a w (fun e he => by obtain ⟨ob, h, _⟩ := hN e he; exact ⟨ob, h⟩)
  obtain rfl := hp h1
  exact A.move h1 (Agree.refl _ _) hS (fun b _ => rfl) (fun k _ => rfl)
/-- A function's number with what is bound and what is captured; pointers too. -/
def VA.cl (F : FuncId) (pre caps : List VA) : VA where
  ids := (pre ++ caps).flatMap (·.ids)
  sem := fun θ S ob w v => ob = bk none ∧ ∃ us vs : List Value, v = .func (.func F) us.toArray vs.toArray ∧ argSat θ S w pre us ∧ argSat θ S w caps vs
  move := by rintro θ θ' S S' ob w w' v ⟨h0, us, vs, h1, h2, h3⟩ hA hS _ hi; exact ⟨h0, us, vs, h1, argSat_move h2 hA hS (fun k hk => hi k (by rw [List.flatMap_append]; exact List.mem_append_left _ hk)), argSat_move h3 hA hS (fun k hk => hi k (by rw [List.flatMap_append]; exact List.mem_append_right _ hk))⟩
theorem plain_cl {F : FuncId} {pre caps : List VA} : Plain (VA.cl F pre caps) := fun {θ S ob w v} h => h.1
theorem Arg.cl_of_clo {N : Ent → Prop} {x : Operand} {F : FuncId} {pre caps : List VA} (h : Arg N x (VA.clo F pre caps)) : Arg N x (VA.cl F pre caps) := fun θ S a w hN => by
  obtain ⟨ob, h0, _, h1⟩ := h θ S a w hN
  exact ⟨ob, h0, h1⟩
theorem ArgR.mfl {N : Ent → Prop} {F : FuncId} {s : Nat} {ys xs : List Nat} {pre caps : List VA} (h : N (Ent.mf s F ys xs)) (hp : Args (ArgR N) (ys.map Operand.tmp) pre) (hc : Args (ArgR N) (xs.map Operand.tmp) caps) : ArgR N (.tmp s) (VA.cl F pre caps) := fun θ S a w R hN hS => by
  obtain ⟨_, ⟨_, e⟩, _⟩ := hN _ h
  have h1 := hp.satR hN hS
  have h2 := hc.satR hN hS
  rw [List.map_map] at h1 h2
  exact ⟨rfl, _, _, e, h1, h2⟩
theorem ArgP.mfl {N : Ent → Prop} {F : FuncId} {s : Nat} {ys xs : List Nat} {pre caps : List VA} (h : N (Ent.mf s F ys xs)) (hp : Args (ArgP N) (ys.map Operand.tmp) pre) (hc : Args (ArgP N) (xs.map Operand.tmp) caps) : ArgP N (.tmp s) (VA.cl F pre caps) := fun θ S a w hN hS => by
  obtain ⟨_, ⟨_, e⟩⟩ := hN _ h
  have h1 := hp.sat hN hS
  have h2 := hc.sat hN hS
  rw [List.map_map] at h1 h2
  exact ⟨rfl, _, _, e, h1, h2⟩
theorem ArgP.fnl {N : Ent → Prop} {F : FuncId} : ArgP N (.func F) (VA.cl F [] []) := fun θ S a w hN hS => ⟨rfl, [], [], rfl, trivial, trivial⟩
theorem ArgR.fnl {N : Ent → Prop} {F : FuncId} : ArgR N (.func F) (VA.cl F [] []) := fun θ S a w R hN hS => ⟨rfl, [], [], rfl, trivial, trivial⟩
def EPostF (w0 : World) (X : List Nat) (β : Nat → Nat) (fix : List Nat) (res : List VA) (post : List Ent) (e : Ending) (w' : World) : Prop :=
  ∃ (rs : List Value) (S' : Blk) (θ' : Nat → Nat), e = .returned (tup rs) ∧ Fr X w0 w' ∧ (∀ b, S' b → since w0 w' b ∨ b ∈ X) ∧ (∀ k, k ∈ fix → θ' k = β k) ∧
    resSatE θ' S' w' res rs post (fun b => (since w0 w' b ∨ b ∈ X) ∧ ¬ S' b)
/-- The same, where what comes back shares nothing with what was lent to be read. -/
def ConEF (P : Program) (f : FuncId) (fix : List Nat) (pre : List Ent) (args res : List VA) (post : List Ent) : Prop :=
  ∀ (θ : Nat → Nat) (S : Blk) (w : World) (vs : List Value) (X : List Nat), (∀ b, S b → b < w.heap.size) → (∀ b, b ∈ X → ¬ S b ∧ b < w.heap.size) → sat θ S act0 w [] pre (· ∈ X) → argSat θ S w args vs →
    Calls P f vs.toArray w (EPostF w X θ fix res post)
def FreeEnt (x : Ent) : Prop := ∀ {θ : Nat → Nat} {S S' : Blk} {ob : Blk} {a : Act} {w : World}, x.sem θ S ob a w → x.sem θ S' ob a w
theorem sat_freeE {θ : Nat → Nat} {S S' : Blk} {a : Act} {w : World} : ∀ {Γ : List Ent} {ks : List Nat} {av : Blk}, (∀ e, e ∈ Γ → FreeEnt e) → sat θ S a w ks Γ av → sat θ S' a w ks Γ av
  | [], _, _, _, _ => trivial
  | e :: Γ, ks, av, hf, h => by
    unfold sat at h ⊢
    by_cases hd : dead ks e = true
    · rw [if_pos hd] at h ⊢; exact sat_freeE (fun x hx => hf x (List.mem_cons_of_mem _ hx)) h
    · rw [if_neg hd] at h ⊢
      obtain ⟨ob, h1, h2, h3⟩ := h
      exact ⟨ob, hf e (by simp) h1, h2, sat_freeE (fun x hx => hf x (List.mem_cons_of_mem _ hx)) h3⟩
theorem resSatE_free {θ : Nat → Nat} {S S' : Blk} {w : World} {post : List Ent} (hp : ∀ e, e ∈ post → FreeEnt e) : ∀ {As : List VA} {vs : List Value} {av : Blk}, (∀ A, A ∈ As → Free A) → resSatE θ S w As vs post av → resSatE θ S' w As vs post av
  | [], [], av, _, h => sat_freeE hp h
  | A :: As, v :: vs, av, hf, h => by
    obtain ⟨ob, h1, h2, h3⟩ := h
    exact ⟨ob, hf A (by simp) h1, h2, resSatE_free hp (fun B hB => hf B (List.mem_cons_of_mem _ hB)) h3⟩
theorem ConE.freeL {P : Program} {f : FuncId} {fix : List Nat} {pre post : List Ent} {As res : List VA} (h : ConE P f fix pre As res post) (hf : FreeL res) (hp : ∀ e, e ∈ post → FreeEnt e) : ConEF P f fix pre As res post := fun θ S w vs X hS hX hpre ha => (h θ S w vs X hS hX hpre ha).mono fun e w' ⟨rs, S', θ', h1, h2, h3, h4, h5⟩ => ⟨rs, S', θ', h1, h2, h3, h4, resSatE_free hp hf.spec h5⟩
/-- What no part of pre hides. -/
def NR (N : Ent → Prop) (pre : List Ent) : Ent → Prop := fun e => N e ∧ pre.all (fun x => !e.deps.elem x.key) = true
theorem NR.mk {N : Ent → Prop} {pre : List Ent} {e : Ent} (h : N e) (h1 : pre.all (fun x => !e.deps.elem x.key) = true) : NR N pre e := ⟨h, h1⟩
theorem Has.kills {Γ : List Ent} {e : Ent} {ks : List Nat} (h : Has [] Γ e) (hk : ∀ k, k ∈ ks → k ∉ e.deps) : Has ks Γ e := by
  induction ks with
  | nil => exact h
  | cons k ks ih => exact (ih (fun x hx => hk x (List.mem_cons_of_mem _ hx))).kill (hk k (by simp))
theorem inv_callEF {P : Program} {c : Ctx} {Γ : List Ent} {a : Act} {w : World} {θ : Nat → Nat} {S : Blk} {d : Nat} {f : FuncId} {fix : List Nat} {pre post : List Ent} {As res : List VA} {N : Ent → Prop} (gone chg : List Nat) (hd : Nat.blt d c.n = true)
    (hC : ConEF P f fix pre As res post) (hok : callOk fix chg pre post res gone = true) (hN : ∀ e, N e → Has [] Γ e) (hpre : ∀ e, e ∈ pre → N e) (h1 : a.defers = c.df) (h2 : a.tmps.size = c.n ∧ c.n ≤ 1000000) (h3 : Fr c.X c.w0 w) (h4 : SOk c S w)
    (h5 : sat θ S a w [] Γ (free c S w)) {vs : List Value} (ha : ∀ R : Blk, (∀ e, NR N pre e → ∃ ob, e.sem θ S ob a w ∧ ∀ b, ob b → R b) → (∀ b, S b → R b) → argSat θ R w As vs) : Calls P f vs.toArray w fun e w' => ∃ v, e = .returned v ∧ Inv c (callΔ d res post gone chg ++ Γ) (a.put (some d) v) w' := by
  obtain ⟨k1, k6, _⟩ := callOk_parts hok
  obtain ⟨X, ks2, g1, g2, g3, g4⟩ := sat_takes (N := w.heap.size) (fun b hb => hb.2.1) k1 (fun e he => hN e (hpre e he)) h5
  have hargs := ha (fun b => b < w.heap.size ∧ b ∉ X) (fun e he => by
    have hk : ∀ k, k ∈ ks2 → k ∉ e.deps := fun k hk hd => by
      rcases g4 k hk with h | h
      · cases h
      · obtain ⟨x, hx, rfl⟩ := List.mem_map.1 h
        have := List.all_eq_true.1 he.2 x hx
        simp [hd] at this
    obtain ⟨ob, s1, s2, _⟩ := sat_take ((hN e he.1).kills hk) g3
    exact ⟨ob, s1, fun b hb => ⟨(s2 b hb).1.2.1, (s2 b hb).2⟩⟩) (fun b hb => ⟨(h4 b hb).1, fun hx => (g1 b hx).1 hb⟩)
  have hpre' : sat θ (fun b => b < w.heap.size ∧ b ∉ X) act0 w [] pre (· ∈ X) := sat_move (sat_act k6 g2) (Agree.refl _ _) (fun b hb => ⟨(h4 b hb).1, fun hx => (g1 b hx).1 hb⟩) (fun b _ => rfl) (fun t _ => rfl) (fun k _ => rfl)
  refine (hC θ _ w vs X (fun b hb => hb.1) (fun b hb => ⟨fun h => h.2 hb, (g1 b hb).2.1⟩) hpre' hargs).mono fun e w' hE => after_callE gone chg hd hok g1 g3 g4 h1 h2 h3 h4 ?_
  obtain ⟨rs, S', θ', e1, e2, e3, e4, e5⟩ := hE
  exact ⟨rs, S', θ', e1, e2, e3, e4, resSatE_move (fun b hb => .inr hb) (fun b hb => hb) e5⟩
inductive All (N : Ent → Prop) : List Ent → Prop
  | nil : All N []
  | cons {e : Ent} {l : List Ent} : N e → All N l → All N (e :: l)
theorem All.spec {N : Ent → Prop} {l : List Ent} (h : All N l) : ∀ e, e ∈ l → N e := by
  induction h with
  | nil => intro e he; cases he
  | cons h1 _ ih =>
    intro e he
    rcases List.mem_cons.1 he with rfl | he
    · exact h1
    · exact ih e he
section
variable {P : Program} {n d : Nat} {ty t t' : TypeId} {pos : String} {af : Array Edge} {g : Option (Nat × Bool)} {N : Ent → Prop}
theorem op_callE {f : FuncId} {xs : List Operand} {at_ : Array TypeId} {fix : List Nat} {pre post : List Ent} {As res : List VA} (gone chg : List Nat) (hd : Nat.blt d n = true) (hf : Enters P f) (hC : ConE P f fix pre As res post) (hok : callOk fix chg pre post res gone = true) (hpre : All N pre) (hx : Args (ArgP N) xs As) :
    OpSpec P n ⟨some d, .call { callee := .value (.func f), args := xs.toArray, argTypes := at_ }, ty, pos, af, g⟩ N (callΔ d res post gone chg) := by
  rintro c Γ a w Q rfl hN ⟨h1, h2, h3, θ, S, h4, h5⟩
  unfold Oper.wp
  rw [run_call_op hf rfl]
  refine (inv_callE gone chg hd hC hok (fun e he => hN e (hpre.spec e he)) h1 h2 h3 h4 h5 (hx.sat (sems hN h5) (fun b hb => (h4 b hb).1))).mono ?_
  rintro e w' ⟨v, rfl, h⟩
  exact h
theorem op_callvE {f : FuncId} {pb caps : List VA} {o : Operand} {xs : List Operand} {at_ : Array TypeId} {fix : List Nat} {pre post : List Ent} {As res : List VA} (gone chg : List Nat) (hd : Nat.blt d n = true) (ho : ArgP N o (VA.cl f pb caps)) (hf : Enters P f) (hC : ConE P f fix pre (pb ++ (As ++ caps)) res post) (hok : callOk fix chg pre post res gone = true) (hpre : All N pre) (hx : Args (ArgP N) xs As) :
    OpSpec P n ⟨some d, .call { callee := .value o, args := xs.toArray, argTypes := at_ }, ty, pos, af, g⟩ N (callΔ d res post gone chg) := by
  rintro c Γ a w Q rfl hN ⟨h1, h2, h3, θ, S, h4, h5⟩
  have hN2 := sems hN h5
  obtain ⟨_, us, vs, e1, hu, hv⟩ := ho θ S a w hN2 (fun b hb => (h4 b hb).1)
  unfold Oper.wp
  rw [run_callv_op hf e1]
  refine (inv_callE gone chg hd hC hok (fun e he => hN e (hpre.spec e he)) h1 h2 h3 h4 h5 (argSat_app hu (argSat_app (hx.sat hN2 (fun b hb => (h4 b hb).1)) hv))).mono ?_
  rintro e w' ⟨v, rfl, h⟩
  exact h
theorem op_callEF {f : FuncId} {xs : List Operand} {at_ : Array TypeId} {fix : List Nat} {pre post : List Ent} {As res : List VA} (gone chg : List Nat) (hd : Nat.blt d n = true) (hf : Enters P f) (hC : ConEF P f fix pre As res post) (hok : callOk fix chg pre post res gone = true) (hpre : All N pre) (hx : Args (ArgR (NR N pre)) xs As) :
    OpSpec P n ⟨some d, .call { callee := .value (.func f), args := xs.toArray, argTypes := at_ }, ty, pos, af, g⟩ N (callΔ d res post gone chg) := by
  rintro c Γ a w Q rfl hN ⟨h1, h2, h3, θ, S, h4, h5⟩
  unfold Oper.wp
  rw [run_call_op hf rfl]
  refine (inv_callEF gone chg hd hC hok hN hpre.spec h1 h2 h3 h4 h5 (fun R hR hS => hx.satR hR hS)).mono ?_
  rintro e w' ⟨v, rfl, h⟩
  exact h
theorem op_callvEF {f : FuncId} {pb caps : List VA} {o : Operand} {xs : List Operand} {at_ : Array TypeId} {fix : List Nat} {pre post : List Ent} {As res : List VA} (gone chg : List Nat) (hd : Nat.blt d n = true) (ho : ArgR (NR N pre) o (VA.cl f pb caps)) (hf : Enters P f) (hC : ConEF P f fix pre (pb ++ (As ++ caps)) res post) (hok : callOk fix chg pre post res gone = true) (hpre : All N pre) (hx : Args (ArgR (NR N pre)) xs As) :
    OpSpec P n ⟨some d, .call { callee := .value o, args := xs.toArray, argTypes := at_ }, ty, pos, af, g⟩ N (callΔ d res post gone chg) := by
  rintro c Γ a w Q rfl hN ⟨h1, h2, h3, θ, S, h4, h5⟩
  obtain ⟨us, vs, e1⟩ : ∃ us vs : List Value, a.eval o = .func (.func f) us.toArray vs.toArray := by
    obtain ⟨_, us, vs, e1, _⟩ := ho θ S a w (fun b => b < w.heap.size) (fun e he => semsB hN h5 e he.1) (fun b hb => (h4 b hb).1)
    exact ⟨us, vs, e1⟩
  unfold Oper.wp
  rw [run_callv_op hf e1]
  refine (inv_callEF gone chg hd hC hok hN hpre.spec h1 h2 h3 h4 h5 (fun R hR hS => ?_)).mono ?_
  · obtain ⟨_, us', vs', e2, hu, hv⟩ := ho θ S a w R hR hS
    rw [e1] at e2
    simp only [Value.func.injEq] at e2
    obtain ⟨_, q1, q2⟩ := e2
    obtain rfl : us = us' := by simpa using congrArg Array.toList q1
    obtain rfl : vs = vs' := by simpa using congrArg Array.toList q2
    exact argSat_app hu (argSat_app (hx.satR hR hS) hv)
  rintro e w' ⟨v, rfl, h⟩
  exact h
end
end Go.Proofs.Ytlpmolohppoofaa.Sl
/- Own rows cut, their ends cleared, tested for nil; rows stored into boxes that are known field by field. -/
set_option linter.unusedVariables false
set_option linter.unusedSimpArgs false
set_option linter.unnecessarySimpa false
set_option linter.deprecated false
namespace Go.Proofs.Ytlpmolohppoofaa.Sl
open Go Go.RowKit
/-- Slot d holds the end of slot s's row, from lo on. -/
def Ent.tl (d s lo sz : Nat) : Ent where
  key := d
  slots := [d, s]
  ids := []
  sem := fun _ _ ob a _ => ob = bk none ∧ ∃ A n c, a.tmps.getD s undef = .slice A n c ∧ lo ≤ n ∧ n ≤ c ∧ a.tmps.getD d undef = .slice (if c = lo then A else A.map (·.add (lo * sz))) (n - lo) (c - lo)
  move := by
    rintro θ θ' S S' ob a a' w w' ⟨h0, A, n, c, h1, h2, h2', h3⟩ _ _ _ ht _
    exact ⟨h0, A, n, c, by rw [ht s (by simp)]; exact h1, h2, h2', by rw [ht d (by simp)]; exact h3⟩
theorem own_le {α : Type} {e : TypeId} {K : Kn α} {θ : Nat → Nat} {S : Blk} {ob : Blk} {w : World} {xs : List α} {v : Value} (h : (VA.own e K xs).sem θ S ob w v) : ∃ A c, v = .slice A xs.length c ∧ xs.length ≤ c ∧ c ≤ maxLen := by
  obtain ⟨_, inner, ⟨_, ho⟩, _⟩ := h
  rcases ho with ⟨rfl, hn⟩ | ⟨g, cap, cur, rfl, _, _, h1, h2, _⟩
  · exact ⟨none, 0, by rw [hn], by omega, Nat.zero_le _⟩
  · exact ⟨_, cap, rfl, h1, h2⟩
section
variable {P : Program} {n d : Nat} {ty t t' : TypeId} {pos : String} {af : Array Edge} {g : Option (Nat × Bool)} {N : Ent → Prop}
theorem op_slice_tail {α : Type} {K : Kn α} {xs : List α} {q s : Nat} {lo : Operand} {i : Int} {e e' : TypeId} (hd : Nat.blt d n = true) (hds : Nat.beq s d = false) (hu : P.underlying t = some (.slice e)) (hk : TK P e K) (h0 : 0 ≤ i) (h1 : i ≤ xs.length) (hq : Slot N q s) (ho : N (Ent.t s (VA.own e' K xs))) (hl : Arg N lo (VA.k (kint .i64) i)) :
    OpSpec P n ⟨some d, .slice t (.tmp q) (some lo) none none, ty, pos, af, g⟩ N [Ent.tl d s i.toNat K.sz] := by
  rintro c Γ a w Q rfl hN ⟨h1', h2, h3, θ, S, h4, h5⟩
  have hN2 := sems hN h5
  obtain ⟨_, hw⟩ := hN2 _ ho
  obtain ⟨A, cp, e1, e2, e3⟩ := own_le (θ := θ) hw
  have e1' : a.eval (.tmp q) = .slice A xs.length cp := (hq.eval hN2).trans e1
  obtain ⟨_, hlo⟩ := hl θ S a w hN2
  have e4 := k_int hlo
  have hb := run_sliceBounds (P := P) (isS := true) (len := xs.length) (cap := cp) (lo := some i) (hi := none) w h0 (by simpa using h1) (by simpa using e2) e2
  simp only [Option.map_some, Option.map_none, Option.getD_some, Option.getD_none, Int.toNat_natCast] at hb
  have hrun : (execOp a.eval ⟨some d, .slice t (.tmp q) (some lo) none none, ty, pos, af, g⟩).run P w = .ok (.value (.slice (if cp = i.toNat then A else A.map (·.add (i.toNat * K.sz))) (xs.length - i.toNat) (cp - i.toNat))) w := by
    clear hlo hl ho hN hN2 hw e1 hq h5 h1' h2
    generalize a.eval = ρ at *
    simp [execOp, Instr.sliceAt, Instr.slice, e1', e4, run_underlying hu, hb, hk.size, Sem.run_bind, Sem.run_pure, Result.andThen_ok]
  unfold Oper.wp
  rw [hrun]
  have hdn := blt_lt hd
  have hne : s ≠ d := fun e => by rw [e, Nat.beq_refl] at hds; cases hds
  refine inv_put_e (θ := θ) (S := S) hd rfl h1' h2 h3 h4 h5 rfl ⟨rfl, A, xs.length, cp, ?_, by omega, e2, ?_⟩
  · rw [put_getD_ne hne]; exact e1
  · rw [put_getD_self (by omega)]
/-- The end of an own row is cleared. -/
theorem op_clear_tail {α : Type} {K : Kn α} {xs : List α} {z : α} {q s lo : Nat} {at_ : Array TypeId} {e : TypeId} (ha : at_[0]? = some t) (hT : ∃ bytes, AT P t e K bytes) (hz : ZK P e K z) (ho : N (Ent.t s (VA.own e K xs))) (hp : N (Ent.tl q s lo K.sz)) (hk : TK P e K) :
    OpSpec P n ⟨none, .call { callee := .builtin .clear, args := #[.tmp q], argTypes := at_ }, ty, pos, af, g⟩ N [Ent.t s (VA.own e K (xs.take lo ++ List.replicate (xs.length - lo) z))] := by
  rintro c Γ a w Q rfl hN ⟨h1, h2, h3, θ, S, h4, h5⟩
  obtain ⟨bytes, hT⟩ := hT
  have hN2 := sems hN h5
  obtain ⟨_, _, A, n', c', e1, e2, e2c, e2'⟩ := hN2 _ hp
  obtain ⟨ob, hw, hav, h6⟩ := sat_take (hN _ ho) h5
  have e2q : a.eval (.tmp q) = .slice (if c' = lo then A else A.map (·.add (lo * K.sz))) (n' - lo) (c' - lo) := e2'
  obtain ⟨A0, c0, e3, e4, e5⟩ := own_le (θ := θ) hw
  have e6 : a.tmps.getD s undef = .slice A0 xs.length c0 := e3
  rw [e1] at e6
  injection e6 with e7 e8 e9
  subst e7; subst e8; subst e9
  rcases Nat.lt_or_ge lo xs.length with hlt | hge
  · obtain ⟨g2, cap, cur, f3, rfl, f4, f5, f6, f7, f8⟩ := own_cur (θ := θ) hw (by omega)
    have f3' : a.tmps.getD s undef = .slice (some ⟨g2, 0, none⟩) xs.length cap := f3
    rw [e1] at f3'
    injection f3' with f9 _ f10
    subst f9; subst f10
    have hfree := hav _ rfl
    obtain ⟨z0, hzv, hzr⟩ := run_zero hz w
    have hzs : z0.cells.size = K.sz := by rw [← Array.length_toList]; exact K.len (hzr S w)
    have hlist : (Builtin.zeroCells z0.cells (xs.length - lo)).size = (xs.length - lo) * K.sz := by simp [Builtin.zeroCells, hzs]
    have hone : ∀ u, u ∈ (Builtin.zeroCells z0.cells (xs.length - lo)).toList → u.oneCell' = true := fun u hu => by
      simp only [Builtin.zeroCells, Array.toList_map, List.mem_map] at hu
      obtain ⟨i, _, rfl⟩ := hu
      have hp := hk.pos
      refine K.one (hzr S w) _ ?_
      have : i % z0.cells.size < z0.cells.size := Nat.mod_lt _ (by rw [hzs]; exact hp)
      rw [getElem!_pos z0.cells _ this]
      simp
    have hne0 : c' ≠ lo := by omega
    have hst := run_storeCells_at (P := P) g2 (lo * K.sz) e (Builtin.zeroCells z0.cells (xs.length - lo)).toList 0 cur w f4 (by
      rw [Array.length_toList, hlist, f7, Nat.add_zero, ← Nat.add_mul]; exact Nat.mul_le_mul_right _ (by omega)) hone
    simp only [Nat.add_zero] at hst
    have hrun : (execOp a.eval ⟨none, .call { callee := .builtin .clear, args := #[.tmp q], argTypes := at_ }, ty, pos, af, g⟩).run P w = .ok (.value (.tuple #[])) (w.setRow g2 (cur.toList.take (lo * K.sz) ++ (Builtin.zeroCells z0.cells (xs.length - lo)).toList ++ cur.toList.drop (lo * K.sz + (Builtin.zeroCells z0.cells (xs.length - lo)).toList.length)).toArray) := by
      clear hN hN2 hp ho h5 h6 h1 h2 hw e1 e2' e3
      generalize a.eval = ρ at *
      have hm : xs.length - lo ≠ 0 := by omega
      obtain ⟨m, hm'⟩ : ∃ m, xs.length - lo = m + 1 := ⟨xs.length - lo - 1, by omega⟩
      rw [if_neg hne0] at e2q
      simp only [Option.map_some, add_add, Nat.zero_add] at e2q
      rw [hm'] at e2q hst ⊢
      simp [execOp, resolve, invoke, builtin, Builtin.clear_, ha, e2q, run_underlying hT.u, hzv, hst, Sem.run_bind, Sem.run_pure, Result.andThen_ok]
    unfold Oper.wp
    rw [hrun]
    have hne : ∀ b, S b → b ≠ g2 := fun b hs e => hfree.1 (e ▸ hs)
    have hag : Agree S w (w.setRow g2 (cur.toList.take (lo * K.sz) ++ (Builtin.zeroCells z0.cells (xs.length - lo)).toList ++ cur.toList.drop (lo * K.sz + (Builtin.zeroCells z0.cells (xs.length - lo)).toList.length)).toArray) := fun b hs => setRow_ne _ _ _ _ (hne b hs)
    show Inv c _ (a.put none (.tuple #[])) _
    refine ⟨h1, h2, h3.setRow hfree.2.2 _, θ, S, h4.grow (by rw [setRow_size]; exact Nat.le_refl _), ?_⟩
    refine sat_consB (b := g2) (dead_nil _) ?_ ⟨hfree.1, by rw [setRow_size]; exact hfree.2.1, hfree.2.2⟩ ?_
    · have hlen : cur.toList.length = c' * K.sz := by rw [Array.length_toList, f7]
      have hm1 : lo * K.sz + (xs.length - lo) * K.sz = xs.length * K.sz := by rw [← Nat.add_mul]; congr 1; omega
      have hm2 : xs.length * K.sz ≤ c' * K.sz := Nat.mul_le_mul_right _ f5
      have hzl : (Builtin.zeroCells z0.cells (xs.length - lo)).toList.length = (xs.length - lo) * K.sz := by rw [Array.length_toList, hlist]
      have hnew : (cur.toList.take (lo * K.sz) ++ (Builtin.zeroCells z0.cells (xs.length - lo)).toList ++ cur.toList.drop (lo * K.sz + (Builtin.zeroCells z0.cells (xs.length - lo)).toList.length)).length = c' * K.sz := by
        simp only [List.length_append, List.length_take, List.length_drop, hzl, hlen]; omega
      have hxl : (xs.take lo ++ List.replicate (xs.length - lo) z).length = xs.length := by simp; omega
      refine ⟨?_, (cur.toList.take (lo * K.sz) ++ (Builtin.zeroCells z0.cells (xs.length - lo)).toList ++ cur.toList.drop (lo * K.sz + (Builtin.zeroCells z0.cells (xs.length - lo)).toList.length)).take (xs.length * K.sz), ?_, fun j p hj => ?_⟩
      · show bk (some g2) = bk (a.tmps.getD s undef).ownBlock
        rw [e1]; rfl
      · rw [hxl]
        refine ⟨by rw [List.length_take, hnew]; exact Nat.min_eq_left hm2, .inr ⟨g2, c', _, e1, Nat.zero_le _, setRow_heap w _ _ _ e (0, 0) f4, f5, f6, ?_, ?_⟩⟩
        · rw [List.size_toArray]; exact hnew
        · rfl
      · have hjl := (List.getElem?_eq_some_iff.1 hj).1
        rw [hxl] at hjl
        have hjb : j * K.sz + K.sz ≤ xs.length * K.sz := by rw [← Nat.succ_mul]; exact Nat.mul_le_mul_right _ hjl
        rw [List.drop_take, List.take_take, Nat.min_eq_left (by omega)]
        rcases Nat.lt_or_ge j lo with hjlo | hjlo
        · rw [List.getElem?_append_left (by simp; omega), List.getElem?_take, if_pos hjlo] at hj
          have h10 := f8 _ _ hj
          have hjb2 : j * K.sz + K.sz ≤ lo * K.sz := by rw [← Nat.succ_mul]; exact Nat.mul_le_mul_right _ hjlo
          have h11 : ((cur.toList.take (lo * K.sz) ++ (Builtin.zeroCells z0.cells (xs.length - lo)).toList ++ cur.toList.drop (lo * K.sz + (Builtin.zeroCells z0.cells (xs.length - lo)).toList.length)).drop (j * K.sz)).take K.sz = (cur.toList.drop (j * K.sz)).take K.sz := by
            apply List.ext_getElem?
            intro m
            rw [List.getElem?_take, List.getElem?_take]
            split
            · rw [List.getElem?_drop, List.getElem?_drop, List.append_assoc, List.getElem?_append_left (by rw [List.length_take, hlen]; omega), List.getElem?_take, if_pos (by omega)]
            · rfl
          rw [h11]
          exact K.move h10 hag (fun b hb => hb)
        · have hz1 : p = z := by
            rw [List.getElem?_append_right (by simp; omega), List.getElem?_replicate] at hj
            split at hj
            · cases hj; rfl
            · cases hj
          subst hz1
          have hjb2 : lo * K.sz ≤ j * K.sz := Nat.mul_le_mul_right _ hjlo
          have h11 : ((cur.toList.take (lo * K.sz) ++ (Builtin.zeroCells z0.cells (xs.length - lo)).toList ++ cur.toList.drop (lo * K.sz + (Builtin.zeroCells z0.cells (xs.length - lo)).toList.length)).drop (j * K.sz)).take K.sz = z0.cells.toList := by
            apply List.ext_getElem?
            intro m
            rw [List.getElem?_take]
            split
            · rename_i hm
              rw [List.getElem?_drop, List.append_assoc, List.getElem?_append_right (by rw [List.length_take, hlen]; omega), List.length_take, hlen, Nat.min_eq_left (by omega), List.getElem?_append_left (by rw [hzl]; omega)]
              have hb1 : j * K.sz + m - lo * K.sz < (Builtin.zeroCells z0.cells (xs.length - lo)).size := by rw [hlist]; omega
              rw [Array.getElem?_toList, Array.getElem?_eq_getElem hb1, Array.getElem?_toList, Array.getElem?_eq_getElem (by rw [hzs]; exact hm)]
              congr 1
              simp only [Builtin.zeroCells, Array.getElem_map, Array.getElem_range, hzs]
              have e10 : (j * K.sz + m - lo * K.sz) % K.sz = m := by
                have : j * K.sz + m - lo * K.sz = K.sz * (j - lo) + m := by rw [Nat.mul_comm K.sz, Nat.sub_mul]; omega
                rw [this, Nat.mul_add_mod, Nat.mod_eq_of_lt hm]
              rw [e10, getElem!_pos z0.cells m (by omega)]
            · rename_i hm
              rw [List.getElem?_eq_none (by rw [Array.length_toList, hzs]; omega)]
          rw [h11]
          exact hzr _ _
    · refine sat_mono (sat_move h6 hag (fun b hb => hb) (fun b hb => setRow_ne _ _ _ _ (fun e => hb.2 (by rw [e]))) (fun t _ => rfl) (fun k _ => rfl)) (fun k hk => hk) (fun b hb => ⟨⟨hb.1.1, by rw [setRow_size]; exact hb.1.2.1, hb.1.2.2⟩, fun e => hb.2 (by rw [e])⟩)
  · have hlo : lo = xs.length := by omega
    subst hlo
    have hrun : (execOp a.eval ⟨none, .call { callee := .builtin .clear, args := #[.tmp q], argTypes := at_ }, ty, pos, af, g⟩).run P w = .ok (.value (.tuple #[])) w := by
      clear hN hN2 hp ho h5 h6 h1 h2 hw e1 e2' e3
      generalize a.eval = ρ at *
      rw [Nat.sub_self] at e2q
      generalize (if c' = xs.length then A else A.map (·.add (xs.length * K.sz))) = B at e2q
      cases B <;> simp [execOp, resolve, invoke, builtin, Builtin.clear_, ha, e2q, run_underlying hT.u, Sem.run_bind, Sem.run_pure, Result.andThen_ok]
    unfold Oper.wp
    rw [hrun]
    show Inv c _ (a.put none (.tuple #[])) _
    refine ⟨h1, h2, h3, θ, S, h4, sat_consO (ob := ob) (dead_nil _) ?_ hav h6⟩
    rw [Nat.sub_self, List.take_length, List.replicate_zero, List.append_nil]
    exact hw
/-- An own row is cut behind its first elements; the old slot is struck. -/
theorem op_slice_own {α : Type} {K : Kn α} {xs : List α} {q s : Nat} {hi : Operand} {i : Int} {e e' : TypeId} (hd : Nat.blt d n = true) (hds : Nat.beq s d = false) (hu : P.underlying t = some (.slice e)) (hk : TK P e K) (h0 : 0 ≤ i) (hle : i ≤ xs.length) (hq : Slot N q s) (ho : N (Ent.t s (VA.own e' K xs))) (hh : Arg N hi (VA.k (kint .i64) i)) :
    OpSpec P n ⟨some d, .slice t (.tmp q) none (some hi) none, ty, pos, af, g⟩ N [Ent.t d (VA.own e' K (xs.take i.toNat)), Ent.t s VA.any] := by
  rintro c Γ a w Q rfl hN ⟨h1, h2, h3, θ, S, h4, h5⟩
  have hN2 := sems hN h5
  obtain ⟨_, hlo⟩ := hh θ S a w hN2
  have e4 := k_int hlo
  obtain ⟨ob, hw, hav, h6⟩ := sat_take (hN _ ho) h5
  obtain ⟨A, cp, e1, e2, e3⟩ := own_le (θ := θ) hw
  have e1' : a.eval (.tmp q) = .slice A xs.length cp := (hq.eval hN2).trans e1
  have hb := run_sliceBounds (P := P) (isS := true) (len := xs.length) (cap := cp) (lo := none) (hi := some i) w (Int.le_refl _) (by simpa using h0) (by simp; omega) e2
  simp only [Option.map_some, Option.map_none, Option.getD_some, Option.getD_none] at hb
  have hrun : (execOp a.eval ⟨some d, .slice t (.tmp q) none (some hi) none, ty, pos, af, g⟩).run P w = .ok (.value (.slice (if cp = 0 then A else A.map (·.add 0)) i.toNat cp)) w := by
    clear hlo hh ho hN hN2 hw e1 hq h5 h1 h2 h6
    generalize a.eval = ρ at *
    simp [execOp, Instr.sliceAt, Instr.slice, e1', e4, run_underlying hu, hb, hk.size, Sem.run_bind, Sem.run_pure, Result.andThen_ok]
  have hadd : ∀ A : Option Addr, A.map (·.add 0) = A := fun A => by cases A <;> simp [Addr.add]
  have hite : (if cp = 0 then A else A.map (·.add 0)) = A := by rw [hadd]; exact ite_self A
  rw [hite] at hrun
  unfold Oper.wp
  rw [hrun]
  have hdn := blt_lt hd
  have hne : s ≠ d := fun e => by rw [e, Nat.beq_refl] at hds; cases hds
  show Inv c _ (a.put (some d) _) w
  refine ⟨by rw [put_defers]; exact h1, by rw [put_size]; exact h2, h3, θ, S, h4, ?_⟩
  refine sat_consO (ob := ob) (dead_nil _) ?_ hav (sat_consK ?_ rfl ?_)
  · show (VA.own e' K (xs.take i.toNat)).sem θ S ob w ((a.put (some d) _).tmps.getD d undef)
    rw [put_getD_self (by omega)]
    have hw' : (VA.own e' K xs).sem θ S ob w (a.tmps.getD s undef) := hw
    obtain ⟨hob, inner, ⟨hlen, hor⟩, hr⟩ := hw'
    have e1'' : a.tmps.getD s undef = .slice A xs.length cp := e1
    have hil : i.toNat ≤ xs.length := by omega
    have hmul : i.toNat * K.sz ≤ xs.length * K.sz := Nat.mul_le_mul_right _ hil
    have htl : (xs.take i.toNat).length = i.toNat := by rw [List.length_take]; exact Nat.min_eq_left hil
    refine ⟨?_, inner.take (i.toNat * K.sz), ⟨by rw [List.length_take, hlen, htl]; exact Nat.min_eq_left hmul, ?_⟩, fun j p hj => ?_⟩
    · rw [hob, e1'']; cases A <;> rfl
    · rcases hor with ⟨hv, hn⟩ | ⟨g2, cap, cur, hv, f1, f2, f3, f4, f5, f6⟩
      · rw [e1''] at hv
        injection hv with v1 v2 v3
        subst v1; subst v3
        have : i.toNat = 0 := by omega
        left
        rw [this]; exact ⟨rfl, by simp⟩
      · rw [e1''] at hv
        injection hv with v1 v2 v3
        subst v1; subst v3
        right
        refine ⟨g2, cp, cur, by rw [htl], f1, f2, by rw [htl]; omega, f4, f5, ?_⟩
        rw [htl, ← f6, List.take_take, Nat.min_eq_left hmul]
    · have hj2 := hj
      rw [List.getElem?_take] at hj2
      split at hj2
      · rename_i hlt
        have := hr j p hj2
        have hjb : j * K.sz + K.sz ≤ i.toNat * K.sz := by rw [← Nat.succ_mul]; exact Nat.mul_le_mul_right _ hlt
        rw [List.drop_take, List.take_take, Nat.min_eq_left (by omega)]
        exact this
      · cases hj2
  · refine dead_iff (fun k hk => ?_)
    simp only [Ent.t, List.mem_singleton] at hk
    simp only [Ent.deps, Ent.t, VA.any, List.map_nil, List.append_nil, List.mem_cons, List.not_mem_nil, or_false]
    omega
  · have h7 := sat_mono h6 (ks' := [s, d]) (fun k hk => by simp [Ent.t] at hk; simp [hk]) (fun b hb => hb)
    exact sat_mono (sat_move h7 (Agree.refl _ _) (fun b hb => hb) (fun b _ => rfl) (fun t ht => put_getD_ne (fun e => ht (by simp [e]))) (fun k _ => rfl)) (fun k hk => hk) (fun b hb => hb)
/-- Is a row nil? If it is, it is empty. -/
def VA.nilb {α : Type} (xs : List α) : VA where
  ids := []
  sem := fun _ _ ob _ v => ob = bk none ∧ ∃ b, v = .bool b ∧ (b = true → xs = [])
  move := fun h _ _ _ _ => h
theorem run_eqIn_slice {P : Program} (d : Nat) {t e : TypeId} (ht : P.underlying t = some (.slice e)) (w : World) (A : Option Addr) (n c : Nat) : (Op.equalIn (d + 1) t (.slice A n c) (.slice none 0 0)).run P w = .ok A.isNone w := by
  unfold Op.equalIn
  cases A <;> simp [run_underlying ht, Sem.run_bind, Sem.run_pure, Result.andThen_ok]
theorem run_eq_slice {P : Program} {t e : TypeId} (ht : P.underlying t = some (.slice e)) (w : World) (A : Option Addr) (n c : Nat) : (Op.equal t (.slice A n c) (.slice none 0 0)).run P w = .ok A.isNone w := run_eqIn_slice 9999 ht w A n c
theorem op_isnil {α : Type} {K : Kn α} {xs : List α} {x : Operand} {e : TypeId} (hd : Nat.blt d n = true) (hu : P.underlying t = some (.slice e)) (hx : Arg N x (VA.k (kslice K) xs)) :
    OpSpec P n ⟨some d, .binOp .eql t x (.const (.slice none 0 0)) t', ty, pos, af, g⟩ N [Ent.t d (VA.nilb xs)] := op_pure hd fun θ S act w hN => by
  obtain ⟨_, h1⟩ := hx θ S act w hN
  obtain ⟨A, c, e1, hc, hm, hr⟩ := k_slice h1
  have hq : ∀ w, (Op.equal t (.slice A xs.length c) (.slice none 0 0)).run P w = .ok A.isNone w := fun w => by
    exact run_eq_slice hu w A xs.length c
  refine ⟨.bool A.isNone, ?_, rfl, A.isNone, rfl, fun hA => ?_⟩
  · clear h1 hx hN
    have he : act.eval (.const (.slice none 0 0)) = .slice none 0 0 := rfl
    generalize act.eval = ρ at *
    have e2 : ρ (.const (.slice none 0 0)) = .slice none 0 0 := he
    have hg : eqGuard .eql t x (.const (.slice none 0 0)) (.slice A xs.length c) (.slice none 0 0) = pure () := rfl
    simp [execOp, e1, e2, hg, binOp, hq, Sem.run_bind, Sem.run_pure, Result.andThen_ok]
  · cases A with
    | some _ => cases hA
    | none =>
      rcases Nat.eq_zero_or_pos xs.length with h | h
      · exact List.length_eq_zero_iff.1 h
      · obtain ⟨ad, e, _⟩ := hr h
        cases e
theorem goes_ifnil {c : Ctx} {Γ : List Ent} {Q : Exit → Act → World → Prop} {α : Type} {xs : List α} {x y : Code} {o : Operand} (hc : Arg (Has [] Γ) o (VA.nilb xs)) (ht : xs = [] → Goes P c Γ x Q) (hf : Goes P c Γ y Q) : Goes P c Γ (.cond o x y) Q := fun a w hi => by
  obtain ⟨h1, h2, h3, θ, S, h4, h5⟩ := id hi
  obtain ⟨_, _, b, e1, hb⟩ := hc θ S a w (sems (fun _ he => he) h5)
  exact wpIn_cond_split e1 (fun e => ht (hb e) a w hi) (fun e => hf a w hi)
end
end Go.Proofs.Ytlpmolohppoofaa.Sl
/- Boxes that are known field by field: what stores and loads do, whole and in part. -/
set_option linter.unusedVariables false
set_option linter.unusedSimpArgs false
set_option linter.unnecessarySimpa false
set_option linter.deprecated false
namespace Go.Proofs.Ytlpmolohppoofaa.Sl
open Go Go.RowKit
/-- A slice that is nil. -/
def knil : Kn Unit := Kn.scalar (fun _ => Value.slice none 0 0) (fun _ => rfl)
theorem zr_nil : ZR knil () [.slice none 0 0] := fun _ _ => rfl
theorem Arg.knil {N : Ent → Prop} : Arg N (.const (.slice none 0 0)) (VA.k knil ()) := fun θ S a w hN => ⟨bk none, rfl, _, rfl, rfl⟩
/-- A value, field by field, from offset o on. -/
inductive FieldsOf : {α : Type} → Kn α → α → Nat → List FA → Prop
  | leaf {α : Type} {K : Kn α} {x : α} {o : Nat} : FieldsOf K x o [FA.k o K x]
  | nil {o : Nat} : FieldsOf knil () o [FA.v o (.slice none 0 0)]
  | pair {α β : Type} {a : Kn α} {b : Kn β} {x : α} {y : β} {o : Nat} {la lb : List FA} : FieldsOf a x o la → FieldsOf b y (o + a.sz) lb → FieldsOf (kpair a b) (x, y) o (la ++ lb)
  | iso {α β : Type} {d : Kn α} {f : β → α} {y : β} {x : α} {o : Nat} {l : List FA} : FieldsOf d x o l → f y = x → FieldsOf (kiso d f) y o l
theorem FieldsOf.out {θ : Nat → Nat} {S : Blk} {w : World} {α : Type} {K : Kn α} {x : α} {o : Nat} {l : List FA} (h : FieldsOf K x o l) : ∀ {cs : List Value}, K.R S w x cs → ∀ f, f ∈ l → o ≤ f.off ∧ f.off + f.sz ≤ o + K.sz ∧ f.sem θ S w ((cs.drop (f.off - o)).take f.sz) := by
  induction h with
  | @leaf α K x o =>
    intro cs hr f hf
    rw [List.mem_singleton.1 hf]
    have hl := K.len hr
    refine ⟨Nat.le_refl _, Nat.le_refl _, ?_⟩
    show K.R S w x ((cs.drop (o - o)).take K.sz)
    rw [Nat.sub_self, List.drop_zero, ← hl, List.take_length]; exact hr
  | @nil o =>
    intro cs hr f hf
    rw [List.mem_singleton.1 hf]
    refine ⟨Nat.le_refl _, Nat.le_refl _, ?_⟩
    have hr' : cs = [.slice none 0 0] := hr
    show (cs.drop (o - o)).take 1 = [.slice none 0 0]
    rw [hr', Nat.sub_self]; rfl
  | @pair α β a b x y o la lb _ _ ih1 ih2 =>
    intro cs hr f hf
    obtain ⟨c0, c1, rfl, h0, h1⟩ := hr
    have l0 := a.len h0
    have l1 := b.len h1
    have hsz : (kpair a b).sz = a.sz + b.sz := rfl
    rcases List.mem_append.1 hf with hf | hf
    · obtain ⟨g1, g2, g3⟩ := ih1 h0 f hf
      refine ⟨g1, by omega, ?_⟩
      rw [List.drop_append_of_le_length (by omega), List.take_append_of_le_length (by rw [List.length_drop]; omega)]
      exact g3
    · obtain ⟨g1, g2, g3⟩ := ih2 h1 f hf
      refine ⟨by omega, by omega, ?_⟩
      have : f.off - o = c0.length + (f.off - (o + a.sz)) := by omega
      rw [this, drop_app]
      exact g3
  | iso _ e ih =>
    intro cs hr f hf
    refine ih ?_ f hf
    rw [← e]; exact hr
theorem FieldsOf.bounds {α : Type} {K : Kn α} {x : α} {o : Nat} {l : List FA} (h : FieldsOf K x o l) : ∀ f, f ∈ l → o ≤ f.off ∧ f.off + f.sz ≤ o + K.sz := by
  induction h with
  | @leaf α K x o => intro f hf; rw [List.mem_singleton.1 hf]; exact ⟨Nat.le_refl _, Nat.le_refl _⟩
  | @nil o => intro f hf; rw [List.mem_singleton.1 hf]; exact ⟨Nat.le_refl _, Nat.le_refl _⟩
  | @pair α β a b x y o la lb _ _ ih1 ih2 =>
    intro f hf
    have hsz : (kpair a b).sz = a.sz + b.sz := rfl
    rcases List.mem_append.1 hf with hf | hf
    · have := ih1 f hf; exact ⟨by omega, by omega⟩
    · have := ih2 f hf; exact ⟨by omega, by omega⟩
  | iso _ e ih => exact fun f hf => ih f hf
theorem FieldsOf.back {θ : Nat → Nat} {S : Blk} {w : World} {α : Type} {K : Kn α} {x : α} {o : Nat} {l : List FA} (h : FieldsOf K x o l) : ∀ {cs : List Value}, cs.length = K.sz → (∀ f, f ∈ l → f.sem θ S w ((cs.drop (f.off - o)).take f.sz)) → K.R S w x cs ∧ ∀ f, f ∈ l → o ≤ f.off ∧ f.off + f.sz ≤ o + K.sz := by
  induction h with
  | @leaf α K x o =>
    intro cs hl hf
    have := hf (FA.k o K x) (by simp)
    have h2 : K.R S w x ((cs.drop (o - o)).take K.sz) := this
    rw [Nat.sub_self, List.drop_zero, ← hl, List.take_length] at h2
    exact ⟨h2, fun f hf => by rw [List.mem_singleton.1 hf]; exact ⟨Nat.le_refl _, Nat.le_refl _⟩⟩
  | @nil o =>
    intro cs hl hf
    have h2 : (cs.drop (o - o)).take 1 = [.slice none 0 0] := hf (FA.v o (.slice none 0 0)) (by simp)
    have hl' : cs.length = 1 := hl
    rw [Nat.sub_self, List.drop_zero, ← hl', List.take_length] at h2
    exact ⟨h2, fun f hf => by rw [List.mem_singleton.1 hf]; exact ⟨Nat.le_refl _, Nat.le_refl _⟩⟩
  | @pair α β a b x y o la lb q1 q2 ih1 ih2 =>
    intro cs hl hf
    have hsz : (kpair a b).sz = a.sz + b.sz := rfl
    have r1 : la = [] ∨ la ≠ [] := Classical.em _
    have h1 := ih1 (cs := cs.take a.sz) (by rw [List.length_take]; omega)
    have h2 := ih2 (cs := cs.drop a.sz) (by rw [List.length_drop]; omega)
    have bnd1 : ∀ f, f ∈ la → o ≤ f.off ∧ f.off + f.sz ≤ o + a.sz := fun f hm => q1.bounds f hm
    have bnd2 : ∀ f, f ∈ lb → o + a.sz ≤ f.off ∧ f.off + f.sz ≤ o + a.sz + b.sz := fun f hm => q2.bounds f hm
    obtain ⟨k1, _⟩ := h1 (fun f hm => by
      have := hf f (List.mem_append_left _ hm)
      have := bnd1 f hm
      rw [List.drop_take, List.take_take, Nat.min_eq_left (by omega)]
      assumption)
    obtain ⟨k2, _⟩ := h2 (fun f hm => by
      have := hf f (List.mem_append_right _ hm)
      have := bnd2 f hm
      rw [List.drop_drop, show a.sz + (f.off - (o + a.sz)) = f.off - o by omega]
      assumption)
    refine ⟨⟨_, _, (List.take_append_drop a.sz cs).symm, k1, k2⟩, fun f hm => ?_⟩
    rcases List.mem_append.1 hm with hm | hm
    · have := bnd1 f hm; exact ⟨by omega, by omega⟩
    · have := bnd2 f hm; exact ⟨by omega, by omega⟩
  | iso _ e ih =>
    intro cs hl hf
    obtain ⟨h1, h2⟩ := ih hl hf
    refine ⟨?_, h2⟩
    subst e
    exact h1
/-- Fields told anew: each is one that was told, or nothing is told of its place. -/
inductive Weak (fs : List FA) : List FA → Prop
  | nil : Weak fs []
  | keep {f : FA} {l : List FA} : f ∈ fs → Weak fs l → Weak fs (f :: l)
  | any {f : FA} {l : List FA} : f ∈ fs → Weak fs l → Weak fs (FA.any f.off f.sz :: l)
theorem Weak.out {fs fs' : List FA} (h : Weak fs fs') {θ : Nat → Nat} {S : Blk} {w : World} {cs : List Value} {m : Nat} (hf : ∀ f, f ∈ fs → f.off + f.sz ≤ m ∧ f.sem θ S w ((cs.drop f.off).take f.sz)) : ∀ f, f ∈ fs' → f.off + f.sz ≤ m ∧ f.sem θ S w ((cs.drop f.off).take f.sz) := by
  induction h with
  | nil => intro f h; cases h
  | keep h1 _ ih =>
    intro f h
    rcases List.mem_cons.1 h with rfl | h
    · exact hf _ h1
    · exact ih f h
  | any h1 _ ih =>
    intro f h
    rcases List.mem_cons.1 h with rfl | h
    · exact ⟨(hf _ h1).1, trivial⟩
    · exact ih f h
section
variable {P : Program} {c : Ctx} {Γ : List Ent} {Q : Exit → Act → World → Prop} {ops : Array Oper} {l : List Oper}
theorem inv_boxw {a : Act} {w : World} {e m : Nat} {fs fs' : List FA} (id : Nat) (h : findE [] Γ (2000000 + id) = some (Ent.h id (HE.boxf e m fs))) (hw : Weak fs fs') (hi : Inv c Γ a w) : Inv c (Ent.h id (HE.boxf e m fs') :: Γ) a w := by
  obtain ⟨k1, k2, k3, θ, S, k4, k5⟩ := hi
  obtain ⟨ob, ⟨rfl, cs, hc, hcs, hr⟩, hav, h6⟩ := sat_take (has_find h) k5
  refine ⟨k1, k2, k3, θ, S, k4, sat_consB (b := θ id) (dead_nil _) ⟨rfl, cs, hc, hcs, hw.out hr⟩ (hav _ rfl) ?_⟩
  exact sat_mono h6 (fun k hk => hk) (fun b hb => ⟨hb.1, fun e => hb.2 (by rw [e])⟩)
theorem inv_fieldsOf {α : Type} {a : Act} {w : World} {e : Nat} {fs : List FA} {K : Kn α} {x : α} (id : Nat) (h : findE [] Γ (2000000 + id) = some (Ent.h id (HE.box e K x))) (hF : FieldsOf K x 0 fs) (hids : fs.flatMap (·.ids) = []) (hi : Inv c Γ a w) : Inv c (Ent.h id (HE.boxf e K.sz fs) :: Γ) a w :=
  inv_fields (has_find h) hids (fun θ S w cs hr f hf => by
    have := hF.out (θ := θ) hr f hf
    rw [Nat.sub_zero, Nat.zero_add] at this
    exact this.2) hi
theorem inv_nilrow' {a : Act} {w : World} {e m : Nat} (id : Nat) (l1 : List FA) (off : Nat) (l2 : List FA) (r : Nat) (e' : TypeId) {α : Type} (K : Kn α) (hr : Nat.blt r 500000 = true) (hid : Nat.blt id 500000 = true) (hne : Nat.beq id r = false) (hno : ((l1 ++ l2).flatMap (·.ids)).all (fun k => !Nat.beq k r && !Nat.beq k (500000 + r)) = true)
    (h : findE [] Γ (2000000 + id) = some (Ent.h id (HE.boxf e m (l1 ++ FA.v off (.slice none 0 0) :: l2)))) (hi : Inv c Γ a w) : Inv c (Ent.h id (HE.boxf e m (l1 ++ FA.rw off r 0 :: l2)) :: Ent.r r e' K [] :: Ent.bind r :: Ent.bind (500000 + r) :: Γ) a w :=
  inv_nilrow r e' K hr hid hne hno (has_find h) hi
theorem inv_settle_r' {α : Type} {a : Act} {w : World} {e : TypeId} {K : Kn α} {xs : List α} (r : Nat) (hp : Nat.blt 0 K.sz = true) (h : findE [] Γ (5000000 + r) = some (Ent.r r e K xs)) (hi : Inv c Γ a w) : Inv c (Ent.rk r K xs :: Γ) a w := inv_settle_r (blt_lt hp) (has_find h) hi
theorem inv_field_k' {α : Type} {a : Act} {w : World} {e m : Nat} {K : Kn α} {xs : List α} (id : Nat) (l1 : List FA) (off r : Nat) (l2 : List FA) (h : findE [] Γ (2000000 + id) = some (Ent.h id (HE.boxf e m (l1 ++ FA.rw off r xs.length :: l2)))) (hr : findE [] Γ (5000000 + r) = some (Ent.rk r K xs)) (hi : Inv c Γ a w) : Inv c (Ent.h id (HE.boxf e m (l1 ++ FA.k off (kslice K) xs :: l2)) :: Γ) a w := inv_field_k (has_find h) (has_find hr) hi
end
section
variable {P : Program} {n d : Nat} {ty t t' : TypeId} {pos : String} {af : Array Edge} {g : Option (Nat × Bool)} {N : Ent → Prop}
theorem op_storef_k {α : Type} {K : Kn α} {x : α} {id off : Nat} {e m : Nat} {f : FA} {o z : Operand} (l1 l2 : List FA) (hk : TK P t K) (ho : f.off = off) (hz' : f.sz = K.sz)
    (hdis : (l1 ++ l2).all (fun g => Nat.ble (g.off + g.sz) off || Nat.ble (off + K.sz) g.off) = true) (hp : Arg N o (VA.ptr id off)) (hb : N (Ent.h id (HE.boxf e m (l1 ++ f :: l2)))) (hz : Arg N z (VA.k K x)) :
    OpSpec P n ⟨none, .store t o z, ty, pos, af, g⟩ N [Ent.h id (HE.boxf e m (l1 ++ FA.k off K x :: l2))] :=
  op_storef (f' := FA.k off K x) (A := VA.k K x) hk.size (fun θ S w v hv => by
    obtain ⟨cs, h1, _, h3⟩ := k_cells hv hk.flat
    refine ⟨?_, ?_, ?_⟩
    · rw [← Array.length_toList, h3]; exact K.len h1
    · rw [h3]; exact K.one h1
    · rw [h3]; exact h1) plain_k ho hz' rfl hdis hp hb hz
theorem op_storef_rw {α : Type} {K : Kn α} {id off r len : Nat} {e m : Nat} {f : FA} {o z : Operand} (l1 l2 : List FA) (hk : TK P t (kslice K)) (ho : f.off = off) (hz' : f.sz = 1)
    (hdis : (l1 ++ l2).all (fun g => Nat.ble (g.off + g.sz) off || Nat.ble (off + 1) g.off) = true) (hp : Arg N o (VA.ptr id off)) (hb : N (Ent.h id (HE.boxf e m (l1 ++ f :: l2)))) (hz : Arg N z (VA.rw r len)) :
    OpSpec P n ⟨none, .store t o z, ty, pos, af, g⟩ N [Ent.h id (HE.boxf e m (l1 ++ FA.rw off r len :: l2))] :=
  op_storef (f' := FA.rw off r len) (A := VA.rw r len) hk.size (fun θ S w v hv => by
    obtain ⟨_, rfl⟩ := hv
    unfold rowVal
    split
    · refine ⟨rfl, ?_, ?_⟩
      · intro u hu; rw [List.mem_singleton.1 hu]; rfl
      · rename_i h
        show _ = [rowVal _ (θ (500000 + r)) len]
        rw [h]; rfl
    · rename_i h
      refine ⟨rfl, ?_, ?_⟩
      · intro u hu; rw [List.mem_singleton.1 hu]; rfl
      · show _ = [rowVal _ (θ (500000 + r)) len]
        rw [h]; rfl) plain_rw ho hz' rfl hdis hp hb hz
theorem op_storef_mp {id idm off : Nat} {e m : Nat} {f : FA} {o z : Operand} (l1 l2 : List FA) (hk : MZ P t false) (ho : f.off = off) (hz' : f.sz = 1)
    (hdis : (l1 ++ l2).all (fun g => Nat.ble (g.off + g.sz) off || Nat.ble (off + 1) g.off) = true) (hp : Arg N o (VA.ptr id off)) (hb : N (Ent.h id (HE.boxf e m (l1 ++ f :: l2)))) (hz : Arg N z (VA.mp false idm)) :
    OpSpec P n ⟨none, .store t o z, ty, pos, af, g⟩ N [Ent.h id (HE.boxf e m (l1 ++ FA.mp off idm :: l2))] :=
  op_storef (f' := FA.mp off idm) (A := VA.mp false idm) hk.size (fun θ S w v hv => by
    obtain ⟨_, rfl⟩ := hv
    exact ⟨rfl, fun u hu => by rw [List.mem_singleton.1 hu]; rfl, rfl⟩) plain_mp ho hz' rfl hdis hp hb hz
theorem op_loadf_rw {α : Type} {K : Kn α} {id off r len : Nat} {e m : Nat} {fs : List FA} {o : Operand} (hd : Nat.blt d n = true) (hk : TK P t (kslice K)) (hp : Arg N o (VA.ptr id off)) (hb : N (Ent.h id (HE.boxf e m fs))) (hf : FA.rw off r len ∈ fs) :
    OpSpec P n ⟨some d, .load t o, ty, pos, af, g⟩ N [Ent.t d (VA.rw r len)] :=
  op_loadf1 (f := FA.rw off r len) hd hk.agg hp hb hf rfl rfl (fun θ S w v h => by
    injection (show [v] = [_] from h) with h
    exact ⟨rfl, h⟩)
theorem op_loadf_mp {id off idm : Nat} {e m : Nat} {fs : List FA} {o : Operand} (hd : Nat.blt d n = true) (hk : MZ P t false) (hp : Arg N o (VA.ptr id off)) (hb : N (Ent.h id (HE.boxf e m fs))) (hf : FA.mp off idm ∈ fs) :
    OpSpec P n ⟨some d, .load t o, ty, pos, af, g⟩ N [Ent.t d (VA.mp false idm)] :=
  op_loadf1 (f := FA.mp off idm) hd hk.agg hp hb hf rfl rfl (fun θ S w v h => by
    injection (show [v] = [_] from h) with h
    exact ⟨rfl, h⟩)
/-- The whole of such a box. -/
theorem op_loadw {α : Type} {K : Kn α} {x : α} {id : Nat} {e : Nat} {fs : List FA} {o : Operand} (hd : Nat.blt d n = true) (hk : TK P t K) (hp : Arg N o (VA.ptr id 0)) (hb : N (Ent.h id (HE.boxf e K.sz fs))) (hF : FieldsOf K x 0 fs) :
    OpSpec P n ⟨some d, .load t o, ty, pos, af, g⟩ N [Ent.t d (VA.k K x)] := op_pure hd fun θ S act w hN => by
  obtain ⟨_, _, e1⟩ := hp θ S act w hN
  obtain ⟨_, _, cs, hc, hcs, hall⟩ := hN _ hb
  have hr := (hF.back (θ := θ) (S := S) (w := w) (cs := cs.toList) (by simpa using hcs) (fun f hf => by rw [Nat.sub_zero]; exact (hall f hf).2)).1
  have hl := run_loadVar_at (w := w) (ad := ⟨θ id, 0, none⟩) hk (K.len hr) (fun i u hu => by
    rw [add_add, cell_of_row w (θ id) _ cs _ (0, 0) hc, Nat.zero_add]
    simpa using hu)
  refine ⟨_, ?_, rfl, _, hr, rfl⟩
  clear hp hN
  generalize act.eval = ρ at *
  simp [execOp, Instr.loadAt, Instr.sureAddr, e1, hl, Sem.run_bind, Sem.run_pure, Result.andThen_ok]
end
end Go.Proofs.Ytlpmolohppoofaa.Sl
/- Rows by number: their length, their elements, lent to be read. -/
set_option linter.unusedVariables false
set_option linter.unusedSimpArgs false
set_option linter.unnecessarySimpa false
set_option linter.deprecated false
namespace Go.Proofs.Ytlpmolohppoofaa.Sl
open Go Go.RowKit
theorem rowVal_some {b t n g c : Nat} (h : rowVal b t n = .slice (some ⟨g, 0, none⟩) n c) : b = g ∧ t = c + 1 := by
  unfold rowVal at h
  split at h
  · injection h with h; cases h
  · injection h with h1 _ h2
    injection h1 with h1
    injection h1 with h1
    exact ⟨h1, by rw [h2]⟩
theorem rowVal_slice (b t n : Nat) : ∃ A m c, rowVal b t n = .slice A m c := by
  unfold rowVal
  split
  · exact ⟨_, _, _, rfl⟩
  · exact ⟨_, _, _, rfl⟩
section
variable {P : Program} {n d : Nat} {ty t t' : TypeId} {pos : String} {af : Array Edge} {g : Option (Nat × Bool)} {N : Ent → Prop}
theorem r_own {α : Type} {N : Ent → Prop} {x : Operand} {r : Nat} {e : TypeId} {K : Kn α} {xs : List α} (h : Arg N x (VA.rw r xs.length)) (ho : N (Ent.r r e K xs)) {θ : Nat → Nat} {S : Blk} {a : Act} {w : World} (hN : ∀ e, N e → ∃ ob, e.sem θ S ob a w) : ∃ ob, (VA.own e K xs).sem θ S ob w (a.eval x) := by
  obtain ⟨_, _, e1⟩ := h θ S a w hN
  obtain ⟨ob, h2⟩ := hN _ ho
  exact ⟨ob, by rw [e1]; exact h2⟩
theorem op_len_rw {α : Type} {r : Nat} {K : Kn α} {xs : List α} {x : Operand} {at_ : Array TypeId} {e q : TypeId} (hd : Nat.blt d n = true) (h0 : at_[0]? = some t) (ht : P.underlying t = some (.slice e)) (hx : Arg N x (VA.rw r xs.length)) (ho : N (Ent.r r q K xs)) :
    OpSpec P n ⟨some d, .call { callee := .builtin .len, args := #[x], argTypes := at_ }, ty, pos, af, g⟩ N [Ent.t d (VA.k (kint .i64) xs.length)] :=
  op_len_own (q := q) (K := K) hd h0 ht (fun θ S a w hN => r_own hx ho hN)
theorem ReadsArg.rw {α : Type} {r : Nat} {e : TypeId} {K : Kn α} {x : Operand} {ys : List α} (h : Arg N x (VA.rw r ys.length)) (ho : N (Ent.r r e K ys)) : ReadsArg N K x ys := fun θ S a w hN => by
  obtain ⟨_, h1⟩ := r_own h ho hN
  exact reads_own h1
theorem ArgR.rw {α : Type} {r : Nat} {e : TypeId} {K : Kn α} {x : Operand} {ys : List α} (hp : Nat.blt 0 K.sz = true) (h : Arg N x (VA.rw r ys.length)) (ho : N (Ent.r r e K ys)) : ArgR N x (VA.k (kslice K) ys) := fun θ S a w R hN hS => by
  obtain ⟨_, _, e1⟩ := h θ S a w (fun e he => by obtain ⟨ob, h, _⟩ := hN e he; exact ⟨ob, h⟩)
  obtain ⟨ob, h2, hb⟩ := hN _ ho
  rw [e1]
  exact own_reads (θ := θ) h2 hS hb (blt_lt hp)
theorem ArgB.rw {α : Type} {r : Nat} {e : TypeId} {K : Kn α} {x : Operand} {ys : List α} (hp : Nat.blt 0 K.sz = true) (h : Arg N x (VA.rw r ys.length)) (ho : N (Ent.r r e K ys)) : ArgB N x (VA.k (kslice K) ys) := fun θ S a w hN hS => by
  obtain ⟨_, _, e1⟩ := h θ S a w (fun e he => by obtain ⟨ob, h, _⟩ := hN e he; exact ⟨ob, h⟩)
  obtain ⟨ob, h2, hb⟩ := hN _ ho
  rw [e1]
  exact own_reads (θ := θ) h2 hS hb (blt_lt hp)
/-- &x[i], of a row by number. -/
theorem op_indexAddr_rw {α : Type} {r : Nat} {K : Kn α} {xs : List α} {x : α} {i : Int} {o y : Operand} {e e' : TypeId} (hd : Nat.blt d n = true) (hu : P.underlying t = some (.slice e)) (hk : TK P e K) (hi : idx xs i = some x) (ho : Arg N o (VA.rw r xs.length)) (hr : N (Ent.r r e' K xs)) (hy : Arg N y (VA.k (kint .i64) i)) :
    OpSpec P n ⟨some d, .indexAddr t o y, ty, pos, af, g⟩ N [Ent.t d (VA.ptr r (i.toNat * K.sz))] := op_pure hd fun θ S act w hN => by
  obtain ⟨_, _, e1⟩ := ho θ S act w hN
  obtain ⟨ob, hw⟩ := hN _ hr
  obtain ⟨_, h2⟩ := hy θ S act w hN
  have e8 := k_int h2
  obtain ⟨i0, i1, i2⟩ := idx_spec hi
  obtain ⟨g2, cap, cur, e3, _, e4, e5, e6, e7, _⟩ := own_cur (θ := θ) hw (by omega)
  obtain ⟨hgg, htag⟩ := rowVal_some e3
  rw [e3] at e1
  refine ⟨.pointer (some ⟨g2, i.toNat * K.sz, none⟩), ?_, rfl, by rw [hgg]⟩
  clear hN hy h2 hw ho hr e3
  generalize act.eval = ρ at *
  simp [execOp, Instr.indexAt, e1, e8, run_underlying hu, asIntOf, i0, i1, hk.size, add_add, Sem.run_bind, Sem.run_pure, Result.andThen_ok]
theorem op_load_rp {α β : Type} {K : Kn α} {K' : Kn β} {get : α → β} {set : α → β → α} {xs : List α} {x : α} {o : Operand} {r off : Nat} {i : Int} {e : TypeId} (hd : Nat.blt d n = true) (hF : Fld K off K' get set) (hk : TK P t K') (hi : idx xs i = some x) (ho : N (Ent.r r e K xs)) (hp : Arg N o (VA.ptr r (i.toNat * K.sz + off))) :
    OpSpec P n ⟨some d, .load t o, ty, pos, af, g⟩ N [Ent.t d (VA.k K' (get x))] := op_pure hd fun θ S act w hN => by
  obtain ⟨_, _, e2⟩ := hp θ S act w hN
  obtain ⟨ob, hw⟩ := hN _ ho
  obtain ⟨i0, i1, i2⟩ := idx_spec hi
  obtain ⟨g2, cap, cur, e3, _, e4, e5, e6, e7, e8⟩ := own_cur (θ := θ) hw (by omega)
  obtain ⟨hgg, htag⟩ := rowVal_some e3
  rw [hgg] at e2
  have hr := hF.get (e8 _ _ i2)
  have hle := hF.le
  have hl := run_loadVar_at (w := w) (ad := ⟨g2, i.toNat * K.sz + off, none⟩) hk (K'.len hr) (fun j u hu => by
    rw [add_add, cell_of_row w g2 _ cur e (0, 0) e4]
    rw [List.getElem?_take] at hu
    split at hu
    · rw [List.getElem?_drop, List.getElem?_take] at hu
      split at hu
      · rw [List.getElem?_drop] at hu
        rw [← Array.getElem?_toList, ← hu]
        congr 1
        omega
      · cases hu
    · cases hu)
  refine ⟨_, ?_, rfl, _, hr, rfl⟩
  clear hN hw e3 hp
  generalize act.eval = ρ at *
  simp [execOp, Instr.loadAt, Instr.sureAddr, e2, hl, Sem.run_bind, Sem.run_pure, Result.andThen_ok]
theorem op_store_rp {α β : Type} {K : Kn α} {K' : Kn β} {get : α → β} {set : α → β → α} {xs : List α} {x : α} {y : β} {o z : Operand} {r off : Nat} {i : Int} {e : TypeId} (hF : Fld K off K' get set) (hk : TK P t K') (hi : idx xs i = some x) (ho : N (Ent.r r e K xs)) (hp : Arg N o (VA.ptr r (i.toNat * K.sz + off))) (hz : Arg N z (VA.k K' y)) :
    OpSpec P n ⟨none, .store t o z, ty, pos, af, g⟩ N [Ent.r r e K (xs.set i.toNat (set x y))] := by
  rintro c Γ a w Q rfl hN ⟨h1, h2, h3, θ, S, h4, h5⟩
  have hN2 := sems hN h5
  obtain ⟨_, _, e2⟩ := hp θ S a w hN2
  obtain ⟨_, hv⟩ := hz θ S a w hN2
  obtain ⟨cv, hr', _, hcv⟩ := k_cells hv hk.flat
  obtain ⟨ob, hw, hav, h6⟩ := sat_take (hN _ ho) h5
  obtain ⟨i0, i1, i2⟩ := idx_spec hi
  obtain ⟨g2, cap, cur, e3, rfl, e4, e5, e6, e7, e8⟩ := own_cur (θ := θ) hw (by omega)
  obtain ⟨hgg, htag⟩ := rowVal_some e3
  rw [hgg] at e2
  have hfree := hav _ rfl
  have hle := hF.le
  have hil : i.toNat * K.sz + K.sz ≤ cap * K.sz := by rw [← Nat.succ_mul]; exact Nat.mul_le_mul_right _ (by omega)
  have hvs : (a.eval z).cells.size = K'.sz := by rw [← Array.length_toList, hcv]; exact K'.len hr'
  have hst := run_storeVar_at (P := P) (b := g2) (off := i.toNat * K.sz + off) (v := a.eval z) hk hvs (by rw [hcv]; exact K'.one hr') e4 (by rw [e7]; omega)
  rw [hcv] at hst
  have e2' : a.eval o = .pointer (some ⟨g2, i.toNat * K.sz + off, none⟩) := e2
  have hrun : (execOp a.eval ⟨none, .store t o z, ty, pos, af, g⟩).run P w = .ok .skip (w.setRow g2 (cur.toList.take (i.toNat * K.sz + off) ++ cv ++ cur.toList.drop (i.toNat * K.sz + off + K'.sz)).toArray) := by
    clear hv hN hN2 hp hz h1 h2 h5 h6 hcv hvs e2 e3 hw
    generalize a.eval = ρ at *
    simp [execOp, Instr.storeAt, Instr.sureAddr, e2', hst, Sem.run_bind, Sem.run_pure, Result.andThen_ok]
  unfold Oper.wp
  rw [hrun]
  have hne : ∀ b, S b → b ≠ g2 := fun b hs e => hfree.1 (e ▸ hs)
  have hag : Agree S w (w.setRow g2 (cur.toList.take (i.toNat * K.sz + off) ++ cv ++ cur.toList.drop (i.toNat * K.sz + off + K'.sz)).toArray) := fun b hs => setRow_ne _ _ _ _ (hne b hs)
  have hcl : cv.length = K'.sz := K'.len hr'
  show Inv c _ (a.put none undef) _
  refine ⟨h1, h2, h3.setRow hfree.2.2 _, θ, S, h4.grow (by rw [setRow_size]; exact Nat.le_refl _), ?_⟩
  refine sat_consB (b := g2) (dead_nil _) ?_ ⟨hfree.1, by rw [setRow_size]; exact hfree.2.1, hfree.2.2⟩ ?_
  · have hlen : cur.toList.length = cap * K.sz := by rw [Array.length_toList, e7]
    have hnew : (cur.toList.take (i.toNat * K.sz + off) ++ cv ++ cur.toList.drop (i.toNat * K.sz + off + K'.sz)).length = cap * K.sz := by simp [hcl]; omega
    refine ⟨?_, (cur.toList.take (i.toNat * K.sz + off) ++ cv ++ cur.toList.drop (i.toNat * K.sz + off + K'.sz)).take (xs.length * K.sz), ?_, fun j p hj => ?_⟩
    · show bk (some g2) = bk (rowVal (θ r) (θ (500000 + r)) (xs.set i.toNat (set x y)).length).ownBlock
      rw [List.length_set, e3]; rfl
    · show World.ownsRow _ 0 e K.sz (rowVal (θ r) (θ (500000 + r)) (xs.set i.toNat (set x y)).length) _ _
      rw [List.length_set]
      refine ⟨by rw [List.length_take, hnew]; exact Nat.min_eq_left (Nat.mul_le_mul_right _ e5), .inr ⟨g2, cap, _, e3, Nat.zero_le _, setRow_heap w _ _ _ e (0, 0) e4, e5, e6, ?_, ?_⟩⟩
      · rw [List.size_toArray]; exact hnew
      · rfl
    · have hjl := (List.getElem?_eq_some_iff.1 hj).1
      rw [List.length_set] at hjl
      have hjb : j * K.sz + K.sz ≤ xs.length * K.sz := by rw [← Nat.succ_mul]; exact Nat.mul_le_mul_right _ hjl
      rw [List.drop_take, List.take_take, Nat.min_eq_left (by omega)]
      by_cases e9 : j = i.toNat
      · subst e9
        rw [List.getElem?_set_self (by omega)] at hj
        cases hj
        have h10 := hF.set (e8 _ _ i2) hr'
        have h11 := splice_mid cur.toList (i.toNat * K.sz) off K.sz K'.sz cv hcl hle (by rw [hlen]; exact hil)
        rw [h11]
        exact K.move h10 hag (fun b hb => hb)
      · rw [List.getElem?_set_ne (fun e => e9 e.symm)] at hj
        have h10 := e8 _ _ hj
        have h11 : ((cur.toList.take (i.toNat * K.sz + off) ++ cv ++ cur.toList.drop (i.toNat * K.sz + off + K'.sz)).drop (j * K.sz)).take K.sz = (cur.toList.drop (j * K.sz)).take K.sz := by
          apply List.ext_getElem?
          intro m
          rw [List.getElem?_take, List.getElem?_take]
          split
          · rename_i hm
            rw [List.getElem?_drop, List.getElem?_drop]
            rcases Nat.lt_or_ge j i.toNat with hlt | hge
            · have : j * K.sz + K.sz ≤ i.toNat * K.sz := by rw [← Nat.succ_mul]; exact Nat.mul_le_mul_right _ hlt
              rw [List.append_assoc, List.getElem?_append_left (by simp; omega), List.getElem?_take, if_pos (by omega)]
            · have : i.toNat * K.sz + K.sz ≤ j * K.sz := by rw [← Nat.succ_mul]; exact Nat.mul_le_mul_right _ (by omega)
              rw [List.getElem?_append_right (by simp [hcl]; omega), List.getElem?_drop]
              congr 1
              simp [hcl]; omega
          · rfl
        rw [h11]
        exact K.move h10 hag (fun b hb => hb)
  · refine sat_mono (sat_move h6 hag (fun b hb => hb) (fun b hb => setRow_ne _ _ _ _ (fun e => hb.2 (by rw [e]))) (fun t _ => rfl) (fun k _ => rfl)) (fun k hk => hk) (fun b hb => ⟨⟨hb.1.1, by rw [setRow_size]; exact hb.1.2.1, hb.1.2.2⟩, fun e => hb.2 (by rw [e])⟩)
end
end Go.Proofs.Ytlpmolohppoofaa.Sl
/- Struct values that are known field by field: built, and stored whole. -/
set_option linter.unusedVariables false
set_option linter.unusedSimpArgs false
set_option linter.unnecessarySimpa false
set_option linter.deprecated false
namespace Go.Proofs.Ytlpmolohppoofaa.Sl
open Go Go.RowKit
def FA.whole (m : Nat) (fs : List FA) : FA where
  off := 0
  sz := m
  ids := fs.flatMap (·.ids)
  sem := fun θ S w cs => ∀ f, f ∈ fs → f.off + f.sz ≤ m ∧ f.sem θ S w ((cs.drop f.off).take f.sz)
  move := fun h hA hS hi f hf => ⟨(h f hf).1, f.move (h f hf).2 hA hS (fun k hk => hi k (List.mem_flatMap.2 ⟨f, hf, hk⟩))⟩
def VA.fl (m : Nat) (fs : List FA) : VA where
  ids := fs.flatMap (·.ids)
  sem := fun θ S ob w v => ob = bk none ∧ v.cells.size = m ∧ (∀ u, u ∈ v.cells.toList → u.oneCell' = true) ∧ (FA.whole m fs).sem θ S w v.cells.toList
  move := by rintro θ θ' S S' ob w w' v ⟨h0, h1, h2, h3⟩ hA hS _ hi; exact ⟨h0, h1, h2, (FA.whole m fs).move h3 hA hS hi⟩
theorem plain_fl {m : Nat} {fs : List FA} : Plain (VA.fl m fs) := fun {θ S ob w v} h => h.1
/-- What an operand gives a field. -/
structure GivesF (P : Program) (ft : TypeId) (A : VA) (fa : FA) : Prop where
  plain : Plain A
  sz : P.cellsOf ft = fa.sz
  val : ∀ θ S w v, A.sem θ S (bk none) w v → v.cells.size = fa.sz ∧ (∀ u, u ∈ v.cells.toList → u.oneCell' = true) ∧ fa.sem θ S w v.cells.toList
theorem cellsOf_tk {α : Type} {P : Program} {t : TypeId} {K : Kn α} (h : TK P t K) : P.cellsOf t = K.sz := by
  obtain ⟨i, hi, his⟩ := tk_info h
  simp [Program.cellsOf, hi, his]
theorem gives_k {P : Program} {ft : TypeId} {off : Nat} {α : Type} {K : Kn α} {x : α} (hk : TK P ft K) : GivesF P ft (VA.k K x) (FA.k off K x) where
  plain := plain_k
  sz := cellsOf_tk hk
  val := fun θ S w v hv => by
    obtain ⟨cs, h1, _, h3⟩ := k_cells hv hk.flat
    refine ⟨?_, ?_, ?_⟩
    · rw [← Array.length_toList, h3]; exact K.len h1
    · rw [h3]; exact K.one h1
    · rw [h3]; exact h1
theorem gives_rw {P : Program} {ft : TypeId} {off r len : Nat} {α : Type} {K : Kn α} (hk : TK P ft (kslice K)) : GivesF P ft (VA.rw r len) (FA.rw off r len) where
  plain := plain_rw
  sz := cellsOf_tk hk
  val := fun θ S w v hv => by
    obtain ⟨_, rfl⟩ := hv
    unfold rowVal
    split
    · refine ⟨rfl, ?_, ?_⟩
      · intro u hu; rw [List.mem_singleton.1 hu]; rfl
      · rename_i h
        show _ = [rowVal _ (θ (500000 + r)) len]
        rw [h]; rfl
    · rename_i h
      refine ⟨rfl, ?_, ?_⟩
      · intro u hu; rw [List.mem_singleton.1 hu]; rfl
      · show _ = [rowVal _ (θ (500000 + r)) len]
        rw [h]; rfl
theorem gives_nil {P : Program} {ft : TypeId} {off : Nat} {α : Type} {K : Kn α} (hk : TK P ft (kslice K)) : GivesF P ft (VA.v (.slice none 0 0)) (FA.v off (.slice none 0 0)) where
  plain := plain_v
  sz := cellsOf_tk hk
  val := fun θ S w v hv => by
    obtain ⟨_, rfl⟩ := hv
    exact ⟨rfl, fun u hu => by rw [List.mem_singleton.1 hu]; rfl, rfl⟩
theorem gives_mp {P : Program} {ft : TypeId} {off id : Nat} (hs : P.cellsOf ft = 1) : GivesF P ft (VA.mp false id) (FA.mp off id) where
  plain := plain_mp
  sz := hs
  val := fun θ S w v hv => by
    obtain ⟨_, rfl⟩ := hv
    exact ⟨rfl, fun u hu => by rw [List.mem_singleton.1 hu]; rfl, rfl⟩
inductive FLParts (N : Ent → Prop) (P : Program) (fs : Array Field) : List (Nat × Operand) → List FA → List FA → Prop
  | nil (fl : List FA) : FLParts N P fs [] fl fl
  | cons {j : Nat} {f : Field} {o : Operand} {A : VA} (l1 : List FA) {fa : FA} (fa' : FA) (l2 : List FA) {ps : List (Nat × Operand)} {r : List FA} : fs[j]? = some f → fa.off = f.offset → fa'.off = f.offset → fa.sz = fa'.sz → GivesF P f.type A fa' → (l1 ++ l2).all (fun g => Nat.ble (g.off + g.sz) f.offset || Nat.ble (f.offset + fa'.sz) g.off) = true → Arg N o A → FLParts N P fs ps (l1 ++ fa' :: l2) r → FLParts N P fs ((j, o) :: ps) (l1 ++ fa :: l2) r
/-- A type's zero value, field by field. -/
def ZF (P : Program) (t : TypeId) (m : Nat) (fs : List FA) : Prop := ∃ i v, P.info? t = some i ∧ i.zero = some v ∧ v.cells.size = m ∧ (∀ u, u ∈ v.cells.toList → u.oneCell' = true) ∧ ∀ θ S w, (FA.whole m fs).sem θ S w v.cells.toList
theorem zf_of {α : Type} {P : Program} {t : TypeId} {v : Value} {cs : List Value} {K : Kn α} {x : α} {fs : List FA} (h : (P.info? t).bind (·.zero) = some v) (hv : v.cells.toList = cs) (hr : ZR K x cs) (hF : FieldsOf K x 0 fs) : ZF P t K.sz fs := by
  obtain ⟨i, hi, hz⟩ := Option.bind_eq_some_iff.1 h
  have w0 : World := default
  refine ⟨i, v, hi, hz, ?_, ?_, fun θ S w f hf => ?_⟩
  · rw [← Array.length_toList, hv]; exact K.len (hr (fun _ => True) w0)
  · rw [hv]; exact K.one (hr (fun _ => True) w0)
  · rw [hv]
    have := hF.out (θ := θ) (hr S w) f hf
    rw [Nat.sub_zero, Nat.zero_add] at this
    exact this.2
section
variable {P : Program} {n d : Nat} {ty t t' : TypeId} {pos : String} {af : Array Edge} {g : Option (Nat × Bool)} {N : Ent → Prop}
theorem fill_flparts {fs : Array Field} {θ : Nat → Nat} {S : Blk} {a : Act} {w : World} {m : Nat} (hN : ∀ e, N e → ∃ ob, e.sem θ S ob a w) (places : Array (Nat × Nat)) (hpl : ∀ (j : Nat) (f : Field), fs[j]? = some f → places[j]? = some (f.offset, P.cellsOf f.type)) :
    ∀ {ps : List (Nat × Operand)} {fl r : List FA}, FLParts N P fs ps fl r → ∀ (cur : Array Value), cur.size = m → (∀ u, u ∈ cur.toList → u.oneCell' = true) → (FA.whole m fl).sem θ S w cur.toList →
    ∃ cells : Array Value, Instr.fill (places[·]?) cur (ps.map fun (i, x) => (i, a.eval x)) = some cells ∧ cells.size = m ∧ (∀ u, u ∈ cells.toList → u.oneCell' = true) ∧ (FA.whole m r).sem θ S w cells.toList := by
  intro ps fl r h
  induction h with
  | nil fl => exact fun cur h1 h2 h3 => ⟨cur, by simp [Instr.fill], h1, h2, h3⟩
  | @cons j f o A l1 fa fa' l2 ps r hf h0 h0' hsz hg hdis hx _ ih =>
    intro cur c1 c2 c3
    obtain ⟨ob, hv⟩ := hx θ S a w hN
    obtain rfl := hg.plain hv
    obtain ⟨v1, v2, v3⟩ := hg.val _ _ _ _ hv
    have hle : f.offset + fa'.sz ≤ m := by have := (c3 fa (by simp)).1; omega
    have hstep := fold_splice_arr (a.eval o) f.offset cur (by rw [v1, c1]; exact hle)
    rw [v1] at hstep
    have hvl : (a.eval o).cells.toList.length = fa'.sz := by simpa using v1
    have hcl : f.offset + fa'.sz ≤ cur.toList.length := by simp [c1]; exact hle
    obtain ⟨cells, e, r1, r2, r3⟩ := ih (cur.toList.take f.offset ++ (a.eval o).cells.toList ++ cur.toList.drop (f.offset + fa'.sz)).toArray (by simp [c1]; omega) (fun u hu => by
      simp only [List.mem_append] at hu
      rcases hu with (hu | hu) | hu
      · exact c2 u (List.mem_of_mem_take hu)
      · exact v2 u hu
      · exact c2 u (List.mem_of_mem_drop hu)) (fun q hq => by
      have key : q ∈ l1 ++ l2 → q.off + q.sz ≤ m ∧ q.sem θ S w (((cur.toList.take f.offset ++ (a.eval o).cells.toList ++ cur.toList.drop (f.offset + fa'.sz)).drop q.off).take q.sz) := fun hm => by
        have hmem : q ∈ l1 ++ fa :: l2 := by rcases List.mem_append.1 hm with h | h <;> simp [h]
        obtain ⟨g1, g2⟩ := c3 q hmem
        have hd := List.all_eq_true.1 hdis q hm
        rw [splice_other _ _ f.offset fa'.sz q.off q.sz hvl hcl (by
          rcases Bool.or_eq_true _ _ ▸ hd with h | h
          · exact .inl (Nat.le_of_ble_eq_true h)
          · exact .inr (Nat.le_of_ble_eq_true h))]
        exact ⟨g1, g2⟩
      rcases List.mem_append.1 hq with h | h
      · exact key (List.mem_append_left _ h)
      · rcases List.mem_cons.1 h with rfl | h
        · refine ⟨by omega, ?_⟩
          rw [h0', splice_here _ _ f.offset q.sz hvl hcl]
          exact v3
        · exact key (List.mem_append_right _ h))
    refine ⟨cells, ?_, r1, r2, r3⟩
    rw [List.map_cons]
    simp only [Instr.fill, hpl j f hf, hg.sz]
    rw [if_neg (by simp [v1, c1]; omega), hstep, e]
/-- A struct's value from its parts, field by field. -/
theorem op_build_fl {m : Nat} {fl r : List FA} {fs : Array Field} {ps : List (Nat × Operand)} {pl : List (Nat × Nat)} (hd : Nat.blt d n = true) (hu : P.underlying t = some (.struct fs)) (hpl : fs.toList.mapM (fun f => (P.info? f.type).map fun i => (f.offset, i.size)) = some pl) (hz : ZF P t m fl) (hp : FLParts N P fs ps fl r) :
    OpSpec P n ⟨some d, .build t ps.toArray, ty, pos, af, g⟩ N [Ent.t d (VA.fl m r)] := op_pure hd fun θ S act w hN => by
  obtain ⟨i, v, hi, hz, z1, z2, z3⟩ := hz
  have hplaces : ∀ (j : Nat) (f : Field), fs[j]? = some f → pl.toArray[j]? = some (f.offset, P.cellsOf f.type) := by
    have key : ∀ (l : List Field) (pl : List (Nat × Nat)), l.mapM (fun f => (P.info? f.type).map fun i => (f.offset, i.size)) = some pl → ∀ (j : Nat) (f : Field), l[j]? = some f → pl[j]? = some (f.offset, P.cellsOf f.type) := by
      intro l
      induction l with
      | nil => intro pl _ j f hf; simp at hf
      | cons y l ih =>
        intro pl h j f hf
        simp only [List.mapM_cons, Option.bind_eq_bind, Option.pure_def, Option.bind_eq_some_iff] at h
        obtain ⟨p, hp, ps, hps, h⟩ := h
        cases h
        cases j with
        | zero =>
          cases hf
          obtain ⟨i, hi, rfl⟩ := Option.map_eq_some_iff.1 hp
          simp [Program.cellsOf, hi]
        | succ j => simpa using ih ps hps j f (by simpa using hf)
    intro j f hf
    simpa using key fs.toList pl hpl j f (by simpa using hf)
  obtain ⟨cells, e, r1, r2, r3⟩ := fill_flparts hN pl.toArray hplaces hp v.cells z1 z2 (z3 θ S w)
  have hb : P.built t (ps.map fun (i, x) => (i, act.eval x)) = some cells := by
    unfold Program.built
    simp only [hi, hu, hz, hpl, e]
  have hrun := run_build (P := P) w t (ps.map fun (i, x) => (i, act.eval x)).toArray cells (by simpa using hb)
  refine ⟨.agg cells, ?_, rfl, r1, r2, r3⟩
  simp only [execOp, List.map_toArray, Sem.run_bind, hrun, Result.andThen_ok, Sem.run_pure]
/-- Such a value is stored whole. -/
theorem op_store_fl {id : Nat} {e m : Nat} {fs : List FA} {o z : Operand} {H : HE} (hs : P.cellsOf t = m) (hH : H = HE.boxf e m [FA.any 0 m]) (hsz : ∀ w, (sizeOf t).run P w = .ok m w) (hp : Arg N o (VA.ptr id 0)) (hb : N (Ent.h id H)) (hz : Arg N z (VA.fl m fs)) :
    OpSpec P n ⟨none, .store t o z, ty, pos, af, g⟩ N [Ent.h id (HE.boxf e m [FA.whole m fs])] := by
  subst hH
  exact op_storef (l1 := []) (l2 := []) (f := FA.any 0 m) (f' := FA.whole m fs) (A := VA.fl m fs) hsz (fun θ S w v hv => hv.2) plain_fl rfl rfl rfl rfl hp hb hz
end
section
variable {P : Program} {c : Ctx} {Γ : List Ent} {Q : Exit → Act → World → Prop} {ops : Array Oper} {l : List Oper}
theorem inv_hmap {a : Act} {w : World} {H H' : HE} (id : Nat) (h : findE [] Γ (2000000 + id) = some (Ent.h id H)) (hw : ∀ θ b S w, H.sem θ b S w → H'.sem θ b S w) (hi : Inv c Γ a w) : Inv c (Ent.h id H' :: Γ) a w := by
  obtain ⟨k1, k2, k3, θ, S, k4, k5⟩ := hi
  obtain ⟨ob, ⟨rfl, hr⟩, hav, h6⟩ := sat_take (has_find h) k5
  refine ⟨k1, k2, k3, θ, S, k4, sat_consB (b := θ id) (dead_nil _) ⟨rfl, hw _ _ _ _ hr⟩ (hav _ rfl) ?_⟩
  exact sat_mono h6 (fun k hk => hk) (fun b hb => ⟨hb.1, fun e => hb.2 (by rw [e])⟩)
theorem inv_raw {a : Act} {w : World} {e m : Nat} (id : Nat) (h : findE [] Γ (2000000 + id) = some (Ent.h id (HE.raw e m))) (hi : Inv c Γ a w) : Inv c (Ent.h id (HE.boxf e m [FA.any 0 m]) :: Γ) a w :=
  inv_hmap id h (fun θ b S w ⟨cs, h1, h2⟩ => ⟨cs, h1, h2, fun f hf => by rw [List.mem_singleton.1 hf]; exact ⟨by show 0 + m ≤ m; omega, trivial⟩⟩) hi
theorem inv_boxany {a : Act} {w : World} {e m : Nat} {fs : List FA} (id : Nat) (h : findE [] Γ (2000000 + id) = some (Ent.h id (HE.boxf e m fs))) (hi : Inv c Γ a w) : Inv c (Ent.h id (HE.boxf e m [FA.any 0 m]) :: Γ) a w :=
  inv_hmap id h (fun θ b S w ⟨cs, h1, h2, _⟩ => ⟨cs, h1, h2, fun f hf => by rw [List.mem_singleton.1 hf]; exact ⟨by show 0 + m ≤ m; omega, trivial⟩⟩) hi
theorem inv_boxany_k {α : Type} {a : Act} {w : World} {e : Nat} {K : Kn α} {x : α} (id : Nat) (h : findE [] Γ (2000000 + id) = some (Ent.h id (HE.box e K x))) (hi : Inv c Γ a w) : Inv c (Ent.h id (HE.boxf e K.sz [FA.any 0 K.sz]) :: Γ) a w :=
  inv_hmap id h (fun θ b S w ⟨cs, h1, h2⟩ => ⟨cs, h1, by rw [← Array.length_toList]; exact K.len h2, fun f hf => by rw [List.mem_singleton.1 hf]; exact ⟨by show 0 + K.sz ≤ K.sz; omega, trivial⟩⟩) hi
theorem inv_split {a : Act} {w : World} {e m : Nat} {fs : List FA} (id : Nat) (h : findE [] Γ (2000000 + id) = some (Ent.h id (HE.boxf e m [FA.whole m fs]))) (hi : Inv c Γ a w) : Inv c (Ent.h id (HE.boxf e m fs) :: Γ) a w := by
  obtain ⟨k1, k2, k3, θ, S, k4, k5⟩ := hi
  obtain ⟨ob, ⟨rfl, cs, hc, hcs, hr⟩, hav, h6⟩ := sat_take (has_find h) k5
  refine ⟨k1, k2, k3, θ, S, k4, sat_consB (b := θ id) (dead_nil _) ⟨rfl, cs, hc, hcs, ?_⟩ (hav _ rfl) ?_⟩
  · have h9 : (FA.whole m fs).sem θ S w ((cs.toList.drop 0).take m) := (hr (FA.whole m fs) (by simp)).2
    rw [List.drop_zero, show cs.toList.take m = cs.toList from List.take_of_length_le (by simp [hcs])] at h9
    exact h9
  · exact sat_mono h6 (fun k hk => hk) (fun b hb => ⟨hb.1, fun e => hb.2 (by rw [e])⟩)
end
end Go.Proofs.Ytlpmolohppoofaa.Sl
/- Small laws: boxes of rows that are laid; parts of fields; places in a row. -/
set_option linter.unusedVariables false
set_option linter.unusedSimpArgs false
set_option linter.unnecessarySimpa false
set_option linter.deprecated false
namespace Go.Proofs.Ytlpmolohppoofaa.Sl
open Go Go.RowKit
def inrow {α : Type} (l : List α) (i : Int) : Option Unit := if 0 ≤ i ∧ i ≤ l.length then some () else none
theorem inrow_spec {α : Type} {l : List α} {i : Int} {z : Unit} (h : inrow l i = some z) : 0 ≤ i ∧ i ≤ l.length := by
  unfold inrow at h
  split at h
  · assumption
  · cases h
section
variable {P : Program} {n d : Nat} {ty t t' : TypeId} {pos : String} {af : Array Edge} {g : Option (Nat × Bool)} {N : Ent → Prop}
theorem op_alloc_zf {m : Nat} {fs : List FA} (id : Nat) (hd : Nat.blt d n = true) (hz : ZF P t m fs) :
    OpSpec P n ⟨some d, .alloc t, ty, pos, af, g⟩ N [Ent.t d (VA.ptr id 0), Ent.h id (HE.boxf t m fs), Ent.bind id] := by
  obtain ⟨i, v, hi, hz, h1, h2, h3⟩ := hz
  exact op_allocf (v := v) id hd (by rw [hi]; exact hz) h1 (fun θ S w f hf => h3 θ S w f hf)
theorem op_loadfs {α β : Type} {K1 : Kn α} {x : α} {K' : Kn β} {get : α → β} {set : α → β → α} {id off off1 off2 : Nat} {e m : Nat} {fs : List FA} {o : Operand} (hd : Nat.blt d n = true) (hF : Fld K1 off2 K' get set) (hk : TK P t K') (hp : Arg N o (VA.ptr id (off1 + off2))) (hb : N (Ent.h id (HE.boxf e m fs))) (hf : FA.k off1 K1 x ∈ fs) :
    OpSpec P n ⟨some d, .load t o, ty, pos, af, g⟩ N [Ent.t d (VA.k K' (get x))] := op_pure hd fun θ S act w hN => by
  obtain ⟨_, _, e1⟩ := hp θ S act w hN
  obtain ⟨_, _, cs, hc, hcs, hall⟩ := hN _ hb
  obtain ⟨_, hr⟩ := hall _ hf
  have hr' : K1.R S w x ((cs.toList.drop off1).take K1.sz) := hr
  have hg := hF.get hr'
  have hle := hF.le
  rw [List.drop_take, List.take_take, List.drop_drop, Nat.min_eq_left (by omega)] at hg
  have hl := run_loadVar_at (w := w) (ad := ⟨θ id, off1 + off2, none⟩) hk (K'.len hg) (cells_at hc)
  refine ⟨_, ?_, rfl, _, hg, rfl⟩
  clear hp hN
  generalize act.eval = ρ at *
  simp [execOp, Instr.loadAt, Instr.sureAddr, e1, hl, Sem.run_bind, Sem.run_pure, Result.andThen_ok]
theorem op_fieldAddrM {id off : Nat} {agg : Bool} {o : Operand} {fs : Array Field} {f : Field} {j : Nat} (hd : Nat.blt d n = true) (hu : P.underlying t = some (.struct fs)) (hf : fs[j]? = some f) (hk : MZ P f.type agg) (hp : Arg N o (VA.ptr id off)) :
    OpSpec P n ⟨some d, .fieldAddr t o j, ty, pos, af, g⟩ N [Ent.t d (VA.ptr id (off + f.offset))] := op_pure hd fun θ S act w hN => by
  obtain ⟨_, _, e1⟩ := hp θ S act w hN
  refine ⟨.pointer (some ⟨θ id, off + f.offset, none⟩), ?_, rfl, rfl⟩
  have hs := hk.size
  clear hp hN
  generalize act.eval = ρ at *
  simp [execOp, Instr.fieldAt, Instr.sureAddr, e1, run_underlying hu, hf, fieldPlace, hs, add_add, Sem.run_bind, Sem.run_pure, Result.andThen_ok]
theorem op_buildSlice0 {α : Type} {e : TypeId} {K : Kn α} {bytes : Nat} (hd : Nat.blt d n = true) (hT : AT P t e K bytes) :
    OpSpec P n ⟨some d, .buildSlice t 0 #[], ty, pos, af, g⟩ N [Ent.t d (VA.own e K [])] := by
  rintro c Γ a w Q rfl hN ⟨h1, h2, h3, θ, S, h4, h5⟩
  obtain ⟨i, z, hi, hz, hs, hby, hzs⟩ := hT.i
  have hrun : (execOp a.eval ⟨some d, .buildSlice t 0 #[], ty, pos, af, g⟩).run P w = .ok (.value (.slice (some ⟨w.heap.size, 0, none⟩) 0 0)) (w.alloc (.cells #[] e)) := by
    clear hN h1 h2 h5
    generalize a.eval = ρ at *
    simp [execOp, Instr.buildSlice, run_underlying hT.u, sizeOf, typeInfo, hi, Instr.fill, newRow, Sem.run_bind, Sem.run_pure, Result.andThen_ok]
    rw [show Array.map (fun x => (default : Value)) (Array.range 0) = #[] from Array.eq_empty_of_size_eq_zero (by simp)]
  have hrow := World.ownsRow_lit (base := 0) (e := e) (size := K.sz) w #[] 0 (Nat.zero_le _) (Nat.zero_le _) (by simp)
  have hdn := blt_lt hd
  unfold Oper.wp
  rw [hrun]
  show Inv c _ (a.put (some d) _) _
  refine ⟨by rw [put_defers]; exact h1, by rw [put_size]; exact h2, h3.alloc _, θ, S, h4.grow (by simp), ?_⟩
  refine sat_consB (b := w.heap.size) (dead_nil _) ?_ ⟨fun hS => (by have := (h4 _ hS).1; omega), by simp, .inl h3.size⟩ ?_
  · show (VA.own e K []).sem θ S _ _ ((a.put (some d) _).tmps.getD d undef)
    rw [put_getD_self (by omega)]
    refine ⟨rfl, [], hrow, fun j p hj => by simp at hj⟩
  · refine sat_mono (sat_move (ks := [d]) (sat_mono h5 (fun k hk => by cases hk) (fun b hb => hb)) (agree_alloc h4 _) (fun b hb => hb) (fun b hb => Below.heap_alloc _ _ _ hb.2.1) (fun t ht => put_getD_ne (fun e => ht (by simp [e]))) (fun k hk => rfl)) (fun k hk => hk) (fun b hb => ⟨⟨hb.1, by have := hb.2.1; simp; omega, hb.2.2⟩, by have := hb.2.1; omega⟩)
theorem freeEnt_r {α : Type} {K : Kn α} (h : KFree K) (r : Nat) (e : TypeId) (xs : List α) : FreeEnt (Ent.r r e K xs) := fun {θ S S' ob a w} hs => KFree.own h e xs (θ := θ) (S := S) (S' := S') hs
end
section
variable {P : Program} {c : Ctx} {Γ : List Ent} {Q : Exit → Act → World → Prop} {ops : Array Oper} {l : List Oper}
theorem inv_boxlen {a : Act} {w : World} {e m : Nat} (id : Nat) (l1 : List FA) (off r : Nat) (l2 : List FA) (n n' : Nat) (hn : n = n') (h : findE [] Γ (2000000 + id) = some (Ent.h id (HE.boxf e m (l1 ++ FA.rw off r n :: l2)))) (hi : Inv c Γ a w) : Inv c (Ent.h id (HE.boxf e m (l1 ++ FA.rw off r n' :: l2)) :: Γ) a w := by
  subst hn
  exact inv_hmap id h (fun _ _ _ _ h => h) hi
end
end Go.Proofs.Ytlpmolohppoofaa.Sl
/- Rows cut to their own length: what is appended to them goes into a row of its own. -/
set_option linter.unusedVariables false
set_option linter.unusedSimpArgs false
set_option linter.unnecessarySimpa false
set_option linter.deprecated false
namespace Go.Proofs.Ytlpmolohppoofaa.Sl
open Go Go.RowKit
def VA.kc {α : Type} (K : Kn α) (xs : List α) : VA where
  ids := []
  sem := fun _ S ob w v => ob = bk none ∧ ∃ A, v = .slice A xs.length xs.length ∧ xs.length ≤ maxLen ∧ Row K S w A xs
  move := by rintro θ θ' S S' ob w w' v ⟨h0, A, h1, h2, h3⟩ hA hS _ _; exact ⟨h0, A, h1, h2, h3.move hA hS⟩
theorem grow_kc {α : Type} {P : Program} {t ty e : TypeId} {K : Kn α} {bytes : Nat} (hT : AT P t e K bytes) {θ : Nat → Nat} {S : Blk} {w : World} {xs ys : List α} {v x : Value} {ad0 : Addr} (hx : Reads K S w x ys) (hroom : room bytes (xs.length + ys.length) = true) (h0 : 0 < ys.length) (e1 : v = .slice (some ad0) xs.length xs.length)
    (hel0 : ∀ j p, xs[j]? = some p → ∃ cs, K.R S w p cs ∧ ∀ i u, cs[i]? = some u → w.cell? (ad0.add (j * K.sz + i)) = some u) (hSb : ∀ b, S b → b < w.heap.size) :
    ∃ v' w', (Builtin.append_ #[t, t] ty #[v, x]).run P w = .ok v' w' ∧ (VA.own e K (xs ++ ys)).sem θ S (bk v'.ownBlock) w' v' ∧ w.grownBy w' none ∧ (∀ b, v'.ownBlock = some b → w.heap.size ≤ b) := by
  subst e1
  obtain ⟨i, z, hi, hz, hs, hby, hzs⟩ := hT.i
  have hby' : (xs.length + ys.length) * bytes ≤ 140737488355328 := Nat.le_of_ble_eq_true hroom
  have h63 : xs.length + ys.length ≤ maxLen := by
    have := Nat.le_mul_of_pos_right (xs.length + ys.length) hT.pb
    unfold maxLen; omega
  obtain ⟨A, c, rfl, hread⟩ := hx
  obtain ⟨ad, rfl, hel⟩ := hread h0
  obtain ⟨olds, o1, o2, o3, o4⟩ := cells_line xs 0 (fun j p hj => by
    obtain ⟨cs, g1, g2⟩ := hel0 j p hj
    exact ⟨cs, g1, fun i u hi => by rw [Nat.zero_add]; exact g2 i u hi⟩)
  obtain ⟨news, n1, n2, n3, n4⟩ := cells_line ys 0 (fun j p hj => by
    obtain ⟨cs, g1, g2⟩ := hel j p hj
    exact ⟨cs, g1, fun i u hi => by rw [Nat.zero_add]; exact g2 i u hi⟩)
  obtain ⟨v', w', hrun, hown, hg⟩ := run_append_arg_grows (P := P) (w := w) t ty e i z K.sz bytes hT.u hi hz hs hby hzs hT.pos ad0 xs.length xs.length olds o1 (fun j u hj => by have := o2 j u hj; rw [Nat.zero_add] at this; exact this) ad ys.length c news n1 (fun j u hj => by have := n2 j u hj; rw [Nat.zero_add] at this; exact this) (by omega) h63 hby'
  have hag : Agree S w w' := fun b hb => hg.block b (hSb b hb) (by simp)
  refine ⟨v', w', hrun, ⟨rfl, olds ++ news, ⟨by rw [List.length_append (as := xs)]; exact hown.1, ?_⟩, fun j p hj => ?_⟩, hg, fun b hb => (hown.lt b hb).1⟩
  · rw [List.length_append]
    rcases hown.2 with h | ⟨g, cap, cur, q1, _, q3⟩
    · exact .inl h
    · exact .inr ⟨g, cap, cur, q1, Nat.zero_le _, q3⟩
  · rcases Nat.lt_or_ge j xs.length with hlt | hge
    · rw [List.getElem?_append_left hlt] at hj
      have hle : j * K.sz + K.sz ≤ olds.length := by rw [o1, ← Nat.succ_mul]; exact Nat.mul_le_mul_right _ hlt
      rw [List.drop_append_of_le_length (by omega), List.take_append_of_le_length (by rw [List.length_drop]; omega)]
      exact K.move (o4 j p hj) hag (fun b hb => hb)
    · rw [List.getElem?_append_right hge] at hj
      rw [show j * K.sz = olds.length + (j - xs.length) * K.sz by rw [o1, ← Nat.add_mul]; congr 1; omega, drop_app]
      exact K.move (n4 _ p hj) hag (fun b hb => hb)
section
variable {P : Program} {n d : Nat} {ty t t' : TypeId} {pos : String} {af : Array Edge} {g : Option (Nat × Bool)} {N : Ent → Prop}
theorem op_slice3 {α : Type} {K : Kn α} {xs : List α} {o hi mx : Operand} {e : TypeId} (hd : Nat.blt d n = true) (hu : P.underlying t = some (.slice e)) (hk : TK P e K) (ho : Arg N o (VA.k (kslice K) xs)) (hh : Arg N hi (VA.k (kint .i64) xs.length)) (hx : Arg N mx (VA.k (kint .i64) xs.length)) :
    OpSpec P n ⟨some d, .slice t o none (some hi) (some mx), ty, pos, af, g⟩ N [Ent.t d (VA.kc K xs)] := op_pure hd fun θ S act w hN => by
  obtain ⟨_, h1⟩ := ho θ S act w hN
  obtain ⟨A, c, e1, hc, hm, hr⟩ := k_slice h1
  obtain ⟨_, h2⟩ := hh θ S act w hN
  obtain ⟨_, h3⟩ := hx θ S act w hN
  have e2 := k_int h2
  have e3 := k_int h3
  have hb : (Instr.sliceBounds true xs.length c none (some (.int .i64 xs.length)) (some (.int .i64 xs.length))).run P w = .ok (0, xs.length, xs.length) w := by
    have : (xs.length : Int) ≤ c := by omega
    simp [Instr.sliceBounds, Instr.sliceBound, asIntOf, this, hc, Sem.run_bind, Sem.run_pure, Result.andThen_ok]
  refine ⟨.slice (if xs.length = 0 then A else A.map (·.add (0 * K.sz))) (xs.length - 0) (xs.length - 0), ?_, rfl, A, ?_, by omega, hr⟩
  · clear h1 h2 h3 ho hh hx hN
    generalize act.eval = ρ at *
    simp [execOp, Instr.sliceAt, Instr.slice, e1, e2, e3, run_underlying hu, hb, hk.size, Sem.run_bind, Sem.run_pure, Result.andThen_ok]
  · have hadd : ∀ A : Option Addr, A.map (·.add (0 * K.sz)) = A := fun A => by cases A <;> simp [Addr.add]
    rw [hadd, ite_self, Nat.sub_zero]
theorem op_append_kc {α : Type} {e : TypeId} {K : Kn α} {bytes : Nat} {xs ys r : List α} {o x : Operand} (hd : Nat.blt d n = true) (hT : AT P t e K bytes) (hr : app bytes xs ys = some r) (h0 : 0 < ys.length) (ho : Arg N o (VA.kc K xs)) (hx : ReadsArg N K x ys) :
    OpSpec P n ⟨some d, .call { callee := .builtin .append, args := #[o, x], argTypes := #[t, t] }, ty, pos, af, g⟩ N [Ent.t d (VA.own e K r)] := by
  rintro c Γ a w Q rfl hN ⟨h1, h2, h3, θ, S, h4, h5⟩
  unfold app at hr
  split at hr
  · rename_i hroom
    cases hr
    have hread := hx θ S a w (sems hN h5)
    obtain ⟨_, _, A, e1, hm, hrow⟩ := ho θ S a w (sems hN h5)
    have key : ∃ v' w', (Builtin.append_ #[t, t] ty #[a.eval o, a.eval x]).run P w = .ok v' w' ∧ (VA.own e K (xs ++ ys)).sem θ S (bk v'.ownBlock) w' v' ∧ w.grownBy w' none ∧ (∀ b, v'.ownBlock = some b → w.heap.size ≤ b) := by
      rcases Nat.eq_zero_or_pos xs.length with hx0 | hxp
      · cases A with
        | none =>
          have hown : (VA.own e K xs).sem θ S (bk none) w (a.eval o) := by
            rw [e1, hx0, List.eq_nil_of_length_eq_zero hx0]
            exact ⟨rfl, [], World.ownsRow_nil _ _ _ _, fun j p hj => by simp at hj⟩
          obtain ⟨v', w', hrun, r1, r2, r3⟩ := run_append_own_k (ty := ty) (θ := θ) hT hown hread hroom (fun b hb => by cases hb) (fun b hb => (h4 b hb).1)
          have hnb : (a.eval o).ownBlock = none := by rw [e1]; rfl
          rw [hnb] at r2 r3
          refine ⟨v', w', hrun, r1, r2, fun b hb => ?_⟩
          rcases r3 with h | h
          · rw [h] at hb; cases hb
          · rw [h] at hb; cases hb; exact Nat.le_refl _
        | some ad0 => exact grow_kc hT hread hroom h0 e1 (fun j p hj => by rw [List.eq_nil_of_length_eq_zero hx0] at hj; simp at hj) (fun b hb => (h4 b hb).1)
      · obtain ⟨ad0, rfl, hs0, hel⟩ := hrow hxp
        exact grow_kc hT hread hroom h0 e1 hel (fun b hb => (h4 b hb).1)
    obtain ⟨v', w', hrun, hown, hg, hat⟩ := key
    have hrun' := run_app_op (ρ := a.eval) (x := o) (y := x) (d := d) (pos := pos) (af := af) (g := g) hrun
    have hdn := blt_lt hd
    have hlt := own_lt_size hown
    have hag : Agree S w w' := fun b hb => hg.block b (h4 b hb).1 (by simp)
    have h3s := h3.size
    unfold Oper.wp
    rw [hrun']
    show Inv c _ (a.put (some d) v') w'
    refine ⟨by rw [put_defers]; exact h1, by rw [put_size]; exact h2, h3.grown hg (fun b hb => by cases hb), θ, S, h4.grow hg.size, ?_⟩
    refine sat_consO (ob := bk v'.ownBlock) (dead_nil _) ?_ (fun b hb => ?_) ?_
    · show (VA.own e K (xs ++ ys)).sem θ S _ w' ((a.put (some d) v').tmps.getD d undef)
      rw [put_getD_self (by omega)]
      exact hown
    · exact ⟨fun hS => by have := (h4 _ hS).1; have := hat b hb; omega, hlt b hb, .inl (by have := hat b hb; omega)⟩
    · refine sat_mono (sat_move (ks := [d]) (sat_mono h5 (fun k hk => by cases hk) (fun b hb => hb)) hag (fun b hb => hb) (fun b hb => hg.block b hb.2.1 (by simp)) (fun t ht => put_getD_ne (fun e => ht (by simp [e]))) (fun k hk => rfl)) (fun k hk => hk) (fun b hb => ⟨⟨hb.1, Nat.lt_of_lt_of_le hb.2.1 hg.size, hb.2.2⟩, fun e' => ?_⟩)
      have := hat b e'; have := hb.2.1; omega
  · cases hr
end
end Go.Proofs.Ytlpmolohppoofaa.Sl
namespace Go.Proofs.Ytlpmolohppoofaa.Sl
/-- Two fuels at once. -/
theorem Tends.diag {α : Type} {f : Nat → Nat → Option α} {g : Nat → Option α} {b : Option α} (h : ∀ K, Tends (fun j => f K j) (g K)) (hm : ∀ {K K' : Nat}, K ≤ K' → ∀ j, Le (f K j) (f K' j)) (hv : Tends g b) : Tends (fun k => f k k) b :=
  ⟨fun k r hr => hv.1 k r ((h k).1 k r hr), fun r hr => by
    obtain ⟨K0, h0⟩ := hv.2 r hr
    obtain ⟨J, hJ⟩ := (h K0).2 r (h0 K0 (Nat.le_refl _))
    exact ⟨max K0 J, fun k hk => hm (Nat.le_trans (Nat.le_max_left _ _) hk) k r (hJ k (Nat.le_trans (Nat.le_max_right _ _) hk))⟩⟩
end Go.Proofs.Ytlpmolohppoofaa.Sl
/- A range over a string: its iterator stands in a block that the frame alone writes. -/
set_option linter.unusedVariables false
set_option linter.unusedSimpArgs false
set_option linter.unnecessarySimpa false
set_option linter.deprecated false
namespace Go.Proofs.Ytlpmolohppoofaa.Sl
open Go Go.RowKit
def HE.iter (s : ByteArray) (pos : Nat) : HE where
  ids := []
  sem := fun _ b _ w => w.heap[b]? = some (.stringIter s pos)
  move := fun h _ _ hb _ => hb.trans h
def nxPos (s : ByteArray) (pos : Nat) : Nat := bif decide (pos < s.size) then pos + (Utf8.decode s pos).2 else pos
/-- What 'next' gives at a place of a string. -/
def VA.nx (s : ByteArray) (pos : Nat) : VA where
  ids := []
  sem := fun _ _ ob _ v => ob = bk none ∧ v = .tuple (bif decide (pos < s.size) then #[.bool true, .int .i64 (pos : Int), .int .i32 ((Utf8.decode s pos).1 : Int)] else #[.bool false])
  move := fun h _ _ _ _ => h
section
variable {P : Program} {n d : Nat} {ty t : TypeId} {pos : String} {af : Array Edge} {g : Option (Nat × Bool)} {N : Ent → Prop}
theorem inv_turn {c : Ctx} {Γ : List Ent} {a : Act} {w : World} {id : Nat} {H : HE} {θ : Nat → Nat} {S : Blk} {H0 : HE} {U : Array Obj} (h1 : a.defers = c.df) (h2 : a.tmps.size = c.n ∧ c.n ≤ 1000000) (h3 : Fr c.X c.w0 w) (h4 : SOk c S w) (hfree : free c S w (θ id))
    (h6 : sat θ S a w [(Ent.h id H0).key] Γ (fun b => free c S w b ∧ some (θ id) ≠ some b)) (hsz : U.size = w.heap.size) (hne : ∀ b, b ≠ θ id → U[b]? = w.heap[b]?) (hH : H.sem θ (θ id) S { w with heap := U }) : Inv c ([Ent.h id H] ++ Γ) a { w with heap := U } := by
  have hag : Agree S w { w with heap := U } := fun b hs => hne b (fun e => hfree.1 (e ▸ hs))
  have hsz' : ({ w with heap := U } : World).heap.size = w.heap.size := hsz
  refine ⟨h1, h2, ⟨h3.os, h3.tape, h3.output, by rw [hsz']; exact h3.size, fun k hk hx => (hne k (fun e => ?_)).trans (h3.block k hk hx)⟩, θ, S, h4.grow (by rw [hsz']; exact Nat.le_refl _), ?_⟩
  · rcases hfree.2.2 with h | h
    · rw [← e] at h; omega
    · exact hx (e ▸ h)
  · refine sat_consB (b := θ id) (dead_nil _) ⟨rfl, hH⟩ ⟨hfree.1, by rw [hsz']; exact hfree.2.1, hfree.2.2⟩ ?_
    refine sat_mono (sat_move h6 hag (fun b hb => hb) (fun b hb => hne b (fun e => hb.2 (by rw [e]))) (fun t _ => rfl) (fun k _ => rfl)) (fun k hk => hk) (fun b hb => ⟨⟨hb.1.1, by rw [hsz']; exact hb.1.2.1, hb.1.2.2⟩, fun e => hb.2 (by rw [e])⟩)
theorem op_range {s : ByteArray} {o : Operand} (id : Nat) (hd : Nat.blt d n = true) (hu : P.underlying t = some .string) (ho : Arg N o (VA.k kstr s)) : OpSpec P n ⟨some d, .range t o, ty, pos, af, g⟩ N [Ent.t d (VA.ptr id 0), Ent.h id (HE.iter s 0), Ent.bind id] := by
  rintro c Γ a w Q rfl hN ⟨h1, h2, h3, θ, S, h4, h5⟩
  obtain ⟨_, hv⟩ := ho θ S a w (sems hN h5)
  have e1 := k_str hv
  have hrun : (execOp a.eval ⟨some d, .range t o, ty, pos, af, g⟩).run P w = .ok (.value (.pointer (some ⟨w.heap.size, 0, none⟩))) (w.alloc (.stringIter s 0)) := by
    have e := run_range_string (P := P) w t s hu
    clear hv hN ho h1 h2 h5
    generalize a.eval = ρ at *
    simp [execOp, e1, e, World.iter, Sem.run_bind, Sem.run_pure, Result.andThen_ok]
  unfold Oper.wp
  rw [hrun]
  exact inv_box hd h1 h2 h3 h4 h5 _ (fun θ' h => ⟨rfl, by rw [h]⟩) (fun θ' _ _ => heap_alloc_new w _)
theorem op_next {s : ByteArray} {p id : Nat} {o : Operand} (hd : Nat.blt d n = true) (ho : Arg N o (VA.ptr id 0)) (hb : N (Ent.h id (HE.iter s p))) : OpSpec P n ⟨some d, .next o true, ty, pos, af, g⟩ N [Ent.t d (VA.nx s p), Ent.h id (HE.iter s (nxPos s p))] := by
  rintro c Γ a w Q rfl hN ⟨h1, h2, h3, θ, S, h4, h5⟩
  have hN2 := sems hN h5
  obtain ⟨_, _, e1⟩ := ho θ S a w hN2
  obtain ⟨ob, ⟨rfl, hk⟩, hav, h6⟩ := sat_take (hN _ hb) h5
  have hfree := hav _ rfl
  have hk' : w.heap[θ id]? = some (.stringIter s p) := hk
  have hlt : θ id < w.heap.size := (Array.getElem?_eq_some_iff.1 hk').1
  have e1' : a.eval o = .pointer (some ⟨θ id, 0, none⟩) := e1
  by_cases h : p < s.size
  · have hrun : (execOp a.eval ⟨some d, .next o true, ty, pos, af, g⟩).run P w = .ok (.value (.tuple #[.bool true, .int .i64 (p : Int), .int .i32 ((Utf8.decode s p).1 : Int)])) { w with heap := w.heap.setIfInBounds (θ id) (.stringIter s (p + (Utf8.decode s p).2)) } := by
      clear hN hN2 ho hb h1 h2 h5 h6 e1
      generalize a.eval = ρ at *
      simp only [execOp, e1', Instr.next, getObj, setObj, Sem.run_bind, Sem.run, hk', Result.andThen, h, if_true]
      simp [goInt]
    unfold Oper.wp
    rw [hrun]
    obtain ⟨k1, k2, k3, θ', S', k4, k5⟩ := inv_turn (H := HE.iter s (nxPos s p)) (U := w.heap.setIfInBounds (θ id) (.stringIter s (p + (Utf8.decode s p).2))) h1 h2 h3 h4 hfree h6 (by simp) (fun b hb => by rw [Array.getElem?_setIfInBounds, if_neg (fun e => hb e.symm)]) (by
      show (w.heap.setIfInBounds (θ id) (.stringIter s (p + (Utf8.decode s p).2)))[θ id]? = some (.stringIter s (nxPos s p))
      unfold nxPos
      rw [decide_eq_true h]
      simp [hlt])
    exact inv_put hd k1 k2 k3 k4 k5 rfl ⟨rfl, by rw [decide_eq_true h]; rfl⟩
  · have hrun : (execOp a.eval ⟨some d, .next o true, ty, pos, af, g⟩).run P w = .ok (.value (.tuple #[.bool false])) w := by
      clear hN hN2 ho hb h1 h2 h5 h6 e1
      generalize a.eval = ρ at *
      simp [execOp, e1', Instr.next, getObj, Sem.run_bind, Sem.run, hk', h]
    unfold Oper.wp
    rw [hrun]
    obtain ⟨k1, k2, k3, θ', S', k4, k5⟩ := inv_turn (H := HE.iter s (nxPos s p)) (U := w.heap) h1 h2 h3 h4 hfree h6 rfl (fun b hb => rfl) (by
      show w.heap[θ id]? = some (.stringIter s (nxPos s p))
      unfold nxPos
      rw [decide_eq_false h]
      exact hk')
    exact inv_put hd k1 k2 k3 k4 k5 rfl ⟨rfl, by rw [decide_eq_false h]; rfl⟩
theorem op_extract_nx0 {s : ByteArray} {p q : Nat} (hd : Nat.blt d n = true) (h : N (Ent.t q (VA.nx s p))) : OpSpec P n ⟨some d, .extract (.tmp q) 0, ty, pos, af, g⟩ N [Ent.t d (VA.k kbool (decide (p < s.size)))] := op_pure hd fun θ S act w hN => by
  obtain ⟨_, _, e1⟩ := hN _ h
  have e1' : act.eval (.tmp q) = .tuple (bif decide (p < s.size) then #[.bool true, .int .i64 (p : Int), .int .i32 ((Utf8.decode s p).1 : Int)] else #[.bool false]) := e1
  refine ⟨.bool (decide (p < s.size)), ?_, mk_bool _ _ _ _⟩
  clear e1 hN
  generalize act.eval = ρ at *
  cases hb : decide (p < s.size) <;> simp [execOp, Instr.extract, e1', hb, Sem.run_bind, Sem.run_pure, Result.andThen_ok]
theorem op_extract_nx1 {s : ByteArray} {p q : Nat} (hd : Nat.blt d n = true) (hb : decide (p < s.size) = true) (h : N (Ent.t q (VA.nx s p))) : OpSpec P n ⟨some d, .extract (.tmp q) 1, ty, pos, af, g⟩ N [Ent.t d (VA.k (kint .i64) (p : Int))] := op_pure hd fun θ S act w hN => by
  obtain ⟨_, _, e1⟩ := hN _ h
  have e1' : act.eval (.tmp q) = .tuple (bif decide (p < s.size) then #[.bool true, .int .i64 (p : Int), .int .i32 ((Utf8.decode s p).1 : Int)] else #[.bool false]) := e1
  refine ⟨.int .i64 (p : Int), ?_, rfl, _, rfl, rfl⟩
  clear e1 hN
  generalize act.eval = ρ at *
  simp [execOp, Instr.extract, e1', hb, Sem.run_bind, Sem.run_pure, Result.andThen_ok]
theorem op_extract_nx2 {s : ByteArray} {p q : Nat} (hd : Nat.blt d n = true) (hb : decide (p < s.size) = true) (h : N (Ent.t q (VA.nx s p))) : OpSpec P n ⟨some d, .extract (.tmp q) 2, ty, pos, af, g⟩ N [Ent.t d (VA.k (kint .i32) ((Utf8.decode s p).1 : Int))] := op_pure hd fun θ S act w hN => by
  obtain ⟨_, _, e1⟩ := hN _ h
  have e1' : act.eval (.tmp q) = .tuple (bif decide (p < s.size) then #[.bool true, .int .i64 (p : Int), .int .i32 ((Utf8.decode s p).1 : Int)] else #[.bool false]) := e1
  refine ⟨.int .i32 ((Utf8.decode s p).1 : Int), ?_, rfl, _, rfl, rfl⟩
  clear e1 hN
  generalize act.eval = ρ at *
  simp [execOp, Instr.extract, e1', hb, Sem.run_bind, Sem.run_pure, Result.andThen_ok]
theorem Arg.fn {F : FuncId} : Arg N (.func F) (VA.clo F [] []) := fun θ S a w hN => ⟨bk none, rfl, ⟨rfl, rfl⟩, [], [], rfl, trivial, trivial⟩
end
end Go.Proofs.Ytlpmolohppoofaa.Sl
/- Structs compared with ==. -/
set_option linter.unusedVariables false
set_option linter.unusedSimpArgs false
set_option linter.unnecessarySimpa false
set_option linter.deprecated false
namespace Go.Proofs.Ytlpmolohppoofaa.Sl
open Go Go.RowKit
/-- Values of type t, told by K, compare as q says, from depth m on. -/
def QK {α : Type} (P : Program) (t : TypeId) (K : Kn α) (q : α → α → Bool) (m : Nat) : Prop :=
  ∀ (S : Blk) (w : World) (x y : α) (cx cy : List Value) (d : Nat), m ≤ d → K.R S w x cx → K.R S w y cy → (Op.equalIn d t (K.mk_ cx) (K.mk_ cy)).run P w = .ok (q x y) w
theorem qk_bool {P : Program} {t : TypeId} (hu : P.underlying t = some .bool) : QK P t kbool (fun x y => x == y) 1 := fun S w x y cx cy d hd hx hy => by
  obtain rfl := hx
  obtain rfl := hy
  cases d with
  | zero => omega
  | succ d => exact run_eqIn_bool d hu w x y
theorem qk_int {P : Program} {t : TypeId} {k : IntKind} (hu : P.underlying t = some (.int k)) : QK P t (kint k) (fun x y => icmp .eql x y) 1 := fun S w x y cx cy d hd hx hy => by
  obtain rfl := hx
  obtain rfl := hy
  cases d with
  | zero => omega
  | succ d => exact run_equalIn_int w d t k k x y hu
theorem qk_str {P : Program} {t : TypeId} (hu : P.underlying t = some .string) : QK P t kstr (fun x y => x.toList == y.toList) 1 := fun S w x y cx cy d hd hx hy => by
  obtain rfl := hx
  obtain rfl := hy
  cases d with
  | zero => omega
  | succ d => exact run_equalIn_string w d t x y hu
def QF {α : Type} (P : Program) (K : Kn α) (fs : List Field) (q : α → α → Bool) (m : Nat) : Prop :=
  ∀ (S : Blk) (w : World) (x y : α) (cx cy : List Value) (d : Nat), m ≤ d → K.R S w x cx → K.R S w y cy → (Op.eqFields d cx.toArray cy.toArray fs).run P w = .ok (q x y) w
theorem qf_nil {α : Type} {P : Program} {K : Kn α} : QF P K [] (fun _ _ => true) 1 := fun S w x y cx cy d _ _ _ => by simp [Op.eqFields, Sem.run_pure]
theorem qf_cons {α β : Type} {P : Program} {K : Kn α} {K' : Kn β} {f : Field} {fs : List Field} {off m m' : Nat} {get : α → β} {set : α → β → α} {q : β → β → Bool} {r : α → α → Bool} (hn : (f.name == "_") = false) (ho : f.offset = off) (hF : Fld K off K' get set) (hk : TK P f.type K') (hq : QK P f.type K' q m)
    (hr : QF P K fs r m') : QF P K (f :: fs) (fun x y => q (get x) (get y) && r x y) (max m m') := fun S w x y cx cy d hd hx hy => by
  have hne : f.name ≠ "_" := fun e => by rw [e] at hn; simp at hn
  have a1 := run_part (w := w) hk (hF.get hx) (by rw [K.len hx]; exact hF.le)
  have a2 := run_part (w := w) hk (hF.get hy) (by rw [K.len hy]; exact hF.le)
  have a3 := hq S w _ _ _ _ d (by omega) (hF.get hx) (hF.get hy)
  have a4 := hr S w x y cx cy d (by omega) hx hy
  rw [← ho] at a1 a2 a3
  unfold Op.eqFields
  rw [if_pos hne]
  simp only [Sem.run_bind, a1, a2, a3, Result.andThen_ok]
  cases h : q (get x) (get y) with
  | false => simp [Sem.run_pure]
  | true => simpa using a4
theorem qk_struct {α : Type} {P : Program} {t : TypeId} {K : Kn α} {fs : Array Field} {q : α → α → Bool} {m : Nat} (hu : P.underlying t = some (.struct fs)) (hs : P.stoodInHeld t = false) (ha : K.agg = true) (hq : QF P K fs.toList q m) : QK P t K q (m + 1) := fun S w x y cx cy d hd hx hy => by
  have hf : P.fieldsOf t = fs := by unfold Program.fieldsOf; rw [hu]
  unfold Kn.mk_
  rw [ha]
  cases d with
  | zero => omega
  | succ d =>
    have e := run_equalIn_struct (P := P) w d t cx.toArray cy.toArray (by rw [hf]; exact hu) hs
    rw [hf, hq S w x y cx cy d (by omega) hx hy] at e
    exact e
section
variable {P : Program} {n d : Nat} {ty t t' : TypeId} {pos : String} {af : Array Edge} {g : Option (Nat × Bool)} {N : Ent → Prop}
theorem op_seq {α : Type} {K : Kn α} {q : α → α → Bool} {m : Nat} {x y : α} {o z : Operand} (hd : Nat.blt d n = true) (hq : QK P t K q m) (hm : Nat.ble m 10000 = true) (ha : K.agg = true) (hg : P.eqGuardType P.depth t = false) (hx : Arg N o (VA.k K x)) (hy : Arg N z (VA.k K y)) :
    OpSpec P n ⟨some d, .binOp .eql t o z t', ty, pos, af, g⟩ N [Ent.t d (VA.k kbool (q x y))] := op_pure hd fun θ S act w hN => by
  obtain ⟨_, _, cx, h1, e1⟩ := hx θ S act w hN
  obtain ⟨_, _, cy, h2, e2⟩ := hy θ S act w hN
  have e := hq S w x y cx cy 10000 (Nat.le_of_ble_eq_true hm) h1 h2
  have m1 : K.mk_ cx = .agg cx.toArray := by unfold Kn.mk_; rw [ha]
  have m2 : K.mk_ cy = .agg cy.toArray := by unfold Kn.mk_; rw [ha]
  rw [m1] at e1 e
  rw [m2] at e2 e
  refine ⟨_, ?_, mk_bool _ _ _ _⟩
  have e1' : act.eval o = .agg cx.toArray := e1
  have e2' : act.eval z = .agg cy.toArray := e2
  have e3 := run_eqGuard_agg (P := P) w .eql t o z cx.toArray cy.toArray hg
  clear hN hx hy e1 e2
  generalize act.eval = ρ at *
  simp [execOp, e1', e2', Sem.run_bind, e3, run_eql_struct, e, Result.andThen_ok, Sem.run_pure]
theorem op_sne {α : Type} {K : Kn α} {q : α → α → Bool} {m : Nat} {x y : α} {o z : Operand} (hd : Nat.blt d n = true) (hq : QK P t K q m) (hm : Nat.ble m 10000 = true) (ha : K.agg = true) (hg : P.eqGuardType P.depth t = false) (hx : Arg N o (VA.k K x)) (hy : Arg N z (VA.k K y)) :
    OpSpec P n ⟨some d, .binOp .neq t o z t', ty, pos, af, g⟩ N [Ent.t d (VA.k kbool (!(q x y)))] := op_pure hd fun θ S act w hN => by
  obtain ⟨_, _, cx, h1, e1⟩ := hx θ S act w hN
  obtain ⟨_, _, cy, h2, e2⟩ := hy θ S act w hN
  have e := hq S w x y cx cy 10000 (Nat.le_of_ble_eq_true hm) h1 h2
  have m1 : K.mk_ cx = .agg cx.toArray := by unfold Kn.mk_; rw [ha]
  have m2 : K.mk_ cy = .agg cy.toArray := by unfold Kn.mk_; rw [ha]
  rw [m1] at e1 e
  rw [m2] at e2 e
  refine ⟨_, ?_, mk_bool _ _ _ _⟩
  have e1' : act.eval o = .agg cx.toArray := e1
  have e2' : act.eval z = .agg cy.toArray := e2
  have e3 := run_eqGuard_agg (P := P) w .neq t o z cx.toArray cy.toArray hg
  clear hN hx hy e1 e2
  generalize act.eval = ρ at *
  simp [execOp, e1', e2', Sem.run_bind, e3, run_neq_struct, e, Result.andThen_ok, Sem.run_pure]
end
end Go.Proofs.Ytlpmolohppoofaa.Sl
/- slices.Sort and slices.Compact at []string: a lent row is sorted; a row is consumed and comes back cut. Between the shelf's words and the frame's. -/
set_option linter.unusedVariables false
set_option linter.unusedSimpArgs false
set_option linter.unnecessarySimpa false
set_option linter.deprecated false
namespace Go.Proofs.Ytlpmolohppoofaa.Sl
open Go Go.RowKit Go.Sort
def toB (x : ByteArray) : List UInt8 := x.data.toList
def ofB (l : List UInt8) : ByteArray := ⟨l.toArray⟩
theorem encStr_toB (x : ByteArray) : encStr (toB x) = .string x := rfl
theorem ofB_toB (x : ByteArray) : ofB (toB x) = x := rfl
/-- The list in order. -/
def sortB (xs : List ByteArray) : List ByteArray := ((xs.map toB).mergeSort fun x y => decide (x ≤ y)).map ofB
/-- One of each run of equals. -/
def compactB (xs : List ByteArray) : List ByteArray := (Lib.compact (xs.map toB)).map ofB
theorem own_str {θ : Nat → Nat} {S : Blk} {ob : Blk} {w : World} {v : Value} {e : TypeId} {xs : List ByteArray} (h : (VA.own e kstr xs).sem θ S ob w v) : ob = bk v.ownBlock ∧ w.ownsRow 0 e 1 v xs.length ((xs.map toB).map encStr) := by
  obtain ⟨h0, inner, ho, hr⟩ := h
  refine ⟨h0, ?_⟩
  have hl : inner.length = xs.length := by have := ho.1; simpa [kstr, Kn.scalar] using this
  have : inner = (xs.map toB).map encStr := by
    apply List.ext_getElem (by simp [hl])
    intro j h1 h2
    have hj : j < xs.length := by rw [← hl]; exact h1
    have h3 := hr j xs[j] (List.getElem?_eq_getElem hj)
    have h4 : (inner.drop (j * 1)).take 1 = [.string xs[j]] := h3
    rw [Nat.mul_one, List.drop_eq_getElem_cons h1] at h4
    simp only [List.take_succ_cons, List.take_zero, List.cons.injEq, and_true] at h4
    rw [h4]; simp [encStr_toB]
  rw [← this]
  exact ho
theorem str_own {θ : Nat → Nat} {S : Blk} {w : World} {v : Value} {e : TypeId} {ts : List (List UInt8)} (h : w.ownsRow 0 e 1 v ts.length (ts.map encStr)) : (VA.own e kstr (ts.map ofB)).sem θ S (bk v.ownBlock) w v := by
  refine ⟨rfl, ts.map encStr, by rw [List.length_map]; exact h, fun j p hj => ?_⟩
  have hlt : j < ts.length := by have := (List.getElem?_eq_some_iff.1 hj).1; simpa using this
  have hp : p = ofB ts[j] := by
    rw [List.getElem?_map, List.getElem?_eq_getElem hlt] at hj
    exact (Option.some.inj hj).symm
  show ((ts.map encStr).drop (j * 1)).take 1 = [.string p]
  rw [Nat.mul_one, List.drop_eq_getElem_cons (by simpa using hlt), hp]
  simp [encStr, ofB]
theorem fr_sorted {w : World} {g n : Nat} {X : List Nat} {os : Array Obj} (d : Array (List UInt8)) (hg : g ∈ X) : Fr X w (grow (putRow encStr (Sort.ahead w n) g 0 d) os) := by
  obtain ⟨h1, h2, h3, h4, h5⟩ := grownBy_sorted (w := w) (g := g) (n := n) (os := os) d
  exact ⟨h1, h2, h3, h4, fun k hk hx => h5 k hk (fun e => hx (by rw [Option.some.inj e]; exact hg))⟩
section
variable {P : Program} {F : FuncId} {e : TypeId}
theorem conE_sort (id : Nat) (hS : ∀ (blk off cap : Nat) (ss : List (List UInt8)) (w : World), Holds encStr w blk off ss.toArray → blk < w.heap.size → ss.length < 4611686018427387904 →
      Calls P F #[.slice (some ⟨blk, off, none⟩) ss.length cap] w fun e w' => e = .returned (.tuple #[]) ∧ ∃ n os, w' = grow (putRow encStr (Sort.ahead w n) blk off (ss.mergeSort fun x y => decide (x ≤ y)).toArray) os)
    (h0 : ∀ (p : Option Addr) (cap : Nat) (w : World), Calls P F #[.slice p 0 cap] w fun e w' => e = .returned (.tuple #[]) ∧ w' = w)
    (xs : List ByteArray) (hx : xs.length < 4611686018427387904) : ConE P F [id, 500000 + id] [Ent.r id e kstr xs] [VA.rw id xs.length] [] [Ent.r id e kstr (sortB xs)] := fun θ S w vs X hS' hX hpre ha => by
  match vs, ha with
  | [v0], ha =>
    obtain ⟨⟨_, hv0⟩, _⟩ := ha
    have hlen : (sortB xs).length = xs.length := by simp [sortB]
    have hpre' := hpre
    unfold sat at hpre'
    rw [if_neg (by simp [dead])] at hpre'
    obtain ⟨ob, hown, hob, _⟩ := hpre'
    obtain ⟨hob2, hrow⟩ := own_str (θ := θ) (S := S) hown
    rw [← hv0] at hrow hob2
    rcases hrow.2 with ⟨hnil, hz⟩ | ⟨g, cap, cur, hv, hb0, hb, h1, h2, h3, h4⟩
    · have hxs : xs = [] := List.length_eq_zero_iff.1 hz
      rw [hnil]
      refine (h0 none 0 w).mono ?_
      rintro e' w' ⟨rfl, rfl⟩
      refine ⟨[], fun _ => False, θ, rfl, Fr.refl _ _, fun b hb => hb.elim, fun k hk => rfl, ?_⟩
      have hs : sortB xs = xs := by rw [hxs]; simp [sortB]
      show sat θ _ act0 w' [] [Ent.r id e kstr (sortB xs)] _
      rw [hs]
      exact sat_mono (sat_move hpre (Agree.refl _ _) (fun b hb => .inl hb) (fun b _ => rfl) (fun t _ => rfl) (fun k _ => rfl)) (fun k hk => hk) (fun b hb => ⟨.inr hb, fun h => h.elim⟩)
    · have hg : g ∈ X := by
        rw [hv] at hob2
        exact hob g (by rw [hob2]; rfl)
      rw [hv]
      have hH := holds_of_block (ss := xs.map toB) hb (by rw [List.length_map, ← Nat.mul_one xs.length]; exact h4)
      have hC := hS g 0 cap (xs.map toB) w hH (Array.getElem?_eq_some_iff.1 hb).1 (by simpa using hx)
      rw [List.length_map] at hC
      refine hC.mono ?_
      rintro e' w' ⟨rfl, n, os, rfl⟩
      refine ⟨[], fun _ => False, θ, rfl, fr_sorted _ hg, fun b hb => hb.elim, fun k hk => rfl, ?_⟩
      have ho := ownsRow_sorted (n := n) (os := os) (ss := xs.map toB) (ts := (xs.map toB).mergeSort fun x y => decide (x ≤ y)) (by simp) hb0 hb (by simpa using h1) h2 h3
      have ho2 : (grow (putRow encStr (Sort.ahead w n) g 0 ((xs.map toB).mergeSort fun x y => decide (x ≤ y)).toArray) os).ownsRow 0 e 1 (.slice (some ⟨g, 0, none⟩) xs.length cap) ((xs.map toB).mergeSort fun x y => decide (x ≤ y)).length (((xs.map toB).mergeSort fun x y => decide (x ≤ y)).map encStr) := by
        have := ho
        rw [List.length_map] at this
        rw [show ((xs.map toB).mergeSort fun x y => decide (x ≤ y)).length = xs.length by simp]
        exact this
      refine sat_consO (ob := bk (some g)) (by simp [dead]) ?_ (fun b hb' => ?_) trivial
      · show (VA.own e kstr (sortB xs)).sem θ _ (bk (some g)) _ (rowVal (θ id) (θ (500000 + id)) (sortB xs).length)
        rw [hlen, ← hv0, hv]
        exact str_own (θ := θ) ho2
      · obtain rfl := Option.some.inj hb'
        exact ⟨.inr hg, fun h => h.elim⟩
theorem compact_le (zs : List (List UInt8)) : (Lib.compact zs).length ≤ zs.length := by
  unfold Lib.compact Lib.compactUpTo
  rw [List.length_map]
  exact Nat.le_trans (List.length_filter_le _ _) (by simp)
theorem conE_compact (id : Nat) (hS : ∀ (blk off cap : Nat) (zs : List (List UInt8)) (w : World), Holds encStr w blk off zs.toArray → zs.length ≤ 9223372036854775807 → zs.length ≤ cap →
      Calls P F #[.slice (some ⟨blk, off, none⟩) zs.length cap] w fun e w' => e = .returned (.slice (some ⟨blk, off, none⟩) (Lib.compact zs).length cap) ∧ ∃ q, w' = putRow encStr (Sort.ahead w q) blk off (Lib.compact zs ++ List.replicate (zs.length - (Lib.compact zs).length) []).toArray)
    (h0 : ∀ (a : Option Addr) (cap : Nat) (w : World), Calls P F #[.slice a 0 cap] w fun e w' => e = .returned (.slice a 0 cap) ∧ w' = w)
    (xs : List ByteArray) : ConE P F [] [Ent.r id e kstr xs] [VA.rw id xs.length] [VA.own e kstr (compactB xs)] [] := fun θ S w vs X hS' hX hpre ha => by
  match vs, ha with
  | [v0], ha =>
    obtain ⟨⟨_, hv0⟩, _⟩ := ha
    have hpre' := hpre
    unfold sat at hpre'
    rw [if_neg (by simp [dead])] at hpre'
    obtain ⟨ob, hown, hob, _⟩ := hpre'
    obtain ⟨hob2, hrow⟩ := own_str (θ := θ) (S := S) hown
    rw [← hv0] at hrow hob2
    rcases hrow.2 with ⟨hnil, hz⟩ | ⟨g, cap, cur, hv, hb0, hb, h1, h2, h3, h4⟩
    · have hxs : xs = [] := List.length_eq_zero_iff.1 hz
      rw [hnil]
      refine (h0 none 0 w).mono ?_
      rintro e' w' ⟨rfl, rfl⟩
      refine ⟨[.slice none 0 0], fun _ => False, θ, rfl, Fr.refl _ _, fun b hb => hb.elim, fun k hk => (by cases hk), bk none, ?_, fun b hb => (by cases hb), trivial⟩
      have hs : compactB xs = [] := by rw [hxs]; simp [compactB, Lib.compact, Lib.compactUpTo]
      rw [hs]
      exact str_own (θ := θ) (ts := []) ⟨rfl, .inl ⟨rfl, rfl⟩⟩
    · have hg : g ∈ X := by
        rw [hv] at hob2
        exact hob g (by rw [hob2]; rfl)
      rw [hv]
      have hH := holds_of_block (ss := xs.map toB) hb (by rw [List.length_map, ← Nat.mul_one xs.length]; exact h4)
      have hC := hS g 0 cap (xs.map toB) w hH (by rw [List.length_map]; have : maxLen = 9223372036854775807 := rfl; omega) (by rw [List.length_map]; exact h1)
      rw [List.length_map] at hC
      refine hC.mono ?_
      rintro e' w' ⟨rfl, q, rfl⟩
      have hcl := compact_le (xs.map toB)
      rw [List.length_map] at hcl
      have hfr := fr_sorted (w := w) (n := q) (os := #[]) (Lib.compact (xs.map toB) ++ List.replicate (xs.length - (Lib.compact (xs.map toB)).length) []).toArray hg
      have hhp := heap_sorted (n := q) (os := #[]) (Lib.compact (xs.map toB) ++ List.replicate (xs.length - (Lib.compact (xs.map toB)).length) []).toArray hb
      rw [grow_empty] at hfr hhp
      refine ⟨[.slice (some ⟨g, 0, none⟩) (Lib.compact (xs.map toB)).length cap], fun _ => False, θ, rfl, hfr, fun b hb => hb.elim, fun k hk => (by cases hk), bk (some g), ?_, fun b hb' => ?_, trivial⟩
      · refine str_own (θ := θ) (ts := Lib.compact (xs.map toB)) ⟨by simp, .inr ⟨g, cap, _, rfl, hb0, hhp, by omega, h2, by simp [putCells, h3], ?_⟩⟩
        have ht := take_putCells cur (Lib.compact (xs.map toB) ++ List.replicate (xs.length - (Lib.compact (xs.map toB)).length) []) (by simp; omega)
        have ht2 := congrArg (List.take (Lib.compact (xs.map toB)).length) ht
        rw [List.take_take, List.map_append, List.take_left' (by simp), Nat.min_eq_left (by simp)] at ht2
        rw [Nat.mul_one]
        exact ht2
      · obtain rfl := Option.some.inj hb'
        exact ⟨.inr hg, fun h => h.elim⟩
end
theorem sortB_length (xs : List ByteArray) : (sortB xs).length = xs.length := by simp [sortB]
end Go.Proofs.Ytlpmolohppoofaa.Sl
/- slices.Insert of one element into a row that is consumed. -/
set_option linter.unusedVariables false
set_option linter.unusedSimpArgs false
set_option linter.unnecessarySimpa false
set_option linter.deprecated false
namespace Go.Proofs.Ytlpmolohppoofaa.Sl
open Go Go.RowKit
theorem KFree.go {α : Type} {K : Kn α} (hK : KFree K) {S S' : Blk} {w w' : World} {x : α} {cs : List Value} (h : K.R S w x cs) : K.R S' w' x cs :=
  hK (K.move (hK (S' := fun _ => False) h) (fun b hb => hb.elim) (fun b hb => hb))
theorem rows_insert {α : Type} {R : α → List Value → Prop} {m : Nat} (inner Y : List Value) (xs : List α) (y : α) (k : Nat) (hl : inner.length = xs.length * m) (hY : Y.length = m) (hk : k ≤ xs.length) (hR : ∀ j p, xs[j]? = some p → R p ((inner.drop (j * m)).take m)) (hy : R y Y) :
    ∀ j p, (xs.take k ++ y :: xs.drop k)[j]? = some p → R p (((inner.take (k * m) ++ (Y ++ inner.drop (k * m))).drop (j * m)).take m) := by
  intro j p hj
  have hkm : k * m ≤ inner.length := by rw [hl]; exact Nat.mul_le_mul_right _ hk
  have htl : (inner.take (k * m)).length = k * m := by rw [List.length_take]; exact Nat.min_eq_left hkm
  have hxl : (xs.take k).length = k := by rw [List.length_take]; exact Nat.min_eq_left hk
  by_cases h1 : j < k
  · rw [List.getElem?_append_left (by omega), List.getElem?_take_of_lt h1] at hj
    have hjm : j * m + m ≤ k * m := by rw [← Nat.succ_mul]; exact Nat.mul_le_mul_right _ h1
    rw [List.drop_append_of_le_length (by omega), List.take_append_of_le_length (by rw [List.length_drop, htl]; omega)]
    have h2 := hR j p hj
    rw [List.drop_take, List.take_take, Nat.min_eq_left (by omega)]
    exact h2
  · by_cases h2 : j = k
    · subst h2
      rw [List.getElem?_append_right (by omega), hxl, Nat.sub_self] at hj
      obtain rfl : y = p := by simpa using hj
      rw [List.drop_append_of_le_length (by omega), List.drop_eq_nil_of_le (by omega), List.nil_append, List.take_append_of_le_length (by omega), List.take_of_length_le (by omega)]
      exact hy
    · obtain ⟨q, rfl⟩ : ∃ q, j = k + 1 + q := ⟨j - (k + 1), by omega⟩
      rw [List.getElem?_append_right (by omega), hxl, show k + 1 + q - k = q + 1 by omega, List.getElem?_cons_succ, List.getElem?_drop] at hj
      have h3 := hR (k + q) p hj
      have e1 : (k + 1 + q) * m = k * m + (m + q * m) := by rw [Nat.add_mul, Nat.add_mul, Nat.one_mul, Nat.add_assoc]
      rw [e1, ← List.drop_drop, List.drop_left' htl, ← List.drop_drop, List.drop_left' hY, List.drop_drop, ← Nat.add_mul]
      exact h3
theorem rows_one {α : Type} {K : Kn α} {S : Blk} {w : World} {xs : List α} {inner : List Value} (hl : inner.length = xs.length * K.sz) (hp : 0 < K.sz) (hR : ∀ j p, xs[j]? = some p → K.R S w p ((inner.drop (j * K.sz)).take K.sz)) : ∀ u, u ∈ inner → u.oneCell' = true := by
  intro u hu
  obtain ⟨q, hq, e⟩ := List.getElem_of_mem hu
  have hj : q / K.sz < xs.length := (Nat.div_lt_iff_lt_mul hp).2 (by omega)
  refine K.one (hR _ _ (List.getElem?_eq_getElem hj)) u ?_
  have hd := Nat.div_add_mod q K.sz
  have hm := Nat.mod_lt q hp
  rw [Nat.mul_comm] at hd
  refine List.mem_of_getElem? (i := q % K.sz) ?_
  rw [List.getElem?_take_of_lt hm, List.getElem?_drop, hd, List.getElem?_eq_getElem hq, e]
section
variable {P : Program} {F : FuncId} {t e : TypeId}
/-- What a text of Ins.tpl shows. -/
structure InsAt (P : Program) (F : FuncId) (t e : TypeId) : Prop where
  cells : ∀ (cur X Y C : List Value) (n i : Nat), i < n → (n + 1) * 3 ≤ cur.length → cur.take (i * 3) = X → Y.length = 3 → C.length = (n - i) * 3 →
    (splice (splice cur ((i + 1) * 3) C) (i * 3) Y).take ((n + 1) * 3) = X ++ (Y ++ C) ∧ (splice (splice cur (i * 3) Y) ((i + 1) * 3) C).take ((n + 1) * 3) = X ++ (Y ++ C)
  shift : ∀ (g n c i vb vc : Nat) (cur Y YC : List Value) (w : World), i < n → n + 1 ≤ c → c ≤ 9223372036854775807 → vb ≠ g → cur.length = c * 3 → Y.length = 3 →
    w.heap[g]? = some (.cells cur.toArray e (0, 0)) → w.heap[vb]? = some (.cells YC.toArray e (0, 0)) → YC.take 3 = Y → (∀ u ∈ (cur.drop (i * 3)).take ((n - i) * 3), u.oneCell' = true) → (∀ u ∈ Y, u.oneCell' = true) →
    Calls P F #[.slice (some ⟨g, 0, none⟩) n c, .int .i64 i, .slice (some ⟨vb, 0, none⟩) 1 vc] w fun e_ w' =>
      e_ = .returned (.slice (some ⟨g, 0, none⟩) (n + 1) c) ∧ w'.heap[g]? = some (.cells (splice (splice cur ((i + 1) * 3) ((cur.drop (i * 3)).take ((n - i) * 3))) (i * 3) Y).toArray e (0, 0)) ∧ w.grownBy w' (some g)
  grow : ∀ (g n c i vb vc : Nat) (cur Y YC : List Value) (w : World), i < n → n ≤ c → c < n + 1 → c ≤ 9223372036854775807 → (n + 1) * 40 ≤ 140737488355328 → vb ≠ g → cur.length = c * 3 → Y.length = 3 →
    w.heap[g]? = some (.cells cur.toArray e (0, 0)) → w.heap[vb]? = some (.cells YC.toArray e (0, 0)) → YC.take 3 = Y → (∀ u ∈ (cur.drop (i * 3)).take ((n - i) * 3), u.oneCell' = true) → (∀ u ∈ Y, u.oneCell' = true) →
    Calls P F #[.slice (some ⟨g, 0, none⟩) n c, .int .i64 i, .slice (some ⟨vb, 0, none⟩) 1 vc] w fun e_ w' =>
      ∃ G ROW, e_ = .returned (.slice (some ⟨w.heap.size, 0, none⟩) (n + 1) G) ∧ n + 1 ≤ G ∧ G ≤ maxLen ∧ ROW.length = G * 3 ∧ ROW.take (i * 3) = cur.take (i * 3) ∧ w'.heap[w.heap.size]? = some (.cells (splice (splice ROW (i * 3) Y) ((i + 1) * 3) ((cur.drop (i * 3)).take ((n - i) * 3))).toArray e (0, 0)) ∧ Below w.heap.size w w'
  last : ∀ (A : Option Addr) (n c vb vc : Nat) (w w' : World) (v' : Value), n ≤ c → c ≤ 9223372036854775807 → (A = none → n = 0) → (Builtin.append_ #[t, t] t #[.slice A n c, .slice (some ⟨vb, 0, none⟩) 1 vc]).run P w = .ok v' w' →
    Calls P F #[.slice A n c, .int .i64 n, .slice (some ⟨vb, 0, none⟩) 1 vc] w fun e_ wx => e_ = .returned v' ∧ wx = w'
theorem conE_insert {α : Type} {K : Kn α} (hI : InsAt P F t e) (hT : AT P t e K 40) (hK : KFree K) (h3 : K.sz = 3) (xs : List α) (i : Int) (y : α) (h0 : 0 ≤ i) (hi : i ≤ (xs.length : Int)) (hroom : room 40 (xs.length + 1) = true) :
    ConE P F [] [Ent.r 900 e K xs, Ent.r 902 e K [y]] [VA.rw 900 xs.length, VA.k (kint .i64) i, VA.rw 902 1] [VA.own e K (xs.take i.toNat ++ y :: xs.drop i.toNat)] [] := fun θ S w vs X hSb hX hpre ha => by
  match vs, ha with
  | [v0, v1, v2], ha =>
    obtain ⟨⟨_, hv0⟩, hv1, ⟨_, hv2⟩, _⟩ := ha
    obtain rfl := arg_int hv1
    obtain ⟨k, rfl⟩ := Int.eq_ofNat_of_zero_le h0
    rw [Int.toNat_natCast]
    have hk : k ≤ xs.length := by omega
    unfold sat at hpre
    rw [if_neg (by simp [dead])] at hpre
    obtain ⟨ob0, own0, hob0, hpre⟩ := hpre
    unfold sat at hpre
    rw [if_neg (by simp [dead, Ent.deps, Ent.r])] at hpre
    obtain ⟨ob2, own2, hob2, _⟩ := hpre
    have own0' : (VA.own e K xs).sem θ S ob0 w v0 := by rw [hv0]; exact own0
    have own2' : (VA.own e K [y]).sem θ S ob2 w v2 := by rw [hv2]; exact own2
    clear own0 own2 hv0 hv2
    have own0s := own0'
    have own2s := own2'
    obtain ⟨rfl, inner, ho, hR⟩ := own0'
    obtain ⟨rfl, inner2, ho2, hR2⟩ := own2'
    rcases ho2.2 with ⟨_, h⟩ | ⟨vb, vc, YC, rfl, _, hvc, _, _, _, hYt⟩
    · simp at h
    have hYl : inner2.length = 3 := by have := ho2.1; rw [h3] at this; simpa using this
    have hyR : K.R S w y inner2 := by
      have := hR2 0 y rfl
      rw [Nat.zero_mul, List.drop_zero, List.take_of_length_le (by rw [hYl, h3]; exact Nat.le_refl _)] at this
      exact this
    have hYt3 : YC.toList.take 3 = inner2 := by rw [← hYt, h3]; simp
    have hvX : vb ∈ X := (hob2 vb rfl).1
    have hvX0 : v0.ownBlock ≠ some vb := (hob2 vb rfl).2
    have hbytes : (xs.length + 1) * 40 ≤ 140737488355328 := Nat.le_of_ble_eq_true hroom
    have hX0 : ∀ b, v0.ownBlock = some b → b ∈ X := hob0
    have hnS : ∀ b, v0.ownBlock = some b → ¬ S b := fun b hb => (hX b (hX0 b hb)).1
    by_cases he : k = xs.length
    · subst he
      rw [List.take_length, List.drop_length]
      obtain ⟨v', w', hrun, hown, hg, hat⟩ := run_append_own_k (ty := t) hT own0s (reads_own own2s) hroom hnS hSb
      have hsh : ∃ A c, v0 = .slice A xs.length c ∧ xs.length ≤ c ∧ c ≤ 9223372036854775807 ∧ (A = none → xs.length = 0) := by
        rcases ho.2 with ⟨rfl, hz⟩ | ⟨g, cap, cur, rfl, _, _, hn, hc, _, _⟩
        · exact ⟨none, 0, by rw [hz], by omega, by omega, fun _ => hz⟩
        · exact ⟨some ⟨g, 0, none⟩, cap, rfl, hn, by unfold maxLen at hc; omega, fun h => by cases h⟩
      obtain ⟨A, c, rfl, c1, c2, c3⟩ := hsh
      refine (hI.last A xs.length c vb vc w w' v' c1 c2 c3 hrun).mono ?_
      rintro e' wx ⟨rfl, rfl⟩
      refine ⟨[v'], fun _ => False, θ, rfl, ⟨hg.os, hg.tape, hg.output, hg.size, fun b hb hx => hg.block b hb (fun hh => hx (hX0 b hh.symm))⟩, fun b hb => hb.elim, fun k hk => (by cases hk), bk v'.ownBlock, ?_, fun b hb => ?_, trivial⟩
      · exact (VA.own e K (xs ++ [y])).move hown (Agree.refl _ _) (fun b hb => .inl hb) (fun b _ => rfl) (fun k hk => by cases hk)
      · rcases hat with h | h
        · exact ⟨.inr (hX0 b (by rw [← h]; exact hb)), fun h => h.elim⟩
        · obtain rfl : w.heap.size = b := by rw [h] at hb; exact Option.some.inj hb
          refine ⟨.inl ⟨Nat.le_refl _, ?_⟩, fun h => h.elim⟩
          exact own_lt_size hown _ hb
    · have hkl : k < xs.length := by omega
      rcases ho.2 with ⟨_, h⟩ | ⟨g, cap, cur, rfl, _, hgc, hn, hc, hsz, ht⟩
      · omega
      have hgX : g ∈ X := hX0 g rfl
      have hvb : vb ≠ g := fun e' => hvX0 (by rw [e']; rfl)
      have hil : inner.length = xs.length * 3 := by have := ho.1; rwa [h3] at this
      have hcl : cur.toList.length = cap * 3 := by rw [Array.length_toList, hsz, h3]
      have htk : cur.toList.take (xs.length * 3) = inner := by rw [← h3]; exact ht
      have hC : (cur.toList.drop (k * 3)).take ((xs.length - k) * 3) = inner.drop (k * 3) := by
        rw [List.take_drop, ← Nat.add_mul, show k + (xs.length - k) = xs.length by omega, htk]
      have hXk : cur.toList.take (k * 3) = inner.take (k * 3) := by
        rw [← htk, List.take_take, Nat.min_eq_left (Nat.mul_le_mul_right _ hk)]
      have hR3 : ∀ j p, xs[j]? = some p → K.R S w p ((inner.drop (j * 3)).take 3) := by
        intro j p hj
        have := hR j p hj
        rwa [h3] at this
      have hone := rows_one (K := K) (S := S) (w := w) (xs := xs) (inner := inner) (by rw [h3]; exact hil) (by omega) hR
      have h1c : ∀ u ∈ (cur.toList.drop (k * 3)).take ((xs.length - k) * 3), u.oneCell' = true := fun u hu => hone u (by rw [hC] at hu; exact List.mem_of_mem_drop hu)
      have h1y : ∀ u ∈ inner2, u.oneCell' = true := fun u hu => K.one hyR u hu
      have hCl : ((cur.toList.drop (k * 3)).take ((xs.length - k) * 3)).length = (xs.length - k) * 3 := by rw [hC, List.length_drop, hil, ← Nat.sub_mul]
      have hnew : ∀ w' : World, ∀ j p, (xs.take k ++ y :: xs.drop k)[j]? = some p → K.R (fun b => S b ∨ False) w' p (((inner.take (k * 3) ++ (inner2 ++ inner.drop (k * 3))).drop (j * K.sz)).take K.sz) := fun w' j p hj => by
        rw [h3]
        exact hK.go (rows_insert (R := K.R S w) inner inner2 xs y k hil hYl hk hR3 hyR j p hj)
      have hlen : (xs.take k ++ y :: xs.drop k).length = xs.length + 1 := by simp; omega
      have hnl : (inner.take (k * 3) ++ (inner2 ++ inner.drop (k * 3))).length = (xs.length + 1) * 3 := by
        rw [List.length_append, List.length_append, List.length_take, List.length_drop, hil, hYl]
        have := Nat.mul_le_mul_right 3 hk
        omega
      by_cases hr : xs.length + 1 ≤ cap
      · refine (hI.shift g xs.length cap k vb vc cur.toList inner2 YC.toList w hkl hr (by unfold maxLen at hc; omega) hvb hcl hYl hgc hvc hYt3 h1c h1y).mono ?_
        rintro e' w' ⟨rfl, hw, hb⟩
        refine ⟨[.slice (some ⟨g, 0, none⟩) (xs.length + 1) cap], fun _ => False, θ, rfl, ⟨hb.os, hb.tape, hb.output, hb.size, fun b hb' hx => hb.block b hb' (fun hh => hx (by rw [Option.some.inj hh]; exact hgX))⟩, fun b hb => hb.elim, fun k hk => (by cases hk), bk (some g), ⟨rfl, _, ?_, hnew w'⟩, fun b hb' => ?_, trivial⟩
        · rw [hlen, h3]
          refine ⟨hnl, .inr ⟨g, cap, _, rfl, Nat.zero_le _, hw, hr, hc, ?_, ?_⟩⟩
          · rw [List.size_toArray, length_splice _ _ _ (by rw [length_splice _ _ _ (by rw [hCl, hcl]; omega), hYl, hcl]; omega), length_splice _ _ _ (by rw [hCl, hcl]; omega), hcl]
          · rw [← hXk, ← hC]
            exact (hI.cells cur.toList _ inner2 _ xs.length k hkl (by rw [hcl]; omega) rfl hYl hCl).1
        · obtain rfl := Option.some.inj hb'
          exact ⟨.inr hgX, fun h => h.elim⟩
      · refine (hI.grow g xs.length cap k vb vc cur.toList inner2 YC.toList w hkl hn (by omega) (by unfold maxLen at hc; omega) hbytes hvb hcl hYl hgc hvc hYt3 h1c h1y).mono ?_
        rintro e' w' ⟨G, ROW, rfl, hG, hGm, hRl, hRt, hw, hb⟩
        refine ⟨[.slice (some ⟨w.heap.size, 0, none⟩) (xs.length + 1) G], fun _ => False, θ, rfl, Fr.of_below hb, fun b hb => hb.elim, fun k hk => (by cases hk), bk (some w.heap.size), ⟨rfl, _, ?_, hnew w'⟩, fun b hb' => ?_, trivial⟩
        · rw [hlen, h3]
          refine ⟨hnl, .inr ⟨w.heap.size, G, _, rfl, Nat.zero_le _, hw, hG, hGm, ?_, ?_⟩⟩
          · rw [List.size_toArray, length_splice _ _ _ (by rw [length_splice _ _ _ (by rw [hYl, hRl]; omega), hCl, hRl]; omega), length_splice _ _ _ (by rw [hYl, hRl]; omega), hRl]
          · rw [← hXk, ← hRt, ← hC]
            exact (hI.cells ROW _ inner2 _ xs.length k hkl (by rw [hRl]; omega) rfl hYl hCl).2
        · obtain rfl := Option.some.inj hb'
          exact ⟨.inl ⟨Nat.le_refl _, (Array.getElem?_eq_some_iff.1 hw).1⟩, fun h => h.elim⟩
end
end Go.Proofs.Ytlpmolohppoofaa.Sl
/- Bytes as a string; the length of a numbered row under another term. -/
set_option linter.unusedVariables false
set_option linter.unusedSimpArgs false
set_option linter.unnecessarySimpa false
set_option linter.deprecated false
namespace Go.Proofs.Ytlpmolohppoofaa.Sl
open Go Go.RowKit
theorem run_bytes_str {P : Program} {S : Blk} {w : World} {v : Value} {ys : List Int} {src dst e : TypeId} (hs : P.underlying src = some (.slice e)) (he : P.underlying e = some (.int .u8)) (hd : P.underlying dst = some .string) (h : Reads (kint .u8) S w v ys) :
    (convert src dst v).run P w = .ok (.string (strOfNums ys)) w := by
  obtain ⟨A, c, rfl, hr⟩ := h
  cases ys with
  | nil =>
    cases A with
    | none => rw [run_convert_bytes_nil w src e hs he _ _ dst hd]; rfl
    | some ad =>
      rw [List.length_nil, run_convert_bytes_string w src dst e _ 0 c hs he hd, run_bytesToString w ad 0 c [] (by simp [loadCells, loadCellsFrom])]
      rfl
  | cons y ys =>
    obtain ⟨ad, rfl, hc⟩ := hr (by simp)
    have hl : (loadCells ad (y :: ys).length).run P w = .ok ((y :: ys).map (Value.int .u8)).toArray w := by
      have := run_loadCells_list (P := P) w ad ((y :: ys).map (Value.int .u8)) (fun j u hj => by
        rw [List.getElem?_map] at hj
        obtain ⟨p, hp, rfl⟩ := Option.map_eq_some_iff.1 hj
        obtain ⟨cs, h1, h2⟩ := hc j p hp
        have h3 := h2 0 (.int .u8 p) (by rw [show cs = [.int .u8 p] from h1]; rfl)
        simpa [kint, Kn.scalar] using h3)
      simpa using this
    rw [run_convert_bytes_string w src dst e _ _ c hs he hd, run_bytesToString w ad _ c (y :: ys) hl, foldl_push_bytes]
    simp [strOfNums, ByteArray.empty, ByteArray.emptyWithCapacity]
    rfl
section
variable {P : Program} {n d : Nat} {ty s t e : TypeId} {pos : String} {af : Array Edge} {g : Option (Nat × Bool)} {N : Ent → Prop}
theorem op_bytes_str {ys : List Int} {o : Operand} (hd : Nat.blt d n = true) (hs : P.underlying s = some (.slice e)) (he : P.underlying e = some (.int .u8)) (ht : P.underlying t = some .string) (ho : ReadsArg N (kint .u8) o ys) :
    OpSpec P n ⟨some d, .convert s t o, ty, pos, af, g⟩ N [Ent.t d (VA.k kstr (strOfNums ys))] := op_pure hd fun θ S act w hN => by
  have hr := ho θ S act w hN
  have e1 := run_bytes_str hs he ht hr
  refine ⟨_, ?_, mk_str _ _ _ _⟩
  clear hN ho hr
  generalize act.eval = ρ at *
  simp [execOp, e1, Sem.run_bind, Sem.run_pure, Result.andThen_ok]
variable {c : Ctx} {Γ : List Ent} {Q : Exit → Act → World → Prop} {ops : Array Oper} {l : List Oper}
/-- A numbered row's length under another term. -/
theorem goesO_relen {id m m' : Nat} (q : Nat) (h : m = m') (h1 : findE [] Γ q = some (Ent.t q (VA.rw id m))) (next : GoesO P c (Ent.t q (VA.rw id m') :: Γ) ops l Q) : GoesO P c Γ ops l Q := goesO_by (fun a w hi => by
  subst h
  obtain ⟨k1, k2, k3, θ, S, k4, k5⟩ := hi
  obtain ⟨ob, hown, _, _⟩ := sat_take (has_find h1) k5
  have hob : ob = bk none := hown.1
  rw [hob] at hown
  exact ⟨k1, k2, k3, θ, S, k4, sat_cons hown (sat_mono k5 (fun k hk => by cases hk) (fun b hb => hb))⟩) next
end
end Go.Proofs.Ytlpmolohppoofaa.Sl
namespace Go.Proofs.Ytlpmolohppoofaa.Sl
open Go Go.RowKit
/-- An operation's own row gets a number at once. -/
theorem OpSpec.number {α : Type} {P : Program} {n d : Nat} {o : Oper} {N : Ent → Prop} {e : TypeId} {K : Kn α} {xs : List α} {Δ : List Ent} (h : OpSpec P n o N (Ent.t d (VA.own e K xs) :: Δ)) (r : Nat) (hd : Nat.blt d 500000 = true) (hr : Nat.blt r 500000 = true) :
    OpSpec P n o N (Ent.t d (VA.rw r xs.length) :: Ent.r r e K xs :: Ent.bind r :: Ent.bind (500000 + r) :: Ent.t d (VA.own e K xs) :: Δ) := fun c Γ a w Q hc hN hi =>
  Oper.wp_mono (fun a' w' h' => inv_number r hd hr (.here (dead_nil _)) h') (h c Γ a w Q hc hN hi)
end Go.Proofs.Ytlpmolohppoofaa.Sl
namespace Go.Proofs.Ytlpmolohppoofaa.Sl
open Go Go.RowKit
/-- A fresh box of which nothing is told but its size. -/
theorem op_alloc_any {P : Program} {n d : Nat} {ty t : TypeId} {pos : String} {af : Array Edge} {g : Option (Nat × Bool)} {N : Ent → Prop} {sz : Nat} {v : Value} (id : Nat) (hd : Nat.blt d n = true) (hz : (P.info? t).bind (·.zero) = some v) (hs : v.cells.size = sz) :
    OpSpec P n ⟨some d, .alloc t, ty, pos, af, g⟩ N [Ent.t d (VA.ptr id 0), Ent.h id (HE.boxf t sz [FA.any 0 sz]), Ent.bind id] := by
  rintro c Γ a w Q rfl hN ⟨h1, h2, h3, θ, S, h4, h5⟩
  have hv : (zeroValue t).run P w = .ok v w := by
    cases hi : P.info? t with
    | none => rw [hi] at hz; cases hz
    | some i =>
      rw [hi] at hz
      have hz' : i.zero = some v := hz
      simp [zeroValue, typeInfo, hi, hz', Sem.run_bind]
  have hrun : (execOp a.eval ⟨some d, .alloc t, ty, pos, af, g⟩).run P w = .ok (.value (.pointer (some ⟨w.heap.size, 0, none⟩))) (w.alloc (.cells v.cells t)) := by
    simp [execOp, Instr.alloc, newVar, newRow, newObj, hv, Sem.run_bind, Sem.run_pure, Result.andThen_ok]
    rfl
  unfold Oper.wp
  rw [hrun]
  exact inv_box hd h1 h2 h3 h4 h5 _ (fun θ' h => ⟨rfl, by rw [h]⟩) (fun θ' _ _ => ⟨_, heap_alloc_new w _, hs, fun f hf => by rw [List.mem_singleton.1 hf]; exact ⟨by show 0 + sz ≤ sz; omega, trivial⟩⟩)
end Go.Proofs.Ytlpmolohppoofaa.Sl
namespace Go.Proofs.Ytlpmolohppoofaa.Sl
open Go Go.RowKit
/-- An entry under an equal text. -/
theorem inv_again {c : Ctx} {Γ : List Ent} {a : Act} {w : World} {e e' : Ent} (k : Nat) (h : findE [] Γ k = some e) (he : e' = e) (hi : Inv c Γ a w) : Inv c (e' :: Γ) a w := by
  subst he
  obtain ⟨k1, k2, k3, θ, S, k4, k5⟩ := hi
  obtain ⟨ob, hs, hav, h6⟩ := sat_take (has_find h) k5
  exact ⟨k1, k2, k3, θ, S, k4, sat_consO (dead_nil _) hs hav h6⟩
end Go.Proofs.Ytlpmolohppoofaa.Sl
namespace Go.Proofs.Ytlpmolohppoofaa.Sl
open Go Go.RowKit
/-- A closure over one pointer. -/
theorem Arg.mfl1 {N : Ent → Prop} {F : FuncId} {s x id : Nat} (h : N (Ent.mf s F [] [x])) (hx : Arg N (.tmp x) (VA.ptr id 0)) : Arg N (.tmp s) (VA.cl F [] [VA.ptr id 0]) := fun θ S a w hN => by
  obtain ⟨_, ⟨_, e⟩⟩ := hN _ h
  obtain ⟨ob, hp⟩ := hx θ S a w hN
  obtain rfl := plain_ptr hp
  exact ⟨bk none, rfl, [], [a.tmps.getD x undef], e, trivial, hp, trivial⟩
end Go.Proofs.Ytlpmolohppoofaa.Sl
