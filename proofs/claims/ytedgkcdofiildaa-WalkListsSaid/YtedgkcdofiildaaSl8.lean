/- Struct values built; slots that hold the same; zero boxes; contracts and calls. -/
import Derived.Test.YtedgkcdofiildaaSl7
set_option linter.unusedVariables false
set_option linter.unusedSimpArgs false
namespace Go.Proofs.Ytedgkcdofiildaa.Sl
open Go Go.RowKit
/-- Slot d holds what slot s holds. -/
def Ent.same (d s : Nat) : Ent where
  key := d
  slots := [d, s]
  ids := []
  sem := fun _ _ ob a _ => ob = none ∧ a.tmps.getD d undef = a.tmps.getD s undef
  move := by
    rintro θ θ' S S' ob a a' w w' ⟨h0, h⟩ _ _ _ ht _
    exact ⟨h0, by rw [ht d (by simp), ht s (by simp)]; exact h⟩
theorem Arg.same {N : Ent → Prop} {d s : Nat} {A : VA} (h1 : N (Ent.same d s)) (h2 : N (Ent.t s A)) : Arg N (.tmp d) A := fun θ S a w hN => by
  obtain ⟨_, _, e⟩ := hN _ h1
  obtain ⟨ob, h⟩ := hN _ h2
  exact ⟨ob, by show A.sem θ S ob w (a.tmps.getD d undef); rw [e]; exact h⟩
section
variable {P : Program} {n d : Nat} {ty t t' : TypeId} {pos : String} {af : Array Edge} {g : Option (Nat × Bool)} {N : Ent → Prop}
theorem op_same {s : Nat} {op : Op} (hop : op = .move (.tmp s) ∨ op = .assign (.tmp s)) (hd : Nat.blt d n = true) (hds : Nat.beq s d = false) :
    OpSpec P n ⟨some d, op, ty, pos, af, g⟩ N [Ent.same d s] := by
  rintro c Γ a w Q rfl hN ⟨h1, h2, h3, θ, S, h4, h5⟩
  have hdn := blt_lt hd
  have hne : s ≠ d := fun e => by rw [e, Nat.beq_refl] at hds; cases hds
  have hrun : (execOp a.eval ⟨some d, op, ty, pos, af, g⟩).run P w = .ok (.value (a.eval (.tmp s))) w := by rcases hop with rfl | rfl <;> rfl
  unfold Oper.wp
  rw [hrun]
  show Inv c _ (a.put (some d) _) w
  refine ⟨by rw [put_defers]; exact h1, by rw [put_size]; exact h2, h3, θ, S, h4, sat_cons ⟨rfl, ?_⟩ ?_⟩
  · rw [put_getD_self (by omega), put_getD_ne hne]; rfl
  · exact sat_mono (sat_move (ks := [d]) (sat_mono h5 (fun k hk => by cases hk) (fun b hb => hb)) (Agree.refl _ _) (fun b hb => hb) (fun b hb => rfl) (fun t ht => put_getD_ne (fun e => ht (by simp [e]))) (fun k hk => rfl)) (fun k hk => hk) (fun b hb => hb)
theorem run_zero {α : Type} {K : Kn α} {x : α} (h : ZK P t K x) (w : World) : ∃ v, (zeroValue t).run P w = .ok v w ∧ ∀ S w, K.R S w x v.cells.toList := by
  obtain ⟨i, v, hi, hz, hr⟩ := h
  exact ⟨v, by simp [zeroValue, typeInfo, hi, hz, Sem.run_bind], hr⟩
theorem op_alloc {α : Type} {K : Kn α} {x : α} (id : Nat) (hd : Nat.blt d n = true) (hz : ZK P t K x) :
    OpSpec P n ⟨some d, .alloc t, ty, pos, af, g⟩ N [Ent.t d (VA.ptr id 0), Ent.h id (HE.box t K x), Ent.bind id] := by
  rintro c Γ a w Q rfl hN ⟨h1, h2, h3, θ, S, h4, h5⟩
  obtain ⟨v, hv, hr⟩ := run_zero hz w
  have hrun : (execOp a.eval ⟨some d, .alloc t, ty, pos, af, g⟩).run P w = .ok (.value (.pointer (some ⟨w.heap.size, 0, none⟩))) (w.alloc (.cells v.cells t)) := by
    simp [execOp, Instr.alloc, newVar, newRow, newObj, hv, Sem.run_bind, Sem.run_pure, Result.andThen_ok]
    rfl
  unfold Oper.wp
  rw [hrun]
  exact inv_box hd h1 h2 h3 h4 h5 _ (fun θ' h => ⟨rfl, by rw [h]⟩) (fun θ' _ _ => ⟨_, heap_alloc_new w _, hr _ _⟩)
theorem fill_fparts {α : Type} {K : Kn α} {fs : Array Field} {θ : Nat → Nat} {S : Blk} {a : Act} {w : World} (hN : ∀ e, N e → ∃ ob, e.sem θ S ob a w) (places : Array (Nat × Nat)) (hpl : ∀ (j : Nat) (f : Field), fs[j]? = some f → places[j]? = some (f.offset, P.cellsOf f.type)) :
    ∀ {ps : List (Nat × Operand)} {x z : α}, FParts N P K fs ps x z → ∀ (cur : Array Value), K.R S w x cur.toList →
    ∃ cells : Array Value, Instr.fill (places[·]?) cur (ps.map fun (i, x) => (i, a.eval x)) = some cells ∧ K.R S w z cells.toList := by
  intro ps x z h
  induction h with
  | nil x => exact fun cur hc => ⟨cur, by simp [Instr.fill], hc⟩
  | @cons β j f o K' get set x z y ps hf hk hF hx _ ih =>
    intro cur hc
    obtain ⟨_, hv⟩ := hx θ S a w hN
    obtain ⟨cs, hr, _, hcs⟩ := k_cells hv hk.flat
    have hl := K'.len hr
    have hsz : (a.eval o).cells.size = K'.sz := by rw [← Array.length_toList, hcs, hl]
    obtain ⟨i, hi, his⟩ := tk_info hk
    have hco : P.cellsOf f.type = K'.sz := by simp [Program.cellsOf, hi, his]
    have hle := hF.le
    have hcl := K.len hc
    have hcs2 : cur.size = K.sz := by rw [← Array.length_toList, hcl]
    have hstep := fold_splice_arr (a.eval o) f.offset cur (by rw [hsz]; omega)
    rw [hcs, hsz] at hstep
    obtain ⟨cells, e, hz⟩ := ih (cur.toList.take f.offset ++ cs ++ cur.toList.drop (f.offset + K'.sz)).toArray (by simpa using hF.set hc hr)
    refine ⟨cells, ?_, hz⟩
    rw [List.map_cons]
    simp only [Instr.fill, hpl j f hf, hco]
    rw [if_neg (by simp [hsz]; omega), hstep, e]
/-- A struct's value from its parts. -/
theorem op_build {α : Type} {K : Kn α} {x z : α} {fs : Array Field} {ps : List (Nat × Operand)} {pl : List (Nat × Nat)} (hd : Nat.blt d n = true) (ha : K.agg = true) (hu : P.underlying t = some (.struct fs)) (hpl : fs.toList.mapM (fun f => (P.info? f.type).map fun i => (f.offset, i.size)) = some pl) (hz : ZK P t K x) (hp : FParts N P K fs ps x z) :
    OpSpec P n ⟨some d, .build t ps.toArray, ty, pos, af, g⟩ N [Ent.t d (VA.k K z)] := op_pure hd fun θ S act w hN => by
  obtain ⟨i, v, hi, hz, hr⟩ := hz
  have hplaces : ∀ (j : Nat) (f : Field), fs[j]? = some f → pl.toArray[j]? = some (f.offset, P.cellsOf f.type) := by
    have key : ∀ (l : List Field) (pl : List (Nat × Nat)), l.mapM (fun f => (P.info? f.type).map fun i => (f.offset, i.size)) = some pl → ∀ (j : Nat) (f : Field), l[j]? = some f → pl[j]? = some (f.offset, P.cellsOf f.type) := by
      intro l
      induction l with
      | nil => intro pl _ j f hf; simp at hf
      | cons y l ih =>
        intro pl h j f hf
        simp only [List.mapM_cons, Option.bind_eq_bind, Option.pure_def, Option.bind_eq_some_iff] at h
        obtain ⟨p, hp, ps, hps, h⟩ := h
        cases h
        cases j with
        | zero =>
          cases hf
          obtain ⟨i, hi, rfl⟩ := Option.map_eq_some_iff.1 hp
          simp [Program.cellsOf, hi]
        | succ j => simpa using ih ps hps j f (by simpa using hf)
    intro j f hf
    simpa using key fs.toList pl hpl j f (by simpa using hf)
  obtain ⟨cells, e, hc⟩ := fill_fparts hN pl.toArray hplaces hp v.cells (hr S w)
  have hb : P.built t (ps.map fun (i, x) => (i, act.eval x)) = some cells := by
    unfold Program.built
    simp only [hi, hu, hz, hpl, e]
  have hrun := run_build (P := P) w t (ps.map fun (i, x) => (i, act.eval x)).toArray cells (by simpa using hb)
  refine ⟨.agg cells, ?_, rfl, cells.toList, hc, by unfold Kn.mk_; rw [ha]⟩
  simp only [execOp, List.map_toArray, Sem.run_bind, hrun, Result.andThen_ok, Sem.run_pure]
end
/-! ### contracts -/
def argSat (θ : Nat → Nat) (S : Blk) (w : World) : List VA → List Value → Prop
  | [], [] => True
  | A :: As, v :: vs => A.sem θ S none w v ∧ argSat θ S w As vs
  | _, _ => False
def resSat (θ : Nat → Nat) (S : Blk) (w : World) : List VA → List Value → Blk → Prop
  | [], [], _ => True
  | A :: As, v :: vs, av => ∃ ob, A.sem θ S ob w v ∧ (∀ b, ob = some b → av b) ∧ resSat θ S w As vs (fun b => av b ∧ ob ≠ some b)
  | _, _, _ => False
def tup (vs : List Value) : Value := match vs with | [v] => v | vs => .tuple vs.toArray
/-- The blocks of a world since an elder one. -/
def since (w w' : World) : Blk := fun b => w.heap.size ≤ b ∧ b < w'.heap.size
/-- Function f of such arguments comes back with such results; it turns nothing that was there. In S' all stands that its results share. -/
def Con (P : Program) (f : FuncId) (args res : List VA) : Prop :=
  ∀ (θ : Nat → Nat) (S : Blk) (w : World) (vs : List Value), (∀ b, S b → b < w.heap.size) → argSat θ S w args vs →
    Calls P f vs.toArray w fun e w' => ∃ (rs : List Value) (S' : Blk), e = .returned (tup rs) ∧ Fr [] w w' ∧ (∀ b, S' b → since w w' b) ∧ resSat θ (fun b => S b ∨ S' b) w' res rs (fun b => since w w' b ∧ ¬ S' b)
/-- The same, where the results share nothing with the arguments. -/
def ConF (P : Program) (f : FuncId) (args res : List VA) : Prop :=
  ∀ (θ : Nat → Nat) (S : Blk) (w : World) (vs : List Value), (∀ b, S b → b < w.heap.size) → argSat θ S w args vs →
    Calls P f vs.toArray w fun e w' => ∃ (rs : List Value) (S' : Blk), e = .returned (tup rs) ∧ Fr [] w w' ∧ (∀ b, S' b → since w w' b) ∧ resSat θ S' w' res rs (fun b => since w w' b ∧ ¬ S' b)
/-- Results that do not lean on S. -/
def Free (A : VA) : Prop := ∀ {θ : Nat → Nat} {S S' : Blk} {ob : Option Nat} {w : World} {v : Value}, A.sem θ S ob w v → A.sem θ S' ob w v
theorem free_int (k : IntKind) (x : Int) : Free (VA.k (kint k) x) := fun {θ S S' ob w v} h => by obtain ⟨h0, cs, rfl, rfl⟩ := h; exact ⟨h0, _, rfl, rfl⟩
theorem free_bool (x : Bool) : Free (VA.k kbool x) := fun {θ S S' ob w v} h => by obtain ⟨h0, cs, rfl, rfl⟩ := h; exact ⟨h0, _, rfl, rfl⟩
theorem free_str (x : ByteArray) : Free (VA.k kstr x) := fun {θ S S' ob w v} h => by obtain ⟨h0, cs, rfl, rfl⟩ := h; exact ⟨h0, _, rfl, rfl⟩
end Go.Proofs.Ytedgkcdofiildaa.Sl
