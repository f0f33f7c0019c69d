/- What the printed texts use: the laws with their side conditions as computations. -/
import Derived.Test.YtedgkcdofiildaaSl11
set_option linter.unusedVariables false
set_option linter.unusedSimpArgs false
namespace Go.Proofs.Ytedgkcdofiildaa.Sl
open Go Go.RowKit
def noIds (l : List VA) : Bool := l.all (·.ids.isEmpty)
theorem noIds_spec {l : List VA} (h : noIds l = true) : ∀ A, A ∈ l → A.ids = [] := fun A hA => by simpa using List.all_eq_true.1 h A hA
inductive FreeL : List VA → Prop
  | nil : FreeL []
  | cons {A : VA} {l : List VA} : Free A → FreeL l → FreeL (A :: l)
theorem FreeL.spec {l : List VA} (h : FreeL l) : ∀ A, A ∈ l → Free A := by
  induction h with
  | nil => exact fun A hA => by cases hA
  | cons h _ ih =>
    intro A hA
    rcases List.mem_cons.1 hA with rfl | hA
    · exact h
    · exact ih A hA
/-- Kinds that lean on no memory. -/
def KFree {α : Type} (K : Kn α) : Prop := ∀ {S S' : Blk} {w : World} {x : α} {cs : List Value}, K.R S w x cs → K.R S' w x cs
theorem KFree.int (k : IntKind) : KFree (kint k) := fun h => h
theorem KFree.bool : KFree kbool := fun h => h
theorem KFree.str : KFree kstr := fun h => h
theorem KFree.pair {α β : Type} {a : Kn α} {b : Kn β} (ha : KFree a) (hb : KFree b) : KFree (kpair a b) := by
  rintro S S' w x cs ⟨c0, c1, rfl, h0, h1⟩
  exact ⟨c0, c1, rfl, ha h0, hb h1⟩
theorem KFree.iso {α β : Type} {d : Kn α} (f : β → α) (h : KFree d) : KFree (kiso d f) := fun {S S' w x cs} hx => h (show d.R S w (f x) cs from hx)
theorem KFree.k {α : Type} {K : Kn α} (h : KFree K) (x : α) : Free (VA.k K x) := fun {θ S S' ob w v} hv => by
  obtain ⟨h0, cs, h1, h2⟩ := hv
  exact ⟨h0, cs, h h1, h2⟩
theorem KFree.own {α : Type} {K : Kn α} (h : KFree K) (e : TypeId) (x : List α) : Free (VA.own e K x) := fun {θ S S' ob w v} hv => by
  obtain ⟨h0, inner, h1, h2⟩ := hv
  exact ⟨h0, inner, h1, fun j p hj => h (h2 j p hj)⟩
theorem Con.freeL {P : Program} {f : FuncId} {args res : List VA} (h : Con P f args res) (hf : FreeL res) : ConF P f args res := h.free hf.spec
section
variable {P : Program} {n d : Nat} {ty t t' : TypeId} {pos : String} {af : Array Edge} {g : Option (Nat × Bool)} {N : Ent → Prop}
theorem op_call' {f : FuncId} {xs : List Operand} {at_ : Array TypeId} {As : List VA} {A : VA} (hd : Nat.blt d n = true) (hf : Enters P f) (hC : Con P f As [A]) (hids : noIds [A] = true) (hx : Args (ArgP N) xs As) :
    OpSpec P n ⟨some d, .call { callee := .value (.func f), args := xs.toArray, argTypes := at_ }, ty, pos, af, g⟩ N [Ent.t d A] := op_call hd hf hC (noIds_spec hids A (by simp)) hx
theorem op_calls' {f : FuncId} {xs : List Operand} {at_ : Array TypeId} {As res : List VA} (hd : Nat.blt d n = true) (hf : Enters P f) (hC : Con P f As res) (hl : Nat.beq res.length 1 = false) (hids : noIds res = true) (hx : Args (ArgP N) xs As) :
    OpSpec P n ⟨some d, .call { callee := .value (.func f), args := xs.toArray, argTypes := at_ }, ty, pos, af, g⟩ N (resEnts d res 0) := op_calls hd hf hC hl (noIds_spec hids) hx
theorem op_callF' {f : FuncId} {xs : List Operand} {at_ : Array TypeId} {As : List VA} {A : VA} (hd : Nat.blt d n = true) (hf : Enters P f) (hC : ConF P f As [A]) (hids : noIds [A] = true) (hx : Args (ArgB N) xs As) :
    OpSpec P n ⟨some d, .call { callee := .value (.func f), args := xs.toArray, argTypes := at_ }, ty, pos, af, g⟩ N [Ent.t d A] := op_callF hd hf hC (noIds_spec hids A (by simp)) hx
theorem op_callsF' {f : FuncId} {xs : List Operand} {at_ : Array TypeId} {As res : List VA} (hd : Nat.blt d n = true) (hf : Enters P f) (hC : ConF P f As res) (hl : Nat.beq res.length 1 = false) (hids : noIds res = true) (hx : Args (ArgB N) xs As) :
    OpSpec P n ⟨some d, .call { callee := .value (.func f), args := xs.toArray, argTypes := at_ }, ty, pos, af, g⟩ N (resEnts d res 0) := op_callsF hd hf hC hl (noIds_spec hids) hx
theorem plain_k {α : Type} {K : Kn α} {x : α} : Plain (VA.k K x) := fun {θ S ob w v} h => h.1
theorem plain_ptr {id off : Nat} : Plain (VA.ptr id off) := fun {θ S ob w v} h => h.1
theorem plain_map {id : Nat} : Plain (VA.map id) := fun {θ S ob w v} h => h.1
theorem plain_pt {α : Type} {K : Kn α} {x : α} : Plain (VA.pt K x) := fun {θ S ob w v} h => h.1
theorem plain_v {x : Value} : Plain (VA.v x) := fun {θ S ob w v} h => h.1
theorem op_pick_t {α : Type} {K : Kn α} {b : Bool} {a : α} {x y z : Operand} (hd : Nat.blt d n = true) (hb : b = true) (hx : Arg N x (VA.k kbool b)) (hy : Arg N y (VA.k K a)) :
    OpSpec P n ⟨some d, .pick x y z, ty, pos, af, g⟩ N [Ent.t d (VA.k K a)] := op_pure hd fun θ S act w hN => by
  obtain ⟨_, h1⟩ := hx θ S act w hN
  have e1 := k_bool h1
  subst hb
  obtain ⟨_, h2⟩ := hy θ S act w hN
  exact ⟨act.eval y, by clear h1 h2 hx hy hN; generalize act.eval = ρ at *; simp [execOp, e1, go_sem], rfl, h2.2⟩
theorem op_pick_f {α : Type} {K : Kn α} {b : Bool} {a : α} {x y z : Operand} (hd : Nat.blt d n = true) (hb : b = false) (hx : Arg N x (VA.k kbool b)) (hz : Arg N z (VA.k K a)) :
    OpSpec P n ⟨some d, .pick x y z, ty, pos, af, g⟩ N [Ent.t d (VA.k K a)] := op_pure hd fun θ S act w hN => by
  obtain ⟨_, h1⟩ := hx θ S act w hN
  have e1 := k_bool h1
  subst hb
  obtain ⟨_, h2⟩ := hz θ S act w hN
  exact ⟨act.eval z, by clear h1 h2 hx hz hN; generalize act.eval = ρ at *; simp [execOp, e1, go_sem], rfl, h2.2⟩
end
section
variable {P : Program} {n : Nat} {w0 : World} {S0 : Blk} {θ : Nat → Nat} {Γ : List Ent} {fn : Func} {res : List VA}
theorem ends_ret' {rts : List ResultVar} (hr : fn.results = rts.toArray) (hids : noIds res = true) (h : Rets P Γ [] rts res) : Ends ⟨w0, S0, [], n⟩ Γ (bodyPost P fn (CPost w0 S0 θ res)) .ret := ends_ret rts (by rw [hr]) (noIds_spec hids) h
end
section
variable {P : Program} {c : Ctx} {Γ : List Ent} {Q : Exit → Act → World → Prop} {ops : Array Oper} {rest : List Oper} {o : Oper}
/-- An operation whose guard holds. -/
theorem goG {Δ : List Ent} {j d : Nat} {oj : Oper} {b b' : Bool} (h : OpSpec P c.n o (Has [] Γ) Δ) (hg : o.guard = some (j, b)) (hj : ops[j]? = some oj) (hd : oj.dst = some d) (hv : findE [] Γ d = some (Ent.t d (VA.k kbool b'))) (hb : b' = b) (next : GoesO P c (Δ ++ Γ) ops rest Q) : GoesO P c Γ ops (o :: rest) Q :=
  fun a w hi => wpList_step fun K hK => by
    have hi' := hi
    obtain ⟨_, _, _, θ, S, _, h5⟩ := hi'
    obtain ⟨_, hv, _⟩ := sat_take (has_find hv) h5
    subst hb
    have hy := yields (a := a) hj hd (k_bool (θ := θ) (S := S) (w := w) hv)
    rw [if_pos (by simp [Region.wanted, hg, hy])]
    exact Oper.wp_mono (fun a' w' h' => hK a' w' (next a' w' h')) (h c Γ a w Q rfl (fun _ he => he) hi)
/-- One whose guard does not. -/
theorem goS {j d x : Nat} {oj : Oper} {b b' : Bool} (hg : o.guard = some (j, b)) (hj : ops[j]? = some oj) (hd : oj.dst = some d) (hx : o.dst = some x) (hxn : Nat.blt x c.n = true) (hv : findE [] Γ d = some (Ent.t d (VA.k kbool b'))) (hb : b' = !b) (next : GoesO P c (Ent.t x (VA.v undef) :: Γ) ops rest Q) : GoesO P c Γ ops (o :: rest) Q :=
  fun a w hi => wpList_step fun K hK => by
    obtain ⟨h1, h2, h3, θ, S, h4, h5⟩ := hi
    obtain ⟨_, hv, _⟩ := sat_take (has_find hv) h5
    subst hb
    have hy := yields (a := a) hj hd (k_bool (θ := θ) (S := S) (w := w) hv)
    rw [if_neg (by simp [Region.wanted, hg, hy]), hx]
    exact hK _ _ (next _ _ (inv_put (A := VA.v undef) (θ := θ) (S := S) hxn h1 h2 h3 h4 h5 rfl ⟨rfl, rfl⟩))
theorem goS0 {j d : Nat} {oj : Oper} {b b' : Bool} (hg : o.guard = some (j, b)) (hj : ops[j]? = some oj) (hd : oj.dst = some d) (hx : o.dst = none) (hv : findE [] Γ d = some (Ent.t d (VA.k kbool b'))) (hb : b' = !b) (next : GoesO P c Γ ops rest Q) : GoesO P c Γ ops (o :: rest) Q :=
  fun a w hi => wpList_step fun K hK => by
    have hi' := hi
    obtain ⟨h1, h2, h3, θ, S, h4, h5⟩ := hi'
    obtain ⟨_, hv, _⟩ := sat_take (has_find hv) h5
    subst hb
    have hy := yields (a := a) hj hd (k_bool (θ := θ) (S := S) (w := w) hv)
    rw [if_neg (by simp [Region.wanted, hg, hy]), hx]
    exact hK _ _ (next _ _ hi)
theorem goSU {j d x : Nat} {oj : Oper} {b : Bool} (hg : o.guard = some (j, b)) (hj : ops[j]? = some oj) (hd : oj.dst = some d) (hx : o.dst = some x) (hxn : Nat.blt x c.n = true) (hv : findE [] Γ d = some (Ent.t d (VA.v undef))) (next : GoesO P c (Ent.t x (VA.v undef) :: Γ) ops rest Q) : GoesO P c Γ ops (o :: rest) Q :=
  fun a w hi => wpList_step fun K hK => by
    obtain ⟨h1, h2, h3, θ, S, h4, h5⟩ := hi
    obtain ⟨_, ⟨_, hv⟩, _⟩ := sat_take (has_find hv) h5
    have hy := yields_no (b := b) hj hd hv
    rw [if_neg (by simp [Region.wanted, hg, hy]), hx]
    exact hK _ _ (next _ _ (inv_put (A := VA.v undef) (θ := θ) (S := S) hxn h1 h2 h3 h4 h5 rfl ⟨rfl, rfl⟩))
theorem goSU0 {j d : Nat} {oj : Oper} {b : Bool} (hg : o.guard = some (j, b)) (hj : ops[j]? = some oj) (hd : oj.dst = some d) (hx : o.dst = none) (hv : findE [] Γ d = some (Ent.t d (VA.v undef))) (next : GoesO P c Γ ops rest Q) : GoesO P c Γ ops (o :: rest) Q :=
  fun a w hi => wpList_step fun K hK => by
    have hi' := hi
    obtain ⟨h1, h2, h3, θ, S, h4, h5⟩ := hi'
    obtain ⟨_, ⟨_, hv⟩, _⟩ := sat_take (has_find hv) h5
    have hy := yields_no (b := b) hj hd hv
    rw [if_neg (by simp [Region.wanted, hg, hy]), hx]
    exact hK _ _ (next _ _ hi)
/-- A choice in what is computed, ahead of an operation that hangs on it. -/
theorem goesO_split {τ : Type} {l : List Oper} {b : Bool} {A B : Option τ} {r : τ} (H : cond b A B = some r) (ht : b = true → A = some r → GoesO P c Γ ops l Q) (hf : b = false → B = some r → GoesO P c Γ ops l Q) : GoesO P c Γ ops l Q := by
  cases b with
  | true => exact ht rfl H
  | false => exact hf rfl H
theorem goes_split {τ : Type} {k : Code} {b : Bool} {A B : Option τ} {r : τ} (H : cond b A B = some r) (ht : b = true → A = some r → Goes P c Γ k Q) (hf : b = false → B = some r → Goes P c Γ k Q) : Goes P c Γ k Q := by
  cases b with
  | true => exact ht rfl H
  | false => exact hf rfl H
theorem goes_if {τ : Type} {x y : Code} {o : Operand} {b : Bool} {A B : Option τ} {r : τ} (hc : Arg (Has [] Γ) o (VA.k kbool b)) (H : cond b A B = some r) (ht : b = true → A = some r → Goes P c Γ x Q) (hf : b = false → B = some r → Goes P c Γ y Q) : Goes P c Γ (.cond o x y) Q :=
  goes_cond hc (fun e => ht e (by rw [e] at H; exact H)) (fun e => hf e (by rw [e] at H; exact H))
/-- A test whose answer is known. -/
theorem goes_ifT {x y : Code} {o : Operand} {b : Bool} (hc : Arg (Has [] Γ) o (VA.k kbool b)) (hb : b = true) (ht : Goes P c Γ x Q) : Goes P c Γ (.cond o x y) Q := goes_cond hc (fun _ => ht) (fun e => by rw [hb] at e; cases e)
theorem goes_ifF {x y : Code} {o : Operand} {b : Bool} (hc : Arg (Has [] Γ) o (VA.k kbool b)) (hb : b = false) (hf : Goes P c Γ y Q) : Goes P c Γ (.cond o x y) Q := goes_cond hc (fun e => by rw [hb] at e; cases e) (fun _ => hf)
theorem go2 {e1 e2 : Ent} (h : OpSpec P c.n o (Has [] Γ) [e1, e2]) (hg : o.guard = none) (next : GoesO P c (e1 :: e2 :: Γ) ops rest Q) : GoesO P c Γ ops (o :: rest) Q := goN h hg next
theorem go3 {e1 e2 e3 : Ent} (h : OpSpec P c.n o (Has [] Γ) [e1, e2, e3]) (hg : o.guard = none) (next : GoesO P c (e1 :: e2 :: e3 :: Γ) ops rest Q) : GoesO P c Γ ops (o :: rest) Q := goN h hg next
end
/-- What a type's element rows need, as a computation. -/
def atB (P : Program) (e sz bytes : Nat) : Bool := match P.info? e with
  | some i => (match i.zero with | some z => Nat.beq z.cells.size sz | none => false) && Nat.beq i.size sz && Nat.beq i.bytes bytes
  | none => false
theorem at_of {α : Type} {P : Program} {t e : TypeId} {K : Kn α} {bytes : Nat} (hu : P.underlying t = some (.slice e)) (h : atB P e K.sz bytes = true) (hp : Nat.blt 0 K.sz = true) (hb : Nat.blt 0 bytes = true) : AT P t e K bytes := by
  refine ⟨hu, ?_, blt_lt hp, blt_lt hb⟩
  unfold atB at h
  cases hi : P.info? e with
  | none => rw [hi] at h; cases h
  | some i =>
    rw [hi] at h
    cases hz : i.zero with
    | none => simp [hz] at h
    | some z =>
      simp only [hz, Bool.and_eq_true] at h
      exact ⟨i, z, rfl, hz, Nat.eq_of_beq_eq_true h.1.2, Nat.eq_of_beq_eq_true h.2, Nat.eq_of_beq_eq_true h.1.1⟩
theorem tk_of' {α : Type} {P : Program} {t : TypeId} {K : Kn α} {d : TypeDesc} (h : P.underlying t = some d) (ha : aggD d = K.agg) (hs : P.cellsOf t = K.sz) (hf : K.agg = false → K.sz = 1) (hp : Nat.blt 0 K.sz = true) : TK P t K := by
  cases hi : P.info? t with
  | none =>
    unfold Program.cellsOf at hs
    rw [hi] at hs
    have := blt_lt hp
    simp at hs; omega
  | some i => exact tk_of h hi ha (by unfold Program.cellsOf at hs; rw [hi] at hs; simpa using hs) hf (blt_lt hp)
theorem zk_of {α : Type} {P : Program} {t : TypeId} {K : Kn α} {x : α} {v : Value} {cs : List Value} (h : (P.info? t).bind (·.zero) = some v) (hv : v.cells.toList = cs) (hr : ∀ S w, K.R S w x cs) : ZK P t K x := by
  cases hi : P.info? t with
  | none => rw [hi] at h; cases h
  | some i => rw [hi] at h; exact ⟨i, v, hi, h, fun S w => by rw [hv]; exact hr S w⟩
def ZR {α : Type} (K : Kn α) (x : α) (cs : List Value) : Prop := ∀ S w, K.R S w x cs
theorem zr_int (k : IntKind) : ZR (kint k) 0 [.int k 0] := fun _ _ => rfl
theorem zr_bool : ZR kbool false [.bool false] := fun _ _ => rfl
theorem zr_str : ZR kstr ByteArray.empty [.string ByteArray.empty] := fun _ _ => rfl
theorem zr_slice {α : Type} (K : Kn α) : ZR (kslice K) [] [.slice none 0 0] := fun _ _ => ⟨none, 0, rfl, Nat.le_refl _, Nat.zero_le _, Row.nil _ _ _ _⟩
theorem zr_pair {α β : Type} {a : Kn α} {b : Kn β} {x : α} {y : β} {c d : List Value} (h1 : ZR a x c) (h2 : ZR b y d) : ZR (kpair a b) (x, y) (c ++ d) := fun S w => ⟨c, d, rfl, h1 S w, h2 S w⟩
theorem zr_iso {α β : Type} {d : Kn α} {f : β → α} {y : β} {x : α} {cs : List Value} (h : ZR d x cs) (he : f y = x) : ZR (kiso d f) y cs := fun S w => by
  show d.R S w (f y) cs
  rw [he]; exact h S w
end Go.Proofs.Ytedgkcdofiildaa.Sl
