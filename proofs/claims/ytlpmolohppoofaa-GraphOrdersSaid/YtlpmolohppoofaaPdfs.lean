/- A walk through a graph: what it comes to. -/
import Derived.Test.YtlpmolohppoofaaPnamep
set_option linter.unusedVariables false
set_option linter.unusedSimpArgs false
set_option linter.unnecessarySimpa false
set_option linter.deprecated false
namespace Go.Proofs.Ytlpmolohppoofaa.F
open Go Go.RowKit Go.Proofs.Ytlpmolohppoofaa.Sl
theorem nodup_sub {α : Type} [DecidableEq α] : ∀ {l u : List α}, l.Nodup → (∀ x, x ∈ l → x ∈ u) → l.length ≤ u.length
  | [], _, _, _ => Nat.zero_le _
  | x :: l, u, h, hs => by
    obtain ⟨h1, h2⟩ := List.nodup_cons.1 h
    have h3 := nodup_sub (l := l) (u := u.erase x) h2 (fun y hy => (List.mem_erase_of_ne (fun e : y = x => h1 (e ▸ hy))).2 (hs y (List.mem_cons_of_mem _ hy)))
    have h4 := List.length_erase_of_mem (hs x (by simp))
    have : 0 < u.length := List.length_pos_of_mem (hs x (by simp))
    simp only [List.length_cons]; omega
def ndOf (of : GM (List ByteArray)) (x : ByteArray) : List ByteArray := (of.g x).getD []
/-- A graph over the names U. -/
structure Grf (N : ByteArray → List ByteArray) (U : List ByteArray) : Prop where
  sz : ∀ x, x ∈ U → x.size ≤ 64
  cl : ∀ x, x ∈ U → ∀ y, y ∈ N x → y ∈ U
  ln : ∀ x, (N x).length ≤ 64
  ul : U.length ≤ 100000
inductive Rch (N : ByteArray → List ByteArray) (fr : List ByteArray) : ByteArray → Prop
  | base {x : ByteArray} : x ∈ fr → Rch N fr x
  | step {x y : ByteArray} : Rch N fr x → y ∈ N x → Rch N fr y
/-- Each name stands behind all that it needs. -/
def Topo (N : ByteArray → List ByteArray) (l : List ByteArray) : Prop := ∀ i (h : i < l.length), ∀ y, y ∈ N l[i] → y ∈ l.take i
theorem memB_no {l : List ByteArray} {x : ByteArray} (h : ¬ x ∈ l) : memB l x = false := Bool.eq_false_iff.2 fun k => h (memB_iff.1 k)
theorem Topo.snoc {N : ByteArray → List ByteArray} {l : List ByteArray} {x : ByteArray} (h : Topo N l) (hx : ∀ y, y ∈ N x → y ∈ l) : Topo N (l ++ [x]) := fun i hi y hy => by
  rcases Nat.lt_or_ge i l.length with h1 | h1
  · rw [List.take_append_of_le_length (Nat.le_of_lt h1)]
    rw [List.getElem_append_left h1] at hy
    exact h i h1 y hy
  · have h2 : i = l.length := by simp at hi; omega
    subst h2
    rw [List.getElem_append_right (Nat.le_refl _)] at hy
    simp at hy ⊢
    exact hx y hy
def nms (S : List GraphFrame) : List ByteArray := S.map fun f => f.name
/-- The names that were gone to, the last one first. -/
def FOk (N : ByteArray → List ByteArray) (o : List ByteArray) : Option ByteArray → List GraphFrame → Prop
  | _, [] => True
  | nxt, f :: R => (∃ pre, N f.name = pre ++ f.left ∧ ∀ y, y ∈ pre → y ∈ o ∨ nxt = some y) ∧ (∀ n, nxt = some n → n ∈ N f.name) ∧ FOk N o (some f.name) R
theorem FOk.mono {N : ByteArray → List ByteArray} {o o' : List ByteArray} (ho : ∀ y, y ∈ o → y ∈ o') : ∀ {S : List GraphFrame} {nxt : Option ByteArray}, FOk N o nxt S → FOk N o' nxt S
  | [], _, _ => trivial
  | f :: R, nxt, ⟨⟨pre, h1, h2⟩, h3, h4⟩ => ⟨⟨pre, h1, fun y hy => (h2 y hy).imp (ho y) id⟩, h3, FOk.mono ho h4⟩
theorem FOk.pop {N : ByteArray → List ByteArray} {o : List ByteArray} {n : ByteArray} : ∀ {S : List GraphFrame}, FOk N o (some n) S → FOk N (o ++ [n]) none S
  | [], _ => trivial
  | f :: R, ⟨⟨pre, h1, h2⟩, h3, h4⟩ => ⟨⟨pre, h1, fun y hy => .inl (by
      rcases h2 y hy with h | h
      · exact List.mem_append_left _ h
      · cases h; simp)⟩, (fun n h => by cases h), FOk.mono (fun y hy => List.mem_append_left _ hy) h4⟩
/-- Each name needs the one behind it. -/
def Cx (N : ByteArray → List ByteArray) (r : List ByteArray) : Prop := ∀ i a b, r[i]? = some a → r[i + 1]? = some b → b ∈ N a
theorem Cx.snoc {N : ByteArray → List ByteArray} {r : List ByteArray} {b : ByteArray} (h : Cx N r) (hb : ∀ a, r.getLast? = some a → b ∈ N a) : Cx N (r ++ [b]) := fun i a c h1 h2 => by
  rcases Nat.lt_or_ge (i + 1) r.length with h3 | h3
  · rw [List.getElem?_append_left (by omega)] at h1 h2
    exact h i a c h1 h2
  · rw [List.getElem?_append_right h3] at h2
    rcases Nat.eq_or_lt_of_le h3 with h4 | h4
    · rw [← h4, Nat.sub_self] at h2
      simp only [List.getElem?_cons_zero, Option.some.injEq] at h2
      subst h2
      rw [List.getElem?_append_left (by omega)] at h1
      refine hb a ?_
      rw [List.getLast?_eq_getElem?, h4, Nat.add_sub_cancel]
      exact h1
    · rw [List.getElem?_eq_none (by simp; omega)] at h2
      cases h2
theorem Cx.drop {N : ByteArray → List ByteArray} {r : List ByteArray} (h : Cx N r) (j : Nat) : Cx N (r.drop j) := fun i a b h1 h2 => by
  rw [List.getElem?_drop] at h1 h2
  exact h (j + i) a b h1 (by rw [← h2]; congr 1)
theorem FOk.chain {N : ByteArray → List ByteArray} {o : List ByteArray} : ∀ {S : List GraphFrame} {nxt : Option ByteArray}, FOk N o nxt S → Cx N (nms S).reverse ∧ ∀ n a, nxt = some n → (nms S).reverse.getLast? = some a → n ∈ N a
  | [], _, _ => ⟨fun i a b h _ => by simp [nms] at h, fun n a _ h => by simp [nms] at h⟩
  | f :: R, nxt, ⟨_, h3, h4⟩ => by
    obtain ⟨g1, g2⟩ := FOk.chain h4
    have e : (nms (f :: R)).reverse = (nms R).reverse ++ [f.name] := by simp [nms]
    rw [e]
    refine ⟨g1.snoc (fun a ha => g2 f.name a rfl ha), fun n a hn ha => ?_⟩
    simp at ha
    subst ha
    exact h3 n hn
structure RingOk (N : ByteArray → List ByteArray) (U fr r : List ByteArray) : Prop where
  ne : r ≠ []
  cx : Cx N r
  back : ∀ a b, r.getLast? = some a → r.head? = some b → b ∈ N a
  rc : ∀ x, x ∈ r → Rch N fr x ∧ x ∈ U
  ln : r.length ≤ 100000
structure DI (N : ByteArray → List ByteArray) (U fr : List ByteArray) (st : GM Int) (o : List ByteArray) (S : List GraphFrame) : Prop where
  ms : ∀ x, st.g x = bif memB o x then some 2 else bif memB (nms S) x then some 1 else none
  cnt : st.n = S.length + 2 * o.length
  nd : (o ++ nms S).Nodup
  un : ∀ x, x ∈ o ++ nms S → x ∈ U
  tp : Topo N o
  fk : FOk N o none S
  rc : ∀ x, x ∈ o ++ nms S → Rch N fr x
theorem top_idx {α : Type} (l : List α) (x : α) : idx (l ++ [x]) (l.length : Int) = some x := by
  rw [idx_nat (by simp)]; simp
theorem top_set {α : Type} (l : List α) (x y : α) : (l ++ [x]).set l.length y = l ++ [y] := by
  simp [List.set_append]
theorem top_take {α : Type} (l : List α) (x : α) : (l ++ [x]).take l.length = l := by
  rw [List.take_append_of_le_length (Nat.le_refl _), List.take_length]
theorem top_wrap {α : Type} (l : List α) (x : α) (h : l.length ≤ LIM) : IntKind.i64.wrap (((l ++ [x]).length : Int) - (1 : Int)) = (l.length : Int) := by
  simp only [LIM] at h
  simp [IntKind.wrap, IntKind.signed, IntKind.bits]
  split <;> omega
theorem pred_wrap {j : Nat} (h : j ≤ LIM) : IntKind.i64.wrap (((j + 1 : Nat) : Int) - (1 : Int)) = (j : Int) := by
  simp only [LIM] at h
  simp [IntKind.wrap, IntKind.signed, IntKind.bits]
  split <;> omega
theorem app_ok {α : Type} {b : Nat} {l k : List α} (h : (l.length + k.length) * b ≤ 140737488355328) : app b l k = some (l ++ k) := by
  unfold app room
  rw [if_pos (Nat.ble_eq_true_of_le h)]
theorem sub_tail {α : Type} (x : α) (l : List α) : sub (x :: l) (1 : Int) ((x :: l).length : Int) = some l := by
  unfold sub
  rw [if_pos ⟨by omega, by simp only [List.length_cons]; omega, by simp⟩]
  have : ((((x :: l).length : Nat) : Int) - 1).toNat = l.length := by simp
  rw [this]
  simp
theorem idx_head {α : Type} (x : α) (l : List α) : idx (x :: l) (0 : Int) = some x := by
  rw [zero_nat, idx_nat (by simp)]; rfl
theorem inrow_ok {α : Type} {l : List α} {j : Nat} (h : j ≤ l.length) : inrow l (j : Int) = some () := by
  unfold inrow
  rw [if_pos ⟨by omega, by omega⟩]
/-- The ring, read from the top of the stack. -/
theorem ring_loop (s2 : (GM Int) × (List ByteArray) × (List GraphFrame)) (x7 : GraphFrame) (x : ByteArray) (x18 : List ByteArray) (F : List GraphFrame)
    (hF : s2.2.2.set (IntKind.i64.wrap ((s2.2.2.length : Int) - (1 : Int))).toNat ({ x7 with left := x18 }) = F) (hl : F.length ≤ 100000) :
    ∀ i : Nat, i < F.length → (∃ j, j ≤ i ∧ (F[j]?).map (fun f => f.name) = some x) → ∀ acc : List ByteArray, acc.length + i ≤ 100000 →
      ∃ j, j ≤ i ∧ (F[j]?).map (fun f => f.name) = some x ∧ graph_walk.l2.v s2 x7 x x18 (acc, (i : Int)) = some (acc ++ (nms ((F.drop j).take (i + 1 - j))).reverse) := by
  intro i
  induction i with
  | zero =>
    intro hi hex acc ha
    obtain ⟨j, hj, ej⟩ := hex
    have : j = 0 := by omega
    subst this
    refine ⟨0, Nat.le_refl _, ej, ?_⟩
    rw [graph_walk.l2.v_eq]
    simp only [hF]
    rw [idx_nat hi, Option.bind_some, app_ok (by simp; omega), Option.bind_some, Option.bind_some, scmp_eql]
    rw [List.getElem?_eq_getElem hi] at ej
    simp only [Option.map_some, Option.some.injEq] at ej
    rw [decide_eq_true ej, cond_true, List.drop_zero]
    congr 2
    cases F with
    | nil => simp at hi
    | cons f R => rfl
  | succ i ih =>
    intro hi hex acc ha
    rw [graph_walk.l2.v_eq]
    simp only [hF]
    rw [idx_nat hi, Option.bind_some, app_ok (by simp; omega), Option.bind_some, Option.bind_some, scmp_eql]
    by_cases h : F[i + 1].name = x
    · refine ⟨i + 1, Nat.le_refl _, by rw [List.getElem?_eq_getElem hi, Option.map_some, h], ?_⟩
      rw [decide_eq_true h, cond_true]
      congr 2
      rw [show i + 1 + 1 - (i + 1) = 1 by omega, drop_cons hi]
      rfl
    · obtain ⟨j, hj, ej⟩ := hex
      have hji : j ≤ i := by
        rcases Nat.lt_or_ge i j with h1 | h1
        · have : j = i + 1 := by omega
          subst this
          rw [List.getElem?_eq_getElem hi] at ej
          simp only [Option.map_some, Option.some.injEq] at ej
          exact absurd ej h
        · exact h1
      obtain ⟨k, hk, ek, hv⟩ := ih (by omega) ⟨j, hji, ej⟩ (acc ++ [F[i + 1].name]) (by simp; omega)
      refine ⟨k, by omega, ek, ?_⟩
      rw [decide_eq_false h, cond_false, pred_wrap (by simp only [LIM]; omega), hv, List.append_assoc]
      congr 2
      have e : (F.drop k).take (i + 1 + 1 - k) = (F.drop k).take (i + 1 - k) ++ [F[i + 1]] := by
        rw [show i + 1 + 1 - k = i + 1 - k + 1 by omega, List.take_succ]
        congr 1
        rw [List.getElem?_drop, show k + (i + 1 - k) = i + 1 by omega, List.getElem?_eq_getElem hi]
        rfl
      rw [e]
      simp [nms]
def lsum (S : List GraphFrame) : Nat := (S.map fun f => f.left.length).sum
theorem nms_len (S : List GraphFrame) : (nms S).length = S.length := by simp [nms]
theorem nms_cons (f : GraphFrame) (S : List GraphFrame) : nms (f :: S) = f.name :: nms S := rfl
def Fin1 (N : ByteArray → List ByteArray) (U fr o : List ByteArray) (S : List GraphFrame) : Except ((List ByteArray) × (List ByteArray)) ((List ByteArray) × (List GraphFrame) × (GM Int)) → Prop
  | .error r => r.1 = [] ∧ RingOk N U fr r.2
  | .ok q => q.2.1 = [] ∧ DI N U fr q.2.2 q.1 [] ∧ ∀ x, x ∈ o ++ nms S → x ∈ q.1
theorem walk_loop (s1 : (GM (List ByteArray)) × (GM Int) × (List ByteArray) × (List GraphFrame) × (List ByteArray)) (U fr : List ByteArray) (hg : Grf (ndOf s1.1) U) :
    ∀ n st o S, DI (ndOf s1.1) U fr st o S → (U.length - (o.length + S.length)) * 66 + lsum S + S.length ≤ n → ∃ A, graph_walk.l1.v s1 (st, o, S.reverse) = some A ∧ Fin1 (ndOf s1.1) U fr o S A := by
  intro n
  induction n with
  | zero =>
    intro st o S hd hm
    cases S with
    | nil =>
      refine ⟨.ok (o, [], st), ?_, rfl, hd, fun x hx => by simpa [nms] using hx⟩
      rw [graph_walk.l1.v_eq]; rfl
    | cons f R => simp at hm
  | succ n ih =>
    intro st o S hd hm
    have hcu : o.length + S.length ≤ U.length := by
      have := nodup_sub hd.nd hd.un
      rwa [List.length_append, nms_len] at this
    have hul := hg.ul
    cases S with
    | nil =>
      refine ⟨.ok (o, [], st), ?_, rfl, hd, fun x hx => by simpa [nms] using hx⟩
      rw [graph_walk.l1.v_eq]; rfl
    | cons f R =>
      obtain ⟨⟨pre, hp1, hp2⟩, -, hfr⟩ := hd.fk
      have hRl : R.reverse.length ≤ LIM := by simp only [LIM, List.length_reverse]; simp only [List.length_cons] at hcu; omega
      have hlen : ((R.reverse ++ [f]).length : Int) = ((R.length + 1 : Nat) : Int) := by simp
      have hfU : f.name ∈ U := hd.un _ (by simp [nms])
      simp only [List.length_cons] at hcu hm
      rw [graph_walk.l1.v_eq]
      simp only [List.reverse_cons]
      rw [show icmp .gtr ((R.reverse ++ [f]).length : Int) (0 : Int) = true by rw [hlen]; exact (gtr_nat _ 0).trans (decide_eq_true (by omega)), cond_true, top_wrap _ _ hRl, top_idx, Option.bind_some]
      rw [show icmp .eql (f.left.length : Int) (0 : Int) = decide (f.left.length = 0) from eql_nat _ 0]
      cases hl : f.left with
      | nil =>
        rw [hl, List.append_nil] at hp1
        have hno : f.name ∉ o := fun h => by
          have := (List.nodup_append.1 hd.nd).2.2 _ h f.name (by simp [nms])
          exact this rfl
        rw [decide_eq_true (show ([] : List ByteArray).length = 0 from rfl), cond_true, gput_some (by have := hd.cnt; simp only [List.length_cons] at this; omega) (by have := hg.sz _ hfU; simp only [LIM]; omega), Option.bind_some, app_ok (by simp only [List.length_singleton]; omega), Option.bind_some, inrow_ok (by simp), Option.bind_some, Int.toNat_natCast, top_take]
        have hd' : DI (ndOf s1.1) U fr ⟨st.n + 1, fun t => if t = f.name then some 2 else st.g t⟩ (o ++ [f.name]) R := by
          refine ⟨fun x => ?_, ?_, ?_, fun x hx => hd.un x ?_, hd.tp.snoc (fun y hy => ?_), hfr.pop, fun x hx => hd.rc x ?_⟩
          · simp only [hd.ms x, nms_cons, memB_app, memB_cons]
            by_cases e : x = f.name
            · subst e; simp [memB]
            · have e' : ¬ f.name = x := fun h => e h.symm
              rw [show memB [] x = false from rfl, decide_eq_false e', if_neg e, Bool.or_false, Bool.or_false, Bool.false_or]
          · have := hd.cnt; simp only [List.length_cons, List.length_append, List.length_nil] at this ⊢; omega
          · rw [List.append_assoc]; exact hd.nd
          · rw [List.append_assoc] at hx; exact hx
          · rw [hp1] at hy
            rcases hp2 y hy with h | h
            · exact h
            · cases h
          · rw [List.append_assoc] at hx; exact hx
        obtain ⟨A, hA, hF⟩ := ih _ _ _ hd' (by
          have : lsum (f :: R) = lsum R := by simp [lsum, hl]
          rw [this] at hm
          simp only [List.length_append, List.length_singleton]
          rw [show o.length + 1 + R.length = o.length + (R.length + 1) by omega]
          omega)
        refine ⟨A, hA, ?_⟩
        cases A with
        | error r => exact hF
        | ok q => exact ⟨hF.1, hF.2.1, fun x hx => hF.2.2 x (by rw [List.append_assoc]; exact hx)⟩
      | cons x l' =>
        rw [hl] at hp1
        have hxN : x ∈ ndOf s1.1 f.name := by rw [hp1]; simp
        have hxU : x ∈ U := hg.cl _ hfU _ hxN
        have hxs : x.size ≤ LIM := by have := hg.sz _ hxU; simp only [LIM]; omega
        have hfl : lsum (f :: R) = l'.length + 1 + lsum R := by simp [lsum, hl]
        rw [hfl] at hm
        have hcn := hd.cnt
        simp only [List.length_cons] at hcn
        rw [decide_eq_false (show ¬ (x :: l').length = 0 by simp), cond_false, idx_head, Option.bind_some, sub_tail, Option.bind_some, gget_some hxs, Option.bind_some, Int.toNat_natCast, top_set, hd.ms x]
        have hpre : ndOf s1.1 f.name = (pre ++ [x]) ++ l' := by rw [hp1]; simp
        by_cases ho : x ∈ o
        · rw [memB_iff.2 ho, cond_true]
          have hd' : DI (ndOf s1.1) U fr st o ({ f with left := l' } :: R) := ⟨hd.ms, hd.cnt, hd.nd, hd.un, hd.tp, ⟨⟨pre ++ [x], hpre, fun y hy => by
            rcases List.mem_append.1 hy with h | h
            · exact hp2 y h
            · rw [List.mem_singleton.1 h]; exact .inl ho⟩, (fun n h => by cases h), hfr⟩, hd.rc⟩
          obtain ⟨A, hA, hF⟩ := ih _ _ _ hd' (by
            have : lsum ({ f with left := l' } :: R) = l'.length + lsum R := by simp [lsum]
            rw [this]; simp only [List.length_cons]; omega)
          refine ⟨A, ?_, hF⟩
          rw [← hA]
          simp only [Option.getD_some, List.reverse_cons]
          rfl
        · rw [memB_no ho, cond_false]
          by_cases hs : x ∈ nms (f :: R)
          · rw [memB_iff.2 hs, cond_true]
            rw [show icmp .eql ((some (1 : Int)).getD 0) 1 = true from rfl, cond_true]
            have hln : ((R.reverse ++ [({ f with left := l' } : GraphFrame)]).length : Int) - (1 : Int) = (((R.reverse ++ [f]).length : Int)) - 1 := by simp
            rw [top_wrap _ _ hRl]
            have hFl : (R.reverse ++ [({ f with left := l' } : GraphFrame)]).length = R.length + 1 := by simp
            have hnm : (R.reverse ++ [({ f with left := l' } : GraphFrame)]).map (fun f => f.name) = (nms (f :: R)).reverse := by simp [nms]
            have hxr : x ∈ (nms (f :: R)).reverse := List.mem_reverse.2 hs
            obtain ⟨j, hj, ej⟩ := List.getElem_of_mem hxr
            have hj' : j < R.length + 1 := by rw [List.length_reverse, nms_len, List.length_cons] at hj; exact hj
            obtain ⟨k, hk, ek, hv⟩ := ring_loop (st, o, R.reverse ++ [f]) f x l' (R.reverse ++ [({ f with left := l' } : GraphFrame)]) (by
              simp only
              rw [top_wrap _ _ hRl, Int.toNat_natCast, top_set]) (by rw [hFl]; omega) R.reverse.length (by rw [hFl, List.length_reverse]; omega) ⟨j, by rw [List.length_reverse]; omega, by
                rw [← List.getElem?_map, hnm, List.getElem?_eq_getElem hj, ej]⟩ [] (by rw [List.length_reverse]; simp; omega)
            rw [hv, Option.bind_some, show ∀ l, slices_Reverse_string_string.f l = some l.reverse from fun _ => rfl, Option.bind_some]
            refine ⟨_, rfl, rfl, ?_⟩
            have hr : ([] ++ (nms (((R.reverse ++ [({ f with left := l' } : GraphFrame)]).drop k).take (R.reverse.length + 1 - k))).reverse).reverse = ((nms (f :: R)).reverse).drop k := by
              rw [List.nil_append, List.reverse_reverse, List.take_of_length_le (by rw [List.length_drop, hFl, List.length_reverse]; exact Nat.le_refl _), ← hnm]
              simp [nms]
            simp only
            rw [hr]
            have ek' : (nms (f :: R)).reverse[k]? = some x := by rw [← hnm, List.getElem?_map]; exact ek
            have hkl : k < (nms (f :: R)).reverse.length := by
              rcases Nat.lt_or_ge k (nms (f :: R)).reverse.length with h | h
              · exact h
              · rw [List.getElem?_eq_none h] at ek'; cases ek'
            have hlast : ((nms (f :: R)).reverse.drop k).getLast? = some f.name := by
              rw [List.getLast?_drop, if_neg (by omega)]
              simp [nms]
            refine ⟨fun h => ?_, (hd.fk.chain).1.drop k, fun a b ha hb => ?_, fun y hy => ?_, ?_⟩
            · rw [h] at hlast; cases hlast
            · rw [hlast] at ha
              cases ha
              rw [List.head?_drop, ek'] at hb
              cases hb
              exact hxN
            · have hy' : y ∈ nms (f :: R) := List.mem_reverse.1 (List.mem_of_mem_drop hy)
              exact ⟨hd.rc y (List.mem_append_right _ hy'), hd.un y (List.mem_append_right _ hy')⟩
            · rw [List.length_drop, List.length_reverse, nms_len, List.length_cons]; omega
          · rw [memB_no hs, cond_false]
            rw [show icmp .eql ((none : Option Int).getD 0) 1 = false from rfl, cond_false, show icmp .eql ((none : Option Int).getD 0) 2 = false from rfl, cond_false]
            rw [gput_some (by omega) hxs, Option.bind_some, gget_some hxs, Option.bind_some, app_ok (by simp only [List.length_append, List.length_reverse, List.length_singleton]; omega), Option.bind_some]
            have hd' : DI (ndOf s1.1) U fr ⟨st.n + 1, fun t => if t = x then some 1 else st.g t⟩ o (⟨x, ndOf s1.1 x⟩ :: { f with left := l' } :: R) := by
              have hmem : ∀ y, y ∈ o ++ nms (⟨x, ndOf s1.1 x⟩ :: { f with left := l' } :: R) ↔ y = x ∨ y ∈ o ++ nms (f :: R) := fun y => by
                simp only [nms, List.map_cons, List.mem_append, List.mem_cons]
                constructor
                · rintro (h | h | h | h)
                  · exact .inr (.inl h)
                  · exact .inl h
                  · exact .inr (.inr (.inl h))
                  · exact .inr (.inr (.inr h))
                · rintro (h | h | h | h)
                  · exact .inr (.inl h)
                  · exact .inl h
                  · exact .inr (.inr (.inl h))
                  · exact .inr (.inr (.inr h))
              refine ⟨fun y => ?_, ?_, ?_, fun y hy => ?_, hd.tp, ⟨⟨[], rfl, fun y hy => by cases hy⟩, (fun n h => by cases h), ⟨pre ++ [x], hpre, fun y hy => ?_⟩, (fun n h => by cases h; exact hxN), hfr⟩, fun y hy => ?_⟩
              · simp only [hd.ms y]
                have ho' : memB o x = false := Bool.eq_false_iff.2 fun h => ho (memB_iff.1 h)
                by_cases e : y = x
                · subst e; simp [ho', nms, memB_cons]
                · have e' : ¬ x = y := fun h => e h.symm
                  rw [show nms (⟨x, ndOf s1.1 x⟩ :: { f with left := l' } :: R) = x :: nms (f :: R) from rfl, memB_cons, decide_eq_false e', if_neg e]; rfl
              · simp only [List.length_cons]; omega
              · rw [show nms (⟨x, ndOf s1.1 x⟩ :: { f with left := l' } :: R) = x :: nms (f :: R) from rfl]
                have hp : (x :: (o ++ nms (f :: R))).Perm (o ++ x :: nms (f :: R)) := List.perm_middle.symm
                refine hp.nodup_iff.1 (List.nodup_cons.2 ⟨fun h => ?_, hd.nd⟩)
                rcases List.mem_append.1 h with h | h
                · exact ho h
                · exact hs h
              · rcases (hmem y).1 hy with rfl | h
                · exact hxU
                · exact hd.un y h
              · rcases List.mem_append.1 hy with h | h
                · exact .inl ((hp2 y h).resolve_right (fun h => by cases h))
                · rw [List.mem_singleton.1 h]; exact .inr rfl
              · rcases (hmem y).1 hy with rfl | h
                · exact .step (hd.rc f.name (by simp [nms])) hxN
                · exact hd.rc y h
            obtain ⟨A, hA, hF⟩ := ih _ _ _ hd' (by
              have e1 : lsum (⟨x, ndOf s1.1 x⟩ :: { f with left := l' } :: R) = (ndOf s1.1 x).length + (l'.length + lsum R) := by simp [lsum]
              have e2 := hg.ln x
              have e3 : o.length + (R.length + 1 + 1) ≤ U.length := by
                have := nodup_sub hd'.nd hd'.un
                rw [List.length_append, nms_len] at this
                simpa using this
              rw [e1]
              simp only [List.length_cons]
              have e4 : U.length - (o.length + (R.length + 1)) = U.length - (o.length + (R.length + 1 + 1)) + 1 := by omega
              rw [e4] at hm
              omega)
            refine ⟨A, ?_, ?_⟩
            · rw [← hA]
              simp only [List.reverse_cons, List.append_assoc]
              rfl
            · cases A with
              | error r => exact hF
              | ok q => exact ⟨hF.1, hF.2.1, fun y hy => hF.2.2 y (by
                  rcases List.mem_append.1 hy with h | h
                  · exact List.mem_append_left _ h
                  · exact List.mem_append_right _ (List.mem_cons_of_mem _ h))⟩
/-- What a walk from some names comes to. -/
def WalkR (N : ByteArray → List ByteArray) (U fr : List ByteArray) (r : (List ByteArray) × (List ByteArray)) : Prop :=
  (r.2 = [] ∧ r.1.Nodup ∧ (∀ x, x ∈ r.1 → x ∈ U) ∧ Topo N r.1 ∧ (∀ x, x ∈ r.1 → Rch N fr x) ∧ ∀ x, x ∈ fr → x ∈ r.1) ∨ (r.1 = [] ∧ RingOk N U fr r.2)
theorem walk_outer (of : GM (List ByteArray)) (U fr : List ByteArray) (hg : Grf (ndOf of) U) (hU : ∀ x, x ∈ fr → x ∈ U) :
    ∀ todo pre st o S, fr = pre ++ todo → DI (ndOf of) U fr st o S → (∀ x, x ∈ pre → x ∈ o ++ nms S) → ∃ r, graph_walk.l0.v (of, st, o, S.reverse, todo) = some r ∧ WalkR (ndOf of) U fr r := by
  intro todo
  induction todo with
  | nil =>
    intro pre st o S hfr hd hpre
    obtain ⟨A, hA, hF⟩ := walk_loop (of, st, o, S.reverse, []) U fr hg _ st o S hd (Nat.le_refl _)
    rw [graph_walk.l0.v_eq]
    simp only
    rw [hA, Option.bind_some]
    cases A with
    | error r => exact ⟨r, rfl, .inr hF⟩
    | ok q =>
      obtain ⟨h1, h2, h3⟩ := hF
      refine ⟨(q.1, []), rfl, .inl ⟨rfl, ?_, fun x hx => h2.un x (List.mem_append_left _ hx), h2.tp, fun x hx => h2.rc x (List.mem_append_left _ hx), fun x hx => h3 x (hpre x (by rw [hfr] at hx; simpa using hx))⟩⟩
      have := h2.nd
      simpa [nms] using this
  | cons x t ih =>
    intro pre st o S hfr hd hpre
    obtain ⟨A, hA, hF⟩ := walk_loop (of, st, o, S.reverse, x :: t) U fr hg _ st o S hd (Nat.le_refl _)
    rw [graph_walk.l0.v_eq]
    simp only
    rw [hA, Option.bind_some]
    cases A with
    | error r => exact ⟨r, rfl, .inr hF⟩
    | ok q =>
      obtain ⟨o', S', st'⟩ := q
      obtain ⟨h1, h2, h3⟩ := hF
      simp only at h1 h2 h3
      subst h1
      have hxf : x ∈ fr := by rw [hfr]; simp
      have hxU := hU x hxf
      have hxs : x.size ≤ LIM := by have := hg.sz _ hxU; simp only [LIM]; omega
      have hul := hg.ul
      have hcu : o'.length ≤ U.length := by
        have := nodup_sub h2.nd h2.un
        rwa [List.length_append, nms_len, List.length_nil, Nat.add_zero] at this
      have hfr' : fr = (pre ++ [x]) ++ t := by rw [hfr]; simp
      simp only
      rw [show icmp .gtr (((x :: t).length : Nat) : Int) (0 : Int) = true from (gtr_nat _ 0).trans (decide_eq_true (by simp)), cond_true, idx_head, Option.bind_some, sub_tail, Option.bind_some, gget_some hxs, Option.bind_some, h2.ms x]
      by_cases ho : x ∈ o'
      · rw [memB_iff.2 ho, cond_true, show icmp .eql ((some (2 : Int)).getD 0) 0 = false from rfl, cond_false]
        refine ih (pre ++ [x]) st' o' [] hfr' h2 (fun y hy => ?_)
        rcases List.mem_append.1 hy with h | h
        · exact List.mem_append_left _ (h3 y (hpre y h))
        · rw [List.mem_singleton.1 h]; exact List.mem_append_left _ ho
      · rw [memB_no ho, cond_false, show memB (nms []) x = false from rfl, cond_false, show icmp .eql ((none : Option Int).getD 0) 0 = true from rfl, cond_true]
        have hcn := h2.cnt
        simp only [List.length_nil] at hcn
        rw [gput_some (by omega) hxs, Option.bind_some, gget_some hxs, Option.bind_some, app_ok (by simp), Option.bind_some]
        refine ih (pre ++ [x]) _ o' [⟨x, ndOf of x⟩] hfr' ⟨fun y => ?_, ?_, ?_, fun y hy => ?_, h2.tp, ⟨⟨[], rfl, fun y hy => by cases hy⟩, (fun n h => by cases h), trivial⟩, fun y hy => ?_⟩ (fun y hy => ?_)
        · simp only [h2.ms y]
          have ho' : memB o' x = false := Bool.eq_false_iff.2 fun h => ho (memB_iff.1 h)
          by_cases e : y = x
          · subst e; simp [ho', nms, memB_cons]
          · have e' : ¬ x = y := fun h => e h.symm
            rw [show nms [(⟨x, ndOf of x⟩ : GraphFrame)] = [x] from rfl, show memB [x] y = (decide (x = y) || false) from rfl, decide_eq_false e', if_neg e]; rfl
        · simp only [List.length_singleton]; omega
        · have hn := h2.nd
          simp only [nms, List.map_nil, List.append_nil] at hn
          refine List.nodup_append.2 ⟨hn, by simp [nms], fun a ha b hb e => ?_⟩
          simp [nms] at hb
          subst hb; subst e
          exact ho ha
        · rcases List.mem_append.1 hy with h | h
          · exact h2.un y (List.mem_append_left _ h)
          · simp [nms] at h; subst h; exact hxU
        · rcases List.mem_append.1 hy with h | h
          · exact h2.rc y (List.mem_append_left _ h)
          · simp [nms] at h; subst h; exact .base hxf
        · rcases List.mem_append.1 hy with h | h
          · exact List.mem_append_left _ (h3 y (hpre y h))
          · rw [List.mem_singleton.1 h]; simp [nms]
theorem walk_all (of : GM (List ByteArray)) (U fr : List ByteArray) (hg : Grf (ndOf of) U) (hU : ∀ x, x ∈ fr → x ∈ U) : ∃ r, graph_walk.l0.v (of, (gempty : GM Int), ([] : List ByteArray), ([] : List GraphFrame), fr) = some r ∧ WalkR (ndOf of) U fr r :=
  walk_outer of U fr hg hU fr [] gempty [] [] rfl ⟨fun x => by simp [gempty, nms, memB], rfl, by simp [nms], fun x hx => by simp [nms] at hx, fun i h => by simp at h, trivial, fun x hx => by simp [nms] at hx⟩ (fun x hx => by cases hx)
end Go.Proofs.Ytlpmolohppoofaa.F
