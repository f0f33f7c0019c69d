/- How deep a name is, and who needs it. -/
import Derived.Test.YtlpmolohppoofaaPone10
set_option linter.unusedVariables false
set_option linter.unusedSimpArgs false
set_option linter.unnecessarySimpa false
set_option linter.deprecated false
namespace Go.Proofs.Ytlpmolohppoofaa.F
open Go Go.RowKit Go.Proofs.Ytlpmolohppoofaa.Sl
def mx (a : Nat) (l : List Nat) : Nat := l.foldl (fun a b => if b > a then b else a) a
def DD (N : ByteArray → List ByteArray) : Nat → ByteArray → Nat
  | 0, _ => 0
  | k + 1, x => mx 0 ((N x).map fun y => DD N k y + 1)
theorem mx_le : ∀ (l : List Nat) (a n : Nat), a ≤ n → (∀ x, x ∈ l → x ≤ n) → mx a l ≤ n
  | [], a, n, h, _ => h
  | x :: l, a, n, h, hl => by
    show mx (if x > a then x else a) l ≤ n
    refine mx_le l _ n ?_ (fun y hy => hl y (List.mem_cons_of_mem _ hy))
    have := hl x (by simp)
    split <;> omega
theorem dd_le (N : ByteArray → List ByteArray) : ∀ k x, DD N k x ≤ k
  | 0, x => Nat.le_refl _
  | k + 1, x => mx_le _ 0 _ (Nat.zero_le _) (fun y hy => by
    obtain ⟨z, _, rfl⟩ := List.mem_map.1 hy
    have := dd_le N k z
    omega)
theorem topo_mem {N : ByteArray → List ByteArray} {o : List ByteArray} (ht : Topo N o) {i : Nat} (hi : i < o.length) {y : ByteArray} (hy : y ∈ N o[i]) : ∃ j, ∃ h : j < o.length, j < i ∧ o[j] = y := by
  obtain ⟨j, hj, e⟩ := List.getElem_of_mem (ht i hi y hy)
  rw [List.length_take] at hj
  exact ⟨j, by omega, by omega, by rw [← e, List.getElem_take]⟩
theorem dd_stable {N : ByteArray → List ByteArray} {o : List ByteArray} (ht : Topo N o) : ∀ n i (hi : i < o.length), i < n → ∀ k k', i < k → i < k' → DD N k o[i] = DD N k' o[i] := by
  intro n
  induction n with
  | zero => intro i hi h; exact absurd h (Nat.not_lt_zero _)
  | succ n ih =>
    intro i hi hin k k' hk hk'
    obtain ⟨k, rfl⟩ : ∃ q, k = q + 1 := ⟨k - 1, by omega⟩
    obtain ⟨k', rfl⟩ : ∃ q, k' = q + 1 := ⟨k' - 1, by omega⟩
    show mx 0 _ = mx 0 _
    congr 1
    refine List.map_congr_left fun y hy => ?_
    obtain ⟨j, hj, hji, rfl⟩ := topo_mem ht hi hy
    rw [ih j hj (by omega) k k' (by omega) (by omega)]
theorem no_ring {N : ByteArray → List ByteArray} {U o r : List ByteArray} {y : ByteArray} (ht : Topo N o) (hy : y ∈ o) (hr : RingOk N U [y] r) : False := by
  have hin : ∀ z, Rch N [y] z → z ∈ o := fun z hz => by
    induction hz with
    | base h => rw [List.mem_singleton.1 h]; exact hy
    | step _ h ih =>
      obtain ⟨i, hi, rfl⟩ := List.getElem_of_mem ih
      exact List.mem_of_mem_take (ht i hi _ h)
  have key : ∀ n i (hi : i < o.length), i < n → ¬ o[i] ∈ r := by
    intro n
    induction n with
    | zero => intro i hi h; exact absurd h (Nat.not_lt_zero _)
    | succ n ih =>
      intro i hi hin' hm
      have hnx : ∃ z, z ∈ r ∧ z ∈ N o[i] := by
        obtain ⟨t, htl, e⟩ := List.getElem_of_mem hm
        by_cases h1 : t + 1 < r.length
        · exact ⟨r[t + 1], List.getElem_mem h1, hr.cx t _ _ (by rw [List.getElem?_eq_getElem htl, e]) (List.getElem?_eq_getElem h1)⟩
        · have h0 : 0 < r.length := by omega
          refine ⟨r[0], List.getElem_mem h0, hr.back _ _ ?_ ?_⟩
          · rw [List.getLast?_eq_getElem?, show r.length - 1 = t by omega, List.getElem?_eq_getElem htl, e]
          · rw [List.head?_eq_getElem?]; exact List.getElem?_eq_getElem h0
      obtain ⟨z, hz, hzN⟩ := hnx
      obtain ⟨j, hj, hji, e⟩ := topo_mem ht hi hzN
      exact ih j hj (by omega) (e ▸ hz)
  obtain ⟨a, l, e⟩ := List.exists_cons_of_ne_nil hr.ne
  have ha : a ∈ r := by rw [e]; simp
  obtain ⟨i, hi, ei⟩ := List.getElem_of_mem (hin a (hr.rc a ha).1)
  exact key (i + 1) i hi (by omega) (ei ▸ ha)
/-! ### the loops -/
def dval (d : GM Int) (x : ByteArray) : Int := (d.g x).getD 0
theorem imax_nat (a b : Nat) : imax2 (a : Int) (b : Int) = ((if b > a then b else a : Nat) : Int) := by
  unfold imax2
  by_cases h : b > a
  · rw [if_pos h, if_pos (by omega)]
  · rw [if_neg h, if_neg (by omega)]
theorem depth_l1 (x : ByteArray) (l : List ByteArray) (hx : x.size ≤ LIM) (hl : l.length ≤ 64) (hs : ∀ y, y ∈ l → y.size ≤ LIM ∧ y ≠ x) (v : ByteArray → Nat) (hv : ∀ y, y ∈ l → v y ≤ 100000) :
    ∀ j : Nat, j ≤ l.length → ∀ (d : GM Int) (a : Nat), d.n ≤ 10000000 + j → dval d x = (a : Int) → (∀ y, y ∈ l → dval d y = (v y : Int)) →
      ∃ d', graph_Depth.l1.v x l (d, (j : Int)) = some d' ∧ (∀ t, t ≠ x → d'.g t = d.g t) ∧ dval d' x = (mx a ((l.drop j).map fun y => v y + 1) : Nat) ∧ d'.n + j = d.n + l.length := fun j hj =>
  up j hj (fun d a hn h1 h2 => ⟨d, by rw [graph_Depth.l1.v_eq, lss_nat, decide_eq_false (by simp)]; rfl, fun t ht => rfl, by rw [List.drop_length]; exact h1, rfl⟩) (fun j hj ih d a hn h1 h2 => by
    have hy := hs _ (List.getElem_mem hj)
    have hvy := hv _ (List.getElem_mem hj)
    rw [graph_Depth.l1.v_eq]
    simp only
    rw [lss_nat, decide_eq_true hj, cond_true, idx_nat hj, Option.bind_some, gget_some hx, Option.bind_some, gget_some hy.1, Option.bind_some, show (d.g x).getD 0 = (a : Int) from h1, show (d.g l[j]).getD 0 = (v l[j] : Int) from h2 _ (List.getElem_mem hj), wrap_nat (by omega), imax_nat, gput_some (by omega) hx, Option.bind_some, wrap_nat (by omega), drop_cons hj]
    obtain ⟨d', g1, g2, g3, g4⟩ := ih ⟨d.n + 1, fun t => if t = x then some ((if v l[j] + 1 > a then v l[j] + 1 else a : Nat) : Int) else d.g t⟩ (if v l[j] + 1 > a then v l[j] + 1 else a) (by simp; omega) (by unfold dval; simp) (fun y hy => by
      have := (hs y hy).2
      unfold dval
      simp only [if_neg this]
      exact h2 y hy)
    refine ⟨d', g1, fun t ht => ?_, ?_, ?_⟩
    · rw [g2 t ht]; simp only [if_neg ht]
    · rw [g3]; rfl
    · simp only at g4; omega)
theorem depth_l0 (N : ByteArray → List ByteArray) (of : GM (List ByteArray)) (hN : ndOf of = N) (U o : List ByteArray) (ring : List ByteArray) (hg : Grf N U) (hu : ∀ x, x ∈ o → x ∈ U) (ht : Topo N o) (hn : o.Nodup) :
    ∀ j : Nat, j ≤ o.length → ∀ d : GM Int, d.n ≤ j * 64 → (∀ i (h : i < o.length), i < j → dval d o[i] = (DD N o.length o[i] : Int)) → (∀ t, ¬ t ∈ o.take j → d.g t = none) →
      ∃ d', graph_Depth.l0.v (o, ring) of (d, (j : Int)) = some d' ∧ ∀ i (h : i < o.length), dval d' o[i] = (DD N o.length o[i] : Int) := fun j hj =>
  up j hj (fun d h0 h1 h2 => ⟨d, by rw [graph_Depth.l0.v_eq, lss_nat, decide_eq_false (by simp)]; rfl, fun i h => h1 i h h⟩) (fun j hj ih d h0 h1 h2 => by
    have hul := hg.ul
    have hol : o.length ≤ U.length := nodup_sub hn hu
    have hxU := hu _ (List.getElem_mem hj)
    have hxs : o[j].size ≤ LIM := by have := hg.sz _ hxU; simp only [LIM]; omega
    have hln := hg.ln o[j]
    have hnot : ¬ o[j] ∈ o.take j := fun h => by
      obtain ⟨i, hi, e⟩ := List.getElem_of_mem h
      rw [List.length_take] at hi
      rw [List.getElem_take] at e
      exact (List.pairwise_iff_getElem.1 hn i j (by omega) hj (by omega)) e
    rw [graph_Depth.l0.v_eq]
    simp only
    rw [lss_nat, decide_eq_true hj, cond_true, idx_nat hj, Option.bind_some, gget_some hxs, Option.bind_some, wrap_nat (by omega)]
    have hNx : (of.g o[j]).getD [] = N o[j] := by rw [← hN]; rfl
    rw [hNx]
    have hjl : j * 64 ≤ 100000 * 64 := Nat.mul_le_mul_right _ (by omega)
    obtain ⟨d', g1, g2, g3, g4⟩ := depth_l1 o[j] (N o[j]) hxs hln (fun y hy => by
      refine ⟨by have := hg.sz _ (hg.cl _ hxU y hy); simp only [LIM]; omega, fun e => hnot ?_⟩
      have := ht j hj y hy
      rwa [e] at this) (fun y => DD N o.length y) (fun y hy => by have := dd_le N o.length y; omega) 0 (Nat.zero_le _) d 0 (by omega) (by unfold dval; rw [h2 _ hnot]; rfl) (fun y hy => by
      obtain ⟨i, hi, hij, rfl⟩ := topo_mem ht hj hy
      exact h1 i hi hij)
    rw [show graph_Depth.l1.v o[j] (N o[j]) (d, (0 : Int)) = _ from g1, Option.bind_some]
    refine ih d' (by omega) (fun i hi hij => ?_) (fun t ht' => ?_)
    · rcases Nat.lt_or_ge i j with h | h
      · have hne : o[i] ≠ o[j] := fun e => hnot (by
          rw [← e]
          exact List.mem_take_iff_getElem.2 ⟨i, by omega, rfl⟩)
        unfold dval
        rw [g2 _ hne]
        exact h1 i hi h
      · have : i = j := by omega
        subst this
        rw [g3, List.drop_zero]
        congr 1
        have e1 : DD N o.length o[i] = DD N (o.length + 1) o[i] := dd_stable ht (i + 1) i hi (by omega) _ _ hi (by omega)
        rw [e1]; rfl
    · have h3 : ¬ t ∈ o.take j ∧ t ≠ o[j] := by
        rw [List.take_succ, List.getElem?_eq_getElem hj] at ht'
        simp only [Option.toList_some, List.mem_append, List.mem_singleton, not_or] at ht'
        exact ht'
      rw [g2 t h3.2]
      exact h2 t h3.1)
/-- The order of a walk from x. -/
structure OrdOk (m : Make) (x : ByteArray) (o : List ByteArray) : Prop where
  nd : o.Nodup
  un : ∀ y, y ∈ o → y ∈ UG m [x]
  tp : Topo (ND m) o
  mem : x ∈ o
theorem one_ok {m : Make} {x : ByteArray} (h : oneG m x = 0) : AskOk m [x] ∧ memB (allN m) x = true := by
  unfold oneG at h
  by_cases h1 : askG m [x] = 0
  · rw [decide_eq_true h1, cond_true] at h
    cases h2 : memB (allN m) x with
    | true => exact ⟨ask_ok h1, rfl⟩
    | false => rw [h2] at h; cases h
  · rw [decide_eq_false h1] at h
    exact absurd h h1
theorem one_of {m : Make} {x : ByteArray} (h : AskOk m [x]) (h1 : memB (allN m) x = true) : oneG m x = 0 := by
  unfold oneG
  rw [ask_of h.b h.ll h.n, h1]; rfl
theorem depth_v (m : Make) (x : ByteArray) (hm : makeFits m) (hx : x.size ≤ LIM) : ∃ r, graph_Depth.v m x = some r ∧
    ((r.2 ≠ 0 ∧ r.1 = 0 ∧ (oneG m x = 0 → ∃ ring, RingOk (ND m) (UG m [x]) [x] ring)) ∨ (r.2 = 0 ∧ oneG m x = 0 ∧ ∃ o, OrdOk m x o ∧ r.1 = (DD (ND m) o.length x : Int))) := by
  rw [graph_Depth.v_eq, one_v10 m x hm hx, Option.bind_some]
  by_cases h : oneG m x = 0
  · obtain ⟨ha, _⟩ := one_ok h
    obtain ⟨w, h1, h2⟩ := walk_v10 m [x] hm ha
    obtain ⟨of, h3, h4⟩ := needs_v m hm ha.g.nd
    rw [h, show icmp .neq (0 : Int) (0 : Int) = false from rfl, cond_false, h1, Option.bind_some]
    obtain ⟨o, ring⟩ := w
    rcases h2 with ⟨hr, k1, k2, k3, k4, k5⟩ | ⟨ho, hr⟩
    · simp only at hr k1 k2 k3 k4 k5
      subst hr
      rw [show icmp .gtr (([] : List ByteArray).length : Int) (0 : Int) = false from rfl, cond_false, h3, Option.bind_some]
      obtain ⟨d, g1, g2⟩ := depth_l0 (ND m) of h4 (UG m [x]) o [] ha.grf k2 k3 k1 0 (Nat.zero_le _) gempty (Nat.zero_le _) (fun i h h0 => absurd h0 (Nat.not_lt_zero _)) (fun t ht => rfl)
      have hxo := k5 x (by simp)
      obtain ⟨i, hi, ei⟩ := List.getElem_of_mem hxo
      have g3 := g2 i hi
      rw [ei] at g3
      rw [show graph_Depth.l0.v (o, ([] : List ByteArray)) of ((gempty : GM Int), (0 : Int)) = _ from g1, Option.bind_some, gget_some hx, Option.bind_some]
      exact ⟨_, rfl, .inr ⟨rfl, rfl, o, ⟨k1, k2, k3, hxo⟩, g3⟩⟩
    · simp only at hr
      rw [show icmp .gtr (ring.length : Int) (0 : Int) = true from (gtr_nat _ 0).trans (decide_eq_true (List.length_pos_iff.2 hr.ne)), cond_true]
      exact ⟨_, rfl, .inl ⟨by simp, rfl, fun _ => ⟨ring, hr⟩⟩⟩
  · rw [neq_dec, decide_eq_false h]
    exact ⟨_, rfl, .inl ⟨h, rfl, fun k => absurd k h⟩⟩
/-! ### who needs a name -/
def usersL (l : List Rule) (x : ByteArray) : List ByteArray := (l.filter fun r => memB r.Needs x).map (·.Target)
theorem users_loop (m : Make) (x : ByteArray) (hg : MG m) : ∀ j : Nat, j ≤ m.Rules.length → ∀ acc : List ByteArray, acc.length ≤ j → graph_Users.l0.v m x (acc, (j : Int)) = some (acc ++ usersL (m.Rules.drop j) x) := fun j hj =>
  up j hj (fun acc ha => by rw [graph_Users.l0.v_eq, lss_nat, List.drop_length, decide_eq_false (by simp)]; simp [usersL]) (fun j hj ih acc ha => by
    have h5 := hg.l
    have h6 := hg.n _ (List.getElem_mem hj)
    rw [graph_Users.l0.v_eq]
    simp only
    rw [lss_nat, decide_eq_true hj, cond_true, idx_nat hj, Option.bind_some, contains_v _ _ (by simp only [LIM]; omega), Option.bind_some, wrap_nat (by omega), drop_cons hj]
    unfold usersL at ih ⊢
    rw [List.filter_cons]
    cases hm : memB m.Rules[j].Needs x with
    | true =>
      rw [cond_true, app_ok (by simp only [List.length_singleton]; omega), Option.bind_some, Option.bind_some, ih _ (by simp; omega), if_pos rfl, List.map_cons, List.append_assoc]
      rfl
    | false =>
      rw [cond_false, Option.bind_some, ih _ (by omega), if_neg (by simp)])
theorem users_v (m : Make) (x : ByteArray) (hm : makeFits m) (hx : x.size ≤ LIM) (h : oneG m x = 0) : graph_Users.v m x = some (usersL m.Rules x, 0) := by
  have hg := (one_ok h).1.g
  rw [graph_Users.v_eq, one_v10 m x hm hx, h, Option.bind_some, show icmp .neq (0 : Int) (0 : Int) = false from rfl, cond_false, show graph_Users.l0.v m x (([] : List ByteArray), (0 : Int)) = _ from users_loop m x hg 0 (Nat.zero_le _) [] (Nat.le_refl _)]
  rfl
end Go.Proofs.Ytlpmolohppoofaa.F
