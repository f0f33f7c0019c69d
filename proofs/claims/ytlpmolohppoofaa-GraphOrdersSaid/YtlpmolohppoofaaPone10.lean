/- The names of a graph; a name of them; the little program. -/
import Derived.Test.YtlpmolohppoofaaPgraph
set_option linter.unusedVariables false
set_option linter.unusedSimpArgs false
set_option linter.unnecessarySimpa false
set_option linter.deprecated false
namespace Go.Proofs.Ytlpmolohppoofaa.F
open Go Go.RowKit Go.Proofs.Ytlpmolohppoofaa.Sl
theorem all_loop (m : Make) (hg : MG m) : ∀ j : Nat, j ≤ m.Rules.length → ∀ acc : List ByteArray, acc.length ≤ j * 65 → graph_all.l0.v m (acc, (j : Int)) = some (acc ++ (m.Rules.drop j).flatMap fun r => r.Target :: r.Needs) := fun j hj =>
  up j hj (fun acc ha => by rw [graph_all.l0.v_eq, lss_nat, List.drop_length, decide_eq_false (by simp), List.flatMap_nil, List.append_nil]; rfl) (fun j hj ih acc ha => by
    have h5 := hg.l
    have h6 := hg.n _ (List.getElem_mem hj)
    have hj' : j < 512 := by omega
    have h7 : acc.length ≤ 512 * 65 := by omega
    rw [graph_all.l0.v_eq]
    simp only
    rw [lss_nat, decide_eq_true hj, cond_true, idx_nat hj, Option.bind_some, app_ok (by simp only [List.length_singleton]; omega), Option.bind_some, app_ok (by simp only [List.length_append, List.length_singleton]; omega), Option.bind_some, wrap_nat (by omega), ih _ (by simp only [List.length_append, List.length_singleton]; omega), drop_cons hj, List.flatMap_cons]
    simp only [List.append_assoc, List.singleton_append])
def allN (m : Make) : List ByteArray := m.Rules.flatMap fun r => r.Target :: r.Needs
theorem allN_len {m : Make} (hg : MG m) : (allN m).length ≤ 512 * 65 := by
  have h1 := flat_len m.Rules (fun r => r.Target :: r.Needs) 65 (fun r hr => by have := hg.n r hr; simp; omega)
  have h2 := hg.l
  unfold allN
  omega
theorem all_v (m : Make) (hg : MG m) : graph_all.v m = some (compactB (sortB (allN m))) := by
  have hl := allN_len hg
  rw [graph_all.v_eq, show graph_all.l0.v m (([] : List ByteArray), (0 : Int)) = _ from all_loop m hg 0 (Nat.zero_le _) [] (Nat.zero_le _), Option.bind_some, List.drop_zero, List.nil_append]
  show (slices_Sort_string_string.f (allN m)).bind _ = _
  unfold slices_Sort_string_string.f
  rw [show Nat.blt (allN m).length 4611686018427387904 = true from Nat.ble_eq_true_of_le (by omega)]
  rfl
theorem bs_loop (l : List ByteArray) (x : ByteArray) (hs : l.Pairwise Less) (hl : l.length ≤ 100000) : ∀ n i j : Nat, j - i ≤ n → i ≤ j → j ≤ l.length → (∀ k (h : k < l.length), k < i → Less l[k] x) → (∀ k (h : k < l.length), j ≤ k → ¬ Less l[k] x) →
    ∃ m : Nat, m ≤ l.length ∧ slices_BinarySearch_string_string.l0.v l x ((i : Int), (j : Int)) = some (m : Int) ∧ (∀ k (h : k < l.length), k < m → Less l[k] x) ∧ (∀ k (h : k < l.length), m ≤ k → ¬ Less l[k] x) := by
  intro n
  induction n with
  | zero =>
    intro i j h1 h2 h3 h4 h5
    have : i = j := by omega
    subst this
    exact ⟨i, h3, by rw [slices_BinarySearch_string_string.l0.v_eq, lss_nat, decide_eq_false (by omega)]; rfl, h4, h5⟩
  | succ n ih =>
    intro i j h1 h2 h3 h4 h5
    by_cases hij : i < j
    · have hm : (i + j) / 2 < l.length := by omega
      rw [slices_BinarySearch_string_string.l0.v_eq]
      simp only
      have e1 : IntKind.i64.wrap (((i + j) / 2 : Nat) : Int) = (((i + j) / 2 : Nat) : Int) := by
        simp [IntKind.wrap, IntKind.signed, IntKind.bits]
        split <;> omega
      rw [lss_nat, decide_eq_true hij, cond_true, mid_nat (by omega), idx_nat hm, Option.bind_some, less_v, Option.bind_some, wrap_nat (by omega)]
      by_cases hL : Less l[(i + j) / 2] x
      · rw [decide_eq_true hL, cond_true]
        refine ih ((i + j) / 2 + 1) j (by omega) (by omega) h3 (fun k hk hlt => ?_) h5
        rcases Nat.lt_or_ge k ((i + j) / 2) with h | h
        · exact (List.pairwise_iff_getElem.1 hs k ((i + j) / 2) hk hm h).trans hL
        · have : k = (i + j) / 2 := by omega
          subst this
          exact hL
      · rw [decide_eq_false hL, cond_false]
        refine ih i ((i + j) / 2) (by omega) (by omega) (by omega) h4 (fun k hk hge hlt => ?_)
        rcases Nat.lt_or_ge ((i + j) / 2) k with h | h
        · exact hL ((List.pairwise_iff_getElem.1 hs _ k hm hk h).trans hlt)
        · have : k = (i + j) / 2 := by omega
          subst this
          exact hL hlt
    · have : i = j := by omega
      subst this
      exact ⟨i, h3, by rw [slices_BinarySearch_string_string.l0.v_eq, lss_nat, decide_eq_false (by omega)]; rfl, h4, h5⟩
theorem bs_v (l : List ByteArray) (x : ByteArray) (hs : l.Pairwise Less) (hl : l.length ≤ 100000) : ∃ i, slices_BinarySearch_string_string.v l x = some (i, memB l x) := by
  obtain ⟨m, h1, h2, h3, h4⟩ := bs_loop l x hs hl l.length 0 l.length (by omega) (Nat.zero_le _) (Nat.le_refl _) (fun k h h0 => absurd h0 (by omega)) (fun k h h0 => absurd h0 (by omega))
  refine ⟨(m : Int), ?_⟩
  rw [slices_BinarySearch_string_string.v_eq, show slices_BinarySearch_string_string.l0.v l x ((0 : Int), (l.length : Int)) = _ from h2, Option.bind_some, lss_nat]
  by_cases hm : m < l.length
  · rw [decide_eq_true hm, cond_true, idx_nat hm, Option.bind_some, Option.bind_some, scmp_eql]
    by_cases e : l[m] = x
    · rw [decide_eq_true e, memB_iff.2 (e ▸ List.getElem_mem hm)]; rfl
    · have : memB l x = false := memB_no fun hx => by
        obtain ⟨k, hk, ek⟩ := List.getElem_of_mem hx
        rcases Nat.lt_or_ge k m with h | h
        · have := h3 k hk h; rw [ek] at this; exact Less.irrefl x this
        · rcases Nat.eq_or_lt_of_le h with h | h
          · subst h; exact e ek
          · have := List.pairwise_iff_getElem.1 hs m k hm hk h
            rw [ek] at this
            exact h4 m hm (Nat.le_refl _) this
      rw [decide_eq_false e, this, cond_false]
      show ((slices_isNaN_string.f l[m]).bind _).bind _ = _
      unfold slices_isNaN_string.f
      rw [scmp_neq, decide_eq_true rfl]; rfl
  · have : memB l x = false := memB_no fun hx => by
      obtain ⟨k, hk, ek⟩ := List.getElem_of_mem hx
      have := h3 k hk (by omega)
      rw [ek] at this
      exact Less.irrefl x this
    rw [decide_eq_false hm, this]; rfl
/-- A name of a graph. -/
def oneG (m : Make) (x : ByteArray) : Int := bif decide (askG m [x] = 0) then (bif memB (allN m) x then 0 else 9) else askG m [x]
theorem ls_one {x : ByteArray} (hx : x.size ≤ LIM) : lsFits [x] := ⟨by simp, fun y hy => by rw [List.mem_singleton.1 hy]; exact hx⟩
theorem compactB_len (m : Make) (hg : MG m) : (compactB (sortB (allN m))).length ≤ 100000 := by
  have h1 := (cs_sorted (allN m)).1
  have h2 := nodup_sub (l := compactB (sortB (allN m))) (u := allN m) (h1.imp fun h => Less.ne h) (fun x hx => ((cs_sorted (allN m)).2 x).1 hx)
  have := allN_len hg
  omega
theorem one_v10 (m : Make) (x : ByteArray) (hm : makeFits m) (hx : x.size ≤ LIM) : graph_one.v m x = some (oneG m x) := by
  rw [graph_one.v_eq, asked_v m [x] hm (ls_one hx), Option.bind_some]
  unfold oneG
  by_cases h : askG m [x] = 0
  · have ha := ask_ok h
    obtain ⟨i, hi⟩ := bs_v (compactB (sortB (allN m))) x (cs_sorted (allN m)).1 (compactB_len m ha.g)
    rw [h, show icmp .neq (0 : Int) (0 : Int) = false from rfl, cond_false, all_v m ha.g, Option.bind_some, hi, Option.bind_some, decide_eq_true rfl, cond_true]
    have : memB (compactB (sortB (allN m))) x = memB (allN m) x := by
      rw [Bool.eq_iff_iff, memB_iff, memB_iff]
      exact (cs_sorted (allN m)).2 x
    simp only [this]
    cases memB (allN m) x <;> rfl
  · rw [neq_dec, decide_eq_false h]; rfl
/-! ### the little program -/
def smallM : Make := (⟨([] : List Macro), [(⟨(⟨#[97]⟩ : ByteArray), [(⟨#[98]⟩ : ByteArray), (⟨#[99]⟩ : ByteArray)], ([] : List ByteArray), false⟩ : Rule), (⟨(⟨#[98]⟩ : ByteArray), [(⟨#[100]⟩ : ByteArray)], ([] : List ByteArray), false⟩ : Rule), (⟨(⟨#[99]⟩ : ByteArray), [(⟨#[100]⟩ : ByteArray)], ([] : List ByteArray), false⟩ : Rule)], ([] : List Infer), zeroSpecial, ByteArray.empty⟩ : Make)
theorem ls_nil : lsFits [] := ⟨by simp, fun x hx => by cases hx⟩
theorem smallM_fits : makeFits smallM where
  ml := by decide
  ms := fun x hx => by cases hx
  rl := by decide
  rs := fun x hx => by
    have hone : ∀ c : UInt8, (⟨#[c]⟩ : ByteArray).size ≤ LIM := fun c => by show 1 ≤ LIM; decide
    simp only [smallM, List.mem_cons, List.not_mem_nil, or_false] at hx
    rcases hx with rfl | rfl | rfl
    · refine ⟨hone _, ⟨by simp, fun y hy => ?_⟩, ls_nil⟩
      simp only [List.mem_cons, List.not_mem_nil, or_false] at hy
      rcases hy with rfl | rfl <;> exact hone _
    · refine ⟨hone _, ⟨by simp, fun y hy => ?_⟩, ls_nil⟩
      simp only [List.mem_cons, List.not_mem_nil, or_false] at hy
      rw [hy]; exact hone _
    · refine ⟨hone _, ⟨by simp, fun y hy => ?_⟩, ls_nil⟩
      simp only [List.mem_cons, List.not_mem_nil, or_false] at hy
      rw [hy]; exact hone _
  il := by decide
  is := fun x hx => by cases hx
  sp := ⟨ls_nil, ls_nil, ls_nil, ls_nil, ls_nil, ls_nil⟩
  fi := by decide
theorem small_ask (x : ByteArray) (h : graph_asked.f 40 smallM [x] = some 0) (hx : x.size ≤ LIM) : askG smallM [x] = 0 := by
  have h1 := asked_v smallM [x] smallM_fits (ls_one hx)
  rw [(graph_asked.tends smallM [x]).at 40 h] at h1
  exact (Option.some.inj h1).symm
theorem small_one (x : ByteArray) (h : graph_asked.f 40 smallM [x] = some 0) (hx : x.size ≤ LIM) (hm : memB (allN smallM) x = true) : graph_one.v smallM x = some 0 := by
  rw [one_v10 smallM x smallM_fits hx]
  unfold oneG
  rw [small_ask x h hx, hm]; rfl
theorem small_order : graph_Order.v smallM [(⟨#[97]⟩ : ByteArray)] = some ([(⟨#[100]⟩ : ByteArray), (⟨#[98]⟩ : ByteArray), (⟨#[99]⟩ : ByteArray), (⟨#[97]⟩ : ByteArray)], 0) := (graph_Order.tends _ _).at 40 (by kernel_rfl)
theorem small_users : graph_Users.v smallM (⟨#[100]⟩ : ByteArray) = some ([(⟨#[98]⟩ : ByteArray), (⟨#[99]⟩ : ByteArray)], 0) := by
  rw [graph_Users.v_eq, small_one _ (by kernel_rfl) (by show 1 ≤ LIM; decide) (by kernel_rfl), Option.bind_some, show icmp .neq (0 : Int) (0 : Int) = false from rfl, cond_false, show graph_Users.l0.v smallM (⟨#[100]⟩ : ByteArray) (([] : List ByteArray), (0 : Int)) = some [(⟨#[98]⟩ : ByteArray), (⟨#[99]⟩ : ByteArray)] from (graph_Users.l0.tends _ _ _).at 40 (by kernel_rfl)]
  rfl
theorem small_walk : graph_walk.v smallM [(⟨#[97]⟩ : ByteArray)] = some ([(⟨#[100]⟩ : ByteArray), (⟨#[98]⟩ : ByteArray), (⟨#[99]⟩ : ByteArray), (⟨#[97]⟩ : ByteArray)], []) := (graph_walk.tends _ _).at 40 (by kernel_rfl)
def smallOf : GM (List ByteArray) := (graph_needs.f 40 smallM).getD gempty
def smallD : GM Int := (graph_Depth.l0 ([(⟨#[100]⟩ : ByteArray), (⟨#[98]⟩ : ByteArray), (⟨#[99]⟩ : ByteArray), (⟨#[97]⟩ : ByteArray)], []) smallOf 40 ((gempty : GM Int), (0 : Int))).getD gempty
theorem small_needs : graph_needs.v smallM = some smallOf := (graph_needs.tends _).at 40 (by kernel_rfl)
theorem small_deep : graph_Depth.l0.v ([(⟨#[100]⟩ : ByteArray), (⟨#[98]⟩ : ByteArray), (⟨#[99]⟩ : ByteArray), (⟨#[97]⟩ : ByteArray)], []) smallOf ((gempty : GM Int), (0 : Int)) = some smallD := (graph_Depth.l0.tends _ _ _).at 40 (by kernel_rfl)
theorem small_depth : graph_Depth.v smallM (⟨#[97]⟩ : ByteArray) = some (2, 0) := by
  rw [graph_Depth.v_eq, small_one _ (by kernel_rfl) (by show 1 ≤ LIM; decide) (by kernel_rfl), Option.bind_some, show icmp .neq (0 : Int) (0 : Int) = false from rfl, cond_false, small_walk, Option.bind_some, small_needs, Option.bind_some, small_deep, Option.bind_some, show gget smallD (0 : Int) (⟨#[97]⟩ : ByteArray) = some 2 by kernel_rfl]
  rfl
theorem speaks10_v : smithylaw10_speaks.v = some true := by
  rw [smithylaw10_speaks.v_eq]
  show (graph_Order.v smallM [(⟨#[97]⟩ : ByteArray)]).bind (fun v1 => (graph_Users.v smallM (⟨#[100]⟩ : ByteArray)).bind fun v3 => (graph_Depth.v smallM (⟨#[97]⟩ : ByteArray)).bind fun v5 => _) = _
  rw [small_order, Option.bind_some, small_users, Option.bind_some, small_depth, Option.bind_some]
  rw [show smithyplain_Texts.v [(⟨#[100]⟩ : ByteArray), (⟨#[98]⟩ : ByteArray), (⟨#[99]⟩ : ByteArray), (⟨#[97]⟩ : ByteArray)] [(⟨#[100]⟩ : ByteArray), (⟨#[98]⟩ : ByteArray), (⟨#[99]⟩ : ByteArray), (⟨#[97]⟩ : ByteArray)] = some true from (smithyplain_Texts.tends _ _).at 40 (by kernel_rfl)]
  rw [show smithyplain_Texts.v [(⟨#[98]⟩ : ByteArray), (⟨#[99]⟩ : ByteArray)] [(⟨#[98]⟩ : ByteArray), (⟨#[99]⟩ : ByteArray)] = some true from (smithyplain_Texts.tends _ _).at 40 (by kernel_rfl)]
  rfl
end Go.Proofs.Ytlpmolohppoofaa.F
