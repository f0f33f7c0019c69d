import Derived.Test.YtedgkcdofiildaaQWalkOrders
import Derived.Test.YtedgkcdofiildaaBytes
import Derived.Test.YtedgkcdofiildaaExt
set_option linter.unusedVariables false
set_option linter.unusedSimpArgs false
namespace Go.Proofs.Ytedgkcdofiildaa.P
open Go Go.RowKit Go.Proofs.Ytedgkcdofiildaa.Ext Go.Proofs.YtedgkcdofiildaaW.PrintWords Go.Proofs.YtedgkcdofiildaaW.PrintLast Go.Proofs.YtedgkcdofiildaaW.PrintMore
theorem texts_loop (l : List ByteArray) (hl : l.length ≤ 140737488351232) : ∀ (suf pre : List ByteArray), l = pre ++ suf → Ev (fun k => smithyplain_Texts.l0 k l l (l.length : Int) (pre.length : Int)) true
  | [], pre, e => by
    refine Ev.step (fun _ => rfl) ?_
    have : l.length = pre.length := by rw [e]; simp
    simp only [smithyplain_Texts.l0, if_neg (show ¬ (pre.length : Int) < (l.length : Int) by omega)]
    exact Ev.now _
  | x :: xs, pre, e => by
    have hlen : l.length = pre.length + (xs.length + 1) := by rw [e]; simp
    have hlt : (pre.length : Int) < (l.length : Int) := by omega
    have hw : wrap64 ((pre.length : Int) + 1) = ((pre ++ [x]).length : Int) := by simp; unfold wrap64; omega
    have ih := texts_loop l hl xs (pre ++ [x]) (by rw [e]; simp)
    refine Ev.step (fun _ => rfl) ?_
    simp only [smithyplain_Texts.l0, if_pos hlt, if_pos (show (0 : Int) ≤ (pre.length : Int) by omega), if_true, hw]
    exact ih
/-- Equal lists are told as equal. -/
theorem texts_ev (l : List ByteArray) (hl : l.length ≤ 140737488351232) : Ev (fun k => smithyplain_Texts.f k l l) true := by
  simp only [smithyplain_Texts.f, if_true]
  exact texts_loop l hl l [] rfl
theorem rletter_iff (c : Int) : letter c = true ↔ (97 ≤ c ∧ c ≤ 122) ∨ (65 ≤ c ∧ c ≤ 90) ∨ (48 ≤ c ∧ c ≤ 57) ∨ c = 95 ∨ c = 45 ∨ c = 46 ∨ c = 47 ∨ c = 43 := by
  simp only [letter, Bool.or_eq_true, decide_eq_true_eq, or_assoc]
theorem rname_round (k : Nat) (s : ByteArray) (i : Int) (h0 : 0 ≤ i) (h1 : i < (s.size : Int)) :
    smithyref02_Name.l0 (k + 1) s i = if letter (bt s i) = true then smithyref02_Name.l0 k s (wrap64 (i + 1)) else some false := by
  have hL := rletter_iff (bt s i)
  simp only [smithyref02_Name.l0]
  rw [if_pos h1, if_pos h0]
  generalize bt s i = c at *
  generalize smithyref02_Name.l0 k s (wrap64 (i + 1)) = r at *
  by_cases hl : letter c = true
  · rw [if_pos hl]
    rcases hL.mp hl with h | h | h | rfl | rfl | rfl | rfl | rfl
    · rw [if_pos h.1, if_pos h.2]
    · rw [if_neg (by omega), if_pos h.1, if_pos h.2]
    · rw [if_neg (by omega), if_neg (by omega), if_pos h.1, if_pos h.2]
    all_goals rfl
  · rw [if_neg hl]
    have hL' : ¬ ((97 ≤ c ∧ c ≤ 122) ∨ (65 ≤ c ∧ c ≤ 90) ∨ (48 ≤ c ∧ c ≤ 57) ∨ c = 95 ∨ c = 45 ∨ c = 46 ∨ c = 47 ∨ c = 43) := fun h => hl (hL.mpr h)
    clear hL hl
    have n1 : ¬ c = 95 := by omega
    have n2 : ¬ c = 45 := by omega
    have n3 : ¬ c = 46 := by omega
    have n4 : ¬ c = 47 := by omega
    have n5 : ¬ c = 43 := by omega
    by_cases a1 : c ≥ 97 <;> by_cases a2 : c ≤ 122 <;> by_cases a3 : c ≥ 65 <;> by_cases a4 : c ≤ 90 <;> by_cases a5 : c ≥ 48 <;> by_cases a6 : c ≤ 57 <;> first | (exfalso; omega) | simp only [a1, a2, a3, a4, a5, a6, n1, n2, n3, n4, n5, if_true, if_false]
theorem rname_loop (s : ByteArray) (hs : s.size ≤ 140737488351232) : ∀ (d k i : Nat), s.size - i = d → i ≤ s.size → d < k →
    smithyref02_Name.l0 k s (i : Int) = some (((List.range s.size).all fun j => decide (j < i) || letter (bt s j)) && (decide (0 < s.size) && decide (s.size ≤ 64)))
  | 0, k, i, hd, hi, hk => by
    obtain ⟨k, rfl⟩ : ∃ m, k = m + 1 := ⟨k - 1, by omega⟩
    have : i = s.size := by omega
    subst this
    simp only [smithyref02_Name.l0]
    rw [if_neg (by omega), all_end _ _ _ (Nat.le_refl _)]
    by_cases h : (s.size : Int) > 0
    · rw [if_pos h]
      have e1 : decide (0 < s.size) = true := decide_eq_true (by omega)
      rw [e1]
      have e2 : decide ((s.size : Int) ≤ 64) = decide (s.size ≤ 64) := by rw [decide_eq_decide]; omega
      rw [e2]
      simp
    · rw [if_neg h]
      have e1 : decide (0 < s.size) = false := decide_eq_false (by omega)
      rw [e1]
      simp
  | d + 1, k, i, hd, hi, hk => by
    obtain ⟨k, rfl⟩ : ∃ m, k = m + 1 := ⟨k - 1, by omega⟩
    have hlt : i < s.size := by omega
    rw [rname_round k s i (by omega) (by omega)]
    have hw : wrap64 ((i : Int) + 1) = ((i + 1 : Nat) : Int) := by unfold wrap64; omega
    rw [hw, rname_loop s hs d k (i + 1) (by omega) (by omega) (by omega), all_from (fun j => letter (bt s j)) s.size i hlt]
    cases hl : letter (bt s i) with
    | true => simp
    | false => simp
theorem rname_ev (s : ByteArray) (hs : s.size ≤ 140737488351232) : Ev (fun k => smithyref02_Name.f k s) (nameOk s) := by
  refine ⟨s.size + 3, fun k hk => ?_⟩
  show smithyref02_Name.f k s = _
  unfold smithyref02_Name.f nameOk
  have h := rname_loop s hs s.size k 0 (by omega) (by omega) (by omega)
  rw [all_start (fun j => letter (bt s j))] at h
  have e : (decide (0 < s.size) && decide (s.size ≤ 64) && allLetters s) = ((List.range s.size).all (fun j => letter (bt s j)) && (decide (0 < s.size) && decide (s.size ≤ 64))) := by
    rw [Bool.and_comm]; rfl
  rw [e]
  exact h
theorem has_loop (l : List ByteArray) (s : ByteArray) (hl : l.length ≤ 140737488351232) : ∀ (suf pre : List ByteArray), l = pre ++ suf → Ev (fun k => smithyref03_Has.l0 k s l (l.length : Int) (pre.length : Int)) (memB suf s)
  | [], pre, e => by
    refine Ev.step (fun _ => rfl) ?_
    have : l.length = pre.length := by rw [e]; simp
    simp only [smithyref03_Has.l0, if_neg (show ¬ (pre.length : Int) < (l.length : Int) by omega)]
    exact Ev.now _
  | x :: xs, pre, e => by
    have hlen : l.length = pre.length + (xs.length + 1) := by rw [e]; simp
    have hlt : (pre.length : Int) < (l.length : Int) := by omega
    have hx : rdOf ByteArray.empty l (pre.length : Int) = x := by rw [e]; simp [rdOf]
    have hw : wrap64 ((pre.length : Int) + 1) = ((pre ++ [x]).length : Int) := by simp; unfold wrap64; omega
    have ih := has_loop l s hl xs (pre ++ [x]) (by rw [e]; simp)
    refine Ev.step (fun _ => rfl) ?_
    simp only [smithyref03_Has.l0, if_pos hlt, if_pos (show (0 : Int) ≤ (pre.length : Int) by omega), hx, hw]
    by_cases h : x.toList = s.toList
    · have : x = s := toList_inj h
      simp only [if_pos h, memB, List.any_cons, decide_eq_true this, Bool.true_or]
      exact Ev.now _
    · have : ¬ x = s := fun e => h (by rw [e])
      simp only [if_neg h, memB, List.any_cons, decide_eq_false this, Bool.false_or]
      exact ih
theorem has_ev (l : List ByteArray) (s : ByteArray) (hl : l.length ≤ 140737488351232) : Ev (fun k => smithyref03_Has.f k l s) (memB l s) := has_loop l s hl l [] rfl
theorem memB_iff (l : List ByteArray) (s : ByteArray) : memB l s = true ↔ s ∈ l := by
  unfold memB
  rw [List.any_eq_true]
  constructor
  · rintro ⟨x, hx, h⟩; have := of_decide_eq_true h; subst this; exact hx
  · intro h; exact ⟨s, h, decide_eq_true rfl⟩
theorem memB_no (l : List ByteArray) (s : ByteArray) : memB l s = false ↔ s ∉ l := by
  rw [← memB_iff]; simp
theorem memB_append' (l k : List ByteArray) (s : ByteArray) : memB (l ++ k) s = (memB l s || memB k s) := by unfold memB; rw [List.any_append]
def nodeFits (n : S48) : Prop := n.f0.size ≤ 140737488351232 ∧ n.f1.length ≤ 140737488351232 ∧ (∀ x ∈ n.f1, x.size ≤ 140737488351232) ∧ (∀ x ∈ n.f2, x.size ≤ 140737488351232) ∧ n.f5.size ≤ 140737488351232
theorem node_at (n : S48) (h : nodeFits n) : smithyref12_Node.f n.f0 n.f1 n.f2 n.f3 n.f4 n.f5 n.f6 n.f7 n.f8 n.f9 = some (nodeE (nodeB n)) := by
  have e : nodeFitsB ⟨n.f0, n.f1, n.f2, n.f3, n.f4, n.f5, n.f6, n.f7, n.f8, n.f9⟩ = true := by
    unfold nodeFitsB
    simp only [Bool.and_eq_true, decide_eq_true_eq, List.all_eq_true]
    exact ⟨⟨⟨h.1, h.2.2.1⟩, h.2.2.2.1⟩, h.2.2.2.2⟩
  unfold smithyref12_Node.f
  rw [if_pos e]
theorem nodeFits_B {n : S48} (h : nodeFits n) : nodeFitsB n = true := by
  unfold nodeFitsB
  simp only [Bool.and_eq_true, decide_eq_true_eq, List.all_eq_true]
  exact ⟨⟨⟨h.1, h.2.2.1⟩, h.2.2.2.1⟩, h.2.2.2.2⟩
theorem rcheck_at (ns : List S48) (gs : List ByteArray) (hf : ∀ n ∈ ns, nodeFits n) : smithyref12_Check.f ns gs = some (refR ns gs) := by
  unfold smithyref12_Check.f
  rw [if_pos (by rw [List.all_eq_true]; exact fun n hn => nodeFits_B (hf n hn))]
theorem names0_tgts (l : List S48) : names0 l = tgts l := rfl
theorem needsB_R (n : S48) (ahead : List ByteArray) (hm : memB ahead n.f0 = false) : ∀ (l pre : List ByteArray), needsR (setR ahead) pre l = (needsB n.f0 pre l && l.all (memB ahead))
  | [], pre => rfl
  | x :: xs, pre => by
    simp only [needsR, needsB, List.all_cons, needsB_R n ahead hm xs]
    have e : decide (setR ahead x = 1) = memB ahead x := by
      unfold setR
      cases memB ahead x <;> rfl
    rw [e]
    cases hx : memB ahead x with
    | false => simp
    | true =>
      have hne : decide (x = n.f0) = false := decide_eq_false (fun h => by rw [h, hm] at hx; cases hx)
      rw [hne]
      cases nameOk x <;> cases memB pre x <;> simp
theorem right_iff (n : S48) (ahead : List ByteArray) : rightR n (setR ahead) = (nodeB n && !memB ahead n.f0 && n.f1.all (memB ahead)) := by
  unfold rightR badHead nodeB
  have e : decide (setR ahead n.f0 = 1) = memB ahead n.f0 := by
    unfold setR
    cases memB ahead n.f0 <;> rfl
  rw [e]
  cases hm : memB ahead n.f0 with
  | true => simp
  | false =>
    rw [needsB_R n ahead hm]
    cases nameOk n.f0 <;> cases decide (65 < n.f1.length) <;> cases decide (64 < n.f2.length) <;> cases n.f3 <;> cases decide (0 < n.f2.length) <;> cases needsB n.f0 [] n.f1 <;> cases n.f2.any longB <;> cases tailR n <;> cases n.f1.all (memB ahead) <;> rfl
theorem planGo_eq : ∀ (ns : List S48) (ahead : List ByteArray), planGo (setR ahead) ns = if refGo ahead ns = true then some (setR (ahead ++ names0 ns)) else none
  | [], ahead => by simp [planGo, refGo, names0]
  | n :: ns, ahead => by
    have e := right_iff n ahead
    rw [planGo, refGo, ← e]
    by_cases h : rightR n (setR ahead) = true
    · rw [if_pos h, h, Bool.true_and, setR_put, planGo_eq ns]
      simp [names0]
    · rw [if_neg h, Bool.eq_false_iff.2 h, Bool.false_and, if_neg (by decide)]
theorem goals_eq (all : List ByteArray) : ∀ (l pre : List ByteArray), goalsR (setR all) pre l = goalsB all pre l
  | [], pre => rfl
  | x :: xs, pre => by
    simp only [goalsR, goalsB, goals_eq all xs]
    have e : decide (setR all x = 1) = memB all x := by
      unfold setR
      cases memB all x <;> rfl
    rw [e]
theorem plan_ref (ns : List S48) (gs : List ByteArray) : planR ns gs = refR ns gs := by
  unfold planR refR
  split
  · rfl
  · split
    · rfl
    · split
      · rfl
      · rw [← setR_nil, planGo_eq]
        cases h : refGo [] ns with
        | false => simp [nodeE]
        | true =>
          simp only [if_true, List.nil_append, goals_eq, Bool.true_and, nodeE]
theorem speaks14_at : smithylaw14_speaks.f 40 = some true := by
  decide +kernel
theorem speaks14_ev : Ev (fun k => smithylaw14_speaks.f k) true := ⟨40, fun k hk => at_rounds (fun k => smithylaw14_speaks.mono k) hk speaks14_at⟩
def fitsAll (l1 : List ByteArray) : Prop := ∀ x ∈ l1, x.size ≤ 140737488351232
theorem fitsAll_sizes {l1 : List ByteArray} (h : fitsAll l1) : (l1.all fun s => decide (s.size ≤ 140737488351232)) = true := by
  rw [List.all_eq_true]
  exact fun s hs => decide_eq_true (h s hs)
theorem targets_ev (l0 : List S48) (l1 : List ByteArray) (h : l0.length < 8796093022208) : Ev (fun k => walk_targets.f k l0 l1) (tgts l0) :=
  Ev.of (fun k => walk_targets.mono l0 l1 k) (k := l0.length + 1) (targets_loop l0 h l0 [] (l0.length + 1) rfl (by omega))
theorem nodup_len : ∀ (l m : List ByteArray), l.Nodup → (∀ x ∈ l, x ∈ m) → l.length ≤ m.length
  | [], m, _, _ => by simp
  | x :: xs, m, hn, hs => by
    have hx := hs x (List.mem_cons_self)
    rw [List.nodup_cons] at hn
    have h := nodup_len xs (m.filter fun y => decide (y ≠ x)) hn.2 (fun y hy => by
      have hne : y ≠ x := fun e => hn.1 (by rw [← e]; exact hy)
      exact List.mem_filter.2 ⟨hs y (List.mem_cons_of_mem _ hy), decide_eq_true hne⟩)
    have h2 : (m.filter fun y => decide (y ≠ x)).length < m.length := List.length_filter_lt_length_iff_exists.2 ⟨x, hx, by simp⟩
    rw [List.length_cons]
    omega
theorem all_mem {l m : List ByteArray} (h : (l.any fun s => !memB m s) = false) : ∀ x ∈ l, x ∈ m := fun x hx => by
  have := List.any_eq_false.1 h x hx
  rw [← memB_iff]
  simpa using this
theorem mem_all {l m : List ByteArray} (h : ∀ x ∈ l, x ∈ m) : (l.any fun s => !memB m s) = false := by
  rw [List.any_eq_false]
  intro x hx
  rw [(memB_iff m x).2 (h x hx)]
  simp
theorem refGo_split : ∀ (pre : List S48) (ahead : List ByteArray) (n : S48) (post : List S48), refGo ahead (pre ++ n :: post) = true → n.f0 ∉ ahead ++ names0 pre ∧ ∀ x ∈ n.f1, x ∈ ahead ++ names0 pre
  | [], ahead, n, post, h => by
    simp only [List.nil_append, refGo, Bool.and_eq_true, Bool.not_eq_true'] at h
    refine ⟨?_, fun x hx => ?_⟩
    · rw [show names0 ([] : List S48) = [] from rfl, List.append_nil]
      exact (memB_no ahead n.f0).1 h.1.1.2
    · rw [show names0 ([] : List S48) = [] from rfl, List.append_nil]
      exact (memB_iff ahead x).1 (List.all_eq_true.1 h.1.2 x hx)
  | m :: ms, ahead, n, post, h => by
    simp only [List.cons_append, refGo, Bool.and_eq_true] at h
    have := refGo_split ms (ahead ++ [m.f0]) n post h.2
    rw [List.append_assoc] at this
    exact this
theorem refGo_nodup : ∀ (l : List S48) (ahead : List ByteArray), ahead.Nodup → refGo ahead l = true → (ahead ++ names0 l).Nodup
  | [], ahead, h, _ => by rw [show names0 ([] : List S48) = [] from rfl, List.append_nil]; exact h
  | n :: ns, ahead, h, hr => by
    simp only [refGo, Bool.and_eq_true, Bool.not_eq_true'] at hr
    have h1 : (ahead ++ [n.f0]).Nodup := by
      rw [List.nodup_append]
      refine ⟨h, by simp, fun a ha b hb => ?_⟩
      rw [List.mem_singleton] at hb
      subst hb
      exact fun e => (memB_no ahead n.f0).1 hr.1.1.2 (by rw [← e]; exact ha)
    have := refGo_nodup ns _ h1 hr.2
    rwa [List.append_assoc] at this
theorem needsOf_of : ∀ (l : List S48), (names0 l).Nodup → ∀ n ∈ l, needsOf l n.f0 = n.f1
  | [], _, n, hn => by cases hn
  | m :: ms, h, n, hn => by
    have h' : m.f0 ∉ names0 ms ∧ (names0 ms).Nodup := by
      rw [show names0 (m :: ms) = m.f0 :: names0 ms from rfl, List.nodup_cons] at h
      exact h
    rw [needsOf]
    rcases List.mem_cons.1 hn with rfl | hn
    · rw [if_neg (by rw [show memB (tgts ms) n.f0 = false from (memB_no _ _).2 h'.1]; decide), if_pos rfl]
    · rw [if_pos ((memB_iff (tgts ms) n.f0).2 (List.mem_map.2 ⟨n, hn, rfl⟩))]
      exact needsOf_of ms h'.2 n hn
def stuck (l0 : List S48) (pre : List ByteArray) (s : ByteArray) : Bool := memB pre s || (needsOf l0 s).any fun x => !memB pre x
theorem fitsGo_append (l0 : List S48) : ∀ (a b pre : List ByteArray), fitsGo l0 pre (a ++ b) = (fitsGo l0 pre a && fitsGo l0 (pre ++ a) b)
  | [], b, pre => by simp [fitsGo]
  | x :: xs, b, pre => by
    simp only [List.cons_append, fitsGo]
    split
    · rfl
    · rw [fitsGo_append l0 xs b]
      simp
theorem fitsGo_one (l0 : List S48) (pre : List ByteArray) (s : ByteArray) : fitsGo l0 pre [s] = !stuck l0 pre s := by
  simp only [fitsGo]
  unfold stuck
  cases h : (memB pre s || (needsOf l0 s).any fun x => !memB pre x) <;> rfl
theorem fits_targets (l0 : List S48) (h : refGo [] l0 = true) : ∀ (suf pre : List S48), l0 = pre ++ suf → fitsGo l0 (names0 pre) (names0 suf) = true
  | [], pre, e => rfl
  | n :: ns, pre, e => by
    have hnd : (names0 l0).Nodup := by have := refGo_nodup l0 [] (by simp) h; simpa using this
    have hs := refGo_split pre [] n ns (by rw [← e]; exact h)
    rw [List.nil_append] at hs
    have ih := fits_targets l0 h ns (pre ++ [n]) (by rw [e]; simp)
    have hn : needsOf l0 n.f0 = n.f1 := needsOf_of l0 hnd n (by rw [e]; simp)
    have e1 : stuck l0 (names0 pre) n.f0 = false := by
      unfold stuck
      rw [(memB_no _ _).2 hs.1, hn, mem_all hs.2]
      rfl
    rw [show names0 (n :: ns) = [n.f0] ++ names0 ns from rfl, fitsGo_append, fitsGo_one, e1, Bool.not_false, Bool.true_and]
    rw [show names0 (pre ++ [n]) = names0 pre ++ [n.f0] by unfold names0; simp] at ih
    exact ih
theorem next_mem {l0 : List S48} {out : List ByteArray} {y : ByteArray} (h : y ∈ nextR (setR out) l0) : ∃ n ∈ l0, n.f0 = y ∧ y ∉ out ∧ ∀ x ∈ n.f1, x ∈ out := by
  unfold nextR at h
  obtain ⟨n, hn, rfl⟩ := List.mem_map.1 h
  obtain ⟨hn1, hn2⟩ := List.mem_filter.1 hn
  unfold mayN at hn2
  simp only [setR_is, Bool.and_eq_true, Bool.not_eq_true'] at hn2
  exact ⟨n, hn1, rfl, (memB_no _ _).1 hn2.1, all_mem hn2.2⟩
theorem next_stuck {l0 : List S48} (hnd : (names0 l0).Nodup) {out : List ByteArray} {y : ByteArray} (h : y ∈ nextR (setR out) l0) : stuck l0 out y = false ∧ y ∈ tgts l0 := by
  obtain ⟨n, hn, rfl, h1, h2⟩ := next_mem h
  refine ⟨?_, List.mem_map.2 ⟨n, hn, rfl⟩⟩
  unfold stuck
  rw [(memB_no _ _).2 h1, needsOf_of l0 hnd n hn, mem_all h2]
  rfl
theorem fitsGo_nodup (l0 : List S48) : ∀ (l pre : List ByteArray), pre.Nodup → fitsGo l0 pre l = true → (pre ++ l).Nodup
  | [], pre, h, _ => by rw [List.append_nil]; exact h
  | x :: xs, pre, h, hf => by
    simp only [fitsGo] at hf
    split at hf
    · cases hf
    · rename_i hc
      have hx : x ∉ pre := by
        rw [← memB_no]
        cases hm : memB pre x with
        | false => rfl
        | true => rw [hm] at hc; simp at hc
      have h1 : (pre ++ [x]).Nodup := by
        rw [List.nodup_append]
        refine ⟨h, by simp, fun a ha b hb => ?_⟩
        rw [List.mem_singleton] at hb
        subst hb
        exact fun e => hx (by rw [← e]; exact ha)
      have := fitsGo_nodup l0 xs _ h1 hf
      rwa [List.append_assoc] at this
theorem next_none (l0 : List S48) (h : refGo [] l0 = true) (l : List ByteArray) (hl : l.Nodup) (hs : ∀ x ∈ l, x ∈ tgts l0) : (nextR (setR l) l0).length = 0 ↔ l.length = l0.length := by
  have hnd : (names0 l0).Nodup := by have := refGo_nodup l0 [] (by simp) h; simpa using this
  have hlen : (names0 l0).length = l0.length := by unfold names0; rw [List.length_map]
  have hle := nodup_len l (names0 l0) hl hs
  constructor
  · intro hz
    have hnil : nextR (setR l) l0 = [] := List.eq_nil_of_length_eq_zero hz
    have hall : ∀ (suf pre : List S48), l0 = pre ++ suf → (∀ x ∈ names0 pre, x ∈ l) → ∀ x ∈ names0 l0, x ∈ l := by
      intro suf
      induction suf with
      | nil => intro pre e hp x hx; rw [e, List.append_nil] at hx; exact hp x hx
      | cons n ns ih =>
        intro pre e hp
        refine ih (pre ++ [n]) (by rw [e]; simp) (fun x hx => ?_)
        rw [show names0 (pre ++ [n]) = names0 pre ++ [n.f0] by unfold names0; simp] at hx
        rcases List.mem_append.1 hx with hx | hx
        · exact hp x hx
        · rw [List.mem_singleton] at hx
          subst hx
          have hsp := refGo_split pre [] n ns (by rw [← e]; exact h)
          rw [List.nil_append] at hsp
          rw [← memB_iff]
          cases hm : memB l n.f0 with
          | true => rfl
          | false =>
            have : n.f0 ∈ nextR (setR l) l0 := by
              unfold nextR
              refine List.mem_map.2 ⟨n, List.mem_filter.2 ⟨by rw [e]; simp, ?_⟩, rfl⟩
              unfold mayN
              simp only [setR_is]
              rw [hm, mem_all (fun x hx => hp x (hsp.2 x hx))]
              rfl
            rw [hnil] at this
            cases this
    have h2 := nodup_len (names0 l0) l hnd (hall l0 [] rfl (fun x hx => by cases hx))
    omega
  · intro he
    have hall : ∀ n ∈ l0, n.f0 ∈ l := by
      intro n hn
      rw [← memB_iff]
      cases hm : memB l n.f0 with
      | true => rfl
      | false =>
        have h2 := nodup_len (n.f0 :: l) (names0 l0) (by rw [List.nodup_cons]; exact ⟨(memB_no _ _).1 hm, hl⟩) (fun x hx => by
          rcases List.mem_cons.1 hx with rfl | hx
          · exact List.mem_map.2 ⟨n, hn, rfl⟩
          · exact hs x hx)
        rw [List.length_cons] at h2
        omega
    have : l0.filter (mayN (setR l)) = [] := by
      rw [List.filter_eq_nil_iff]
      intro n hn
      unfold mayN
      simp only [setR_is]
      rw [(memB_iff _ _).2 (hall n hn)]
      simp
    unfold nextR
    rw [this]
    rfl
theorem plan_zero {l0 : List S48} {l1 : List ByteArray} (h : planR l0 l1 = 0) : refGo [] l0 = true := by
  rw [plan_ref] at h
  unfold refR at h
  repeat' split at h
  all_goals first | cases h | skip
  unfold nodeE at h
  split at h
  · rename_i h1
    rw [Bool.and_eq_true] at h1
    exact h1.1
  · cases h
theorem asked_of {l0 : List S48} {l1 l : List ByteArray} (h : planR l0 l1 = 0) (hl : l.length ≤ 512) (hs : ∀ x ∈ l, x ∈ tgts l0) : askedR l0 l1 l = 0 := by
  unfold askedR
  have h2 : l.all nameOk = true := by
    rw [List.all_eq_true]
    intro x hx
    obtain ⟨n, hn, rfl⟩ := List.mem_map.1 (hs x hx)
    exact (planR_ok h).2.2.2 n hn
  rw [if_pos h, if_neg (by omega), if_pos h2, mem_all hs]
  rfl
theorem fits_choose (l0 : List S48) (hnd : (names0 l0).Nodup) : ∀ (cs : List Int) (out : List ByteArray), fitsGo l0 [] out = true → (∀ x ∈ out, x ∈ tgts l0) →
    fitsGo l0 [] (chooseGo l0 cs out) = true ∧ (∀ x ∈ chooseGo l0 cs out, x ∈ tgts l0) ∧ (chooseGo l0 cs out).length ≤ out.length + cs.length
  | [], out, h, hs => ⟨h, hs, by simp [chooseGo]⟩
  | c :: cs, out, h, hs => by
    simp only [chooseGo]
    split
    · exact ⟨h, hs, by omega⟩
    · rename_i hz
      have hpk := pickR_lt c (nextR (setR out) l0).length (by omega)
      have hy := rd_mem hpk.1 hpk.2
      have hst := next_stuck hnd hy
      obtain ⟨y, hye⟩ : ∃ y, rdOf ByteArray.empty (nextR (setR out) l0) (pickR c (nextR (setR out) l0).length) = y := ⟨_, rfl⟩
      rw [hye] at hst ⊢
      have ih := fits_choose l0 hnd cs (out ++ [y]) (by rw [fitsGo_append, h, List.nil_append, fitsGo_one, hst.1]; rfl) (fun x hx => by
        rcases List.mem_append.1 hx with hx | hx
        · exact hs x hx
        · rw [List.mem_singleton] at hx; subst hx; exact hst.2)
      refine ⟨ih.1, ih.2.1, ?_⟩
      have := ih.2.2
      simp only [List.length_append, List.length_cons, List.length_nil] at this ⊢
      omega
end Go.Proofs.Ytedgkcdofiildaa.P
