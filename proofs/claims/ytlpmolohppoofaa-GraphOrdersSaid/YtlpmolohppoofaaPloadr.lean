/- A make: the document's check. -/
import Derived.Test.YtlpmolohppoofaaPload
import Derived.Test.YtlpmolohppoofaaPmacr
set_option linter.unusedVariables false
set_option linter.unusedSimpArgs false
set_option linter.unnecessarySimpa false
set_option linter.deprecated false
namespace Go.Proofs.Ytlpmolohppoofaa.F
open Go Go.RowKit Go.Proofs.Ytlpmolohppoofaa.Sl
theorem take_snoc {α : Type} {l : List α} {j : Nat} (h : j < l.length) : l.take (j + 1) = l.take j ++ [l[j]] := by rw [List.take_add_one, List.getElem?_eq_getElem h]; rfl
theorem onceB_of : ∀ (l pre : List ByteArray), (∀ x, x ∈ l → ¬ x ∈ pre) → l.Nodup → onceB pre l = true
  | [], _, _, _ => rfl
  | x :: xs, pre, h, hn => by
    obtain ⟨h1, h2⟩ := List.nodup_cons.1 hn
    simp only [onceB, Bool.and_eq_true, Bool.not_eq_true']
    refine ⟨Bool.eq_false_iff.2 fun k => h x (by simp) (memB_iff.1 k), onceB_of xs _ (fun y hy k => ?_) h2⟩
    rcases List.mem_append.1 k with k | k
    · exact h y (List.mem_cons_of_mem _ hy) k
    · rw [List.mem_singleton.1 k] at hy
      exact h1 hy
theorem once_iff (l : List ByteArray) : onceB [] l = true ↔ l.Nodup := ⟨fun h => (onceB_nodup l [] h).2, fun h => onceB_of l [] (fun x _ k => by cases k) h⟩
/-! ### lines -/
theorem lines_loop (l : List ByteArray) (hl : lsFits l) : ∀ j : Nat, j ≤ l.length → smithyref09_lines.l0.v l (j : Int) = some (bif (l.drop j).all (fun s => decide (s.size ≤ 65536)) then .ok () else .error false) := fun j hj =>
  up j hj (by rw [smithyref09_lines.l0.v_eq, lss_nat, List.drop_length, decide_eq_false (by simp)]; rfl) (fun j hj ih => by
    have hn := hl.n
    have e : icmp .gtr (l[j].size : Int) (65536 : Int) = !decide (l[j].size ≤ 65536) := by
      rw [show icmp .gtr (l[j].size : Int) (65536 : Int) = _ from gtr_nat _ 65536, Bool.eq_iff_iff]; simp
    rw [smithyref09_lines.l0.v_eq, lss_nat, decide_eq_true hj, cond_true, idx_nat hj, Option.bind_some, wrap_nat (by omega), ih, drop_cons hj, List.all_cons, e]
    cases decide (l[j].size ≤ 65536) <;> rfl)
theorem lines_v (l : List ByteArray) (hl : lsFits l) (has : Bool) : smithyref09_lines.v l has = some (recB l has) := by
  rw [smithyref09_lines.v_eq, show icmp .gtr (l.length : Int) (64 : Int) = _ from gtr_nat _ 64, show icmp .gtr (l.length : Int) (0 : Int) = _ from gtr_nat _ 0, show smithyref09_lines.l0.v l (0 : Int) = _ from lines_loop l hl 0 (Nat.zero_le _), List.drop_zero]
  unfold recB
  have g1 : decide (64 < l.length) = !decide (l.length ≤ 64) := by rw [Bool.eq_iff_iff]; simp
  have g2 : decide (0 < l.length) = !decide (l.length = 0) := by cases l.length <;> simp
  rw [g1, g2]
  cases decide (l.length ≤ 64) <;> cases has <;> cases decide (l.length = 0) <;> cases (l.all fun s => decide (s.size ≤ 65536)) <;> rfl
/-! ### lists in order -/
def strictB : Option ByteArray → List ByteArray → Bool
  | _, [] => true
  | none, x :: xs => nameOk x && strictB (some x) xs
  | some p, x :: xs => nameOk x && decide (Less p x) && strictB (some x) xs
def prevS (l : List ByteArray) (j : Nat) : Option ByteArray := if j = 0 then none else l[j - 1]?
theorem listed_loop (l : List ByteArray) (hl : lsFits l) : ∀ j : Nat, j ≤ l.length → smithyref09_listed.l0.v l (j : Int) = some (bif strictB (prevS l j) (l.drop j) then .ok () else .error false) := fun j hj =>
  up j hj (by
    rw [smithyref09_listed.l0.v_eq, lss_nat, List.drop_length, decide_eq_false (by simp)]
    cases prevS l l.length <;> rfl) (fun j hj ih => by
    have hn := hl.n
    have e0 : icmp .gtr (j : Int) (0 : Int) = decide (0 < j) := gtr_nat j 0
    have hp : prevS l (j + 1) = some l[j] := by unfold prevS; rw [if_neg (Nat.succ_ne_zero j), Nat.add_sub_cancel, List.getElem?_eq_getElem hj]
    rw [smithyref09_listed.l0.v_eq, lss_nat, decide_eq_true hj, cond_true, idx_nat hj, Option.bind_some, is_v _ (hl.s _ (List.getElem_mem hj)), Option.bind_some, wrap_nat (by omega), ih, drop_cons hj, e0, hp]
    rcases Nat.eq_zero_or_pos j with h0 | h0
    · subst h0
      show _ = some (bif nameOk l[0] && strictB (some l[0]) (l.drop 1) then (Except.ok () : Except Bool Unit) else .error false)
      cases nameOk l[0] <;> rfl
    · have hj1 : j - 1 < l.length := by omega
      have hq : prevS l j = some l[j - 1] := by unfold prevS; rw [if_neg (by omega), List.getElem?_eq_getElem hj1]
      rw [decide_eq_true h0, cond_true, pred1 h0 (by simp only [LIM]; omega), idx_nat hj1, Option.bind_some, scmp_geq, hq, strictB]
      cases nameOk l[j] <;> cases decide (Less l[j - 1] l[j]) <;> rfl)
theorem listed_v (l : List ByteArray) (hl : lsFits l) : smithyref09_listed.v l = some (strictB none l && decide (l.length ≤ 512)) := by
  rw [smithyref09_listed.v_eq, show smithyref09_listed.l0.v l (0 : Int) = _ from listed_loop l hl 0 (Nat.zero_le _), List.drop_zero, show prevS l 0 = none from rfl, show icmp .leq (l.length : Int) (512 : Int) = _ from leq_nat _ 512]
  cases strictB none l <;> rfl
theorem strict_some : ∀ (l : List ByteArray) (p : ByteArray), strictB (some p) l = true ↔ l.all nameOk = true ∧ (p :: l).Pairwise Less
  | [], p => by simp [strictB]
  | x :: xs, p => by
    rw [strictB, Bool.and_eq_true, Bool.and_eq_true, decide_eq_true_eq, strict_some xs x, List.all_cons, Bool.and_eq_true]
    constructor
    · rintro ⟨⟨h1, h2⟩, h3, h4⟩
      refine ⟨⟨h1, h3⟩, List.pairwise_cons.2 ⟨fun y hy => ?_, h4⟩⟩
      rcases List.mem_cons.1 hy with rfl | hy
      · exact h2
      · exact h2.trans ((List.pairwise_cons.1 h4).1 y hy)
    · rintro ⟨⟨h1, h3⟩, h4⟩
      obtain ⟨h5, h6⟩ := List.pairwise_cons.1 h4
      exact ⟨⟨h1, h5 x (by simp)⟩, h3, h6⟩
theorem strict_none (l : List ByteArray) : strictB none l = true ↔ l.all nameOk = true ∧ l.Pairwise Less := by
  cases l with
  | nil => simp [strictB]
  | cons x xs => rw [strictB, Bool.and_eq_true, strict_some, List.all_cons, Bool.and_eq_true, and_assoc]
theorem downB_iff (l : List ByteArray) : ∀ n, downB l n = true ↔ ∀ i, i < n → ¬ Less (l.getD (i + 1) ByteArray.empty) (l.getD i ByteArray.empty)
  | 0 => ⟨fun _ i h => absurd h (Nat.not_lt_zero _), fun _ => rfl⟩
  | n + 1 => by
    rw [downB, Bool.and_eq_true, downB_iff l n]
    simp only [Bool.not_eq_true', decide_eq_false_iff_not]
    constructor
    · rintro ⟨h1, h2⟩ i hi
      rcases Nat.lt_or_ge i n with h | h
      · exact h2 i h
      · have : i = n := by omega
        subst this; exact h1
    · intro h
      exact ⟨h n (by omega), fun i hi => h i (by omega)⟩
theorem pairwise_adj : ∀ (l : List ByteArray), (∀ i (h : i + 1 < l.length), Less l[i] l[i + 1]) → l.Pairwise Less
  | [], _ => List.Pairwise.nil
  | [x], _ => List.pairwise_singleton _ _
  | x :: y :: l, h => by
    have ih := pairwise_adj (y :: l) (fun i hi => h (i + 1) (by simp at hi ⊢; omega))
    refine List.pairwise_cons.2 ⟨fun z hz => ?_, ih⟩
    have h0 : Less x y := h 0 (by simp)
    rcases List.mem_cons.1 hz with rfl | hz
    · exact h0
    · exact h0.trans ((List.pairwise_cons.1 ih).1 z hz)
theorem getD_eq (l : List ByteArray) (i : Nat) (h : i < l.length) : l.getD i ByteArray.empty = l[i] := by simp [List.getD, List.getElem?_eq_getElem h]
theorem listB_eq (l : List ByteArray) : listB l = (strictB none l && decide (l.length ≤ 512)) := by
  rw [Bool.eq_iff_iff]
  unfold listB
  simp only [Bool.and_eq_true, strict_none, once_iff, downB_iff]
  constructor
  · rintro ⟨⟨⟨h1, h2⟩, h3⟩, h4⟩
    refine ⟨⟨h2, pairwise_adj l fun i hi => ?_⟩, h1⟩
    have h5 := h3 i (by omega)
    rw [getD_eq l (i + 1) hi, getD_eq l i (by omega)] at h5
    have h6 : l[i] ≠ l[i + 1] := List.pairwise_iff_getElem.1 h4 i (i + 1) (by omega) hi (by omega)
    by_cases h7 : Less l[i] l[i + 1]
    · exact h7
    · exact absurd (Less.tri h7 h5) h6
  · rintro ⟨⟨h2, h3⟩, h1⟩
    refine ⟨⟨⟨h1, h2⟩, fun i hi => ?_⟩, h3.imp fun h => Less.ne h⟩
    rw [getD_eq l (i + 1) (by omega), getD_eq l i (by omega)]
    exact Less.asymm (List.pairwise_iff_getElem.1 h3 i (i + 1) (by omega) (by omega) (by omega))
/-! ### suffixes -/
theorem indexAny_none (chars : List UInt8) : ∀ l : List UInt8, Lib.indexAny l chars = -1 ↔ (l.all fun b => !chars.contains b) = true
  | [] => by simp [Lib.indexAny]
  | b :: l => by
    have ih := indexAny_none chars l
    have hge := Lib.indexAny_ge chars l
    rw [List.all_cons, Bool.and_eq_true, ← ih]
    rw [show Lib.indexAny (b :: l) chars = if chars.contains b then 0 else if Lib.indexAny l chars == -1 then -1 else Lib.indexAny l chars + 1 from rfl]
    cases h : chars.contains b
    · by_cases h2 : Lib.indexAny l chars = -1
      · simp [h2]
      · have h3 : ¬ (Lib.indexAny l chars + 1 = -1) := by omega
        simp [h2, h3]
    · simp
theorem containsAny_all (l chars : List UInt8) : Lib.containsAny l chars = !(l.all fun b => !chars.contains b) := by
  have h := indexAny_none chars l
  have hge := Lib.indexAny_ge chars l
  unfold Lib.containsAny
  rw [Bool.eq_iff_iff]
  simp only [decide_eq_true_eq, Bool.not_eq_true', ← Bool.not_eq_true, ← h]
  omega
theorem rsuf_loop (s : ByteArray) (hs : s.size ≤ LIM) : ∀ j : Nat, j ≤ s.data.toList.length → smithyref08_Suffix.l0.v s (j : Int) = some (bif (s.data.toList.drop j).all (fun b => ![(46 : UInt8), 47].contains b) then .ok () else .error false) := fun j hj =>
  up j hj (by rw [smithyref08_Suffix.l0.v_eq, lss_nat, List.drop_length, decide_eq_false (by simp)]; rfl) (fun j hj ih => by
    have hj' : j < s.size := by simpa using hj
    rw [smithyref08_Suffix.l0.v_eq, lss_nat, decide_eq_true hj', cond_true, bidx_nat hj', Option.bind_some, Option.bind_some, wrap_nat (by simp [LIM] at hs; omega), ih, drop_cons hj, List.all_cons, show icmp .eql ((s.data.toList[j].toNat : Nat) : Int) (46 : Int) = _ from eq_byte' _ 46 (by omega), show icmp .eql ((s.data.toList[j].toNat : Nat) : Int) (47 : Int) = _ from eq_byte' _ 47 (by omega)]
    have e : [(46 : UInt8), 47].contains s.data.toList[j] = (decide (s.data.toList[j] = UInt8.ofNat 46) || decide (s.data.toList[j] = UInt8.ofNat 47)) := by
      rw [Bool.eq_iff_iff]; simp
    rw [e]
    cases decide (s.data.toList[j] = UInt8.ofNat 46) <;> cases decide (s.data.toList[j] = UInt8.ofNat 47) <;> rfl)
theorem rsuffix_v (s : ByteArray) (hs : s.size ≤ LIM) : smithyref08_Suffix.v s = some (sufB s) := by
  have hcut : (s.extract 1 s.size).data.toList = s.data.toList.drop 1 := by
    rw [ByteArray.data_extract, Array.toList_extract]
    exact List.take_of_length_le (by simp)
  unfold sufB
  rw [containsAny_all, hcut, Bool.not_not]
  by_cases h1 : 1 < s.size
  · have h0 : 0 < s.size := by omega
    have hz : 0 < s.data.toList.length := by simpa using h0
    rw [smithyref08_Suffix.v_eq, show smithyref08_Suffix.l0.v s (1 : Int) = _ from rsuf_loop s hs 1 (by simp; omega), show icmp .gtr (s.size : Int) (1 : Int) = _ from gtr_nat _ 1, decide_eq_true h1, show bidx s (0 : Int) = _ from bidx_nat h0, Option.bind_some, cond_true, Option.bind_some, show icmp .eql ((s.data.toList[0].toNat : Nat) : Int) (46 : Int) = _ from eq_byte' _ 46 (by omega), name_v _ hs, List.getElem?_eq_getElem hz]
    simp only [Option.some.injEq, Option.bind_some]
    cases nameOk s <;> cases decide (s.data.toList[0] = UInt8.ofNat 46) <;> cases ((s.data.toList.drop 1).all fun b => ![(46 : UInt8), 47].contains b) <;> rfl
  · rw [decide_eq_false h1, Bool.and_false, Bool.false_and, Bool.false_and, smithyref08_Suffix.v_eq, smithyref08_Suffix.l0.v_eq, show icmp .lss (1 : Int) (s.size : Int) = _ from lss_nat 1 _, decide_eq_false h1, show icmp .gtr (s.size : Int) (1 : Int) = _ from gtr_nat _ 1, decide_eq_false h1]
    rfl
def sufsB : List ByteArray → List ByteArray → Bool
  | _, [] => true
  | pre, x :: xs => sufB x && !memB pre x && sufsB (pre ++ [x]) xs
theorem sufsB_eq : ∀ (l pre : List ByteArray), sufsB pre l = (onceB pre l && l.all sufB)
  | [], _ => rfl
  | x :: xs, pre => by
    rw [sufsB, onceB, List.all_cons, sufsB_eq xs]
    cases sufB x <;> cases memB pre x <;> cases onceB (pre ++ [x]) xs <;> cases xs.all sufB <;> rfl
theorem rspec_loop (s : Special) (hs : specFits s) : ∀ j : Nat, j ≤ s.Suffixes.length → smithyref09_special.l0.v s (j : Int) = some (bif sufsB (s.Suffixes.take j) (s.Suffixes.drop j) then .ok () else .error false) := fun j hj =>
  up j hj (by rw [smithyref09_special.l0.v_eq, lss_nat, List.drop_length, decide_eq_false (by simp)]; rfl) (fun j hj ih => by
    have hn := hs.a.n
    rw [smithyref09_special.l0.v_eq, lss_nat, decide_eq_true hj, cond_true, idx_nat hj, Option.bind_some, rsuffix_v _ (hs.a.s _ (List.getElem_mem hj)), Option.bind_some, sub_nat (by omega), Option.bind_some, has_v _ _ (by simp only [LIM, List.length_take]; omega), Option.bind_some, wrap_nat (by omega), ih, drop_cons hj, sufsB, take_snoc hj]
    cases sufB s.Suffixes[j] <;> cases memB (s.Suffixes.take j) s.Suffixes[j] <;> rfl)
theorem rspecial_v (s : Special) (hs : specFits s) : smithyref09_special.v s = some (specB s) := by
  rw [smithyref09_special.v_eq, show icmp .gtr (s.Suffixes.length : Int) (32 : Int) = _ from gtr_nat _ 32, show smithyref09_special.l0.v s (0 : Int) = _ from rspec_loop s hs 0 (Nat.zero_le _), List.take_zero, List.drop_zero, sufsB_eq, listed_v _ hs.b, listed_v _ hs.c, listed_v _ hs.d, listed_v _ hs.e, lines_v _ hs.f, ← listB_eq, ← listB_eq, ← listB_eq, ← listB_eq]
  unfold specB
  have g : decide (32 < s.Suffixes.length) = !decide (s.Suffixes.length ≤ 32) := by rw [Bool.eq_iff_iff]; simp
  rw [g]
  cases decide (s.Suffixes.length ≤ 32) <;> cases onceB [] s.Suffixes <;> cases s.Suffixes.all sufB <;> cases listB s.Phony <;> cases listB s.Precious <;> cases listB s.Ignore <;> cases listB s.Silent <;> rfl
/-! ### inference rules -/
theorem enc2_inj {a b a' b' : ByteArray} (h1 : a.size ≤ LIM) (h2 : b.size ≤ LIM) (h3 : a'.size ≤ LIM) (h4 : b'.size ≤ LIM) (h : enc2 (a, b) = enc2 (a', b')) : a = a' ∧ b = b' := by
  have hk : keyBytes [.string a.data.toList, .string b.data.toList] = keyBytes [.string a'.data.toList, .string b'.data.toList] := by
    unfold enc2 at h
    simpa using h
  have hw : ∀ x : ByteArray, x.size ≤ LIM → x.data.toList.length ≤ maxLen := fun x hx => by
    simp only [LIM] at hx
    have : x.data.toList.length = x.size := by simp
    unfold maxLen; omega
  have e := keyBytes_inj (l := [.string a.data.toList, .string b.data.toList]) (l' := [.string a'.data.toList, .string b'.data.toList]) ⟨trivial, trivial, trivial⟩ (fun x hx => by
    simp only [List.mem_cons, List.not_mem_nil, or_false] at hx
    rcases hx with rfl | rfl
    · exact hw a h1
    · exact hw b h2) (fun x hx => by
    simp only [List.mem_cons, List.not_mem_nil, or_false] at hx
    rcases hx with rfl | rfl
    · exact hw a' h3
    · exact hw b' h4) hk
  simp only [List.cons.injEq, Lit.string.injEq, and_true] at e
  have hx : ∀ x y : ByteArray, x.data.toList = y.data.toList → x = y := fun x y k => toList_inj (by rw [toList_data, toList_data]; exact k)
  exact ⟨hx _ _ e.1, hx _ _ e.2⟩
def prs (l : List Infer) : List (ByteArray × ByteArray) := l.map fun x => (x.From, x.To)
theorem memP_enc (l : List Infer) (hf : ∀ x, x ∈ l → inferFits x) (y : Infer) (hy : inferFits y) : memB ((prs l).map enc2) (enc2 (y.From, y.To)) = memP (prs l) (y.From, y.To) := by
  rw [Bool.eq_iff_iff, memB_iff]
  unfold memP prs
  simp only [List.map_map, List.mem_map, List.any_eq_true, Bool.and_eq_true, decide_eq_true_eq]
  constructor
  · rintro ⟨x, hx, e⟩
    have := hf x hx
    have h := enc2_inj this.f this.t hy.f hy.t e
    exact ⟨_, ⟨x, hx, rfl⟩, h.1, h.2⟩
  · rintro ⟨_, ⟨x, hx, rfl⟩, h1, h2⟩
    exact ⟨x, hx, by show enc2 (x.From, x.To) = _; rw [show x.From = y.From from h1, show x.To = y.To from h2]⟩
theorem rinf_l1 (x : Infer) (l : List Infer) (hl : l.length ≤ LIM) : ∀ j : Nat, j ≤ l.length → smithyref09_infers.l1.v x l (j : Int) = some (bif memP (prs (l.drop j)) (x.From, x.To) then .error false else .ok ()) := fun j hj =>
  up j hj (by rw [smithyref09_infers.l1.v_eq, lss_nat, List.drop_length, decide_eq_false (by simp)]; rfl) (fun j hj ih => by
    rw [smithyref09_infers.l1.v_eq, lss_nat, decide_eq_true hj, cond_true, idx_nat hj, Option.bind_some, wrap_nat (by simp [LIM] at hl; omega), ih, drop_cons hj, scmp_eql, scmp_eql]
    show _ = some (bif ((decide (l[j].From = x.From) && decide (l[j].To = x.To)) || memP (prs (l.drop (j + 1))) (x.From, x.To)) then (Except.error false : Except Bool Unit) else .ok ())
    cases decide (l[j].From = x.From) <;> cases decide (l[j].To = x.To) <;> rfl)
theorem prs_app (a b : List Infer) : prs (a ++ b) = prs a ++ prs b := List.map_append
theorem rinf_loop (l : List Infer) (suf : List ByteArray) (hl : l.length ≤ LIM) (hf : ∀ x, x ∈ l → inferFits x) (hs : lsFits suf) : ∀ j : Nat, j ≤ l.length → smithyref09_infers.l0.v l suf (j : Int) = some (bif infersB suf (prs (l.take j)) (l.drop j) then .ok () else .error false) := fun j hj =>
  up j hj (by rw [smithyref09_infers.l0.v_eq, lss_nat, List.drop_length, decide_eq_false (by simp)]; rfl) (fun j hj ih => by
    have hx := hf _ (List.getElem_mem hj)
    have hl' := hl
    simp only [LIM] at hl'
    rw [smithyref09_infers.l0.v_eq, lss_nat, decide_eq_true hj, cond_true, idx_nat hj, Option.bind_some, sub_nat (by omega), Option.bind_some, show smithyref09_infers.l1.v l[j] (l.take j) (0 : Int) = _ from rinf_l1 l[j] (l.take j) (by rw [List.length_take]; omega) 0 (Nat.zero_le _), List.drop_zero, wrap_nat (by omega), ih, drop_cons hj, scmp_neq, infersB, memP_enc (l.take j) (fun x hx => hf x (List.mem_of_mem_take hx)) l[j] hx, take_snoc hj, prs_app]
    simp only [has_v _ _ hs.lim, lines_v _ hx.l, Option.bind_some, inferB]
    rw [show prs [l[j]] = [(l[j].From, l[j].To)] from rfl]
    cases memP (prs (l.take j)) (l[j].From, l[j].To) <;> cases memB suf l[j].From <;> cases decide (l[j].To = (⟨#[]⟩ : ByteArray)) <;> cases memB suf l[j].To <;> cases recB l[j].Recipe true <;> rfl)
theorem rinfers_v (l : List Infer) (suf : List ByteArray) (hl : l.length ≤ LIM) (hf : ∀ x, x ∈ l → inferFits x) (hs : lsFits suf) : smithyref09_infers.v l suf = some (infersB suf [] l && decide (l.length ≤ 512)) := by
  rw [smithyref09_infers.v_eq, show icmp .gtr (l.length : Int) (512 : Int) = _ from gtr_nat _ 512, show smithyref09_infers.l0.v l suf (0 : Int) = _ from rinf_loop l suf hl hf hs 0 (Nat.zero_le _), List.take_zero, List.drop_zero, show prs [] = [] from rfl]
  have g : decide (512 < l.length) = !decide (l.length ≤ 512) := by rw [Bool.eq_iff_iff]; simp
  rw [g]
  cases decide (l.length ≤ 512) <;> cases infersB suf [] l <;> rfl
/-! ### all of it -/
def needB : List ByteArray → List ByteArray → Bool
  | _, [] => true
  | pre, x :: xs => nameOk x && !memB pre x && needB (pre ++ [x]) xs
theorem needB_eq : ∀ (l pre : List ByteArray), needB pre l = (onceB pre l && l.all nameOk)
  | [], _ => rfl
  | x :: xs, pre => by
    rw [needB, onceB, List.all_cons, needB_eq xs]
    cases nameOk x <;> cases memB pre x <;> cases onceB (pre ++ [x]) xs <;> cases xs.all nameOk <;> rfl
theorem right_l1 (r : Rule) (hr : ruleFits r) : ∀ j : Nat, j ≤ r.Needs.length → smithyref09_Right.l1.v r (j : Int) = some (bif needB (r.Needs.take j) (r.Needs.drop j) then .ok () else .error false) := fun j hj =>
  up j hj (by rw [smithyref09_Right.l1.v_eq, lss_nat, List.drop_length, decide_eq_false (by simp)]; rfl) (fun j hj ih => by
    have hn := hr.n.n
    rw [smithyref09_Right.l1.v_eq, lss_nat, decide_eq_true hj, cond_true, idx_nat hj, Option.bind_some, is_v _ (hr.n.s _ (List.getElem_mem hj)), Option.bind_some, sub_nat (by omega), Option.bind_some, has_v _ _ (by simp only [LIM, List.length_take]; omega), Option.bind_some, wrap_nat (by omega), ih, drop_cons hj, needB, take_snoc hj]
    cases nameOk r.Needs[j] <;> cases memB (r.Needs.take j) r.Needs[j] <;> rfl)
theorem right_l2 (r : Rule) (l : List Rule) (hl : l.length ≤ LIM) : ∀ j : Nat, j ≤ l.length → smithyref09_Right.l2.v r l (j : Int) = some (bif memB ((l.drop j).map (·.Target)) r.Target then .error false else .ok ()) := fun j hj =>
  up j hj (by rw [smithyref09_Right.l2.v_eq, lss_nat, List.drop_length, decide_eq_false (by simp)]; rfl) (fun j hj ih => by
    rw [smithyref09_Right.l2.v_eq, lss_nat, decide_eq_true hj, cond_true, idx_nat hj, Option.bind_some, wrap_nat (by simp [LIM] at hl; omega), ih, drop_cons hj, scmp_eql, List.map_cons, memB_cons]
    cases decide (l[j].Target = r.Target) <;> rfl)
theorem right_loop (m : Make) (hm : makeFits m) : ∀ j : Nat, j ≤ m.Rules.length → ∀ b : Bool, smithyref09_Right.l0.v m (b, (j : Int)) = some (bif rulesB ((m.Rules.take j).map (·.Target)) (m.Rules.drop j) then .ok (b || (m.Rules.drop j).any fun r => decide (r.Target = m.First)) else .error false) := fun j hj =>
  up j hj (fun b => by
    rw [smithyref09_Right.l0.v_eq, lss_nat, List.drop_length, decide_eq_false (by simp)]
    cases b <;> rfl) (fun j hj ih b => by
    have hx := hm.rs _ (List.getElem_mem hj)
    have hl := hm.rl
    have hl' := hl
    simp only [LIM] at hl'
    have hrec : (bif b then some true else some (scmp .eql m.Rules[j].Target m.First)) = some (b || decide (m.Rules[j].Target = m.First)) := by
      rw [scmp_eql]; cases b <;> rfl
    have g : decide (64 < m.Rules[j].Needs.length) = !decide (m.Rules[j].Needs.length ≤ 64) := by rw [Bool.eq_iff_iff]; simp
    rw [smithyref09_Right.l0.v_eq]
    simp only
    rw [lss_nat, decide_eq_true hj, cond_true, idx_nat hj, Option.bind_some, is_v _ hx.t, Option.bind_some, show icmp .gtr (m.Rules[j].Needs.length : Int) (64 : Int) = _ from gtr_nat _ 64, lines_v _ hx.l, Option.bind_some, show smithyref09_Right.l1.v m.Rules[j] (0 : Int) = _ from right_l1 _ hx 0 (Nat.zero_le _), List.take_zero, List.drop_zero, sub_nat (by omega)]
    simp only [Option.bind_some]
    rw [show smithyref09_Right.l2.v m.Rules[j] (m.Rules.take j) (0 : Int) = _ from right_l2 _ (m.Rules.take j) (by rw [List.length_take]; omega) 0 (Nat.zero_le _), List.drop_zero, wrap_nat (by omega), hrec]
    simp only [Option.bind_some, ih]
    rw [drop_cons hj, rulesB, ruleB, needB_eq, take_snoc hj, List.map_append, List.any_cons, g]
    rw [show [m.Rules[j]].map (·.Target) = [m.Rules[j].Target] from rfl, ← Bool.or_assoc]
    cases nameOk m.Rules[j].Target <;> cases decide (m.Rules[j].Needs.length ≤ 64) <;> cases recB m.Rules[j].Recipe m.Rules[j].Has <;> cases onceB [] m.Rules[j].Needs <;> cases m.Rules[j].Needs.all nameOk <;> cases memB ((m.Rules.take j).map (·.Target)) m.Rules[j].Target <;> rfl)
theorem right_v (m : Make) (hm : makeFits m) : smithyref09_Right.v m = some (makeB m) := by
  have g : decide (512 < m.Rules.length) = !decide (m.Rules.length ≤ 512) := by rw [Bool.eq_iff_iff]; simp
  rw [smithyref09_Right.v_eq, rmacCheck_v _ hm.ml hm.ms, Option.bind_some, show icmp .gtr (m.Rules.length : Int) (512 : Int) = _ from gtr_nat _ 512, rspecial_v _ hm.sp, Option.bind_some, rinfers_v _ _ hm.il hm.is hm.sp.a, Option.bind_some, scmp_eql, show smithyref09_Right.l0.v m (decide (m.First = (⟨#[]⟩ : ByteArray)), (0 : Int)) = _ from right_loop m hm 0 (Nat.zero_le _) _, List.take_zero, List.drop_zero, g, neq_dec, show ([] : List Rule).map (·.Target) = [] from rfl]
  unfold makeB
  cases decide (macE m.Macros = 0) <;> cases decide (m.Rules.length ≤ 512) <;> cases specB m.Special <;> cases (infersB m.Special.Suffixes [] m.Infers && decide (m.Infers.length ≤ 512)) <;> cases rulesB [] m.Rules <;> rfl
theorem rlist_loop (l : List ByteArray) (hl : lsFits l) : ∀ j : Nat, j ≤ l.length → smithyref02_List.l0.v l (j : Int) = some (bif (l.drop j).all nameOk then .ok () else .error 3) := fun j hj =>
  up j hj (by rw [smithyref02_List.l0.v_eq, lss_nat, List.drop_length, decide_eq_false (by simp)]; rfl) (fun j hj ih => by
    have hn := hl.n
    rw [smithyref02_List.l0.v_eq, lss_nat, decide_eq_true hj, cond_true, idx_nat hj, Option.bind_some, name_v _ (hl.s _ (List.getElem_mem hj)), Option.bind_some, wrap_nat (by omega), ih, drop_cons hj, List.all_cons]
    cases nameOk l[j] <;> rfl)
theorem rlist_v (l : List ByteArray) (hl : lsFits l) : smithyref02_List.v l = some (bif decide (512 < l.length) then 2 else bif l.all nameOk then 0 else 3) := by
  rw [smithyref02_List.v_eq, show icmp .gtr (l.length : Int) (512 : Int) = _ from gtr_nat _ 512, show smithyref02_List.l0.v l (0 : Int) = _ from rlist_loop l hl 0 (Nat.zero_le _), List.drop_zero]
  cases decide (512 < l.length) <;> cases l.all nameOk <;> rfl
end Go.Proofs.Ytlpmolohppoofaa.F
