/- A make: the program's check. -/
import Derived.Test.YtlpmolohppoofaaPmac
set_option linter.unusedVariables false
set_option linter.unusedSimpArgs false
set_option linter.unnecessarySimpa false
set_option linter.deprecated false
namespace Go.Proofs.Ytlpmolohppoofaa.F
open Go Go.RowKit Go.Proofs.Ytlpmolohppoofaa.Sl
structure lsFits (l : List ByteArray) : Prop where
  n : l.length ≤ 8796093021952
  s : ∀ x, x ∈ l → x.size ≤ LIM
theorem lsFits.lim {l : List ByteArray} (h : lsFits l) : l.length ≤ LIM := by have := h.n; simp only [LIM]; omega
structure ruleFits (r : Rule) : Prop where
  t : r.Target.size ≤ LIM
  n : lsFits r.Needs
  l : lsFits r.Recipe
structure inferFits (r : Infer) : Prop where
  f : r.From.size ≤ LIM
  t : r.To.size ≤ LIM
  l : lsFits r.Recipe
structure specFits (s : Special) : Prop where
  a : lsFits s.Suffixes
  b : lsFits s.Phony
  c : lsFits s.Precious
  d : lsFits s.Ignore
  e : lsFits s.Silent
  f : lsFits s.Default
structure makeFits (m : Make) : Prop where
  ml : m.Macros.length ≤ LIM
  ms : ∀ x, x ∈ m.Macros → x.Name.size ≤ LIM
  rl : m.Rules.length ≤ LIM
  rs : ∀ x, x ∈ m.Rules → ruleFits x
  il : m.Infers.length ≤ LIM
  is : ∀ x, x ∈ m.Infers → inferFits x
  sp : specFits m.Special
  fi : m.First.size ≤ LIM
theorem any_not {α : Type} (l : List α) (p : α → Bool) : (l.any fun z => !p z) = !l.all p := by
  induction l with
  | nil => rfl
  | cons x l ih => rw [List.any_cons, List.all_cons, ih, Bool.not_and]
theorem chkn_v (s : ByteArray) (hs : s.size ≤ LIM) : names_Check.v s = some (bif nameOk s then 0 else 3) := by
  rw [check_v s hs]; cases nameOk s <;> rfl
theorem named_v (l : List ByteArray) (hl : lsFits l) (n : Nat) : load_named.v l (n : Int) = some (decide (l.length ≤ n) && l.all nameOk) := by
  rw [load_named.v_eq, leq_nat, any_v l _ (fun z => !nameOk z) (fun z hz => by
    show load_named_1.v z = _
    rw [load_named_1.v_eq, chkn_v z (hl.s z hz), Option.bind_some]
    cases nameOk z <;> rfl) hl.lim]
  rw [any_not]
  cases decide (l.length ≤ n) <;> cases l.all nameOk <;> rfl
def recB (l : List ByteArray) (has : Bool) : Bool := decide (l.length ≤ 64) && (has || decide (l.length = 0)) && l.all fun s => decide (s.size ≤ 65536)
theorem recipe_v (l : List ByteArray) (hl : lsFits l) (has : Bool) : load_recipe.v l has = some (recB l has) := by
  rw [load_recipe.v_eq, show icmp .leq (l.length : Int) (64 : Int) = _ from leq_nat _ 64, show icmp .eql (l.length : Int) (0 : Int) = _ from eql_nat _ 0, any_v l _ (fun z => !decide (z.size ≤ 65536)) (fun z hz => by
    show some (icmp .gtr (z.size : Int) (65536 : Nat)) = _
    rw [gtr_nat]
    congr 1
    rw [Bool.eq_iff_iff]; simp) hl.lim]
  rw [any_not l fun z => decide (z.size ≤ 65536)]
  unfold recB
  cases decide (l.length ≤ 64) <;> cases has <;> cases decide (l.length = 0) <;> cases (l.all fun s => decide (s.size ≤ 65536)) <;> rfl
/-! ### each once -/
def onceB : List ByteArray → List ByteArray → Bool
  | _, [] => true
  | pre, x :: xs => !memB pre x && onceB (pre ++ [x]) xs
def uq : List ByteArray → List ByteArray → List ByteArray
  | acc, [] => acc
  | acc, x :: xs => bif memB acc x then uq acc xs else uq (acc ++ [x]) xs
theorem uq_len : ∀ (l acc : List ByteArray), (uq acc l).length ≤ acc.length + l.length
  | [], acc => by simp [uq]
  | x :: xs, acc => by
    simp only [uq, List.length_cons]
    cases memB acc x
    · have := uq_len xs (acc ++ [x]); simp at this ⊢; omega
    · have := uq_len xs acc; simp at this ⊢; omega
theorem uq_once : ∀ (l acc : List ByteArray), decide ((uq acc l).length = acc.length + l.length) = onceB acc l
  | [], acc => by simp [uq, onceB]
  | x :: xs, acc => by
    rcases Bool.eq_false_or_eq_true (memB acc x) with h | h
    · have := uq_len xs acc
      simp only [uq, onceB, List.length_cons, h, cond_true, Bool.not_true, Bool.false_and]
      exact decide_eq_false (by omega)
    · have := uq_once xs (acc ++ [x])
      simp only [uq, onceB, List.length_cons, h, cond_false, Bool.not_false, Bool.true_and]
      rw [← this]
      simp only [List.length_append, List.length_singleton]
      rw [show acc.length + 1 + xs.length = acc.length + (xs.length + 1) by omega]
theorem unique_loop (l : List ByteArray) (hl : lsFits l) : ∀ j : Nat, j ≤ l.length → ∀ acc : List ByteArray, acc.length ≤ j → names_Unique.l0.v l (acc, (j : Int)) = some (uq acc (l.drop j)) := fun j hj =>
  up j hj (fun acc ha => by
    rw [names_Unique.l0.v_eq, lss_nat, List.drop_length, decide_eq_false (by simp)]; rfl) (fun j hj ih acc ha => by
    have hn := hl.n
    rw [names_Unique.l0.v_eq, lss_nat, decide_eq_true hj, cond_true, idx_nat hj, Option.bind_some, contains_v _ _ (by simp only [LIM]; omega), Option.bind_some, wrap_nat (by omega), drop_cons hj]
    simp only [uq]
    cases memB acc l[j]
    · simp only [Bool.not_false, cond_true, cond_false]
      rw [app_one (by simp only [LIM]; omega), Option.bind_some, Option.bind_some]
      exact ih _ (by simp; omega)
    · simp only [Bool.not_true, cond_true, cond_false, Option.bind_some]
      exact ih _ (by omega))
theorem once_v (l : List ByteArray) (hl : lsFits l) : load_once.v l = some (onceB [] l) := by
  rw [load_once.v_eq, names_Unique.v_eq, show names_Unique.l0.v l (([] : List ByteArray), (0 : Int)) = _ from unique_loop l hl 0 (Nat.zero_le _) [] (Nat.le_refl _), List.drop_zero, Option.bind_some, Option.bind_some, eql_nat, ← uq_once l []]
  simp
theorem onceB_nodup : ∀ (l pre : List ByteArray), onceB pre l = true → (∀ x, x ∈ l → ¬ x ∈ pre) ∧ l.Nodup
  | [], _, _ => ⟨(fun x hx => by cases hx), List.nodup_nil⟩
  | x :: xs, pre, h => by
    simp only [onceB, Bool.and_eq_true, Bool.not_eq_true'] at h
    obtain ⟨h1, h2⟩ := onceB_nodup xs (pre ++ [x]) h.2
    have hx : ¬ x ∈ pre := fun k => by rw [memB_iff.2 k] at h; cases h.1
    refine ⟨fun y hy => ?_, List.nodup_cons.2 ⟨fun k => h1 x k (by simp), h2⟩⟩
    rcases List.mem_cons.1 hy with rfl | hy
    · exact hx
    · exact fun k => h1 y hy (List.mem_append_left _ k)
/-! ### rules -/
def MarksB (m : GM Bool) (l : List ByteArray) : Prop := ∀ x, (m.g x).getD false = memB l x
theorem marksB_put {m : GM Bool} {l : List ByteArray} (h : MarksB m l) (s : ByteArray) : MarksB ⟨m.n + 1, fun t => if t = s then some true else m.g t⟩ (l ++ [s]) := fun x => by
  rw [memB_app]
  by_cases e : x = s
  · subst e; simp [memB]
  · simp only [if_neg e]
    rw [h x]
    simp [memB, show ¬ s = x from fun h => e h.symm]
def ruleB (r : Rule) : Bool := nameOk r.Target && (decide (r.Needs.length ≤ 64) && r.Needs.all nameOk) && onceB [] r.Needs && recB r.Recipe r.Has
def rulesB : List ByteArray → List Rule → Bool
  | _, [] => true
  | pre, r :: rs => !memB pre r.Target && ruleB r && rulesB (pre ++ [r.Target]) rs
theorem rules_loop (l : List Rule) (hl : l.length ≤ LIM) (hf : ∀ x, x ∈ l → ruleFits x) : ∀ j : Nat, j ≤ l.length → ∀ (m : GM Bool) (pre : List ByteArray), MarksB m pre → m.n ≤ j →
    ∃ r, load_rules.l0.v l (m, (j : Int)) = some r ∧ r = bif rulesB pre (l.drop j) then .ok () else .error false := fun j hj =>
  up j hj (fun m pre hm hn => ⟨_, by rw [load_rules.l0.v_eq, lss_nat, List.drop_length, decide_eq_false (by simp)]; rfl, rfl⟩) (fun j hj ih m pre hm hn => by
    have hx := hf _ (List.getElem_mem hj)
    have hl' := hl
    simp only [LIM] at hl'
    rw [load_rules.l0.v_eq]
    simp only
    rw [lss_nat, decide_eq_true hj, cond_true, idx_nat hj, Option.bind_some, gget_some hx.t, Option.bind_some, chkn_v _ hx.t, Option.bind_some, show load_named.v l[j].Needs (64 : Int) = _ from named_v _ hx.n 64, Option.bind_some, once_v _ hx.n, Option.bind_some, recipe_v _ hx.l, Option.bind_some, gput_some (by omega) hx.t, Option.bind_some, wrap_nat (by omega), hm, drop_cons hj]
    obtain ⟨r, h1, h2⟩ := ih _ _ (marksB_put hm l[j].Target) (by simp; omega)
    rw [h1]
    simp only [rulesB, ruleB]
    subst h2
    cases memB pre l[j].Target <;> cases nameOk l[j].Target <;> cases (decide (l[j].Needs.length ≤ 64) && l[j].Needs.all nameOk) <;> cases onceB [] l[j].Needs <;> cases recB l[j].Recipe l[j].Has <;> exact ⟨_, rfl, rfl⟩)
theorem rules_v (l : List Rule) (hl : l.length ≤ LIM) (hf : ∀ x, x ∈ l → ruleFits x) : load_rules.v l = some (rulesB [] l && decide (l.length ≤ 512)) := by
  obtain ⟨r, h1, h2⟩ := rules_loop l hl hf 0 (Nat.zero_le _) gempty [] (fun x => rfl) (Nat.le_refl _)
  rw [load_rules.v_eq, show load_rules.l0.v l ((gempty : GM Bool), (0 : Int)) = _ from h1, Option.bind_some, show icmp .leq (l.length : Int) (512 : Int) = _ from leq_nat _ 512, h2, List.drop_zero]
  cases rulesB [] l <;> rfl
/-! ### suffixes and lists -/
def sufB (s : ByteArray) : Bool := nameOk s && decide (1 < s.size) && decide (s.data.toList[0]? = some 46) && !Lib.containsAny (s.extract 1 s.size).data.toList [46, 47]
theorem letB_ascii : ∀ n : Fin 256, letB (UInt8.ofFin n) = true → (UInt8.ofFin n).toNat < 128 := by decide +kernel
theorem eq_byte' (c : UInt8) (n : Nat) (hn : n < 256) : icmp .eql (c.toNat : Int) (n : Int) = decide (c = UInt8.ofNat n) := by
  rw [eql_nat, Bool.eq_iff_iff]
  simp only [decide_eq_true_eq]
  constructor
  · intro h
    refine UInt8.toNat_inj.mp ?_
    rw [h]; simp; omega
  · intro h
    rw [h]; simp; omega
theorem ssub_tail {s : ByteArray} (h : 1 ≤ s.size) : ssub s (1 : Int) (s.size : Int) = some (s.extract 1 s.size) := by
  unfold ssub
  rw [if_pos ⟨by omega, by omega, by omega⟩]
  simp
theorem suffix_v (s : ByteArray) (hs : s.size ≤ LIM) : special_Suffix.v s = some (sufB s) := by
  rw [special_Suffix.v_eq, chkn_v _ hs, Option.bind_some, show icmp .gtr (s.size : Int) (1 : Int) = _ from gtr_nat _ 1]
  unfold sufB
  cases hn : nameOk s with
  | false => rfl
  | true =>
    by_cases h1 : 1 < s.size
    · have h0 : 0 < s.size := by omega
      have hz : 0 < s.data.toList.length := by simpa using h0
      rw [decide_eq_true h1, show bidx s (0 : Int) = _ from bidx_nat h0, Option.bind_some, show icmp .eql ((s.data.toList[0].toNat : Nat) : Int) (46 : Int) = _ from eq_byte' _ 46 (by omega), ssub_tail (by omega), List.getElem?_eq_getElem hz]
      have hall : s.data.toList.all letB = true := by
        unfold nameOk nameAll at hn
        simp only [Bool.and_eq_true] at hn
        exact hn.2
      have hsz : s.size ≤ 64 := by
        unfold nameOk at hn
        simp only [Bool.and_eq_true, decide_eq_true_eq] at hn
        exact hn.1.2
      have hx : (s.extract 1 s.size).size ≤ 64 := by simp; omega
      have hasc : asciiB (s.extract 1 s.size) = true := by
        refine List.all_eq_true.2 fun c hc => decide_eq_true ?_
        have hc' : c ∈ s.data.toList := by
          rw [ByteArray.data_extract, Array.toList_extract] at hc
          exact List.mem_of_mem_drop (List.mem_of_mem_take hc)
        exact letB_ascii c.toFin (List.all_eq_true.1 hall c hc')
      have hca : strings_ContainsAny.f (s.extract 1 s.size) (⟨#[46, 47]⟩ : ByteArray) = some (Lib.containsAny (s.extract 1 s.size).data.toList [46, 47]) := by
        unfold strings_ContainsAny.f
        rw [hasc, show asciiB (⟨#[46, 47]⟩ : ByteArray) = true from rfl, show Nat.blt (s.extract 1 s.size).size 4294967281 = true from Nat.ble_eq_true_of_le (by omega), show Nat.blt (⟨#[46, 47]⟩ : ByteArray).size 4294967281 = true from rfl]
        rfl
      simp only [Option.some.injEq, Option.bind_some, hca]
      cases decide (s.data.toList[0] = UInt8.ofNat 46) <;> cases Lib.containsAny (s.extract 1 s.size).data.toList [46, 47] <;> rfl
    · rw [decide_eq_false h1]; rfl
def downB (l : List ByteArray) : Nat → Bool
  | 0 => true
  | i + 1 => !decide (Less (l.getD (i + 1) ByteArray.empty) (l.getD i ByteArray.empty)) && downB l i
theorem less_v (a b : ByteArray) : cmp_Less_string.f a b = some (decide (Less a b)) := by
  show ((some (scmp .neq a a)).bind fun v3 => bif v3 then _ else (some (scmp .lss a b))).bind _ = _
  rw [scmp_neq, decide_eq_true rfl, scmp_lss]; rfl
theorem sorted_loop (l : List ByteArray) (hl : lsFits l) : ∀ j : Nat, j < l.length → slices_IsSorted_string_string.l0.v l (j : Int) = some (bif downB l j then .ok () else .error false)
  | 0, _ => by rw [slices_IsSorted_string_string.l0.v_eq]; rfl
  | j + 1, hj => by
    have hn := hl.n
    have ih := sorted_loop l hl j (by omega)
    rw [slices_IsSorted_string_string.l0.v_eq, show icmp .gtr ((j + 1 : Nat) : Int) (0 : Int) = true from (gtr_nat _ 0).trans (decide_eq_true (by omega)), cond_true, idx_nat hj, Option.bind_some, pred1 (by omega) (by simp only [LIM]; omega), Nat.add_sub_cancel, idx_nat (show j < l.length by omega), Option.bind_some, less_v, Option.bind_some, ih, downB]
    have e1 : l.getD (j + 1) ByteArray.empty = l[j + 1] := by simp [List.getD, List.getElem?_eq_getElem hj]
    have e2 : l.getD j ByteArray.empty = l[j] := by simp [List.getD, List.getElem?_eq_getElem (show j < l.length by omega)]
    rw [e1, e2]
    cases decide (Less l[j + 1] l[j]) <;> rfl
theorem sorted_v (l : List ByteArray) (hl : lsFits l) : slices_IsSorted_string_string.v l = some (downB l (l.length - 1)) := by
  have hn := hl.n
  rw [slices_IsSorted_string_string.v_eq]
  cases h : l.length with
  | zero =>
    rw [slices_IsSorted_string_string.l0.v_eq]; rfl
  | succ n =>
    rw [pred1 (by omega) (by simp only [LIM]; omega), sorted_loop l hl (n + 1 - 1) (by omega), Option.bind_some]
    cases downB l (n + 1 - 1) <;> rfl
def listB (l : List ByteArray) : Bool := (decide (l.length ≤ 512) && l.all nameOk) && downB l (l.length - 1) && onceB [] l
theorem list_v (l : List ByteArray) (hl : lsFits l) : load_list.v l = some (listB l) := by
  rw [load_list.v_eq, show load_named.v l (512 : Int) = _ from named_v l hl 512, Option.bind_some, sorted_v l hl, Option.bind_some, once_v l hl, Option.bind_some]
  unfold listB
  cases (decide (l.length ≤ 512) && l.all nameOk) <;> cases downB l (l.length - 1) <;> rfl
def specB (s : Special) : Bool := (decide (s.Suffixes.length ≤ 32) && onceB [] s.Suffixes && s.Suffixes.all sufB) && (listB s.Phony && listB s.Precious && listB s.Ignore && listB s.Silent && recB s.Default s.HasDefault)
theorem suf_loop (s : Special) (hs : specFits s) : ∀ j : Nat, j ≤ s.Suffixes.length → load_settings.l0.v s (j : Int) = some (bif (s.Suffixes.drop j).all sufB then .ok () else .error false) := fun j hj =>
  up j hj (by rw [load_settings.l0.v_eq, lss_nat, List.drop_length, decide_eq_false (by simp)]; rfl) (fun j hj ih => by
    have hn := hs.a.n
    rw [load_settings.l0.v_eq, lss_nat, decide_eq_true hj, cond_true, idx_nat hj, Option.bind_some, suffix_v _ (hs.a.s _ (List.getElem_mem hj)), Option.bind_some, wrap_nat (by omega), ih, drop_cons hj, List.all_cons]
    cases sufB s.Suffixes[j] <;> rfl)
theorem settings_v (s : Special) (hs : specFits s) : load_settings.v s = some (specB s) := by
  rw [load_settings.v_eq, show icmp .gtr (s.Suffixes.length : Int) (32 : Int) = _ from gtr_nat _ 32, once_v _ hs.a, Option.bind_some, show load_settings.l0.v s (0 : Int) = _ from suf_loop s hs 0 (Nat.zero_le _), List.drop_zero, list_v _ hs.b, list_v _ hs.c, list_v _ hs.d, list_v _ hs.e, recipe_v _ hs.f]
  unfold specB
  have g : decide (32 < s.Suffixes.length) = !decide (s.Suffixes.length ≤ 32) := by rw [Bool.eq_iff_iff]; simp
  rw [g]
  cases decide (s.Suffixes.length ≤ 32) <;> cases onceB [] s.Suffixes <;> cases s.Suffixes.all sufB <;> cases listB s.Phony <;> cases listB s.Precious <;> cases listB s.Ignore <;> cases listB s.Silent <;> rfl
/-! ### inference rules -/
def memP (l : List (ByteArray × ByteArray)) (x : ByteArray × ByteArray) : Bool := l.any fun y => decide (y.1 = x.1) && decide (y.2 = x.2)
def MarksE (m : GM Bool) (l : List (ByteArray × ByteArray)) : Prop := ∀ x, (m.g x).getD false = memB (l.map enc2) x
theorem marksE_put {m : GM Bool} {l : List (ByteArray × ByteArray)} (h : MarksE m l) (s : ByteArray × ByteArray) : MarksE ⟨m.n + 1, fun t => if t = enc2 s then some true else m.g t⟩ (l ++ [s]) := fun x => by
  rw [List.map_append, memB_app]
  by_cases e : x = enc2 s
  · subst e; simp [memB]
  · simp only [if_neg e]
    rw [h x]
    simp [memB, show ¬ enc2 s = x from fun h => e h.symm]
def inferB (suf : List ByteArray) (x : Infer) : Bool := memB suf x.From && (decide (x.To = (⟨#[]⟩ : ByteArray)) || memB suf x.To) && recB x.Recipe true
def infersB (suf : List ByteArray) : List (ByteArray × ByteArray) → List Infer → Bool
  | _, [] => true
  | pre, x :: xs => !memB (pre.map enc2) (enc2 (x.From, x.To)) && inferB suf x && infersB suf (pre ++ [(x.From, x.To)]) xs
theorem enc2_lim (a b : ByteArray) (ha : a.size ≤ LIM) (hb : b.size ≤ LIM) : (enc2 (a, b)).size ≤ 9223372036854775807 := by
  rw [enc2_size]
  simp only [LIM] at *; omega
theorem gget_big {α : Type} {m : GM α} {z : α} {s : ByteArray} (hs : s.size ≤ 9223372036854775807) : gget m z s = some ((m.g s).getD z) := by
  unfold gget
  rw [if_pos hs]
theorem gput_big {α : Type} {m : GM α} {s : ByteArray} {x : α} (hm : m.n < 9223372036854775807) (hs : s.size ≤ 9223372036854775807) : gput m s x = some ⟨m.n + 1, fun t => if t = s then some x else m.g t⟩ := by
  unfold gput
  rw [if_pos ⟨hm, hs⟩]
theorem infers_loop (l : List Infer) (suf : List ByteArray) (hl : l.length ≤ LIM) (hf : ∀ x, x ∈ l → inferFits x) (hs : lsFits suf) : ∀ j : Nat, j ≤ l.length → ∀ (m : GM Bool) (pre : List (ByteArray × ByteArray)), MarksE m pre → m.n ≤ j →
    ∃ r, load_infers.l0.v l suf (m, (j : Int)) = some r ∧ r = bif infersB suf pre (l.drop j) then .ok () else .error false := fun j hj =>
  up j hj (fun m pre hm hn => ⟨_, by rw [load_infers.l0.v_eq, lss_nat, List.drop_length, decide_eq_false (by simp)]; rfl, rfl⟩) (fun j hj ih m pre hm hn => by
    have hx := hf _ (List.getElem_mem hj)
    have hl' := hl
    simp only [LIM] at hl'
    have he := enc2_lim _ _ hx.f hx.t
    rw [load_infers.l0.v_eq]
    simp only
    rw [lss_nat, decide_eq_true hj, cond_true, idx_nat hj, Option.bind_some, gget_big he, Option.bind_some, gput_big (by omega) he, wrap_nat (by omega), hm, drop_cons hj, scmp_neq]
    simp only [contains_v _ _ hs.lim, recipe_v _ hx.l, Option.bind_some]
    obtain ⟨r, h1, h2⟩ := ih _ _ (marksE_put hm (l[j].From, l[j].To)) (by simp; omega)
    rw [h1]
    simp only [infersB, inferB]
    subst h2
    cases memB (pre.map enc2) (enc2 (l[j].From, l[j].To)) <;> cases memB suf l[j].From <;> cases decide (l[j].To = (⟨#[]⟩ : ByteArray)) <;> cases memB suf l[j].To <;> cases recB l[j].Recipe true <;> exact ⟨_, rfl, rfl⟩)
theorem infers_v (l : List Infer) (suf : List ByteArray) (hl : l.length ≤ LIM) (hf : ∀ x, x ∈ l → inferFits x) (hs : lsFits suf) : load_infers.v l suf = some (infersB suf [] l && decide (l.length ≤ 512)) := by
  obtain ⟨r, h1, h2⟩ := infers_loop l suf hl hf hs 0 (Nat.zero_le _) gempty [] (fun x => rfl) (Nat.le_refl _)
  rw [load_infers.v_eq, show load_infers.l0.v l suf ((gempty : GM Bool), (0 : Int)) = _ from h1, Option.bind_some, show icmp .leq (l.length : Int) (512 : Int) = _ from leq_nat _ 512, h2, List.drop_zero]
  cases infersB suf [] l <;> rfl
/-! ### all of it -/
theorem anyR_loop (l : List Rule) (p : Rule → Option Bool) (q : Rule → Bool) (hq : ∀ z, z ∈ l → p z = some (q z)) (hl : l.length ≤ LIM) : ∀ j : Nat, j ≤ l.length → ((l.drop j).any q = true ∧ ∃ i : Nat, slices_IndexFunc_api_Rule_api_Rule.l0.v l p (j : Int) = some (.error (i : Int))) ∨ ((l.drop j).any q = false ∧ slices_IndexFunc_api_Rule_api_Rule.l0.v l p (j : Int) = some (.ok ())) := fun j hj =>
  up j hj (.inr ⟨by simp, by rw [slices_IndexFunc_api_Rule_api_Rule.l0.v_eq, lss_nat]; simp⟩) (fun j hj ih => by
    rw [slices_IndexFunc_api_Rule_api_Rule.l0.v_eq, lss_nat, decide_eq_true hj, cond_true, idx_nat hj, Option.bind_some, wrap_nat (by simp [LIM] at hl; omega), hq _ (List.getElem_mem hj), Option.bind_some, drop_cons hj, List.any_cons]
    cases h : q l[j]
    · simpa using ih
    · exact .inl ⟨by simp, j, rfl⟩)
theorem anyR_v (l : List Rule) (p : Rule → Option Bool) (q : Rule → Bool) (hq : ∀ z, z ∈ l → p z = some (q z)) (hl : l.length ≤ LIM) : slices_ContainsFunc_api_Rule_api_Rule.v l p = some (l.any q) := by
  rw [slices_ContainsFunc_api_Rule_api_Rule.v_eq, slices_IndexFunc_api_Rule_api_Rule.v_eq, zero_nat]
  rcases anyR_loop l p q hq hl 0 (Nat.zero_le _) with ⟨h, i, e⟩ | ⟨h, e⟩
  · rw [e]; simp only [List.drop_zero] at h; rw [h]; simp [icmp]
  · rw [e]; simp only [List.drop_zero] at h; rw [h]; simp [icmp]
def makeB (m : Make) : Bool := decide (macE m.Macros = 0) && (rulesB [] m.Rules && decide (m.Rules.length ≤ 512)) && specB m.Special && (infersB m.Special.Suffixes [] m.Infers && decide (m.Infers.length ≤ 512)) && (decide (m.First = (⟨#[]⟩ : ByteArray)) || m.Rules.any fun r => decide (r.Target = m.First))
theorem load_v (m : Make) (hm : makeFits m) : load_Check.v m = some (bif makeB m then 0 else 6) := by
  rw [load_Check.v_eq, macCheck_v _ hm.ml, Option.bind_some, rules_v _ hm.rl hm.rs, settings_v _ hm.sp, infers_v _ _ hm.il hm.is hm.sp.a, anyR_v m.Rules (fun z0 => load_Check_1.f z0 m) (fun r => decide (r.Target = m.First)) (fun z hz => rfl) hm.rl, scmp_eql]
  have e : icmp .eql (macE m.Macros) (0 : Int) = decide (macE m.Macros = 0) := by rw [eql_neq, neq_dec, Bool.not_not]
  rw [e]
  unfold makeB
  cases decide (macE m.Macros = 0) <;> cases (rulesB [] m.Rules && decide (m.Rules.length ≤ 512)) <;> cases specB m.Special <;> cases (infersB m.Special.Suffixes [] m.Infers && decide (m.Infers.length ≤ 512)) <;> cases decide (m.First = (⟨#[]⟩ : ByteArray)) <;> cases (m.Rules.any fun r => decide (r.Target = m.First)) <;> rfl
end Go.Proofs.Ytlpmolohppoofaa.F
