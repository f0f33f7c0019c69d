/- Which files are not the same on two disks. -/
import Derived.Test.YtaeapobjhgakiaaPrdcheck
import Derived.Test.YtaeapobjhgakiaaPsorts
set_option linter.unusedVariables false
set_option linter.unusedSimpArgs false
set_option linter.unnecessarySimpa false
set_option linter.deprecated false
namespace Go.Proofs.Ytaeapobjhgakiaa.F
open Go Go.RowKit Go.Proofs.Ytaeapobjhgakiaa.Sl
theorem app_all {α : Type} {b : Nat} {l k : List α} (h : (l.length + k.length) * b ≤ 140737488355328) : app b l k = some (l ++ k) := by
  unfold app room
  rw [if_pos (Nat.ble_eq_true_of_le h)]
def diffF (l : List File) (x : File) : Bool := match fileOf l x.Name with
  | none => true
  | some y => !decide (y.Text = x.Text)
def diffs (a b : List File) : List ByteArray := (a.filter (diffF b)).map (·.Name)
theorem idx_some {α : Type} {l : List α} {m : Nat} {y : α} (h : l[m]? = some y) : idx l (m : Int) = some y := by
  obtain ⟨h1, h2⟩ := List.getElem?_eq_some_iff.1 h
  rw [idx_nat h1, h2]
theorem see_loop (a b : Disk) (hb : DiskOk b) (hl : a.Files.length ≤ 256) : ∀ j : Nat, j ≤ a.Files.length → ∀ acc : List ByteArray, acc.length ≤ 1000 + j → disk_Changed_1.l0.v a b (acc, (j : Int)) = some (acc ++ diffs (a.Files.drop j) b.Files) := fun j hj =>
  up j hj (fun acc _ => by rw [disk_Changed_1.l0.v_eq, lss_nat, List.drop_length, decide_eq_false (by simp)]; simp [diffs]) (fun j hj ih acc ha => by
    obtain ⟨m, _, e, hm⟩ := place_v b hb a.Files[j].Name
    rw [disk_Changed_1.l0.v_eq, lss_nat, decide_eq_true hj, cond_true, idx_nat hj, Option.bind_some, e, Option.bind_some, wrap_nat (by omega), drop_cons hj]
    unfold diffs
    rw [List.filter_cons]
    have hbool : (bif !(fileOf b.Files a.Files[j].Name).isSome then (some true) else ((idx b.Files (m : Int)).bind fun x14 => some (scmp .neq x14.Text a.Files[j].Text))) = some (diffF b.Files a.Files[j]) := by
      unfold diffF
      cases hf : fileOf b.Files a.Files[j].Name with
      | none => rfl
      | some y =>
        simp only [Option.isSome_some, Bool.not_true, cond_false]
        rw [idx_some (hm.1 y hf), Option.bind_some, scmp_neq]
    simp only [hbool, Option.bind_some]
    cases hd : diffF b.Files a.Files[j] with
    | false =>
      simp only [cond_false, Option.bind_some, Bool.false_eq_true, if_false]
      rw [ih acc (by omega)]; rfl
    | true =>
      simp only [cond_true, if_true, List.map_cons]
      rw [app_all (by simp; omega)]
      simp only [Option.bind_some]
      rw [ih _ (by simp; omega), List.append_assoc]; rfl)
theorem see_v (a b : Disk) (hb : DiskOk b) (hl : a.Files.length ≤ 256) (acc : List ByteArray) (ha : acc.length ≤ 1000) : disk_Changed_1.v a b acc = some (acc ++ diffs a.Files b.Files) := by
  rw [disk_Changed_1.v_eq, show disk_Changed_1.l0.v a b (acc, (0 : Int)) = _ from see_loop a b hb hl 0 (Nat.zero_le _) acc (by omega), List.drop_zero]; rfl
theorem diffs_len (a b : List File) : (diffs a b).length ≤ a.length := by
  unfold diffs
  rw [List.length_map]
  exact List.length_filter_le _ _
theorem sort_v (l : List ByteArray) (h : l.length ≤ 1000000) : slices_Sort_string_string.f l = some (sortB l) := by
  unfold slices_Sort_string_string.f
  rw [show Nat.blt l.length 4611686018427387904 = true from Nat.ble_eq_true_of_le (by omega)]; rfl
theorem chg_v (a b : Disk) (ha : diskFits a) (hb : diskFits b) : disk_Changed.v a b = some (bif diskOk a && diskOk b then (compactB (sortB (diffs a.Files b.Files ++ diffs b.Files a.Files)), 0) else ([], 4)) := by
  have h2 : disk_Changed.l0.v a b (2 : Int) = some (.ok ()) := by rw [disk_Changed.l0.v_eq]; rfl
  have h1 : disk_Changed.l0.v a b (1 : Int) = some (bif diskOk b then .ok () else .error ([], 4)) := by
    rw [disk_Changed.l0.v_eq, show icmp .lss (1 : Int) (([a, b] : List Disk).length : Int) = true from rfl, cond_true, show idx [a, b] (1 : Int) = some b from rfl, Option.bind_some, dcheck_v b hb, Option.bind_some, show IntKind.i64.wrap ((1 : Int) + 1) = 2 from rfl, h2]
    cases diskOk b <;> rfl
  have h0 : disk_Changed.l0.v a b (0 : Int) = some (bif diskOk a && diskOk b then .ok () else .error ([], 4)) := by
    rw [disk_Changed.l0.v_eq, show icmp .lss (0 : Int) (([a, b] : List Disk).length : Int) = true from rfl, cond_true, show idx [a, b] (0 : Int) = some a from rfl, Option.bind_some, dcheck_v a ha, Option.bind_some, show IntKind.i64.wrap ((0 : Int) + 1) = 1 from rfl, h1]
    cases diskOk a <;> cases diskOk b <;> rfl
  rw [disk_Changed.v_eq, h0, Option.bind_some]
  cases h : diskOk a && diskOk b with
  | false => rfl
  | true =>
    simp only [Bool.and_eq_true] at h
    have oa := (diskOk_iff a).1 h.1
    have ob := (diskOk_iff b).1 h.2
    have la := oa.l
    have lb := ob.l
    have d1 := diffs_len a.Files b.Files
    have d2 := diffs_len b.Files a.Files
    simp only [cond_true]
    rw [see_v a b ob la [] (by simp), Option.bind_some, List.nil_append, see_v b a oa lb _ (by omega), Option.bind_some, sort_v _ (by simp; omega), Option.bind_some]; rfl
/-! ### the document's merge -/
def Spec (A B : List File) (W : List ByteArray) : Prop := W.Pairwise Less ∧ ∀ n, n ∈ W ↔ n ∈ diffs A B ∨ n ∈ diffs B A
theorem fileOf_none {l : List File} {s : ByteArray} (h : ∀ z, z ∈ l → z.Name ≠ s) : fileOf l s = none := by
  unfold fileOf
  rw [List.find?_eq_none]
  intro x hx
  simpa using h x hx
theorem diffs_other {A B : List File} {y : File} (h : ∀ z, z ∈ A → z.Name ≠ y.Name) : diffs A (y :: B) = diffs A B := by
  unfold diffs
  congr 1
  refine List.filter_congr fun z hz => ?_
  unfold diffF fileOf
  rw [List.find?_cons, decide_eq_false (fun e => h z hz e.symm)]
theorem diffs_cons (x : File) (A B : List File) : diffs (x :: A) B = if diffF B x = true then x.Name :: diffs A B else diffs A B := by
  unfold diffs
  rw [List.filter_cons]
  by_cases h : diffF B x = true
  · rw [if_pos h, if_pos h]; rfl
  · rw [if_neg h, if_neg h]
theorem mem_diffs {A B : List File} {n : ByteArray} (h : n ∈ diffs A B) : ∃ z, z ∈ A ∧ z.Name = n := by
  unfold diffs at h
  obtain ⟨z, hz, e⟩ := List.mem_map.1 h
  exact ⟨z, (List.mem_filter.1 hz).1, e⟩
theorem spec_nil : Spec [] [] [] := ⟨List.Pairwise.nil, fun n => by simp [diffs]⟩
/-- The first list's head is not in the other one, and ahead of all. -/
theorem spec_left {x : File} {A B : List File} {W : List ByteArray} (hA : ∀ z, z ∈ A → Less x.Name z.Name) (hB : ∀ z, z ∈ B → Less x.Name z.Name) (h : Spec A B W) : Spec (x :: A) B (x.Name :: W) := by
  have h1 : diffs (x :: A) B = x.Name :: diffs A B := by
    rw [diffs_cons, if_pos]
    unfold diffF
    rw [fileOf_none (fun z hz => (hB z hz).ne.symm)]
  have h2 : diffs B (x :: A) = diffs B A := diffs_other (fun z hz => (hB z hz).ne.symm)
  refine ⟨List.pairwise_cons.2 ⟨fun n hn => ?_, h.1⟩, fun n => ?_⟩
  · rcases (h.2 n).1 hn with hn | hn
    · obtain ⟨z, hz, rfl⟩ := mem_diffs hn; exact hA z hz
    · obtain ⟨z, hz, rfl⟩ := mem_diffs hn; exact hB z hz
  · rw [h1, h2, List.mem_cons, List.mem_cons, h.2]
    constructor
    · rintro (h | h | h)
      · exact .inl (.inl h)
      · exact .inl (.inr h)
      · exact .inr h
    · rintro ((h | h) | h)
      · exact .inl h
      · exact .inr (.inl h)
      · exact .inr (.inr h)
theorem Spec.swap {A B : List File} {W : List ByteArray} (h : Spec A B W) : Spec B A W := ⟨h.1, fun n => (h.2 n).trans or_comm⟩
theorem spec_both {x y : File} {A B : List File} {W : List ByteArray} (he : x.Name = y.Name) (hA : ∀ z, z ∈ A → Less x.Name z.Name) (hB : ∀ z, z ∈ B → Less x.Name z.Name) (h : Spec A B W) : Spec (x :: A) (y :: B) (if x.Text = y.Text then W else x.Name :: W) := by
  have f1 : fileOf (y :: B) x.Name = some y := by unfold fileOf; rw [List.find?_cons, decide_eq_true he.symm]
  have f2 : fileOf (x :: A) y.Name = some x := by unfold fileOf; rw [List.find?_cons, decide_eq_true he]
  have g1 : diffs A (y :: B) = diffs A B := diffs_other (fun z hz => fun e => (hA z hz).ne (he.trans e.symm))
  have g2 : diffs B (x :: A) = diffs B A := diffs_other (fun z hz => (hB z hz).ne.symm)
  have d1 : diffF (y :: B) x = !decide (y.Text = x.Text) := by unfold diffF; rw [f1]
  have d2 : diffF (x :: A) y = !decide (x.Text = y.Text) := by unfold diffF; rw [f2]
  unfold Spec
  rw [diffs_cons, diffs_cons, d1, d2, g1, g2]
  by_cases ht : x.Text = y.Text
  · rw [if_pos ht, decide_eq_true ht, decide_eq_true ht.symm]
    have h' : W.Pairwise Less ∧ ∀ n, n ∈ W ↔ n ∈ diffs A B ∨ n ∈ diffs B A := h
    simpa using h'
  · rw [if_neg ht, decide_eq_false ht, decide_eq_false (fun e => ht e.symm)]
    simp only [Bool.not_false, if_true]
    refine ⟨List.pairwise_cons.2 ⟨fun n hn => ?_, h.1⟩, fun n => ?_⟩
    · rcases (h.2 n).1 hn with hn | hn
      · obtain ⟨z, hz, rfl⟩ := mem_diffs hn; exact hA z hz
      · obtain ⟨z, hz, rfl⟩ := mem_diffs hn; exact hB z hz
    · rw [List.mem_cons, List.mem_cons, List.mem_cons, h.2, ← he]
      constructor
      · rintro (h | h | h)
        · exact .inl (.inl h)
        · exact .inl (.inr h)
        · exact .inr (.inr h)
      · rintro ((h | h) | (h | h))
        · exact .inl h
        · exact .inr (.inl h)
        · exact .inl h
        · exact .inr (.inr h)
theorem drop_lt {l : List File} (hs : SortedF l) {i : Nat} (hi : i < l.length) : ∀ z, z ∈ l.drop (i + 1) → Less l[i].Name z.Name := by
  have h : SortedF (l.drop i) := hs.drop
  rw [List.drop_eq_getElem_cons hi] at h
  exact (List.pairwise_cons.1 h).1
theorem merge_loop (a b : Disk) (oa : DiskOk a) (ob : DiskOk b) : ∀ m i k : Nat, a.Files.length + b.Files.length ≤ i + k + m → i ≤ a.Files.length → k ≤ b.Files.length → ∀ acc : List ByteArray, acc.length ≤ i + k →
    ∃ W, smithyref02_Changed.l0.v a b (acc, (i : Int), (k : Int)) = some (acc ++ W) ∧ Spec (a.Files.drop i) (b.Files.drop k) W := by
  intro m
  have la := oa.l
  have lb := ob.l
  have sa := oa.s
  have sb := ob.s
  induction m with
  | zero =>
    intro i k h1 h2 h3 acc hacc
    have e1 : i = a.Files.length := by omega
    have e2 : k = b.Files.length := by omega
    subst e1; subst e2
    refine ⟨[], ?_, by rw [List.drop_length, List.drop_length]; exact spec_nil⟩
    rw [smithyref02_Changed.l0.v_eq]
    simp only [lss_nat, Nat.lt_irrefl, decide_false, cond_false, Option.bind_some, List.append_nil]
  | succ m ih =>
    intro i k h1 h2 h3 acc hacc
    have wi : IntKind.i64.wrap ((i : Int) + 1) = ((i + 1 : Nat) : Int) := wrap_nat (by omega)
    have wk : IntKind.i64.wrap ((k : Int) + 1) = ((k + 1 : Nat) : Int) := wrap_nat (by omega)
    by_cases hi : i < a.Files.length
    · have hx := idx_nat hi
      by_cases hk : k < b.Files.length
      · have hy := idx_nat hk
        have nk : ¬ k = b.Files.length := by omega
        have ni : ¬ i = a.Files.length := by omega
        rw [smithyref02_Changed.l0.v_eq]
        simp only [lss_nat, eql_nat, decide_eq_true hi, decide_eq_true hk, decide_eq_false nk, decide_eq_false ni, cond_true, cond_false, Option.bind_some, hx, hy, scmp_lss, scmp_neq]
        rw [drop_cons hi, drop_cons hk]
        by_cases c1 : Less a.Files[i].Name b.Files[k].Name
        · simp only [decide_eq_true c1, cond_true, app_all (show (acc.length + [a.Files[i].Name].length) * 16 ≤ 140737488355328 by simp; omega), Option.bind_some, wi]
          obtain ⟨W, e, hW⟩ := ih (i + 1) k (by omega) (by omega) h3 (acc ++ [a.Files[i].Name]) (by simp; omega)
          rw [drop_cons hk] at hW
          exact ⟨a.Files[i].Name :: W, by rw [e, List.append_assoc]; rfl, spec_left (drop_lt sa hi) (fun z hz => by
            rcases List.mem_cons.1 hz with rfl | hz
            · exact c1
            · exact c1.trans (drop_lt sb hk z hz)) hW⟩
        · by_cases c2 : Less b.Files[k].Name a.Files[i].Name
          · simp only [decide_eq_false c1, decide_eq_true c2, cond_true, cond_false, app_all (show (acc.length + [b.Files[k].Name].length) * 16 ≤ 140737488355328 by simp; omega), Option.bind_some, wk]
            obtain ⟨W, e, hW⟩ := ih i (k + 1) (by omega) h2 (by omega) (acc ++ [b.Files[k].Name]) (by simp; omega)
            rw [drop_cons hi] at hW
            exact ⟨b.Files[k].Name :: W, by rw [e, List.append_assoc]; rfl, (spec_left (drop_lt sb hk) (fun z hz => by
              rcases List.mem_cons.1 hz with rfl | hz
              · exact c2
              · exact c2.trans (drop_lt sa hi z hz)) hW.swap).swap⟩
          · have he : a.Files[i].Name = b.Files[k].Name := Less.tri c1 c2
            simp only [decide_eq_false c1, decide_eq_false c2, cond_false, wi, wk]
            by_cases ht : a.Files[i].Text = b.Files[k].Text
            · simp only [decide_eq_true ht, Bool.not_true, cond_false, Option.bind_some]
              obtain ⟨W, e, hW⟩ := ih (i + 1) (k + 1) (by omega) (by omega) (by omega) acc (by omega)
              refine ⟨W, e, ?_⟩
              have := spec_both he (drop_lt sa hi) (fun z hz => he ▸ drop_lt sb hk z hz) hW
              rwa [if_pos ht] at this
            · simp only [decide_eq_false ht, Bool.not_false, cond_true, app_all (show (acc.length + [a.Files[i].Name].length) * 16 ≤ 140737488355328 by simp; omega), Option.bind_some]
              obtain ⟨W, e, hW⟩ := ih (i + 1) (k + 1) (by omega) (by omega) (by omega) (acc ++ [a.Files[i].Name]) (by simp; omega)
              refine ⟨a.Files[i].Name :: W, by rw [e, List.append_assoc]; rfl, ?_⟩
              have := spec_both he (drop_lt sa hi) (fun z hz => he ▸ drop_lt sb hk z hz) hW
              rwa [if_neg ht] at this
      · have e2 : k = b.Files.length := by omega
        rw [smithyref02_Changed.l0.v_eq]
        simp only [lss_nat, eql_nat, decide_eq_true hi, decide_eq_true e2, cond_true, cond_false, Option.bind_some, hx, app_all (show (acc.length + [a.Files[i].Name].length) * 16 ≤ 140737488355328 by simp; omega), wi]
        rw [drop_cons hi]
        obtain ⟨W, e, hW⟩ := ih (i + 1) k (by clear wi wk; omega) (by clear wi wk; omega) h3 (acc ++ [a.Files[i].Name]) (by clear wi wk; simp; omega)
        have hn : b.Files.drop k = [] := List.drop_eq_nil_of_le (by omega)
        exact ⟨a.Files[i].Name :: W, by rw [e, List.append_assoc]; rfl, spec_left (drop_lt sa hi) (fun z hz => by rw [hn] at hz; cases hz) hW⟩
    · have e1 : i = a.Files.length := by omega
      by_cases hk0 : k = b.Files.length
      · subst e1; subst hk0
        refine ⟨[], ?_, by rw [List.drop_length, List.drop_length]; exact spec_nil⟩
        rw [smithyref02_Changed.l0.v_eq]
        simp only [lss_nat, Nat.lt_irrefl, decide_false, cond_false, Option.bind_some, List.append_nil]
      have hk : k < b.Files.length := by omega
      have hy := idx_nat hk
      have nk : ¬ k = b.Files.length := by omega
      rw [smithyref02_Changed.l0.v_eq]
      simp only [lss_nat, eql_nat, decide_eq_false hi, decide_eq_true hk, decide_eq_false nk, decide_eq_true e1, cond_true, cond_false, Option.bind_some, hy, app_all (show (acc.length + [b.Files[k].Name].length) * 16 ≤ 140737488355328 by simp; omega), wk]
      rw [drop_cons hk]
      obtain ⟨W, e, hW⟩ := ih i (k + 1) (by clear wi wk; omega) h2 (by clear wi wk; omega) (acc ++ [b.Files[k].Name]) (by clear wi wk; simp; omega)
      have hn : a.Files.drop i = [] := List.drop_eq_nil_of_le (by omega)
      exact ⟨b.Files[k].Name :: W, by rw [e, List.append_assoc]; rfl, (spec_left (drop_lt sb hk) (fun z hz => by rw [hn] at hz; cases hz) hW.swap).swap⟩
theorem rchg_v (a b : Disk) (ha : diskFits a) (hb : diskFits b) : ∃ W e, smithyref02_Changed.v a b = some (W, e) ∧ W.length ≤ 1000000 ∧ disk_Changed.v a b = some (W, e) ∧ disk_Changed.v b a = some (W, e) := by
  rw [smithyref02_Changed.v_eq, rdcheck_v a ha, rdcheck_v b hb, chg_v a b ha hb, chg_v b a hb ha]
  cases h1 : diskOk a with
  | false => exact ⟨[], 4, by cases diskOk b <;> rfl, by simp, rfl, by cases diskOk b <;> rfl⟩
  | true =>
    cases h2 : diskOk b with
    | false => exact ⟨[], 4, rfl, by simp, rfl, rfl⟩
    | true =>
      have oa := (diskOk_iff a).1 h1
      have ob := (diskOk_iff b).1 h2
      obtain ⟨W, e, hW⟩ := merge_loop a b oa ob (a.Files.length + b.Files.length) 0 0 (by omega) (Nat.zero_le _) (Nat.zero_le _) [] (Nat.zero_le _)
      rw [List.drop_zero, List.drop_zero] at hW
      have e1 : compactB (sortB (diffs a.Files b.Files ++ diffs b.Files a.Files)) = W := sorted_uniq (cs_sorted _).1 hW.1 (fun x => by rw [(cs_sorted _).2, List.mem_append, hW.2])
      have e2 : compactB (sortB (diffs b.Files a.Files ++ diffs a.Files b.Files)) = W := sorted_uniq (cs_sorted _).1 hW.1 (fun x => by rw [(cs_sorted _).2, List.mem_append, hW.2]; exact or_comm)
      have hlen : W.length ≤ 1000000 := by
        rw [← e1]
        unfold compactB
        rw [List.length_map]
        have := compact_le ((sortB (diffs a.Files b.Files ++ diffs b.Files a.Files)).map toB)
        rw [List.length_map, sortB_length, List.length_append] at this
        have d1 := diffs_len a.Files b.Files
        have d2 := diffs_len b.Files a.Files
        have la := oa.l
        have lb := ob.l
        omega
      refine ⟨W, 0, ?_, hlen, by rw [e1]; rfl, by rw [e2]; rfl⟩
      simp only [cond_true, Option.bind_some, show icmp .neq (0 : Int) (0 : Int) = false from rfl, cond_false]
      rw [show smithyref02_Changed.l0.v a b (([] : List ByteArray), (0 : Int), (0 : Int)) = _ from e]; rfl
/-! ### the same disks -/
theorem same_loop (a b : Disk) (hf : a.Files.length * 40 ≤ 140737488351232) (he : a.Files.length = b.Files.length) : ∀ j : Nat, j ≤ a.Files.length → ∃ r : Except Bool Unit, slices_Equal_api_File_api_File.l0.v a.Files b.Files (j : Int) = some r ∧ smithyref02_Same.l0.v a b (j : Int) = some r := fun j hj =>
  up j hj ⟨.ok (), by rw [slices_Equal_api_File_api_File.l0.v_eq, lss_nat, decide_eq_false (by simp)]; rfl, by rw [smithyref02_Same.l0.v_eq, lss_nat, decide_eq_false (by simp)]; rfl⟩ (fun j hj ih => by
    have hj2 : j < b.Files.length := by omega
    obtain ⟨r, e1, e2⟩ := ih
    rw [slices_Equal_api_File_api_File.l0.v_eq, smithyref02_Same.l0.v_eq, lss_nat, decide_eq_true hj, cond_true, cond_true, idx_nat hj, idx_nat hj2, Option.bind_some, Option.bind_some, Option.bind_some, Option.bind_some, wrap_nat (by omega), e1, e2]
    cases eqFile a.Files[j] b.Files[j] with
    | false => exact ⟨_, rfl, rfl⟩
    | true => exact ⟨r, rfl, rfl⟩)
theorem same_v (a b : Disk) (hf : a.Files.length * 40 ≤ 140737488351232) : ∃ r, disk_Same.v a b = some r ∧ smithyref02_Same.v a b = some r := by
  rw [disk_Same.v_eq, smithyref02_Same.v_eq, slices_Equal_api_File_api_File.v_eq, neq_nat, show icmp .eql a.Clock b.Clock = !icmp .neq a.Clock b.Clock by unfold icmp; rw [Bool.eq_iff_iff]; simp]
  cases icmp .neq a.Clock b.Clock with
  | true => exact ⟨false, rfl, rfl⟩
  | false =>
    by_cases he : a.Files.length = b.Files.length
    · obtain ⟨r, e1, e2⟩ := same_loop a b hf he 0 (Nat.zero_le _)
      rw [decide_eq_true he]
      simp only [Bool.not_true, Bool.not_false, cond_true, cond_false, Option.bind_some]
      rw [show slices_Equal_api_File_api_File.l0.v a.Files b.Files (0 : Int) = _ from e1, show smithyref02_Same.l0.v a b (0 : Int) = _ from e2]
      cases r with
      | error x => exact ⟨x, rfl, rfl⟩
      | ok _ => exact ⟨true, rfl, rfl⟩
    · rw [decide_eq_false he]; exact ⟨false, rfl, rfl⟩
theorem texts_loop (l : List ByteArray) (hl : l.length ≤ LIM) : ∀ j : Nat, j ≤ l.length → smithyplain_Texts.l0.v l l j = some (.ok ()) := fun j hj =>
  up j hj (by rw [smithyplain_Texts.l0.v_eq, lss_nat, decide_eq_false (by simp)]; rfl) (fun j hj ih => by
    rw [smithyplain_Texts.l0.v_eq, lss_nat, decide_eq_true hj, cond_true, idx_nat hj, Option.bind_some, Option.bind_some, wrap_nat (by simp [LIM] at hl; omega), ih, scmp_neq, decide_eq_true rfl]; rfl)
theorem texts_v (l : List ByteArray) (hl : l.length ≤ LIM) : smithyplain_Texts.v l l = some true := by
  rw [smithyplain_Texts.v_eq, neq_nat, decide_eq_true rfl, show smithyplain_Texts.l0.v l l 0 = _ from texts_loop l hl 0 (Nat.zero_le _)]; rfl
theorem speaks02_v : smithylaw02_speaks.v = some true := smithylaw02_speaks.tends.at 40 (by kernel_rfl)
end Go.Proofs.Ytaeapobjhgakiaa.F
