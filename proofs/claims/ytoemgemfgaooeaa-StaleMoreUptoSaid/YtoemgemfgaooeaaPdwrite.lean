/- The document's write of a file. -/
import Derived.Test.YtoemgemfgaooeaaPwould
set_option linter.unusedVariables false
set_option linter.unusedSimpArgs false
set_option linter.unnecessarySimpa false
set_option linter.deprecated false
namespace Go.Proofs.Ytoemgemfgaooeaa.F
open Go Go.RowKit Go.Proofs.Ytoemgemfgaooeaa.Sl
theorem rfit_v (d : Disk) (hf : diskFits d) (s : ByteArray) (hs : s.size ≤ LIM) : smithyref02_fit.v d s = some (bif diskOk d then (bif nameOk s then 0 else 3) else 4) := by
  rw [smithyref02_fit.v_eq, rdcheck_v d hf, Option.bind_some, name_v s hs]
  cases diskOk d with
  | false => rfl
  | true => cases nameOk s <;> rfl
theorem rplace_loop (d : Disk) (hf : diskFits d) (s : ByteArray) : ∀ j : Nat, j ≤ d.Files.length → ∃ r, smithyref02_place.l0.v d s (j : Int) = some r ∧ (match r with | .ok _ => (fileOf (d.Files.drop j) s).isSome = false | .error i => 0 ≤ i ∧ (fileOf (d.Files.drop j) s).isSome = true) := fun j hj =>
  up j hj ⟨.ok (), by rw [smithyref02_place.l0.v_eq, lss_nat, decide_eq_false (by simp)]; rfl, by rw [List.drop_length]; rfl⟩ (fun j hj ih => by
    have hl := hf.nl
    obtain ⟨r, e, hr⟩ := ih
    rw [smithyref02_place.l0.v_eq, lss_nat, decide_eq_true hj, cond_true, idx_nat hj, Option.bind_some, wrap_nat (by simp [LIM] at hl; omega), drop_cons hj, scmp_eql]
    unfold fileOf
    rw [List.find?_cons]
    by_cases h : d.Files[j].Name = s
    · rw [decide_eq_true h]; exact ⟨_, rfl, by simp⟩
    · rw [decide_eq_false h]; exact ⟨r, e, hr⟩)
theorem rplace_v (d : Disk) (hf : diskFits d) (s : ByteArray) : ∃ i : Int, smithyref02_place.v d s = some i ∧ icmp .lss i (0 : Int) = !(fileOf d.Files s).isSome := by
  obtain ⟨r, e, hr⟩ := rplace_loop d hf s 0 (Nat.zero_le _)
  rw [List.drop_zero] at hr
  rw [smithyref02_place.v_eq, show smithyref02_place.l0.v d s (0 : Int) = _ from e, Option.bind_some]
  cases r with
  | ok _ => exact ⟨-1, rfl, by rw [hr]; rfl⟩
  | error i => exact ⟨i, rfl, by rw [hr.2, lss_not, decide_eq_true hr.1]⟩
def layR (f : File) : List File → List File
  | [] => [f]
  | x :: xs => bif decide (Less x.Name f.Name) then x :: layR f xs else f :: (x :: xs).filter (fun y => !decide (y.Name = f.Name))
def layD (f : File) : List File → Bool
  | [] => false
  | x :: xs => bif decide (Less x.Name f.Name) then layD f xs else true
theorem layR_not (f : File) : ∀ l : List File, layD f l = false → layR f l = l ++ [f]
  | [], _ => rfl
  | x :: xs, h => by
    unfold layD at h
    unfold layR
    cases hx : decide (Less x.Name f.Name) with
    | true => rw [hx] at h; rw [cond_true, layR_not f xs h]; rfl
    | false => rw [hx] at h; cases h
theorem rlaid_done (d : Disk) (f : File) (hl : d.Files.length ≤ 256) : ∀ j : Nat, j ≤ d.Files.length → ∀ out : List File, out.length ≤ j + 1 → smithyref02_laid.l0.v d f (out, true, (j : Int)) = some (true, out ++ (d.Files.drop j).filter (fun y => !decide (y.Name = f.Name))) := fun j hj =>
  up j hj (fun out _ => by rw [smithyref02_laid.l0.v_eq, lss_nat, List.drop_length, decide_eq_false (by simp)]; simp) (fun j hj ih out ho => by
    rw [smithyref02_laid.l0.v_eq, lss_nat, decide_eq_true hj, cond_true, idx_nat hj, Option.bind_some, wrap_nat (by omega), drop_cons hj, List.filter_cons, scmp_neq]
    simp only [Bool.not_true, cond_false, Option.bind_some]
    by_cases h : d.Files[j].Name = f.Name
    · rw [decide_eq_true h]
      simp only [Bool.not_true, cond_false, Option.bind_some, Bool.false_eq_true, if_false]
      exact ih out (by omega)
    · rw [decide_eq_false h]
      simp only [Bool.not_false, cond_true, if_true]
      rw [app_all (by simp; omega)]
      simp only [Option.bind_some]
      rw [ih _ (by simp; omega), List.append_assoc]; rfl)
theorem rlaid_loop (d : Disk) (f : File) (hl : d.Files.length ≤ 256) : ∀ j : Nat, j ≤ d.Files.length → ∀ out : List File, out.length ≤ j → smithyref02_laid.l0.v d f (out, false, (j : Int)) = some (layD f (d.Files.drop j), bif layD f (d.Files.drop j) then out ++ layR f (d.Files.drop j) else out ++ d.Files.drop j) := fun j hj =>
  up j hj (fun out _ => by rw [smithyref02_laid.l0.v_eq, lss_nat, List.drop_length, decide_eq_false (by simp)]; simp [layD]) (fun j hj ih out ho => by
    rw [smithyref02_laid.l0.v_eq, lss_nat, decide_eq_true hj, cond_true, idx_nat hj, Option.bind_some, wrap_nat (by omega), drop_cons hj, scmp_neq, scmp_geq]
    simp only [Bool.not_false, cond_true, Option.bind_some]
    by_cases h : Less d.Files[j].Name f.Name
    · have hne : ¬ d.Files[j].Name = f.Name := h.ne
      simp only [layD, layR]
      rw [decide_eq_true h, decide_eq_false hne]
      simp only [Bool.not_true, cond_false, Option.bind_some, Bool.not_false, cond_true]
      rw [app_all (by simp; omega)]
      simp only [Option.bind_some]
      rw [ih _ (by simp; omega)]
      cases layD f (d.Files.drop (j + 1)) with
      | true => simp only [cond_true, List.append_assoc]; rfl
      | false => simp only [cond_false, List.append_assoc]; rfl
    · simp only [layD, layR]
      rw [decide_eq_false h]
      simp only [Bool.not_false, cond_true, cond_false]
      rw [app_all (by simp; omega)]
      simp only [Option.bind_some]
      rw [List.filter_cons]
      by_cases hn : d.Files[j].Name = f.Name
      · rw [decide_eq_true hn]
        simp only [Bool.not_true, cond_false, Option.bind_some, Bool.false_eq_true, if_false]
        rw [rlaid_done d f hl (j + 1) hj _ (by simp; omega), List.append_assoc]; rfl
      · rw [decide_eq_false hn]
        simp only [Bool.not_false, cond_true, if_true]
        rw [app_all (by simp; omega)]
        simp only [Option.bind_some]
        rw [rlaid_done d f hl (j + 1) hj _ (by simp; omega), List.append_assoc, List.append_assoc]; rfl)
theorem rlaid_v (d : Disk) (f : File) (hl : d.Files.length ≤ 256) : smithyref02_laid.v d f = some (⟨d.Clock, layR f d.Files⟩ : Disk) := by
  have e := rlaid_loop d f hl 0 (Nat.zero_le _) [] (Nat.le_refl _)
  rw [List.drop_zero] at e
  rw [smithyref02_laid.v_eq, show smithyref02_laid.l0.v d f (([] : List File), false, (0 : Int)) = _ from e, Option.bind_some]
  cases h : layD f d.Files with
  | true => rfl
  | false =>
    simp only [Bool.not_false, cond_true, cond_false, List.nil_append]
    rw [app_all (by simp; omega)]
    simp only [Option.bind_some]
    rw [layR_not f _ h]
/-! ### what such a list holds -/
theorem layR_mem (f : File) : ∀ (l : List File) (x : File), x ∈ layR f l → x = f ∨ x ∈ l
  | [], x, h => .inl (by simpa [layR] using h)
  | y :: l, x, h => by
    unfold layR at h
    cases hy : decide (Less y.Name f.Name) with
    | true =>
      rw [hy, cond_true] at h
      rcases List.mem_cons.1 h with rfl | h
      · exact .inr (by simp)
      · exact (layR_mem f l x h).imp id (List.mem_cons_of_mem _)
    | false =>
      rw [hy, cond_false] at h
      rcases List.mem_cons.1 h with rfl | h
      · exact .inl rfl
      · exact .inr (List.mem_filter.1 h).1
theorem layR_sorted (f : File) : ∀ l : List File, SortedF l → SortedF (layR f l)
  | [], _ => List.pairwise_singleton _ _
  | y :: l, h => by
    obtain ⟨h1, h2⟩ := List.pairwise_cons.1 h
    unfold layR
    by_cases hy : Less y.Name f.Name
    · rw [decide_eq_true hy, cond_true]
      refine List.pairwise_cons.2 ⟨fun x hx => ?_, layR_sorted f l h2⟩
      rcases layR_mem f l x hx with rfl | hx
      · exact hy
      · exact h1 x hx
    · rw [decide_eq_false hy, cond_false]
      refine List.pairwise_cons.2 ⟨fun x hx => ?_, List.Pairwise.filter _ h⟩
      obtain ⟨hx, hne⟩ := List.mem_filter.1 hx
      have hne' : ¬ x.Name = f.Name := by simpa using hne
      rcases List.mem_cons.1 hx with rfl | hx
      · exact Classical.byContradiction fun hk => hne' (Less.tri hy hk)
      · have hyx := h1 x hx
        by_cases hk : Less f.Name y.Name
        · exact hk.trans hyx
        · rw [← Less.tri hy hk]; exact hyx
theorem fileOf_cons (x : File) (l : List File) (s : ByteArray) : fileOf (x :: l) s = bif decide (x.Name = s) then some x else fileOf l s := by
  unfold fileOf
  rw [List.find?_cons]
  cases decide (x.Name = s) <;> rfl
theorem fileOf_filter {s t : ByteArray} (h : s ≠ t) : ∀ l : List File, fileOf (l.filter fun y => !decide (y.Name = t)) s = fileOf l s
  | [] => rfl
  | x :: l => by
    rw [List.filter_cons, fileOf_cons]
    by_cases hx : x.Name = t
    · rw [decide_eq_true hx, decide_eq_false (show ¬ x.Name = s from fun e => h (by rw [← e, hx]))]
      simp only [Bool.not_true, Bool.false_eq_true, if_false, cond_false]
      exact fileOf_filter h l
    · rw [decide_eq_false hx]
      simp only [Bool.not_false, if_true]
      rw [fileOf_cons, fileOf_filter h l]
theorem fileOf_lay_other (f : File) {s : ByteArray} (h : s ≠ f.Name) : ∀ l : List File, fileOf (layR f l) s = fileOf l s
  | [] => by rw [show layR f [] = [f] from rfl, fileOf_cons, decide_eq_false (fun e => h e.symm)]; rfl
  | x :: l => by
    unfold layR
    cases decide (Less x.Name f.Name) with
    | true => rw [cond_true, fileOf_cons, fileOf_cons, fileOf_lay_other f h l]
    | false => rw [cond_false, fileOf_cons, decide_eq_false (fun e => h e.symm), cond_false, fileOf_filter h]
theorem fileOf_lay_self (f : File) : ∀ l : List File, fileOf (layR f l) f.Name = some f
  | [] => by rw [show layR f [] = [f] from rfl, fileOf_cons, decide_eq_true rfl]; rfl
  | x :: l => by
    unfold layR
    by_cases hx : Less x.Name f.Name
    · rw [decide_eq_true hx, cond_true, fileOf_cons, decide_eq_false hx.ne, cond_false, fileOf_lay_self f l]
    · rw [decide_eq_false hx, cond_false, fileOf_cons, decide_eq_true rfl]; rfl
theorem layR_len (f : File) : ∀ l : List File, (layR f l).length ≤ l.length + 1
  | [] => by simp [layR]
  | x :: l => by
    unfold layR
    cases decide (Less x.Name f.Name) with
    | true => have := layR_len f l; simp; omega
    | false => have := List.length_filter_le (fun y => !decide (y.Name = f.Name)) (x :: l); simp at *; omega
theorem layR_len2 (f : File) : ∀ l : List File, (fileOf l f.Name).isSome = true → (layR f l).length ≤ l.length
  | [], h => by cases h
  | x :: l, h => by
    unfold layR
    by_cases hx : Less x.Name f.Name
    · rw [fileOf_cons, decide_eq_false hx.ne, cond_false] at h
      rw [decide_eq_true hx, cond_true]
      have := layR_len2 f l h
      simp; omega
    · rw [decide_eq_false hx, cond_false]
      obtain ⟨y, hy⟩ := Option.isSome_iff_exists.1 h
      obtain ⟨hm, hn⟩ := fileOf_name hy
      have : ((x :: l).filter (fun y => !decide (y.Name = f.Name))).length < (x :: l).length := List.length_filter_lt_length_iff_exists.2 ⟨y, hm, by simp [hn]⟩
      simp only [List.length_cons] at *; omega
theorem wrap_clock {c : Int} (h0 : 0 ≤ c) (h1 : c ≤ 1099511627776) : IntKind.i64.wrap (c + (1 : Int)) = c + 1 := by
  simp [IntKind.wrap, IntKind.signed, IntKind.bits]
  split <;> omega
/-- smithyref02.Write of a short text on a right disk. -/
theorem rwrite_v (d : Disk) (hf : diskFits d) (hd : DiskOk d) (s t : ByteArray) (hs : s.size ≤ LIM) (hn : nameOk s = true) (ht : t.size ≤ 4096) : ∃ D h, smithyref02_Write.v d s t = some (D, h) ∧ (h = 0 → D = ⟨d.Clock + 1, layR ⟨s, t, d.Clock + 1⟩ d.Files⟩ ∧ DiskOk D) := by
  have hl := hd.l
  obtain ⟨i, e1, e2⟩ := rplace_v d hf s
  have e0 : icmp .gtr (t.size : Int) (4096 : Int) = false := by rw [gtr_not, decide_eq_true (show (t.size : Int) ≤ 4096 by omega)]; rfl
  have e3 : icmp .geq (d.Files.length : Int) (256 : Int) = decide (256 ≤ d.Files.length) := by unfold icmp; rw [Bool.eq_iff_iff]; simp only [decide_eq_true_eq]; omega
  have e4 : icmp .geq d.Clock (1099511627776 : Int) = decide (1099511627776 ≤ d.Clock) := by unfold icmp; rw [Bool.eq_iff_iff]; try simp
  rw [smithyref02_Write.v_eq, rfit_v d hf s hs, (diskOk_iff d).2 hd, hn, cond_true, cond_true, Option.bind_some, show icmp .neq (0 : Int) (0 : Int) = false from rfl, cond_false, e0, cond_false, smithyref02_written.v_eq, e1, Option.bind_some, e2, e3, e4, wrap_clock hd.c0 hd.c1]
  have hsel : (bif !(fileOf d.Files s).isSome then some (decide (256 ≤ d.Files.length)) else some false) = some (!(fileOf d.Files s).isSome && decide (256 ≤ d.Files.length)) := by cases (fileOf d.Files s).isSome <;> rfl
  rw [hsel, Option.bind_some]
  cases hfull : (!(fileOf d.Files s).isSome && decide (256 ≤ d.Files.length)) with
  | true => exact ⟨_, 22, rfl, fun h => by cases h⟩
  | false =>
    rw [cond_false]
    by_cases hc : 1099511627776 ≤ d.Clock
    · rw [decide_eq_true hc]; exact ⟨_, 23, rfl, fun h => by cases h⟩
    · rw [decide_eq_false hc, cond_false, rlaid_v d _ hl]
      refine ⟨_, 0, rfl, fun _ => ⟨rfl, ?_⟩⟩
      have hlen : (layR ⟨s, t, d.Clock + 1⟩ d.Files).length ≤ 256 := by
        cases hsome : (fileOf d.Files s).isSome with
        | true => exact Nat.le_trans (layR_len2 ⟨s, t, d.Clock + 1⟩ d.Files hsome) hl
        | false =>
          rw [hsome] at hfull
          simp only [Bool.not_false, Bool.true_and, decide_eq_false_iff_not] at hfull
          have := layR_len ⟨s, t, d.Clock + 1⟩ d.Files
          omega
      have h0 := hd.c0
      refine ⟨by show 0 ≤ d.Clock + 1; omega, by show d.Clock + 1 ≤ _; omega, hlen, fun x hx => ?_, layR_sorted _ _ hd.s⟩
      rcases layR_mem _ _ x hx with rfl | hx
      · exact ⟨hn, ht, by show 0 ≤ d.Clock + 1; omega, Int.le_refl _⟩
      · obtain ⟨q1, q2, q3, q4⟩ := hd.f x hx
        exact ⟨q1, q2, q3, by show x.Stamp ≤ d.Clock + 1; omega⟩
end Go.Proofs.Ytoemgemfgaooeaa.F
