/- What is out of date. -/
import Derived.Test.YtoemgemfgaooeaaPcheck
import Derived.Test.YtoemgemfgaooeaaPdisk
import Derived.Test.YtoemgemfgaooeaaPdelf
set_option linter.unusedVariables false
set_option linter.unusedSimpArgs false
set_option linter.unnecessarySimpa false
set_option linter.deprecated false
namespace Go.Proofs.Ytoemgemfgaooeaa.F
open Go Go.RowKit Go.Proofs.Ytoemgemfgaooeaa.Sl
theorem sfile_v (d : Disk) (hf : diskFits d) (hd : DiskOk d) (s : ByteArray) (hs : s.size ≤ LIM) : stale_file.v d s = some ((fileOf d.Files s).getD zFile, (fileOf d.Files s).isSome) := by
  rw [stale_file.v_eq, find_v d hf hd s hs, Option.bind_some]
  cases h : fileOf d.Files s with
  | none => cases nameOk s <;> rfl
  | some y =>
    obtain ⟨hy, rfl⟩ := fileOf_name h
    rw [(hd.f y hy).1]; rfl
theorem rfile_loop (d : Disk) (hf : diskFits d) (s : ByteArray) : ∀ j : Nat, j ≤ d.Files.length → smithyref13_File.l0.v d s (j : Int) = some (match fileOf (d.Files.drop j) s with | none => .ok () | some y => .error (y, true)) := fun j hj =>
  up j hj (by rw [smithyref13_File.l0.v_eq, lss_nat, List.drop_length, decide_eq_false (by simp)]; rfl) (fun j hj ih => by
    have hl := hf.nl
    rw [smithyref13_File.l0.v_eq, lss_nat, decide_eq_true hj, cond_true, idx_nat hj, Option.bind_some, wrap_nat (by simp [LIM] at hl; omega), ih, drop_cons hj, scmp_eql]
    unfold fileOf
    rw [List.find?_cons]
    cases decide (d.Files[j].Name = s) <;> rfl)
theorem rfile_v (d : Disk) (hf : diskFits d) (s : ByteArray) : smithyref13_File.v d s = some ((fileOf d.Files s).getD zFile, (fileOf d.Files s).isSome) := by
  rw [smithyref13_File.v_eq, show smithyref13_File.l0.v d s (0 : Int) = _ from rfile_loop d hf s 0 (Nat.zero_le _), List.drop_zero]
  cases fileOf d.Files s <;> rfl
def stampOf (d : Disk) (s : ByteArray) : Int := ((fileOf d.Files s).getD zFile).Stamp
def badB (d : Disk) (q : ByteArray → Bool) (x : ByteArray) : Bool := !(fileOf d.Files x).isSome || q x
def newB (d : Disk) (t x : ByteArray) : Bool := decide (stampOf d t < stampOf d x)
def staleB (n : Node) (d : Disk) (q : ByteArray → Bool) : Bool := n.Phony || !(fileOf d.Files n.Target).isSome || n.Needs.any (fun x => badB d q x || newB d n.Target x)
theorem staleB_congr {n : Node} {d : Disk} {q q' : ByteArray → Bool} (h : ∀ x, x ∈ n.Needs → q x = q' x) : staleB n d q = staleB n d q' := by
  unfold staleB badB
  congr 1
  rw [Bool.eq_iff_iff, List.any_eq_true, List.any_eq_true]
  exact ⟨fun ⟨x, hx, e⟩ => ⟨x, hx, by rw [← h x hx]; exact e⟩, fun ⟨x, hx, e⟩ => ⟨x, hx, by rw [h x hx]; exact e⟩⟩
structure needsOk (n : Node) : Prop where
  t : n.Target.size ≤ LIM
  nl : n.Needs.length ≤ LIM
  ns : ∀ x, x ∈ n.Needs → x.size ≤ LIM ∧ nameOk x = true
theorem name_ne {s : ByteArray} (h : nameOk s = true) : s ≠ (⟨#[]⟩ : ByteArray) := fun e => by subst e; cases h
theorem why_loop (n : Node) (hn : needsOk n) (d : Disk) (hf : diskFits d) (hd : DiskOk d) (made : List ByteArray) (hm : made.length ≤ LIM) (b : Bool) : ∀ j : Nat, j ≤ n.Needs.length → ∀ later : ByteArray,
    ∃ r, stale_why.l0.v n d made ((fileOf d.Files n.Target).getD zFile, b) (later, (j : Int)) = some r ∧ (match r with
      | .error p => p.1 = 3 ∧ (n.Needs.drop j).any (badB d (memB made)) = true
      | .ok s => (n.Needs.drop j).any (badB d (memB made)) = false ∧ decide (s = (⟨#[]⟩ : ByteArray)) = (decide (later = (⟨#[]⟩ : ByteArray)) && !(n.Needs.drop j).any (newB d n.Target))) := fun j hj =>
  up j hj (fun later => ⟨.ok later, by rw [stale_why.l0.v_eq, lss_nat, decide_eq_false (by simp)]; rfl, by simp⟩) (fun j hj ih later => by
    have hl := hn.nl
    obtain ⟨hx, hnm⟩ := hn.ns _ (List.getElem_mem hj)
    rw [stale_why.l0.v_eq, lss_nat, decide_eq_true hj, cond_true, idx_nat hj, Option.bind_some, sfile_v d hf hd _ hx, Option.bind_some, contains_v _ _ hm, wrap_nat (by simp [LIM] at hl; omega), drop_cons hj]
    simp only [List.any_cons]
    have hb : badB d (memB made) n.Needs[j] = (!(fileOf d.Files n.Needs[j]).isSome || memB made n.Needs[j]) := rfl
    rw [hb]
    have hnw : icmp .gtr ((fileOf d.Files n.Needs[j]).getD zFile).Stamp ((fileOf d.Files n.Target).getD zFile).Stamp = newB d n.Target n.Needs[j] := by
      unfold newB stampOf icmp; rfl
    rw [hnw, scmp_eql]
    cases hbad : (!(fileOf d.Files n.Needs[j]).isSome || memB made n.Needs[j]) with
    | true =>
      refine ⟨.error ((3 : Int), n.Needs[j]), ?_, rfl, rfl⟩
      cases h1 : (fileOf d.Files n.Needs[j]).isSome with
      | false => rfl
      | true =>
        rw [h1] at hbad
        simp only [Bool.not_true, Bool.false_or] at hbad
        simp only [Bool.not_true, cond_false, Option.bind_some, hbad, cond_true]
    | false =>
      have h1 : (fileOf d.Files n.Needs[j]).isSome = true := by
        cases h : (fileOf d.Files n.Needs[j]).isSome with
        | true => rfl
        | false => rw [h] at hbad; simp at hbad
      have h2 : memB made n.Needs[j] = false := by rw [h1] at hbad; simpa using hbad
      rw [h1, h2]
      simp only [Bool.not_true, cond_false, Option.bind_some, Bool.false_or]
      cases h3 : newB d n.Target n.Needs[j] with
      | false =>
        simp only [cond_false, Option.bind_some, Bool.false_or]
        exact ih later
      | true =>
        simp only [cond_true, Option.bind_some, Bool.true_or]
        by_cases h4 : later = (⟨#[]⟩ : ByteArray)
        · rw [decide_eq_true h4]
          simp only [cond_true, Option.bind_some]
          obtain ⟨r, e, hr⟩ := ih n.Needs[j]
          refine ⟨r, e, ?_⟩
          cases r with
          | error p => exact hr
          | ok s =>
            refine ⟨hr.1, ?_⟩
            rw [hr.2, decide_eq_false (name_ne hnm)]; rfl
        · rw [decide_eq_false h4]
          simp only [cond_false, Option.bind_some]
          obtain ⟨r, e, hr⟩ := ih later
          refine ⟨r, e, ?_⟩
          cases r with
          | error p => exact hr
          | ok s =>
            refine ⟨hr.1, ?_⟩
            rw [hr.2, decide_eq_false h4]; rfl)
theorem any_or {α : Type} (p q : α → Bool) : ∀ l : List α, l.any (fun x => p x || q x) = (l.any p || l.any q)
  | [] => rfl
  | x :: xs => by
    rw [List.any_cons, List.any_cons, List.any_cons, any_or p q xs]
    cases p x <;> cases q x <;> cases xs.any p <;> rfl
/-- stale.why, and when it is Fresh. -/
theorem why_v (n : Node) (hn : needsOk n) (d : Disk) (hf : diskFits d) (hd : DiskOk d) (made : List ByteArray) (hm : made.length ≤ LIM) : ∃ w s, stale_why.v n d made = some (w, s) ∧ icmp .neq w (0 : Int) = staleB n d (memB made) := by
  rw [stale_why.v_eq, sfile_v d hf hd _ hn.t]
  unfold staleB
  cases hp : n.Phony with
  | true => exact ⟨1, _, rfl, rfl⟩
  | false =>
    simp only [cond_false, Option.bind_some, Bool.false_or]
    cases ht : (fileOf d.Files n.Target).isSome with
    | false => exact ⟨2, _, rfl, rfl⟩
    | true =>
      simp only [Bool.not_true, cond_false, Bool.false_or]
      obtain ⟨r, e, hr⟩ := why_loop n hn d hf hd made hm true 0 (Nat.zero_le _) (⟨#[]⟩ : ByteArray)
      rw [show stale_why.l0.v n d made ((fileOf d.Files n.Target).getD zFile, true) ((⟨#[]⟩ : ByteArray), (0 : Int)) = _ from e, any_or]
      rw [List.drop_zero] at hr
      cases r with
      | error p =>
        obtain ⟨h1, h2⟩ := hr
        obtain ⟨p1, p2⟩ := p
        refine ⟨p1, p2, rfl, ?_⟩
        rw [h2, show p1 = 3 from h1]; rfl
      | ok s =>
        obtain ⟨h1, h2⟩ := hr
        rw [h1]
        simp only [Option.bind_some, scmp_neq, Bool.false_or]
        rw [h2]
        simp only [decide_true, Bool.true_and, Bool.not_not]
        cases n.Needs.any (newB d n.Target) with
        | true => exact ⟨4, _, rfl, rfl⟩
        | false => exact ⟨0, _, rfl, rfl⟩
end Go.Proofs.Ytoemgemfgaooeaa.F
