/- A target by itself, and what is wrong with one: stale's fit, Why, Is. -/
import Derived.Test.YtoemgemfgaooeaaPwould
set_option linter.unusedVariables false
set_option linter.unusedSimpArgs false
set_option linter.unnecessarySimpa false
set_option linter.deprecated false
namespace Go.Proofs.Ytoemgemfgaooeaa.F
open Go Go.RowKit Go.Proofs.Ytoemgemfgaooeaa.Sl
def mkN (x : ByteArray) : Node := ⟨x, ([] : List ByteArray), ([] : List ByteArray), false, ByteArray.empty, ByteArray.empty, false, false, false, false⟩
def aloneP (n : Node) : Plan := ⟨n.Needs.map mkN ++ [n], [n.Target]⟩
theorem alone_loop (n : Node) (hn : n.Needs.length ≤ 1048577) : ∀ j : Nat, j ≤ n.Needs.length → ∀ out : List Node, out.length ≤ j → stale_alone.l0.v n (out, (j : Int)) = some (out ++ (n.Needs.drop j).map mkN) := fun j hj =>
  up j hj (fun out _ => by rw [stale_alone.l0.v_eq, lss_nat, List.drop_length, decide_eq_false (by simp)]; simp) (fun j hj ih out ho => by
    rw [stale_alone.l0.v_eq, lss_nat, decide_eq_true hj, cond_true, idx_nat hj, Option.bind_some, app_all (by simp; omega), Option.bind_some, wrap_nat (by omega), ih _ (by simp; omega), drop_cons hj, List.map_cons, List.append_assoc]; rfl)
theorem mkN_fits {x : ByteArray} (h : x.size ≤ LIM) : nodeFits (mkN x) := ⟨h, Nat.zero_le _, fun y hy => (by cases hy), Nat.zero_le _⟩
theorem aloneP_fits {n : Node} (hf : nodeFits n) (hn : n.Needs.length ≤ 1048577) : planFits (aloneP n) where
  nl := by simp [aloneP, LIM]; omega
  n := fun x hx => by
    simp only [aloneP, List.mem_append, List.mem_map, List.mem_singleton] at hx
    rcases hx with ⟨y, hy, rfl⟩ | rfl
    · exact mkN_fits (hf.ns y hy)
    · exact hf
  gl := by simp [aloneP, LIM]
  g := fun x hx => by simp only [aloneP, List.mem_singleton] at hx; rw [hx]; exact hf.t
theorem mkN_nodeB (x : ByteArray) : nodeB (mkN x) = nameOk x := by
  have h1 : srcB (mkN x) = true := by
    unfold srcB
    rw [decide_eq_true (show (mkN x).Source = (⟨#[]⟩ : ByteArray) from rfl), cond_true]
    exact decide_eq_true rfl
  unfold nodeB
  rw [h1]
  show (nameOk x && true && true && (false || true) && true && true && true) = nameOk x
  cases nameOk x <;> rfl
theorem planGo_app : ∀ (l k : List Node) (a : List ByteArray), planGo (l ++ k) a = (match planGo l a with | none => none | some b => planGo k b)
  | [], k, a => rfl
  | n :: l, k, a => by
    show (bif rightB a n then planGo (l ++ k) (a ++ [n.Target]) else none) = (match (bif rightB a n then planGo l (a ++ [n.Target]) else none) with | none => none | some b => planGo k b)
    cases rightB a n with
    | false => rfl
    | true => exact planGo_app l k _
theorem planGo_mk (t : ByteArray) : ∀ (l pre : List ByteArray), needsB t pre l = true → planGo (l.map mkN) pre = some (pre ++ l)
  | [], pre, _ => by simp [planGo]
  | x :: l, pre, h => by
    simp only [needsB, Bool.and_eq_true] at h
    obtain ⟨⟨⟨h1, h2⟩, h3⟩, h4⟩ := h
    have hr : rightB pre (mkN x) = true := by
      unfold rightB
      rw [mkN_nodeB, h1, show (mkN x).Target = x from rfl, h3]; rfl
    simp only [List.map_cons, planGo]
    rw [hr, cond_true, show (mkN x).Target = x from rfl, planGo_mk t l _ h4, List.append_assoc]; rfl
theorem needsB_no {t : ByteArray} : ∀ {l pre : List ByteArray}, needsB t pre l = true → memB l t = false
  | [], pre, _ => rfl
  | x :: l, pre, h => by
    simp only [needsB, Bool.and_eq_true, Bool.not_eq_true'] at h
    rw [memB_cons, h.1.1.2, needsB_no h.2]; rfl
theorem nodeB_alone {n : Node} (h : nodeB n = true) : planOk (aloneP n) = true := by
  have h0 := h
  unfold nodeB at h
  simp only [Bool.and_eq_true, decide_eq_true_eq] at h
  obtain ⟨⟨⟨⟨⟨⟨h1, h2⟩, h3⟩, h4⟩, h5⟩, h6⟩, h7⟩ := h
  have hall : n.Needs.all (memB n.Needs) = true := List.all_eq_true.2 fun x hx => memB_iff.2 hx
  have hgo : planGo (aloneP n).Nodes [] = some (n.Needs ++ [n.Target]) := by
    show planGo (n.Needs.map mkN ++ [n]) [] = _
    rw [planGo_app, planGo_mk n.Target _ _ h5, List.nil_append]
    show (bif rightB n.Needs n then some (n.Needs ++ [n.Target]) else none) = _
    unfold rightB
    rw [h0, needsB_no h5, hall]; rfl
  unfold planOk
  rw [hgo]
  have e1 : (aloneP n).Nodes.length ≤ 256 := by simp [aloneP]; omega
  have e2 : goalsB (n.Needs ++ [n.Target]) [] (aloneP n).Goals = true := by
    show (memB (n.Needs ++ [n.Target]) n.Target && !memB [] n.Target && true) = true
    rw [memB_app, memB_cons, decide_eq_true rfl]; simp [memB]
  rw [decide_eq_true e1]
  show (true && decide (1 ≤ (aloneP n).Goals.length) && decide ((aloneP n).Goals.length ≤ 512) && goalsB (n.Needs ++ [n.Target]) [] (aloneP n).Goals) = true
  rw [e2]; rfl
theorem alone_nodeB {n : Node} (h : planOk (aloneP n) = true) : nodeB n = true := (good_of h (n.Needs.map mkN) n [] rfl).1
theorem alone_eq (n : Node) : planOk (aloneP n) = nodeB n := by
  rw [Bool.eq_iff_iff]; exact ⟨alone_nodeB, nodeB_alone⟩
theorem alone_v (n : Node) (hf : nodeFits n) (hn : n.Needs.length ≤ 1048577) : stale_alone.v n = some (bif nodeB n then 0 else 7) := by
  rw [stale_alone.v_eq, show stale_alone.l0.v n (([] : List Node), (0 : Int)) = _ from alone_loop n hn 0 (Nat.zero_le _) [] (Nat.le_refl _), List.drop_zero, List.nil_append, Option.bind_some, app_all (by simp; omega), Option.bind_some, show (⟨n.Needs.map mkN ++ [n], [n.Target]⟩ : Plan) = aloneP n from rfl, rcheck_v _ (aloneP_fits hf hn), alone_eq]
  rfl
/-! ### lists of names -/
def listB (l : List ByteArray) : Int := bif decide (l.length ≤ 512) then (bif l.any (fun x => !nameOk x) then 3 else 0) else 2
theorem zdisk_ok : DiskOk (⟨(0 : Int), ([] : List File)⟩ : Disk) := ⟨by decide, by decide, by decide, fun x hx => (by cases hx), List.Pairwise.nil⟩
theorem zdisk_fits : diskFits (⟨(0 : Int), ([] : List File)⟩ : Disk) := ⟨Nat.zero_le _, fun x hx => by cases hx⟩
theorem newest_loop (l : List ByteArray) (hl : l.length ≤ LIM) : ∀ j : Nat, j ≤ l.length → disk_Newest.l0.v (⟨(0 : Int), ([] : List File)⟩ : Disk) l ((⟨#[]⟩ : ByteArray), (-1 : Int), (j : Int)) = some ((⟨#[]⟩ : ByteArray), (-1 : Int)) := fun j hj =>
  up j hj (by rw [disk_Newest.l0.v_eq, lss_nat, decide_eq_false (by simp)]; rfl) (fun j hj ih => by
    obtain ⟨m, _, h1, _⟩ := place_v (⟨(0 : Int), ([] : List File)⟩ : Disk) zdisk_ok l[j]
    rw [disk_Newest.l0.v_eq, lss_nat, decide_eq_true hj, cond_true, idx_nat hj, Option.bind_some, h1, wrap_nat (by simp [LIM] at hl; omega)]
    exact ih)
theorem list_v (l : List ByteArray) (hl : l.length ≤ LIM) (hs : ∀ x, x ∈ l → x.size ≤ LIM) : stale_list.v l = some (listB l) := by
  have e1 : icmp .gtr (l.length : Int) (512 : Int) = !decide (l.length ≤ 512) := by rw [gtr_not]; congr 1; rw [Bool.eq_iff_iff]; simp only [decide_eq_true_eq]; omega
  rw [stale_list.v_eq, disk_Newest.v_eq, dcheck_v _ zdisk_fits, (diskOk_iff _).2 zdisk_ok, e1, any_v l _ (fun x => !nameOk x) (fun z hz => by rw [disk_Newest_1.v_eq, named_v z (hs z hz)]; rfl) hl, show disk_Newest.l0.v (⟨(0 : Int), ([] : List File)⟩ : Disk) l ((⟨#[]⟩ : ByteArray), (-1 : Int), (0 : Int)) = _ from newest_loop l hl 0 (Nat.zero_le _)]
  unfold listB
  cases decide (l.length ≤ 512) with
  | false => rfl
  | true => cases l.any (fun x => !nameOk x) <;> rfl
def fitB (n : Node) (d : Disk) (made : List ByteArray) : Int := bif nodeB n then (bif diskOk d then listB made else 4) else 7
theorem sfit_v (n : Node) (hn : nodeFits n) (hl : n.Needs.length ≤ 1048577) (d : Disk) (hd : diskFits d) (made : List ByteArray) (hm : made.length ≤ LIM) (hs : ∀ x, x ∈ made → x.size ≤ LIM) : stale_fit.v n d made = some (fitB n d made) := by
  rw [stale_fit.v_eq, alone_v n hn hl, Option.bind_some, dcheck_v d hd, list_v made hm hs]
  unfold fitB
  cases nodeB n with
  | false => rfl
  | true => cases diskOk d <;> rfl
theorem fitB_zero {n : Node} {d : Disk} {made : List ByteArray} (h : fitB n d made = 0) : nodeB n = true ∧ diskOk d = true ∧ listB made = 0 := by
  unfold fitB at h
  cases h1 : nodeB n with
  | false => rw [h1] at h; cases h
  | true =>
    cases h2 : diskOk d with
    | false => rw [h1, h2] at h; cases h
    | true => rw [h1, h2] at h; exact ⟨rfl, rfl, h⟩
theorem eql_neq (w : Int) : icmp .eql w (0 : Int) = !icmp .neq w (0 : Int) := by
  unfold icmp; rw [Bool.eq_iff_iff]; simp
/-- stale.Why, and so Is. -/
theorem Why_v (n : Node) (hn : nodeFits n) (hl : n.Needs.length ≤ 1048577) (d : Disk) (hd : diskFits d) (made : List ByteArray) (hm : made.length ≤ LIM) (hs : ∀ x, x ∈ made → x.size ≤ LIM) : ∃ w s, stale_Why.v n d made = some (w, s, fitB n d made) ∧ icmp .neq w (0 : Int) = (bif decide (fitB n d made = 0) then staleB n d (memB made) else false) := by
  rw [stale_Why.v_eq, sfit_v n hn hl d hd made hm hs, Option.bind_some]
  by_cases h : fitB n d made = 0
  · obtain ⟨h1, h2, h3⟩ := fitB_zero h
    obtain ⟨w, s, e1, e2⟩ := why_v n (needsOk_of hn h1) d hd ((diskOk_iff d).1 h2) made hm
    rw [h, show icmp .neq (0 : Int) (0 : Int) = false from rfl, cond_false, e1]
    exact ⟨w, s, rfl, by rw [decide_eq_true rfl]; exact e2⟩
  · have e : icmp .neq (fitB n d made) (0 : Int) = true := by unfold icmp; simp [h]
    rw [e, cond_true, decide_eq_false h]
    exact ⟨0, _, rfl, rfl⟩
def isB (n : Node) (d : Disk) (made : List ByteArray) : Bool := bif decide (fitB n d made = 0) then staleB n d (memB made) else false
theorem Is_v (n : Node) (hn : nodeFits n) (hl : n.Needs.length ≤ 1048577) (d : Disk) (hd : diskFits d) (made : List ByteArray) (hm : made.length ≤ LIM) (hs : ∀ x, x ∈ made → x.size ≤ LIM) : stale_Is.v n d made = some (isB n d made, fitB n d made) := by
  obtain ⟨w, s, e1, e2⟩ := Why_v n hn hl d hd made hm hs
  rw [stale_Is.v_eq, e1, Option.bind_some]
  unfold isB
  rw [← e2]
end Go.Proofs.Ytoemgemfgaooeaa.F
