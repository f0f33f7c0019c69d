/- What would be made: the program's and the document's. -/
import Derived.Test.YtoemgemfgaooeaaPstale
set_option linter.unusedVariables false
set_option linter.unusedSimpArgs false
set_option linter.unnecessarySimpa false
set_option linter.deprecated false
namespace Go.Proofs.Ytoemgemfgaooeaa.F
open Go Go.RowKit Go.Proofs.Ytoemgemfgaooeaa.Sl
theorem rdcheck_loop (d : Disk) (hf : diskFits d) : ∀ j : Nat, j ≤ d.Files.length → smithyref02_Check.l0.v d (j : Int) = some (bif filesB d.Clock (if j = 0 then none else (d.Files[j - 1]?).map (·.Name)) (d.Files.drop j) then .ok () else .error 4) := fun j hj =>
  up j hj (by rw [smithyref02_Check.l0.v_eq, lss_nat, List.drop_length, decide_eq_false (by simp)]; simp [filesB]) (fun j hj ih => by
    have hl := hf.nl
    have hx := hf.n _ (List.getElem_mem hj)
    have e0 : icmp .gtr (j : Int) (0 : Int) = decide (0 < j) := gtr_nat j 0
    have e1 : icmp .gtr (d.Files[j].Text.size : Int) (4096 : Int) = !decide (d.Files[j].Text.size ≤ 4096) := by rw [gtr_not]; congr 1; rw [Bool.eq_iff_iff]; simp only [decide_eq_true_eq]; omega
    rw [smithyref02_Check.l0.v_eq, lss_nat, decide_eq_true hj, cond_true, idx_nat hj, Option.bind_some, name_v _ hx, Option.bind_some, wrap_nat (by simp [LIM] at hl; omega), ih, drop_cons hj, if_neg (Nat.succ_ne_zero j), lss_not, gtr_not d.Files[j].Stamp, e1, e0, Nat.add_sub_cancel, List.getElem?_eq_getElem hj]
    simp only [filesB, Option.map_some]
    cases nameOk d.Files[j].Name with
    | false => rfl
    | true =>
      rcases Nat.eq_zero_or_pos j with h0 | h0
      · subst h0
        cases decide (d.Files[0].Text.size ≤ 4096) <;> cases decide (0 ≤ d.Files[0].Stamp) <;> cases decide (d.Files[0].Stamp ≤ d.Clock) <;> rfl
      · have hj1 : j - 1 < d.Files.length := by omega
        have ew : IntKind.i64.wrap ((j : Int) - (1 : Int)) = ((j - 1 : Nat) : Int) := by
          simp [LIM] at hl
          simp [IntKind.wrap, IntKind.signed, IntKind.bits]
          split <;> omega
        rw [decide_eq_true h0, if_neg (show ¬ j = 0 by omega), ew, idx_nat hj1, List.getElem?_eq_getElem hj1]
        simp only [Option.map_some, Option.bind_some, scmp_geq]
        cases decide (Less d.Files[j - 1].Name d.Files[j].Name) <;> cases decide (d.Files[j].Text.size ≤ 4096) <;> cases decide (0 ≤ d.Files[j].Stamp) <;> cases decide (d.Files[j].Stamp ≤ d.Clock) <;> rfl)
theorem rdcheck_v (d : Disk) (hf : diskFits d) : smithyref02_Check.v d = some (bif diskOk d then 0 else 4) := by
  rw [smithyref02_Check.v_eq, dbounds, Option.bind_some, show smithyref02_Check.l0.v d (0 : Int) = _ from rdcheck_loop d hf 0 (Nat.zero_le _), List.drop_zero, if_pos rfl]
  unfold diskOk
  cases decide (0 ≤ d.Clock) && decide (d.Clock ≤ 1099511627776) && decide (d.Files.length ≤ 256) <;> cases filesB d.Clock none d.Files <;> rfl
def phIn (l : List Node) (x : ByteArray) : Bool := l.any fun n => n.Phony && decide (n.Target = x)
theorem phIn_app (l : List Node) (n : Node) (x : ByteArray) : phIn (l ++ [n]) x = (phIn l x || (n.Phony && decide (n.Target = x))) := by simp [phIn]
def runB (n : Node) (d : Disk) (q : ByteArray → Bool) : Bool := staleB n d q && decide (0 < n.Recipe.length)
def wouldP (d : Disk) : List Node → List Node → List ByteArray → List ByteArray
  | _, [], out => out
  | pre, n :: ns, out => wouldP d (pre ++ [n]) ns (bif runB n d (fun x => phIn pre x || memB out x) then out ++ [n.Target] else out)
theorem nodeB_needs {n : Node} (h : nodeB n = true) : nameOk n.Target = true ∧ n.Needs.length ≤ 65 ∧ (∀ x, x ∈ n.Needs → nameOk x = true) ∧ (0 < n.Recipe.length → n.Has = true) := by
  unfold nodeB at h
  simp only [Bool.and_eq_true, decide_eq_true_eq, Bool.or_eq_true] at h
  obtain ⟨⟨⟨⟨⟨⟨h1, h2⟩, h3⟩, h4⟩, h5⟩, h6⟩, h7⟩ := h
  refine ⟨h1, h2, ?_, fun h0 => h4.resolve_right (by omega)⟩
  have key : ∀ (l pre : List ByteArray), needsB n.Target pre l = true → ∀ x, x ∈ l → nameOk x = true := by
    intro l
    induction l with
    | nil => intro pre _ x hx; cases hx
    | cons y l ih =>
      intro pre hb x hx
      simp only [needsB, Bool.and_eq_true] at hb
      rcases List.mem_cons.1 hx with rfl | hx
      · exact hb.1.1.1
      · exact ih _ hb.2 x hx
  exact key _ _ h5
theorem needsOk_of {n : Node} (hf : nodeFits n) (h : nodeB n = true) : needsOk n := ⟨hf.t, hf.nl, fun x hx => ⟨hf.ns x hx, (nodeB_needs h).2.2.1 x hx⟩⟩
theorem memB_filter (l : List ByteArray) (q : ByteArray → Bool) {x : ByteArray} (hx : x ∈ l) : memB (l.filter q) x = q x := by
  rw [Bool.eq_iff_iff, memB_iff, List.mem_filter]
  exact ⟨fun h => h.2, fun h => ⟨hx, h⟩⟩
theorem take_add {α : Type} {l : List α} {j : Nat} (h : j < l.length) : l.take (j + 1) = l.take j ++ [l[j]] := by rw [List.take_add_one, List.getElem?_eq_getElem h]; rfl
theorem would_loop (p : Plan) (hp : planFits p) (hg : ∀ x, x ∈ p.Nodes → nodeB x = true) (d : Disk) (hf : diskFits d) (hd : DiskOk d) : ∀ j : Nat, j ≤ p.Nodes.length → ∀ (made : GM Bool) (out : List ByteArray), (∀ x, (made.g x).getD false = (phIn (p.Nodes.take j) x || memB out x)) → made.n ≤ 2 * j → out.length ≤ j →
    stale_Would.l0.v p d (made, out, (j : Int)) = some (wouldP d (p.Nodes.take j) (p.Nodes.drop j) out) := fun j hj =>
  up j hj (fun made out _ _ _ => by rw [stale_Would.l0.v_eq, lss_nat, List.drop_length, decide_eq_false (by simp)]; rfl) (fun j hj ih made out hm hn ho => by
    have hl := hp.nl
    have hx := hp.n _ (List.getElem_mem hj)
    have hb := hg _ (List.getElem_mem hj)
    obtain ⟨b1, b2, b3, b4⟩ := nodeB_needs hb
    have hl2 : j < 140737488351232 / 100 := by simp [LIM] at hl; omega
    have hfil : (p.Nodes[j].Needs.filter fun z => !(!(made.g z).getD false)).length ≤ LIM := Nat.le_trans (List.length_filter_le _ _) hx.nl
    obtain ⟨w, s, e1, e2⟩ := why_v p.Nodes[j] (needsOk_of hx hb) d hf hd (p.Nodes[j].Needs.filter fun z => !(!(made.g z).getD false)) hfil
    have e3 : staleB p.Nodes[j] d (memB (p.Nodes[j].Needs.filter fun z => !(!(made.g z).getD false))) = staleB p.Nodes[j] d (fun x => phIn (p.Nodes.take j) x || memB out x) := staleB_congr (fun x hx => by rw [memB_filter _ _ hx, Bool.not_not, hm])
    rw [e3] at e2
    have e4 : icmp .gtr (p.Nodes[j].Recipe.length : Int) (0 : Int) = decide (0 < p.Nodes[j].Recipe.length) := gtr_nat _ 0
    rw [stale_Would.l0.v_eq, lss_nat, decide_eq_true hj, cond_true, idx_nat hj, Option.bind_some, clone_v _ (by simp [LIM]; omega), Option.bind_some, delf_v _ _ (fun z => !(made.g z).getD false) (fun z hz => by
      unfold stale_Would_1.f
      rw [gget_some (hx.ns z hz), Option.bind_some]) hx.nl, Option.bind_some, e1, Option.bind_some, e2, e4, wrap_nat (by omega), drop_cons hj]
    simp only [wouldP, runB]
    rw [← take_add hj]
    have hwb : (bif staleB p.Nodes[j] d (fun x => phIn (p.Nodes.take j) x || memB out x) then some (decide (0 < p.Nodes[j].Recipe.length)) else some false) = some (staleB p.Nodes[j] d (fun x => phIn (p.Nodes.take j) x || memB out x) && decide (0 < p.Nodes[j].Recipe.length)) := by
      cases staleB p.Nodes[j] d (fun x => phIn (p.Nodes.take j) x || memB out x) <;> rfl
    rw [hwb, Option.bind_some]
    have ht := hx.t
    cases hr : (staleB p.Nodes[j] d (fun x => phIn (p.Nodes.take j) x || memB out x) && decide (0 < p.Nodes[j].Recipe.length)) with
    | true =>
      simp only [cond_true]
      rw [app_one (by simp [LIM] at *; omega), Option.bind_some, gput_some (by omega) ht, Option.bind_some, Option.bind_some]
      simp only []
      rw [gget_some ht]
      simp only [if_true, Option.getD_some, Option.bind_some, cond_true]
      rw [gput_some (by show made.n + 1 < _; omega) ht, Option.bind_some, Option.bind_some]
      refine ih _ _ (fun x => ?_) (by show made.n + 1 + 1 ≤ _; omega) (by simp; omega)
      show (if x = p.Nodes[j].Target then some true else if x = p.Nodes[j].Target then some true else made.g x).getD false = _
      rw [take_add hj, phIn_app, memB_app]
      by_cases hxt : x = p.Nodes[j].Target
      · subst hxt; simp [memB]
      · rw [if_neg hxt, if_neg hxt, hm x, decide_eq_false (fun e => hxt e.symm)]
        have e5 : memB [p.Nodes[j].Target] x = false := by
          rw [memB_cons, decide_eq_false (fun e => hxt e.symm)]; rfl
        rw [e5]; simp
    | false =>
      simp only [cond_false, Option.bind_some]
      rw [gget_some ht, Option.bind_some]
      cases hb2 : (made.g p.Nodes[j].Target).getD false with
      | true =>
        simp only [cond_true]
        rw [gput_some (by omega) ht, Option.bind_some, Option.bind_some]
        refine ih _ _ (fun x => ?_) (by show made.n + 1 ≤ _; omega) (by omega)
        show (if x = p.Nodes[j].Target then some true else made.g x).getD false = _
        rw [take_add hj, phIn_app]
        by_cases hxt : x = p.Nodes[j].Target
        · subst hxt
          rw [if_pos rfl]
          have := hm p.Nodes[j].Target
          rw [hb2] at this
          cases h1 : phIn (p.Nodes.take j) p.Nodes[j].Target with
          | true => simp
          | false => rw [h1] at this; simp only [Bool.false_or] at this; rw [← this]; simp
        · rw [if_neg hxt, hm x, decide_eq_false (fun e => hxt e.symm)]; simp
      | false =>
        simp only [cond_false]
        rw [gput_some (by omega) ht, Option.bind_some, Option.bind_some]
        refine ih _ _ (fun x => ?_) (by show made.n + 1 ≤ _; omega) (by omega)
        show (if x = p.Nodes[j].Target then some p.Nodes[j].Phony else made.g x).getD false = _
        rw [take_add hj, phIn_app]
        by_cases hxt : x = p.Nodes[j].Target
        · subst hxt
          rw [if_pos rfl]
          have := hm p.Nodes[j].Target
          rw [hb2] at this
          cases h1 : phIn (p.Nodes.take j) p.Nodes[j].Target with
          | true => rw [h1] at this; simp at this
          | false => rw [h1] at this; simp only [Bool.false_or] at this; rw [← this]; simp
        · rw [if_neg hxt, hm x, decide_eq_false (fun e => hxt e.symm)]; simp)
/-! ### the document's -/
def ndB (n : Node) (d : Disk) (made : List ByteArray) (x : ByteArray) : Bool := !(fileOf d.Files n.Target).isSome || (memB made x || (!(fileOf d.Files x).isSome || newB d n.Target x))
theorem rnewer_v (n : Node) (d : Disk) (hf : diskFits d) (made : List ByteArray) (hm : made.length ≤ LIM) (x : ByteArray) : smithyref13_newer.v n d made x = some (ndB n d made x) := by
  rw [smithyref13_newer.v_eq, rfile_v d hf, Option.bind_some, rfile_v d hf, Option.bind_some, has_v _ _ hm]
  have hnw : icmp .gtr ((fileOf d.Files x).getD zFile).Stamp ((fileOf d.Files n.Target).getD zFile).Stamp = newB d n.Target x := by unfold newB stampOf icmp; rfl
  simp only [hnw, Option.bind_some]
  unfold ndB
  cases (fileOf d.Files n.Target).isSome <;> cases memB made x <;> cases (fileOf d.Files x).isSome <;> rfl
theorem rlist_loop (n : Node) (hn : n.Needs.length * 16 ≤ LIM) (d : Disk) (hf : diskFits d) (made : List ByteArray) (hm : made.length ≤ LIM) : ∀ j : Nat, j ≤ n.Needs.length → ∀ out : List ByteArray, out.length ≤ j → smithyref13_List.l0.v n d made (out, (j : Int)) = some (out ++ (n.Needs.drop j).filter (ndB n d made)) := fun j hj =>
  up j hj (fun out _ => by rw [smithyref13_List.l0.v_eq, lss_nat, List.drop_length, decide_eq_false (by simp)]; simp) (fun j hj ih out ho => by
    rw [smithyref13_List.l0.v_eq, lss_nat, decide_eq_true hj, cond_true, idx_nat hj, Option.bind_some, rnewer_v n d hf made hm, Option.bind_some, wrap_nat (by simp [LIM] at hn; omega), drop_cons hj, List.filter_cons]
    cases h : ndB n d made n.Needs[j] with
    | false =>
      simp only [cond_false, Option.bind_some, Bool.false_eq_true, if_false]
      exact ih out (by omega)
    | true =>
      simp only [cond_true, if_true]
      rw [app_one (by simp [LIM] at *; omega)]
      simp only [Option.bind_some]
      rw [ih _ (by simp; omega), List.append_assoc]; rfl)
theorem rstale_v (n : Node) (hn : n.Needs.length * 16 ≤ LIM) (d : Disk) (hf : diskFits d) (made : List ByteArray) (hm : made.length ≤ LIM) : smithyref13_Stale.v n d made = some (staleB n d (memB made)) := by
  rw [smithyref13_Stale.v_eq, rfile_v d hf, smithyref13_List.v_eq, show smithyref13_List.l0.v n d made (([] : List ByteArray), (0 : Int)) = _ from rlist_loop n hn d hf made hm 0 (Nat.zero_le _) [] (Nat.le_refl _), List.nil_append, List.drop_zero]
  unfold staleB
  simp only [Option.bind_some]
  cases n.Phony with
  | true => rfl
  | false =>
    cases ht : (fileOf d.Files n.Target).isSome with
    | false => rfl
    | true =>
      simp only [cond_false, Bool.not_true, Bool.false_or, Option.bind_some]
      congr 1
      have e : icmp .gtr ((n.Needs.filter (ndB n d made)).length : Int) (0 : Int) = decide (0 < (n.Needs.filter (ndB n d made)).length) := gtr_nat _ 0
      rw [e, Bool.eq_iff_iff, decide_eq_true_eq, List.length_pos_iff_exists_mem, List.any_eq_true]
      refine exists_congr fun x => ?_
      rw [List.mem_filter]
      refine and_congr Iff.rfl ?_
      unfold ndB badB
      rw [ht]
      cases memB made x <;> cases (fileOf d.Files x).isSome <;> simp
def phs (l : List Node) : List ByteArray := (l.filter fun n => n.Phony).map (·.Target)
theorem rph_loop (p : Plan) (hp : planFits p) : ∀ j : Nat, j ≤ p.Nodes.length → ∀ out : List ByteArray, out.length ≤ j → smithyref13_Would.l0.v p (out, (j : Int)) = some (out ++ phs (p.Nodes.drop j)) := fun j hj =>
  up j hj (fun out _ => by rw [smithyref13_Would.l0.v_eq, lss_nat, List.drop_length, decide_eq_false (by simp)]; simp [phs]) (fun j hj ih out ho => by
    have hl := hp.nl
    rw [smithyref13_Would.l0.v_eq, lss_nat, decide_eq_true hj, cond_true, idx_nat hj, Option.bind_some, wrap_nat (by simp [LIM] at hl; omega), drop_cons hj]
    unfold phs
    rw [List.filter_cons]
    cases h : p.Nodes[j].Phony with
    | false =>
      simp only [cond_false, Option.bind_some, Bool.false_eq_true, if_false]
      exact ih out (by omega)
    | true =>
      simp only [cond_true, if_true, List.map_cons]
      rw [app_one (by simp [LIM] at *; omega)]
      simp only [Option.bind_some]
      rw [ih _ (by simp; omega), List.append_assoc]; rfl)
def wouldR (d : Disk) (ph : List ByteArray) : List Node → List ByteArray → List ByteArray
  | [], out => out
  | n :: ns, out => wouldR d ph ns (bif n.Has && (decide (0 < n.Recipe.length) && staleB n d (memB (ph ++ out))) then out ++ [n.Target] else out)
theorem rwould_loop (p : Plan) (hp : planFits p) (hg : ∀ x, x ∈ p.Nodes → nodeB x = true) (d : Disk) (hf : diskFits d) (ph : List ByteArray) (hph : ph.length ≤ p.Nodes.length) : ∀ j : Nat, j ≤ p.Nodes.length → ∀ out : List ByteArray, out.length ≤ j → smithyref13_Would.l1.v p d ph (out, (j : Int)) = some (wouldR d ph (p.Nodes.drop j) out) := fun j hj =>
  up j hj (fun out _ => by rw [smithyref13_Would.l1.v_eq, lss_nat, List.drop_length, decide_eq_false (by simp)]; rfl) (fun j hj ih out ho => by
    have hl := hp.nl
    have hb := nodeB_needs (hg _ (List.getElem_mem hj))
    have e4 : icmp .gtr (p.Nodes[j].Recipe.length : Int) (0 : Int) = decide (0 < p.Nodes[j].Recipe.length) := gtr_nat _ 0
    simp only [LIM] at hl
    rw [smithyref13_Would.l1.v_eq, lss_nat, decide_eq_true hj, cond_true, idx_nat hj, Option.bind_some, app_all (by simp; omega), Option.bind_some, app_all (by simp; omega), Option.bind_some, List.nil_append, rstale_v _ (by have := hb.2.1; simp [LIM]; omega) d hf _ (by simp [LIM]; omega), e4, wrap_nat (by omega), drop_cons hj]
    simp only [wouldR, Option.bind_some]
    have hsel : (bif p.Nodes[j].Has then bif decide (0 < p.Nodes[j].Recipe.length) then some (staleB p.Nodes[j] d (memB (ph ++ out))) else some false else some false) = some (p.Nodes[j].Has && (decide (0 < p.Nodes[j].Recipe.length) && staleB p.Nodes[j] d (memB (ph ++ out)))) := by
      cases p.Nodes[j].Has <;> cases decide (0 < p.Nodes[j].Recipe.length) <;> rfl
    rw [hsel, Option.bind_some]
    cases p.Nodes[j].Has && (decide (0 < p.Nodes[j].Recipe.length) && staleB p.Nodes[j] d (memB (ph ++ out))) with
    | false =>
      simp only [cond_false, Option.bind_some]
      exact ih out (by omega)
    | true =>
      simp only [cond_true]
      rw [app_one (by simp [LIM] at *; omega)]
      simp only [Option.bind_some]
      exact ih _ (by simp; omega))
/-! ### they are the same -/
def Good (l : List Node) : Prop := ∀ pre n post, l = pre ++ n :: post → nodeB n = true ∧ n.Target ∉ pre.map (·.Target) ∧ ∀ x, x ∈ n.Needs → x ∈ pre.map (·.Target)
theorem planGo_right : ∀ (l : List Node) (a b : List ByteArray), planGo l a = some b → ∀ pre n post, l = pre ++ n :: post → rightB (a ++ pre.map (·.Target)) n = true
  | [], a, b, _, pre, n, post, e => by simp at e
  | m :: l, a, b, h, pre, n, post, e => by
    unfold planGo at h
    cases hr : rightB a m with
    | false => rw [hr] at h; cases h
    | true =>
      rw [hr] at h
      cases pre with
      | nil =>
        simp only [List.nil_append, List.cons.injEq] at e
        obtain ⟨rfl, rfl⟩ := e
        simpa using hr
      | cons m' pre =>
        simp only [List.cons_append, List.cons.injEq] at e
        obtain ⟨rfl, rfl⟩ := e
        have := planGo_right _ _ _ h pre n post rfl
        simpa using this
theorem good_of {p : Plan} (h : planOk p = true) : Good p.Nodes := by
  unfold planOk at h
  simp only [Bool.and_eq_true] at h
  obtain ⟨_, h⟩ := h
  cases hg : planGo p.Nodes [] with
  | none => rw [hg] at h; cases h
  | some a =>
    intro pre n post e
    have := planGo_right _ _ _ hg pre n post e
    unfold rightB at this
    simp only [List.nil_append, Bool.and_eq_true, Bool.not_eq_true', List.all_eq_true] at this
    obtain ⟨⟨h1, h2⟩, h3⟩ := this
    refine ⟨h1, fun hm => ?_, fun x hx => memB_iff.1 (h3 x hx)⟩
    rw [memB_iff.2 hm] at h2; cases h2
theorem good_node {l : List Node} (h : Good l) : ∀ x, x ∈ l → nodeB x = true := fun x hx => by
  obtain ⟨s, t, rfl⟩ := List.append_of_mem hx
  exact (h s x t rfl).1
theorem good_later {pre rest : List Node} (h : Good (pre ++ rest)) {m : Node} (hm : m ∈ rest) : m.Target ∉ pre.map (·.Target) := fun hx => by
  obtain ⟨s, t, rfl⟩ := List.append_of_mem hm
  refine (h (pre ++ s) m t (by simp)).2.1 ?_
  rw [List.map_append]; exact List.mem_append_left _ hx
theorem ph_same {pre rest : List Node} (h : Good (pre ++ rest)) {x : ByteArray} (hx : x ∈ pre.map (·.Target)) : phIn pre x = memB (phs (pre ++ rest)) x := by
  rw [Bool.eq_iff_iff, memB_iff]
  unfold phIn phs
  rw [List.any_eq_true]
  simp only [Bool.and_eq_true, decide_eq_true_eq, List.mem_map, List.mem_filter, List.mem_append]
  constructor
  · rintro ⟨n, hn, hp, rfl⟩; exact ⟨n, ⟨.inl hn, hp⟩, rfl⟩
  · rintro ⟨n, ⟨hn | hn, hp⟩, rfl⟩
    · exact ⟨n, hn, hp, rfl⟩
    · exact absurd hx (good_later h hn)
theorem would_same (d : Disk) (all : List Node) (h : Good all) : ∀ (rest pre : List Node) (out : List ByteArray), all = pre ++ rest → wouldP d pre rest out = wouldR d (phs all) rest out
  | [], pre, out, _ => rfl
  | n :: rest, pre, out, e => by
    obtain ⟨h1, h2, h3⟩ := h pre n rest e
    have e1 : runB n d (fun x => phIn pre x || memB out x) = (n.Has && (decide (0 < n.Recipe.length) && staleB n d (memB (phs all ++ out)))) := by
      unfold runB
      rw [staleB_congr (q' := memB (phs all ++ out)) (fun x hx => by rw [memB_app, e, ph_same (e ▸ h) (h3 x hx)])]
      by_cases h0 : 0 < n.Recipe.length
      · rw [(nodeB_needs h1).2.2.2 h0, decide_eq_true h0]; simp
      · rw [decide_eq_false h0]; simp
    simp only [wouldP, wouldR]
    rw [e1]
    exact would_same d all h rest (pre ++ [n]) _ (by rw [e]; simp)
theorem wouldR_len (d : Disk) (ph : List ByteArray) : ∀ (l : List Node) (out : List ByteArray), (wouldR d ph l out).length ≤ out.length + l.length
  | [], out => by simp [wouldR]
  | n :: l, out => by
    simp only [wouldR]
    refine Nat.le_trans (wouldR_len d ph l _) ?_
    cases n.Has && (decide (0 < n.Recipe.length) && staleB n d (memB (ph ++ out))) <;> simp <;> omega
def wouldL (p : Plan) (d : Disk) : List ByteArray := wouldR d (phs p.Nodes) p.Nodes []
theorem swould_v (p : Plan) (hp : planFits p) (d : Disk) (hf : diskFits d) : stale_Would.v p d = some (bif planOk p then (bif diskOk d then (wouldL p d, 0) else ([], 4)) else ([], 7)) := by
  rw [stale_Would.v_eq, rcheck_v p hp, Option.bind_some, dcheck_v d hf]
  cases h1 : planOk p with
  | false => rfl
  | true =>
    cases h2 : diskOk d with
    | false => rfl
    | true =>
      have hg := good_of h1
      have e := would_loop p hp (good_node hg) d hf ((diskOk_iff d).1 h2) 0 (Nat.zero_le _) gempty [] (fun x => rfl) (Nat.le_refl _) (Nat.le_refl _)
      rw [List.take_zero, List.drop_zero, would_same d p.Nodes hg p.Nodes [] [] rfl] at e
      simp only [cond_true]
      rw [show stale_Would.l0.v p d ((gempty : GM Bool), ([] : List ByteArray), (0 : Int)) = _ from e]
      rfl
theorem rwould_v (p : Plan) (hp : planFits p) (d : Disk) (hf : diskFits d) : smithyref13_Would.v p d = some (bif planOk p then (bif diskOk d then (wouldL p d, 0) else ([], 4)) else ([], 7)) := by
  rw [smithyref13_Would.v_eq, fcheck_v p hp, Option.bind_some, rdcheck_v d hf]
  cases h1 : planOk p with
  | false => rfl
  | true =>
    cases h2 : diskOk d with
    | false => rfl
    | true =>
      have hg := good_of h1
      have e1 := rph_loop p hp 0 (Nat.zero_le _) [] (Nat.le_refl _)
      have e2 := rwould_loop p hp (good_node hg) d hf (phs p.Nodes) (by unfold phs; rw [List.length_map]; exact List.length_filter_le _ _) 0 (Nat.zero_le _) [] (Nat.le_refl _)
      rw [List.drop_zero] at e1 e2
      rw [List.nil_append] at e1
      simp only [cond_true, Option.bind_some]
      rw [show smithyref13_Would.l0.v p (([] : List ByteArray), (0 : Int)) = _ from e1]
      simp only [show icmp .eql (0 : Int) (0 : Int) = true from rfl, show icmp .neq (0 : Int) (0 : Int) = false from rfl, cond_true, cond_false, Option.bind_some]
      rw [show smithyref13_Would.l1.v p d (phs p.Nodes) (([] : List ByteArray), (0 : Int)) = _ from e2]
      rfl
theorem texts_loop (l : List ByteArray) (hl : l.length ≤ LIM) : ∀ j : Nat, j ≤ l.length → smithyplain_Texts.l0.v l l j = some (.ok ()) := fun j hj =>
  up j hj (by rw [smithyplain_Texts.l0.v_eq, lss_nat, decide_eq_false (by simp)]; rfl) (fun j hj ih => by
    rw [smithyplain_Texts.l0.v_eq, lss_nat, decide_eq_true hj, cond_true, idx_nat hj, Option.bind_some, Option.bind_some, wrap_nat (by simp [LIM] at hl; omega), ih, scmp_neq, decide_eq_true rfl]; rfl)
theorem texts_v (l : List ByteArray) (hl : l.length ≤ LIM) : smithyplain_Texts.v l l = some true := by
  rw [smithyplain_Texts.v_eq, neq_nat, decide_eq_true rfl, show smithyplain_Texts.l0.v l l 0 = _ from texts_loop l hl 0 (Nat.zero_le _)]; rfl
theorem small_v : smithylaw13_small.v = some true := smithylaw13_small.tends.at 40 (by kernel_rfl)
end Go.Proofs.Ytoemgemfgaooeaa.F
