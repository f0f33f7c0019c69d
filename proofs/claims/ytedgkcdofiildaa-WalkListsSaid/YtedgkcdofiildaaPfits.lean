/- Chapter 14: whether targets are an order. -/
import Derived.Test.YtedgkcdofiildaaPwalk
set_option linter.unusedVariables false
set_option linter.unusedSimpArgs false
set_option linter.unnecessarySimpa false
set_option linter.deprecated false
namespace Go.Proofs.Ytedgkcdofiildaa.F
open Go Go.RowKit Go.Proofs.Ytedgkcdofiildaa.Sl
theorem ready_loop (n : Node) (hf : nodeFits n) (l : List ByteArray) (hl : l.length ≤ LIM) : ∀ j : Nat, j ≤ n.Needs.length → smithyref14_ready.l0.v n l j = some (bif (n.Needs.drop j).all (memB l) then .ok () else .error false) := fun j hj =>
  up j hj (by rw [smithyref14_ready.l0.v_eq, lss_nat, List.drop_length, decide_eq_false (by simp)]; rfl) (fun j hj ih => by
    have h2 := hf.nl
    rw [smithyref14_ready.l0.v_eq, lss_nat, decide_eq_true hj, cond_true, idx_nat hj, Option.bind_some, has_v _ _ hl, Option.bind_some, wrap_nat (by simp [LIM] at h2; omega), ih, drop_cons hj, List.all_cons]
    cases memB l n.Needs[j] <;> rfl)
theorem ready_v (n : Node) (hf : nodeFits n) (l : List ByteArray) (hl : l.length ≤ LIM) : smithyref14_ready.v n l = some (n.Needs.all (memB l)) := by
  rw [smithyref14_ready.v_eq, show smithyref14_ready.l0.v n l 0 = _ from ready_loop n hf l hl 0 (Nat.zero_le _), List.drop_zero]
  cases n.Needs.all (memB l) <;> rfl
theorem rnext_loop (p : Plan) (hf : planFits p) (l : List ByteArray) (hl : l.length ≤ LIM) : ∀ j : Nat, j ≤ p.Nodes.length → ∀ a : List ByteArray, a.length ≤ j → smithyref14_Next.l0.v p l (a, (j : Int)) = some (a ++ ((p.Nodes.drop j).filter (nxB l)).map (·.Target)) := fun j hj =>
  up j hj (fun a ha => by rw [smithyref14_Next.l0.v_eq, lss_nat, List.drop_length, decide_eq_false (by simp)]; simp) (fun j hj ih a ha => by
    have h2 := hf.nl
    have hx := hf.n _ (List.getElem_mem hj)
    rw [smithyref14_Next.l0.v_eq, lss_nat, decide_eq_true hj, cond_true, idx_nat hj, Option.bind_some, has_v _ _ hl, Option.bind_some, Option.bind_some, ready_v _ hx _ hl, Option.bind_some, Option.bind_some]
    dsimp only
    rw [app_one (by simp [LIM] at *; omega), wrap_nat (by simp [LIM] at h2; omega), drop_cons hj, List.filter_cons]
    have k : nxB l p.Nodes[j] = (!memB l p.Nodes[j].Target && p.Nodes[j].Needs.all (memB l)) := rfl
    have ih1 := ih a (by omega)
    have ih2 := ih (a ++ [p.Nodes[j].Target]) (by simp; omega)
    rw [List.append_assoc] at ih2
    cases h1 : memB l p.Nodes[j].Target <;> cases h2 : p.Nodes[j].Needs.all (memB l) <;> rw [h1, h2] at k <;> rw [k]
    · exact ih1
    · exact ih2
    · exact ih1
    · exact ih1)
theorem rnext_v (p : Plan) (hf : planFits p) (l : List ByteArray) (hl : l.length ≤ LIM) : smithyref14_Next.v p l = some (nxR p l) := by
  rw [smithyref14_Next.v_eq, show smithyref14_Next.l0.v p l (([] : List ByteArray), (0 : Int)) = _ from rnext_loop p hf l hl 0 (Nat.zero_le _) [] (Nat.le_refl _)]; rfl
theorem texts_loop (l : List ByteArray) (hl : l.length ≤ LIM) : ∀ j : Nat, j ≤ l.length → smithyplain_Texts.l0.v l l j = some (.ok ()) := fun j hj =>
  up j hj (by rw [smithyplain_Texts.l0.v_eq, lss_nat, decide_eq_false (by simp)]; rfl) (fun j hj ih => by
    rw [smithyplain_Texts.l0.v_eq, lss_nat, decide_eq_true hj, cond_true, idx_nat hj, Option.bind_some, Option.bind_some, wrap_nat (by simp [LIM] at hl; omega), ih, scmp_neq, decide_eq_true rfl]; rfl)
theorem texts_v (l : List ByteArray) (hl : l.length ≤ LIM) : smithyplain_Texts.v l l = some true := by
  rw [smithyplain_Texts.v_eq, neq_nat, decide_eq_true rfl, show smithyplain_Texts.l0.v l l 0 = _ from texts_loop l hl 0 (Nat.zero_le _)]; rfl
/-! ### what a target needs, as the program's map tells it -/
def needF (x : ByteArray) (acc : List ByteArray) (n : Node) : List ByteArray := if n.Target = x then n.Needs else acc
def needsOf (p : Plan) (x : ByteArray) : List ByteArray := p.Nodes.foldl (needF x) []
theorem rightB_new {a : List ByteArray} {n : Node} (h : rightB a n = true) : memB a n.Target = false := by
  unfold rightB at h
  cases hm : memB a n.Target with
  | false => rfl
  | true => rw [hm] at h; simp at h
theorem planGo_old : ∀ (ns : List Node) (a b : List ByteArray) (x : ByteArray) (acc : List ByteArray), planGo ns a = some b → memB a x = true → ns.foldl (needF x) acc = acc
  | [], _, _, _, _, _, _ => rfl
  | n :: ns, a, b, x, acc, h, hx => by
    unfold planGo at h
    cases hr : rightB a n with
    | false => rw [hr] at h; cases h
    | true =>
      rw [hr] at h
      have hne : ¬ n.Target = x := fun e => by have := rightB_new hr; rw [e, hx] at this; cases this
      rw [List.foldl_cons, show needF x acc n = acc by unfold needF; rw [if_neg hne]]
      exact planGo_old ns _ b x acc h (by rw [memB_app, hx]; rfl)
theorem planGo_need : ∀ (ns : List Node) (a b : List ByteArray) (i : Nat) (h : i < ns.length) (acc : List ByteArray), planGo ns a = some b → ns.foldl (needF ns[i].Target) acc = ns[i].Needs
  | n :: ns, a, b, 0, h, acc, hp => by
    unfold planGo at hp
    cases hr : rightB a n with
    | false => rw [hr] at hp; cases hp
    | true =>
      rw [hr] at hp
      show ns.foldl (needF n.Target) (needF n.Target acc n) = n.Needs
      rw [show needF n.Target acc n = n.Needs by unfold needF; rw [if_pos rfl]]
      exact planGo_old ns _ b _ _ hp (by rw [memB_app]; simp [memB])
  | n :: ns, a, b, i + 1, h, acc, hp => by
    unfold planGo at hp
    cases hr : rightB a n with
    | false => rw [hr] at hp; cases hp
    | true =>
      rw [hr] at hp
      exact planGo_need ns _ b i (by simpa using h) _ hp
theorem needsOf_at (p : Plan) (hp : planOk p = true) (i : Nat) (h : i < p.Nodes.length) : needsOf p p.Nodes[i].Target = p.Nodes[i].Needs := by
  unfold planOk at hp
  cases hg : planGo p.Nodes [] with
  | none => rw [hg] at hp; simp at hp
  | some b => exact planGo_need _ _ _ i h _ hg
theorem needs_mem : ∀ (ns : List Node) (x : ByteArray) (acc : List ByteArray), ns.foldl (needF x) acc = acc ∨ ∃ n, n ∈ ns ∧ ns.foldl (needF x) acc = n.Needs
  | [], _, _ => .inl rfl
  | n :: ns, x, acc => by
    rw [List.foldl_cons]
    rcases needs_mem ns x (needF x acc n) with e | ⟨n', h1, h2⟩
    · rw [e]
      unfold needF
      split
      · exact .inr ⟨n, by simp, rfl⟩
      · exact .inl rfl
    · exact .inr ⟨n', by simp [h1], h2⟩
theorem needsOf_fits (p : Plan) (hf : planFits p) (x : ByteArray) : (needsOf p x).length ≤ LIM ∧ ∀ z, z ∈ needsOf p x → z.size ≤ LIM := by
  unfold needsOf
  rcases needs_mem p.Nodes x [] with e | ⟨n, h1, e⟩
  · rw [e]; exact ⟨by simp, fun z hz => by cases hz⟩
  · rw [e]; exact ⟨(hf.n n h1).nl, (hf.n n h1).ns⟩
theorem nmap_loop (p : Plan) (hf : planFits p) : ∀ j : Nat, j ≤ p.Nodes.length → ∀ m : GM (List ByteArray), m.n ≤ j → ∃ m', walk_Fits.l0.v p (m, (j : Int)) = some m' ∧ ∀ x, (m'.g x).getD [] = (p.Nodes.drop j).foldl (needF x) ((m.g x).getD []) := fun j hj =>
  up j hj (fun m hn => ⟨m, by rw [walk_Fits.l0.v_eq, lss_nat, decide_eq_false (by simp)]; rfl, fun x => by rw [List.drop_length]; rfl⟩) (fun j hj ih m hn => by
    have h2 := hf.nl
    have hx := hf.n _ (List.getElem_mem hj)
    have hl2 : j < 9223372036854775807 := by simp [LIM] at h2; omega
    obtain ⟨m', e1, e2⟩ := ih ⟨m.n + 1, fun t => if t = p.Nodes[j].Target then some p.Nodes[j].Needs else m.g t⟩ (by show m.n + 1 ≤ j + 1; omega)
    refine ⟨m', ?_, fun x => ?_⟩
    · rw [walk_Fits.l0.v_eq, lss_nat, decide_eq_true hj, cond_true, idx_nat hj, Option.bind_some, gput_some (by show m.n < _; omega) hx.t, Option.bind_some, wrap_nat hl2, e1]
    · rw [e2, drop_cons hj, List.foldl_cons]
      congr 1
      unfold needF
      by_cases e : x = p.Nodes[j].Target
      · simp [e]
      · simp [e, show ¬ p.Nodes[j].Target = x from fun h => e h.symm])
def fitsB (p : Plan) : List ByteArray → List ByteArray → Bool
  | _, [] => true
  | pre, x :: xs => !memB pre x && (needsOf p x).all (memB pre) && fitsB p (pre ++ [x]) xs
theorem wfits_loop (p : Plan) (hf : planFits p) (l : List ByteArray) (hl : l.length ≤ LIM) (hs : ∀ x, x ∈ l → x.size ≤ LIM) (s5 : GM (List ByteArray)) (h5 : ∀ x, (s5.g x).getD [] = needsOf p x) : ∀ j : Nat, j ≤ l.length → ∀ m, Marks m (l.take j) → m.n ≤ j → walk_Fits.l1.v l s5 (m, (j : Int)) = some (bif fitsB p (l.take j) (l.drop j) then .ok () else .error (false, false, 0)) := fun j hj =>
  up j hj (fun m hm hn => by rw [walk_Fits.l1.v_eq, lss_nat, List.drop_length, decide_eq_false (by simp)]; rfl) (fun j hj ih m hm hn => by
    have hx := hs _ (List.getElem_mem hj)
    have hl2 : j < 9223372036854775807 := by simp [LIM] at hl; omega
    have hnf := needsOf_fits p hf l[j]
    rw [walk_Fits.l1.v_eq, lss_nat, decide_eq_true hj, cond_true, idx_nat hj, Option.bind_some, has_set hm hx, Option.bind_some, gget_some hx, Option.bind_some, h5, any_v _ _ (fun s => !memB (l.take j) s) (fun z hz => by unfold walk_Fits_1.f; rw [has_set hm (hnf.2 z hz)]; rfl) hnf.1]
    unfold walk_set_string_put.f
    rw [gput_some (by show m.n < _; omega) hx]
    simp only [Option.bind_some]
    rw [wrap_nat hl2, ih _ (by rw [take_succ' hj]; exact marks_put hm _) (by show m.n + 1 ≤ j + 1; omega), drop_cons hj, take_succ' hj, show (needsOf p l[j]).any (fun s => !memB (l.take j) s) = !(needsOf p l[j]).all (memB (l.take j)) from by rw [List.not_all_eq_any_not]]
    simp only [fitsB]
    cases memB (l.take j) l[j] <;> cases (needsOf p l[j]).all (memB (l.take j)) <;> rfl)
theorem wFits_v (p : Plan) (hf : planFits p) (l : List ByteArray) (hl : l.length ≤ LIM) (hs : ∀ x, x ∈ l → x.size ≤ LIM) : walk_Fits.v p l = some (if askR p l = 0 then (bif fitsB p [] l then (true, decide (l.length = p.Nodes.length), 0) else (false, false, 0)) else (false, false, askR p l)) := by
  obtain ⟨s5, e1, e2⟩ := nmap_loop p hf 0 (Nat.zero_le _) gempty (Nat.le_refl _)
  obtain ⟨m, e3, e4, e5⟩ := setof_v [] (by simp) (fun x h => by cases h)
  rw [walk_Fits.v_eq, asked_v p hf l hl hs, Option.bind_some, show walk_Fits.l0.v p ((gempty : GM (List ByteArray)), (0 : Int)) = _ from e1, Option.bind_some, e3, Option.bind_some, show walk_Fits.l1.v l s5 (m, (0 : Int)) = _ from wfits_loop p hf l hl hs s5 (fun x => e2 x) 0 (Nat.zero_le _) m e4 e5, List.take_zero, List.drop_zero, eql_nat]
  by_cases h : askR p l = 0
  · rw [if_pos h, h]
    cases fitsB p [] l <;> rfl
  · rw [if_neg h, show icmp .neq (askR p l) 0 = true by simp [icmp, h]]; rfl
theorem rfits_loop (p : Plan) (hf : planFits p) (hp : planOk p = true) (l : List ByteArray) (hl : l.length ≤ LIM) (hin : ∀ x, x ∈ l → memB (tgts p) x = true) : ∀ j : Nat, j ≤ l.length → smithyref14_Fits.l0.v p l j = some (bif fitsB p (l.take j) (l.drop j) then .ok () else .error (false, false)) := fun j hj =>
  up j hj (by rw [smithyref14_Fits.l0.v_eq, lss_nat, List.drop_length, decide_eq_false (by simp)]; rfl) (fun j hj ih => by
    have hlt : (l.take j).length ≤ LIM := by simp; omega
    rcases place_v p hf l[j] with ⟨_, i, hi, e, et⟩ | ⟨h, _⟩
    · have hn := needsOf_at p hp i hi
      rw [et] at hn
      rw [smithyref14_Fits.l0.v_eq, lss_nat, decide_eq_true hj, cond_true, idx_nat hj, Option.bind_some, e, Option.bind_some, idx_nat hi, Option.bind_some, sub_nat (by omega)]
      simp only [Option.bind_some]
      rw [has_v _ _ hlt, ready_v _ (hf.n _ (List.getElem_mem hi)) _ hlt, wrap_nat (by simp [LIM] at hl; omega), ih, drop_cons hj, take_succ' hj, ← hn]
      simp only [fitsB]
      cases memB (l.take j) l[j] <;> cases (needsOf p l[j]).all (memB (l.take j)) <;> rfl
    · rw [hin _ (List.getElem_mem hj)] at h; cases h)
theorem rFits_v (p : Plan) (hf : planFits p) (hp : planOk p = true) (l : List ByteArray) (hl : l.length ≤ LIM) (hin : ∀ x, x ∈ l → memB (tgts p) x = true) : smithyref14_Fits.v p l = some (bif fitsB p [] l then (true, decide (l.length = p.Nodes.length)) else (false, false)) := by
  rw [smithyref14_Fits.v_eq, show smithyref14_Fits.l0.v p l 0 = _ from rfits_loop p hf hp l hl hin 0 (Nat.zero_le _), List.take_zero, List.drop_zero, eql_nat]
  cases fitsB p [] l <;> rfl
set_option maxRecDepth 100000 in
theorem speaks_v : smithylaw14_speaks.v = some true := (smithylaw14_speaks.tends).at 40 (by kernel_rfl)
theorem ask_zero {p : Plan} {l : List ByteArray} (h : askR p l = 0) : planOk p = true ∧ ∀ x, x ∈ l → memB (tgts p) x = true := by
  unfold askR at h
  cases h1 : planOk p
  · rw [h1] at h; cases h
  refine ⟨rfl, ?_⟩
  rw [h1] at h
  cases h2 : decide (l.length ≤ 512)
  · rw [h2] at h; cases h
  rw [h2] at h
  cases h3 : l.all nameOk
  · rw [h3] at h; cases h
  rw [h3] at h
  cases h4 : l.all (memB (tgts p))
  · rw [h4] at h; cases h
  exact fun x hx => List.all_eq_true.1 h4 x hx
end Go.Proofs.Ytedgkcdofiildaa.F
