-- written by mp.py (wip/tools), a program of this session, over the kit's print
import Derived.Test.YtedgkcdofiildaaPWalkOrdersx0
import Derived.Test.YtedgkcdofiildaaPWalkOrdersx2
import Derived.Test.YtedgkcdofiildaaPWalkOrdersx7
import Derived.Test.YtedgkcdofiildaaPWalkOrdersx8
namespace Go.Proofs.Ytedgkcdofiildaa.P
open Go.RowKit Go.Proofs.YtedgkcdofiildaaW.PrintWords Go.Proofs.YtedgkcdofiildaaW.PrintLast Go.Proofs.YtedgkcdofiildaaW.PrintMore
attribute [local go_sem] max2_int min2_int max_two min_two max_three min_three max_four min_four   -- for this text's walks alone
set_option linter.unusedVariables false
set_option linter.unusedSimpArgs false

/-! ### smithyref12_Node: function 45 -/
open Go.Proofs.Ytedgkcdofiildaa.Ext
theorem hletter_iff (c : Int) : letter c = true ↔ (97 ≤ c ∧ c ≤ 122) ∨ (65 ≤ c ∧ c ≤ 90) ∨ (48 ≤ c ∧ c ≤ 57) ∨ c = 95 ∨ c = 45 ∨ c = 46 ∨ c = 47 ∨ c = 43 := by
  simp only [letter, Bool.or_eq_true, decide_eq_true_eq, or_assoc]
theorem hname_round (k : Nat) (s : ByteArray) (i : Int) (h0 : 0 ≤ i) (h1 : i < (s.size : Int)) :
    smithyref02_Name.l0 (k + 1) s i = if letter (bt s i) = true then smithyref02_Name.l0 k s (wrap64 (i + 1)) else some false := by
  have hL := hletter_iff (bt s i)
  simp only [smithyref02_Name.l0]
  rw [if_pos h1, if_pos h0]
  generalize bt s i = c at *
  generalize smithyref02_Name.l0 k s (wrap64 (i + 1)) = r at *
  by_cases hl : letter c = true
  · rw [if_pos hl]
    rcases hL.mp hl with h | h | h | rfl | rfl | rfl | rfl | rfl
    · rw [if_pos h.1, if_pos h.2]
    · rw [if_neg (by omega), if_pos h.1, if_pos h.2]
    · rw [if_neg (by omega), if_neg (by omega), if_pos h.1, if_pos h.2]
    all_goals rfl
  · rw [if_neg hl]
    have hL' : ¬ ((97 ≤ c ∧ c ≤ 122) ∨ (65 ≤ c ∧ c ≤ 90) ∨ (48 ≤ c ∧ c ≤ 57) ∨ c = 95 ∨ c = 45 ∨ c = 46 ∨ c = 47 ∨ c = 43) := fun h => hl (hL.mpr h)
    clear hL hl
    have n1 : ¬ c = 95 := by omega
    have n2 : ¬ c = 45 := by omega
    have n3 : ¬ c = 46 := by omega
    have n4 : ¬ c = 47 := by omega
    have n5 : ¬ c = 43 := by omega
    by_cases a1 : c ≥ 97 <;> by_cases a2 : c ≤ 122 <;> by_cases a3 : c ≥ 65 <;> by_cases a4 : c ≤ 90 <;> by_cases a5 : c ≥ 48 <;> by_cases a6 : c ≤ 57 <;> first | (exfalso; omega) | simp only [a1, a2, a3, a4, a5, a6, n1, n2, n3, n4, n5, if_true, if_false]
theorem hname_loop (s : ByteArray) (hs : s.size ≤ 9223372036854775807) : ∀ (d k i : Nat), s.size - i = d → i ≤ s.size → d < k →
    smithyref02_Name.l0 k s (i : Int) = some (((List.range s.size).all fun j => decide (j < i) || letter (bt s j)) && (decide (0 < s.size) && decide (s.size ≤ 64)))
  | 0, k, i, hd, hi, hk => by
    obtain ⟨k, rfl⟩ : ∃ m, k = m + 1 := ⟨k - 1, by omega⟩
    have : i = s.size := by omega
    subst this
    simp only [smithyref02_Name.l0]
    rw [if_neg (by omega), all_end _ _ _ (Nat.le_refl _)]
    by_cases h : (s.size : Int) > 0
    · rw [if_pos h]
      have e1 : decide (0 < s.size) = true := decide_eq_true (by omega)
      rw [e1]
      have e2 : decide ((s.size : Int) ≤ 64) = decide (s.size ≤ 64) := by rw [decide_eq_decide]; omega
      rw [e2]
      simp
    · rw [if_neg h]
      have e1 : decide (0 < s.size) = false := decide_eq_false (by omega)
      rw [e1]
      simp
  | d + 1, k, i, hd, hi, hk => by
    obtain ⟨k, rfl⟩ : ∃ m, k = m + 1 := ⟨k - 1, by omega⟩
    have hlt : i < s.size := by omega
    rw [hname_round k s i (by omega) (by omega)]
    have hw : wrap64 ((i : Int) + 1) = ((i + 1 : Nat) : Int) := by unfold wrap64; omega
    rw [hw, hname_loop s hs d k (i + 1) (by omega) (by omega) (by omega), all_from (fun j => letter (bt s j)) s.size i hlt]
    cases hl : letter (bt s i) with
    | true => simp
    | false => simp
theorem hname_f (s : ByteArray) (hs : s.size ≤ 9223372036854775807) : ∃ k, smithyref02_Name.f k s = some (nameOk s) := by
  refine ⟨s.size + 3, ?_⟩
  unfold smithyref02_Name.f nameOk
  have h := hname_loop s hs s.size (s.size + 3) 0 (by omega) (by omega) (by omega)
  rw [all_start (fun j => letter (bt s j))] at h
  have e : (decide (0 < s.size) && decide (s.size ≤ 64) && allLetters s) = ((List.range s.size).all (fun j => letter (bt s j)) && (decide (0 < s.size) && decide (s.size ≤ 64))) := by
    rw [Bool.and_comm]; rfl
  rw [e]
  exact h
theorem hname_at (s : ByteArray) (hs : s.size ≤ 9223372036854775807) (r : Bool) (h : nameOk s = r) (w : World) : Calls Try.prog 29 #[.string s] w fun e w' => e = .returned (.bool r) ∧ Drawn0 w w' := by
  obtain ⟨k, hk⟩ := hname_f s hs
  rw [h] at hk
  exact smithyref02_Name.calls k s r w hk
theorem nhas_loop (l : List ByteArray) (s : ByteArray) (hl : l.length ≤ 9223372036854775807) : ∀ (suf pre : List ByteArray), l = pre ++ suf → Ev (fun k => smithyref03_Has.l0 k s l (l.length : Int) (pre.length : Int)) (memB suf s)
  | [], pre, e => by
    refine Ev.step (fun _ => rfl) ?_
    have : l.length = pre.length := by rw [e]; simp
    simp only [smithyref03_Has.l0, if_neg (show ¬ (pre.length : Int) < (l.length : Int) by omega)]
    exact Ev.now _
  | x :: xs, pre, e => by
    have hlen : l.length = pre.length + (xs.length + 1) := by rw [e]; simp
    have hlt : (pre.length : Int) < (l.length : Int) := by omega
    have hx : rdOf ByteArray.empty l (pre.length : Int) = x := by rw [e]; simp [rdOf]
    have hw : wrap64 ((pre.length : Int) + 1) = ((pre ++ [x]).length : Int) := by simp; unfold wrap64; omega
    have ih := nhas_loop l s hl xs (pre ++ [x]) (by rw [e]; simp)
    refine Ev.step (fun _ => rfl) ?_
    simp only [smithyref03_Has.l0, if_pos hlt, if_pos (show (0 : Int) ≤ (pre.length : Int) by omega), hx, hw]
    by_cases h : x.toList = s.toList
    · have : x = s := toList_inj h
      simp only [if_pos h, memB, List.any_cons, decide_eq_true this, Bool.true_or]
      exact Ev.now _
    · have : ¬ x = s := fun e => h (by rw [e])
      simp only [if_neg h, memB, List.any_cons, decide_eq_false this, Bool.false_or]
      exact ih
theorem nhas_at (A : Option Addr) (c n : Nat) (l : List ByteArray) (s : ByteArray) (r : Bool) (h : memB l s = r) (w : World) (hr : Kd.C Kd.string w A n l) (hc : n ≤ c) :
    Calls Try.prog 33 #[.slice A n c, .string s] w fun e w' => e = .returned (.bool r) ∧ Drawn0 w w' := by
  obtain rfl : l.length = n := hr.1
  obtain ⟨k, hk⟩ := (nhas_loop l s hr.2.1 l [] rfl : Ev (fun k => smithyref03_Has.f k l s) (memB l s)).rounds
  rw [h] at hk
  exact smithyref03_Has.calls k A c l s r w hr hc hk
theorem quiet_d {P : Program} {f : FuncId} {args : Array Value} {w : World} {n : Nat} {v : Value}
    (h : Calls P f args (w.drewN n) fun e w' => e = .returned v ∧ Drawn0 (w.drewN n) w') : Calls P f args (w.drewN n) fun e w'' => e = .returned v ∧ ∃ m, w'' = w.drewN m :=
  h.mono fun _ _ ⟨he, hd⟩ => by
    obtain ⟨m, hm⟩ := hd.out
    exact ⟨he, n + m, by rw [hm, World.drewN_drewN]⟩
/-- the needs of a target by themselves -/
def needsB (t : ByteArray) : List ByteArray → List ByteArray → Bool
  | _, [] => true
  | pre, x :: xs => nameOk x && !decide (x = t) && !memB pre x && needsB t (pre ++ [x]) xs
def nodeB (n : S48) : Bool := nameOk n.f0 && !decide (65 < n.f1.length) && !decide (64 < n.f2.length) && (n.f3 || !decide (0 < n.f2.length)) && needsB n.f0 [] n.f1 && !(n.f2.any longB) && tailR n
def nodeE (b : Bool) : Int := if b = true then 0 else 7
set_option maxHeartbeats 2000000 in
set_option maxRecDepth 100000 in
theorem node_bad (n : S48) (A1 : Option Addr) (c1 : Nat) (A2 : Option Addr) (c2 : Nat) (w : World) (hs0 : n.f0.size ≤ 9223372036854775807) (hbad : (nameOk n.f0 && !decide (65 < n.f1.length) && !decide (64 < n.f2.length) && (n.f3 || !decide (0 < n.f2.length))) = false) :
    Calls Try.prog 45 #[.agg #[.string n.f0, .slice A1 n.f1.length c1, .slice A2 n.f2.length c2, .bool n.f3, .string n.f4, .string n.f5, .bool n.f6, .bool n.f7, .bool n.f8, .bool n.f9]] w fun e w' => e = .returned (.int .i64 7) ∧ Below w.heap.size w w' := by
  cases h1 : nameOk n.f0 with
  | false =>
    clear hbad
    go_enter Try.func45, Try.ntmps45
    go_wp2_with (go_at_call 29; refine (hname_at n.f0 hs0 false h1 _).mono ?_; rintro e w' ⟨rfl, ⟨q, rfl⟩⟩)
    go_ret
    exact ⟨rfl, pw_below_drewN (below_alloc (Below.refl _ _) _) _⟩
  | true =>
    rw [h1] at hbad
    by_cases h3 : 65 < n.f1.length
    · have e3 : decide ((65 : Int) < (n.f1.length : Int)) = true := decide_eq_true (by omega)
      clear hbad h3
      go_enter Try.func45, Try.ntmps45
      go_wp2_with (go_at_call 29; refine (hname_at n.f0 hs0 true h1 _).mono ?_; rintro e w' ⟨rfl, ⟨q, rfl⟩⟩)
      go_ret
      exact ⟨rfl, pw_below_drewN (below_alloc (Below.refl _ _) _) _⟩
    · have e3 : decide ((65 : Int) < (n.f1.length : Int)) = false := decide_eq_false (by omega)
      rw [decide_eq_false h3] at hbad
      clear h3
      by_cases h4 : 64 < n.f2.length
      · have e4 : decide ((64 : Int) < (n.f2.length : Int)) = true := decide_eq_true (by omega)
        clear hbad h4
        go_enter Try.func45, Try.ntmps45
        go_wp2_with (go_at_call 29; refine (hname_at n.f0 hs0 true h1 _).mono ?_; rintro e w' ⟨rfl, ⟨q, rfl⟩⟩)
        go_ret
        exact ⟨rfl, pw_below_drewN (below_alloc (Below.refl _ _) _) _⟩
      · have e4 : decide ((64 : Int) < (n.f2.length : Int)) = false := decide_eq_false (by omega)
        rw [decide_eq_false h4] at hbad
        clear h4
        simp only [Bool.not_false, Bool.true_and, Bool.or_eq_false_iff, Bool.not_eq_false', decide_eq_true_eq] at hbad
        have e5 : decide (0 < n.f2.length) = true := decide_eq_true (by omega)
        have h5 := hbad.1
        clear hbad
        go_enter Try.func45, Try.ntmps45
        go_wp2_with (go_at_call 29; refine (hname_at n.f0 hs0 true h1 _).mono ?_; rintro e w' ⟨rfl, ⟨q, rfl⟩⟩)
        go_ret
        exact ⟨rfl, pw_below_drewN (below_alloc (Below.refl _ _) _) _⟩
set_option maxHeartbeats 8000000 in
set_option maxRecDepth 100000 in
theorem node_good (n : S48) (A1 : Option Addr) (c1 : Nat) (A2 : Option Addr) (c2 : Nat) (w : World) (hs0 : n.f0.size ≤ 9223372036854775807) (hs1 : ∀ x ∈ n.f1, x.size ≤ 9223372036854775807) (hs2 : ∀ x ∈ n.f2, x.size ≤ 9223372036854775807) (hs5 : n.f5.size ≤ 9223372036854775807)
    (hgood : (nameOk n.f0 && !decide (65 < n.f1.length) && !decide (64 < n.f2.length) && (n.f3 || !decide (0 < n.f2.length))) = true)
    (hc1 : n.f1.length ≤ c1) (hr1 : Kd.C Kd.string w A1 n.f1.length n.f1) (hc2 : n.f2.length ≤ c2) (hr2 : Kd.C Kd.string w A2 n.f2.length n.f2) (R : Int) (hR : nodeE (needsB n.f0 [] n.f1 && !(n.f2.any longB) && tailR n) = R) :
    Calls Try.prog 45 #[.agg #[.string n.f0, .slice A1 n.f1.length c1, .slice A2 n.f2.length c2, .bool n.f3, .string n.f4, .string n.f5, .bool n.f6, .bool n.f7, .bool n.f8, .bool n.f9]] w fun e w' => e = .returned (.int .i64 R) ∧ Below w.heap.size w w' := by
  simp only [Bool.and_eq_true, Bool.or_eq_true, Bool.not_eq_true', decide_eq_false_iff_not] at hgood
  obtain ⟨⟨⟨h1, h3⟩, h4⟩, h5⟩ := hgood
  have e3 : decide ((65 : Int) < (n.f1.length : Int)) = false := decide_eq_false (by omega)
  have e4 : decide ((64 : Int) < (n.f2.length : Int)) = false := decide_eq_false (by omega)
  have HR1 := Aside0.mk (fun o q => Kd.C_drewN (Kd.C_alloc hr1 o) q)
  have HR2 := Aside0.mk (fun o q => Kd.C_drewN (Kd.C_alloc hr2 o) q)
  have hl1 : n.f1.length ≤ 65 := by omega
  have hl2 : n.f2.length ≤ 64 := by omega
  clear hr1 hr2 h3 h4
  have h5' : n.f3 = true ∨ (n.f3 = false ∧ decide (0 < n.f2.length) = false) := by
    rcases h5 with h5 | h5
    · exact .inl h5
    · cases hf : n.f3 with
      | true => exact .inl rfl
      | false => exact .inr ⟨rfl, decide_eq_false (by omega)⟩
  clear h5
  obtain ⟨T, hT⟩ : ∃ T, tailR n = T := ⟨_, rfl⟩
  rw [hT] at hR
  obtain ⟨n0, n1, n2, n3, n4, n5, n6, n7, n8, n9⟩ := n
  simp only [tailR] at *
  have HT := Aside0.mk hT
  have HRR := Aside0.mk hR
  have HS1 := Aside0.mk hs1
  have HS2 := Aside0.mk hs2
  clear hT hR hs1 hs2
  rcases h5' with rfl | ⟨rfl, h6⟩
  all_goals
    go_enter Try.func45, Try.ntmps45
    go_wp2_with (go_at_call 29; refine (hname_at n0 hs0 true h1 _).mono ?_; rintro e w' ⟨rfl, ⟨q, rfl⟩⟩)
    go_loopw [3] (fun vi wr => ∃ (i q2 : Nat) (v3 : Bool), i ≤ n1.length ∧ vi = .int .i64 (i : Int) ∧ Aside0 (needsB n0 [] n1 = needsB n0 (n1.take i) (n1.drop i)) ∧ wr = (w.alloc (.cells #[.string n0, .slice A1 n1.length c1, .slice A2 n2.length c2, .bool v3, .string n4, .string n5, .bool n6, .bool n7, .bool n8, .bool n9] 48)).drewN q2) (fun vi _ => ((n1.length : Int) - intOf vi).toNat)
    case atStart => exact ⟨0, q, _, Nat.zero_le _, rfl, ⟨rfl⟩, rfl⟩
    case round =>
      obtain ⟨i, q2, v3, hi, rfl, hb, rfl⟩ := hrel
      by_cases hlt : i < n1.length
      · have hw1 : IntKind.i64.wrap ((i : Int) + 1) = ((i + 1 : Nat) : Int) := by rw [IntKind.wrap_i64]; omega
        have qi : (i : Int) < (n1.length : Int) := by omega
        have pi : (0 : Int) ≤ (i : Int) := by omega
        have qic : (i : Int) ≤ (n1.length : Int) := by omega
        have qcc : (i : Int) ≤ (c1 : Int) := by omega
        have htk : (n1.take i).length = i := by rw [List.length_take]; omega
        have HC3 := Aside0.mk (fun (o : Obj) (q3 : Nat) => by
          have h9 := Kd.C_take (HR1.out o q3) (show i ≤ n1.length by omega)
          rw [htk] at h9
          exact h9)
        have hC := fun o => HR1.out o q2
        obtain ⟨ad, rfl, h0⟩ := Kd.at_string (hC (.cells #[.string n0, .slice A1 n1.length c1, .slice A2 n2.length c2, .bool v3, .string n4, .string n5, .bool n6, .bool n7, .bool n8, .bool n9] 48)) (i : Int) pi qi
        have he : rdOf ByteArray.empty n1 (i : Int) = n1[i] := by simp [rdOf, hlt]
        rw [he, Int.toNat_natCast] at h0
        have hxs := HS1.out n1[i] (List.getElem_mem hlt)
        clear he
        have hb' := hb.out
        rw [List.drop_eq_getElem_cons hlt, needsB] at hb'
        obtain ⟨x, hx⟩ : ∃ x, n1[i] = x := ⟨_, rfl⟩
        rw [hx] at h0 hb' hxs
        have hnext : n1.take (i + 1) = n1.take i ++ [x] := by rw [List.take_succ_eq_append_getElem hlt, hx]
        have HNX := Aside0.mk hnext
        have HB := Aside0.mk hb'
        have h0b : (w.alloc (.cells #[.string n0, .slice (some ad) n1.length c1, .slice A2 n2.length c2, .bool v3, .string n4, .string n5, .bool n6, .bool n7, .bool n8, .bool n9] 48)).cell? (ad.add i) = some (.string x) := h0
        clear hC hb' hb hnext htk hx h0
        cases hn : nameOk x with
        | false =>
          have HBX := Aside0.mk (show 7 = R by have h9 := HRR.out; rw [HB.out, hn] at h9; exact h9)
          have HN := Aside0.mk hn
          clear HB hn
          go_wp2_with fail
          go_quiet (first | (go_at_call 29; (with_reducible refine (hname_at x hxs false HN.out _).mono ?_); rintro e w' ⟨rfl, ⟨nd, rfl⟩⟩; (first | exact ⟨rfl, _, World.drewN_drewN _ _ _⟩ | exact ⟨rfl, _, Eq.trans (World.drewN_drewN _ _ _) (congrArg (World.drewN _) (Nat.add_assoc _ _ _))⟩)))
          go_wp2
          go_ret
          exact ⟨congrArg (fun z => Ending.returned (Value.int .i64 z)) HBX.out, pw_below_drewN (pw_below_drewN (below_alloc (Below.refl _ _) _) _) _⟩
        | true =>
          have HN := Aside0.mk hn
          by_cases hx0 : x = n0
          · have HBX := Aside0.mk (show 7 = R by have h9 := HRR.out; rw [HB.out, hn, decide_eq_true hx0] at h9; exact h9)
            have e0 : (x.toList == n0.toList) = true := by rw [hx0]; simp
            clear HB hn hx0
            go_wp2_with fail
            go_quiet (first | (go_at_call 29; (with_reducible refine (hname_at x hxs true HN.out _).mono ?_); rintro e w' ⟨rfl, ⟨nd, rfl⟩⟩; (first | exact ⟨rfl, _, World.drewN_drewN _ _ _⟩ | exact ⟨rfl, _, Eq.trans (World.drewN_drewN _ _ _) (congrArg (World.drewN _) (Nat.add_assoc _ _ _))⟩)))
            go_wp2
            go_ret
            exact ⟨congrArg (fun z => Ending.returned (Value.int .i64 z)) HBX.out, pw_below_drewN (pw_below_drewN (below_alloc (Below.refl _ _) _) _) _⟩
          · have e0 : (x.toList == n0.toList) = false := by rw [beq_eq_false_iff_ne]; exact fun e => hx0 (toList_inj e)
            cases hmem : memB (n1.take i) x with
            | true =>
              have HBX := Aside0.mk (show 7 = R by have h9 := HRR.out; rw [HB.out, hn, decide_eq_false hx0, hmem] at h9; exact h9)
              have HM := Aside0.mk hmem
              clear HB hn hx0 hmem
              go_wp2_with fail
              go_quiet (first | (go_at_call 29; (with_reducible refine (hname_at x hxs true HN.out _).mono ?_); rintro e w' ⟨rfl, ⟨nd, rfl⟩⟩; (first | exact ⟨rfl, _, World.drewN_drewN _ _ _⟩ | exact ⟨rfl, _, Eq.trans (World.drewN_drewN _ _ _) (congrArg (World.drewN _) (Nat.add_assoc _ _ _))⟩)) | (go_at_call 33; (refine (nhas_at (some ad) c1 i _ x true HM.out _ ?hk (by omega)).mono ?_); (case hk => first | exact HC3.out _ _ | exact Kd.C_drewN (HC3.out _ _) _ | exact Kd.C_drewN (Kd.C_drewN (HC3.out _ _) _) _); rintro e w' ⟨rfl, ⟨nd, rfl⟩⟩; (first | exact ⟨rfl, _, World.drewN_drewN _ _ _⟩ | exact ⟨rfl, _, Eq.trans (World.drewN_drewN _ _ _) (congrArg (World.drewN _) (Nat.add_assoc _ _ _))⟩)))
              go_wp2
              go_ret
              exact ⟨congrArg (fun z => Ending.returned (Value.int .i64 z)) HBX.out, pw_below_drewN (pw_below_drewN (below_alloc (Below.refl _ _) _) _) _⟩
            | false =>
              have HBX := Aside0.mk (show needsB n0 [] n1 = needsB n0 (n1.take (i + 1)) (n1.drop (i + 1)) by rw [HB.out, hn, decide_eq_false hx0, hmem, HNX.out]; simp)
              have HM := Aside0.mk hmem
              clear HB hn hx0 hmem
              go_wp2_with fail
              go_quiet (first | (go_at_call 29; (with_reducible refine (hname_at x hxs true HN.out _).mono ?_); rintro e w' ⟨rfl, ⟨nd, rfl⟩⟩; (first | exact ⟨rfl, _, World.drewN_drewN _ _ _⟩ | exact ⟨rfl, _, Eq.trans (World.drewN_drewN _ _ _) (congrArg (World.drewN _) (Nat.add_assoc _ _ _))⟩)) | (go_at_call 33; (refine (nhas_at (some ad) c1 i _ x false HM.out _ ?hk (by omega)).mono ?_); (case hk => first | exact HC3.out _ _ | exact Kd.C_drewN (HC3.out _ _) _ | exact Kd.C_drewN (Kd.C_drewN (HC3.out _ _) _) _); rintro e w' ⟨rfl, ⟨nd, rfl⟩⟩; (first | exact ⟨rfl, _, World.drewN_drewN _ _ _⟩ | exact ⟨rfl, _, Eq.trans (World.drewN_drewN _ _ _) (congrArg (World.drewN _) (Nat.add_assoc _ _ _))⟩)))
              go_wp2
              go_roundw
              case rel => exact ⟨i + 1, _, _, hlt, rfl, HBX, rfl⟩
              case measure => simp [intOf]; omega
      · have hb' := hb.out
        rw [List.drop_eq_nil_of_le (by omega), needsB] at hb'
        have hn : ¬ (i : Int) < (n1.length : Int) := by omega
        have HRB := Aside0.mk (show nodeE (!(n2.any longB) && T) = R by have h9 := HRR.out; rw [hb', Bool.true_and] at h9; exact h9)
        clear hb' hb
        go_wp2_with fail
        go_loopw [4] (fun vi wr => ∃ (j q3 : Nat), j ≤ n2.length ∧ vi = .int .i64 (j : Int) ∧ Aside0 (n2.any longB = (n2.drop j).any longB) ∧ wr = (w.alloc (.cells #[.string n0, .slice A1 n1.length c1, .slice A2 n2.length c2, .bool v3, .string n4, .string n5, .bool n6, .bool n7, .bool n8, .bool n9] 48)).drewN q3) (fun vi _ => ((n2.length : Int) - intOf vi).toNat)
        case atStart => exact ⟨0, q2, Nat.zero_le _, rfl, ⟨rfl⟩, rfl⟩
        case round =>
          obtain ⟨j, q3, hj, rfl, hb, rfl⟩ := hrel
          by_cases hlj : j < n2.length
          · have hw1 : IntKind.i64.wrap ((j : Int) + 1) = ((j + 1 : Nat) : Int) := by rw [IntKind.wrap_i64]; omega
            have qi : (j : Int) < (n2.length : Int) := by omega
            have pi : (0 : Int) ≤ (j : Int) := by omega
            have hC := fun o => HR2.out o q3
            obtain ⟨ad, rfl, h0⟩ := Kd.at_string (hC (.cells #[.string n0, .slice A1 n1.length c1, .slice A2 n2.length c2, .bool v3, .string n4, .string n5, .bool n6, .bool n7, .bool n8, .bool n9] 48)) (j : Int) pi qi
            have he : rdOf ByteArray.empty n2 (j : Int) = n2[j] := by simp [rdOf, hlj]
            rw [he, Int.toNat_natCast] at h0
            have hxs := HS2.out n2[j] (List.getElem_mem hlj)
            have hb' := hb.out
            rw [List.drop_eq_getElem_cons hlj, List.any_cons] at hb'
            obtain ⟨x, hx⟩ : ∃ x, n2[j] = x := ⟨_, rfl⟩
            rw [hx] at h0 hb' hxs
            clear he hx hb hC
            by_cases hbig : 65536 < x.size
            · have e0 : decide ((65536 : Int) < (x.size : Int)) = true := decide_eq_true (by omega)
              have HBX := Aside0.mk (show 7 = R by have h9 := HRB.out; rw [hb', show longB x = true from decide_eq_true hbig] at h9; exact h9)
              clear hb' hbig
              go_wp2_with fail
              go_ret
              exact ⟨congrArg (fun z => Ending.returned (Value.int .i64 z)) HBX.out, pw_below_drewN (below_alloc (Below.refl _ _) _) _⟩
            · have e0 : decide ((65536 : Int) < (x.size : Int)) = false := decide_eq_false (by omega)
              have HBX := Aside0.mk (show n2.any longB = (n2.drop (j + 1)).any longB by rw [hb', show longB x = false from decide_eq_false hbig]; rfl)
              clear hb' hbig
              go_wp2_with fail
              go_roundw
              case rel => exact ⟨j + 1, _, hlj, rfl, HBX, rfl⟩
              case measure => simp [intOf]; omega
          · have hn2 : ¬ (j : Int) < (n2.length : Int) := by omega
            have hb' := hb.out
            rw [List.drop_eq_nil_of_le (by omega), List.any_nil] at hb'
            have HTB := Aside0.mk (show nodeE T = R by have h9 := HRB.out; rw [hb'] at h9; exact h9)
            have HT' := HT.out
            clear hb' hb
            by_cases h4 : n4.toList = []
            · rw [if_pos h4] at HT'
              have es4 : n4.toList.isEmpty = true := by rw [h4]; rfl
              by_cases h5 : n5.toList = []
              · have es5 : n5.toList.isEmpty = true := by rw [h5]; rfl
                have e65 : decide ((64 : Int) < (n5.size : Int)) = false := by
                  have h9 := congrArg List.length h5
                  rw [toList_data, Array.length_toList] at h9
                  have h8 : n5.size = 0 := h9
                  rw [h8]; decide
                have HBX := Aside0.mk (show 0 = R by have h9 := HTB.out; rw [← HT', decide_eq_true h5] at h9; exact h9)
                clear HT'
                go_wp2_with fail
                go_quiet (fail)
                go_wp2
                go_ret
                exact ⟨congrArg (fun z => Ending.returned (Value.int .i64 z)) HBX.out, pw_below_drewN (pw_below_drewN (below_alloc (Below.refl _ _) _) _) _⟩
              · have es5 : n5.toList.isEmpty = false := by cases hh : n5.toList with | nil => exact absurd hh h5 | cons _ _ => rfl
                have HBX := Aside0.mk (show 7 = R by have h9 := HTB.out; rw [← HT', decide_eq_false h5] at h9; exact h9)
                clear HT'
                go_wp2_with fail
                go_quiet (fail)
                go_wp2
                go_ret
                exact ⟨congrArg (fun z => Ending.returned (Value.int .i64 z)) HBX.out, pw_below_drewN (pw_below_drewN (below_alloc (Below.refl _ _) _) _) _⟩
            · rw [if_neg h4] at HT'
              have es4 : n4.toList.isEmpty = false := by cases hh : n4.toList with | nil => exact absurd hh h4 | cons _ _ => rfl
              by_cases h7 : 0 < n1.length
              · have h7i : (0 : Int) < (n1.length : Int) := by omega
                have d7 : ((n1.length : Int) == 0) = false := beq_eq_false_iff_ne.mpr (by omega)
                have d7n : decide (0 < n1.length) = true := decide_eq_true h7
                have hC := HR1.out (.cells #[.string n0, .slice A1 n1.length c1, .slice A2 n2.length c2, .bool v3, .string n4, .string n5, .bool n6, .bool n7, .bool n8, .bool n9] 48) q3
                obtain ⟨ad, rfl, h0⟩ := Kd.at_string hC 0 (Int.le_refl _) h7i
                simp only [Int.toNat_zero, Addr.add_zero'] at h0
                obtain ⟨y, hy⟩ : ∃ y, rdOf ByteArray.empty n1 0 = y := ⟨_, rfl⟩
                rw [hy] at h0 HT'
                rw [d7n, Bool.true_and] at HT'
                clear hy hC
                have h0b : (w.alloc (.cells #[.string n0, .slice (some ad) n1.length c1, .slice A2 n2.length c2, .bool v3, .string n4, .string n5, .bool n6, .bool n7, .bool n8, .bool n9] 48)).cell? ad = some (.string y) := h0
                clear h0
                by_cases h8 : y = n4
                · have b8 : (y.toList == n4.toList) = true := by rw [h8]; simp
                  rw [decide_eq_true h8, Bool.true_and] at HT'
                  clear h8
                  by_cases h9 : n5.size ≤ 64
                  · have b9 : decide ((64 : Int) < (n5.size : Int)) = false := decide_eq_false (by omega)
                    have HBX := Aside0.mk (show 0 = R by have h9' := HTB.out; rw [← HT', decide_eq_true h9] at h9'; exact h9')
                    clear HT'
                    go_wp2_with fail
                    go_quiet (fail)
                    go_wp2
                    go_ret
                    exact ⟨congrArg (fun z => Ending.returned (Value.int .i64 z)) HBX.out, pw_below_drewN (pw_below_drewN (below_alloc (Below.refl _ _) _) _) _⟩
                  · have b9 : decide ((64 : Int) < (n5.size : Int)) = true := decide_eq_true (by omega)
                    have HBX := Aside0.mk (show 7 = R by have h9' := HTB.out; rw [← HT', decide_eq_false h9] at h9'; exact h9')
                    clear HT'
                    go_wp2_with fail
                    go_quiet (fail)
                    go_wp2
                    go_ret
                    exact ⟨congrArg (fun z => Ending.returned (Value.int .i64 z)) HBX.out, pw_below_drewN (pw_below_drewN (below_alloc (Below.refl _ _) _) _) _⟩
                · have b8 : (y.toList == n4.toList) = false := by rw [beq_eq_false_iff_ne]; exact fun e => h8 (toList_inj e)
                  have HBX := Aside0.mk (show 7 = R by have h9' := HTB.out; rw [← HT', decide_eq_false h8] at h9'; exact h9')
                  clear HT' h8
                  go_wp2_with fail
                  go_quiet (fail)
                  go_wp2
                  go_ret
                  exact ⟨congrArg (fun z => Ending.returned (Value.int .i64 z)) HBX.out, pw_below_drewN (pw_below_drewN (below_alloc (Below.refl _ _) _) _) _⟩
              · have d7 : ((n1.length : Int) == 0) = true := beq_iff_eq.mpr (by omega)
                have d7n : decide (0 < n1.length) = false := decide_eq_false h7
                have HBX := Aside0.mk (show 7 = R by have h9 := HTB.out; rw [← HT', d7n] at h9; exact h9)
                clear HT'
                go_wp2_with fail
                go_quiet (fail)
                go_wp2
                go_ret
                exact ⟨congrArg (fun z => Ending.returned (Value.int .i64 z)) HBX.out, pw_below_drewN (pw_below_drewN (below_alloc (Below.refl _ _) _) _) _⟩
theorem node_calls (n : S48) (A1 : Option Addr) (c1 : Nat) (A2 : Option Addr) (c2 : Nat) (w : World) (hs0 : n.f0.size ≤ 9223372036854775807) (hs1 : ∀ x ∈ n.f1, x.size ≤ 9223372036854775807) (hs2 : ∀ x ∈ n.f2, x.size ≤ 9223372036854775807) (hs5 : n.f5.size ≤ 9223372036854775807)
    (hc1 : n.f1.length ≤ c1) (hr1 : Kd.C Kd.string w A1 n.f1.length n.f1) (hc2 : n.f2.length ≤ c2) (hr2 : Kd.C Kd.string w A2 n.f2.length n.f2) :
    Calls Try.prog 45 #[.agg #[.string n.f0, .slice A1 n.f1.length c1, .slice A2 n.f2.length c2, .bool n.f3, .string n.f4, .string n.f5, .bool n.f6, .bool n.f7, .bool n.f8, .bool n.f9]] w fun e w' => e = .returned (.int .i64 (nodeE (nodeB n))) ∧ Below w.heap.size w w' := by
  unfold nodeB
  cases h : (nameOk n.f0 && !decide (65 < n.f1.length) && !decide (64 < n.f2.length) && (n.f3 || !decide (0 < n.f2.length))) with
  | false =>
    have := node_bad n A1 c1 A2 c2 w hs0 h
    simpa [nodeE] using this
  | true =>
    have := node_good n A1 c1 A2 c2 w hs0 hs1 hs2 hs5 h hc1 hr1 hc2 hr2 _ rfl
    simpa using this
def nodeFitsB (n : S48) : Bool := decide (n.f0.size ≤ 140737488351232) && n.f1.all (fun s => decide (s.size ≤ 140737488351232)) && n.f2.all (fun s => decide (s.size ≤ 140737488351232)) && decide (n.f5.size ≤ 140737488351232)
def smithyref12_Node.f (a0_0 : ByteArray) (l0_1 : List ByteArray) (l0_2 : List ByteArray) (a0_3 : Bool) (a0_4 : ByteArray) (a0_5 : ByteArray) (a0_6 a0_7 a0_8 a0_9 : Bool) : Option Int := if nodeFitsB ⟨a0_0, l0_1, l0_2, a0_3, a0_4, a0_5, a0_6, a0_7, a0_8, a0_9⟩ = true then some (nodeE (nodeB ⟨a0_0, l0_1, l0_2, a0_3, a0_4, a0_5, a0_6, a0_7, a0_8, a0_9⟩)) else none
theorem smithyref12_Node.calls (a0_0 : ByteArray) (A0_1 : Option Addr) (c0_1 : Nat) (l0_1 : List ByteArray) (A0_2 : Option Addr) (c0_2 : Nat) (l0_2 : List ByteArray) (a0_3 : Bool) (a0_4 : ByteArray) (a0_5 : ByteArray) (a0_6 : Bool) (a0_7 : Bool) (a0_8 : Bool) (a0_9 : Bool) (r : Int) (w : World) (hr0_1 : Kd.C Kd.string w A0_1 l0_1.length l0_1) (hc0_1 : l0_1.length ≤ c0_1) (hr0_2 : Kd.C Kd.string w A0_2 l0_2.length l0_2) (hc0_2 : l0_2.length ≤ c0_2) (h : smithyref12_Node.f a0_0 l0_1 l0_2 a0_3 a0_4 a0_5 a0_6 a0_7 a0_8 a0_9 = some r) :
    Calls Try.prog 45 #[.agg #[.string a0_0, .slice A0_1 l0_1.length c0_1, .slice A0_2 l0_2.length c0_2, .bool a0_3, .string a0_4, .string a0_5, .bool a0_6, .bool a0_7, .bool a0_8, .bool a0_9]] w fun e w' => e = .returned (.int .i64 r) ∧ Below w.heap.size w w' := by
  unfold smithyref12_Node.f at h
  split at h
  · rename_i hs
    obtain rfl := Option.some.inj h
    unfold nodeFitsB at hs
    simp only [Bool.and_eq_true, decide_eq_true_eq, List.all_eq_true] at hs
    obtain ⟨⟨⟨g0, g1⟩, g2⟩, g5⟩ := hs
    exact node_calls ⟨a0_0, l0_1, l0_2, a0_3, a0_4, a0_5, a0_6, a0_7, a0_8, a0_9⟩ A0_1 c0_1 A0_2 c0_2 w (Nat.le_trans g0 (by decide)) (fun x hx => Nat.le_trans (g1 x hx) (by decide)) (fun x hx => Nat.le_trans (g2 x hx) (by decide)) (Nat.le_trans g5 (by decide)) hc0_1 hr0_1 hc0_2 hr0_2
  · cases h

/-! ### smithyref12_Check: function 17 -/
open Go.Proofs.Ytedgkcdofiildaa.Ext
def refGo : List ByteArray → List S48 → Bool
  | _, [] => true
  | ahead, n :: ns => nodeB n && !memB ahead n.f0 && n.f1.all (memB ahead) && refGo (ahead ++ [n.f0]) ns
def goalsB (all : List ByteArray) : List ByteArray → List ByteArray → Bool
  | _, [] => true
  | pre, x :: xs => memB all x && !memB pre x && goalsB all (pre ++ [x]) xs
def names0 (l : List S48) : List ByteArray := l.map (·.f0)
theorem names0_snoc (l : List S48) (x : S48) : names0 (l ++ [x]) = names0 l ++ [x.f0] := by unfold names0; simp
def refR (ns : List S48) (gs : List ByteArray) : Int := if 256 < ns.length then 7 else if gs.length < 1 then 7 else if 512 < gs.length then 7 else nodeE (refGo [] ns && goalsB (names0 ns) [] gs)
set_option maxHeartbeats 2000000 in
set_option maxRecDepth 100000 in
theorem rcheck_long (A0 : Option Addr) (c0 : Nat) (l0 : List S48) (A1 : Option Addr) (c1 : Nat) (l1 : List ByteArray) (w : World) (h : 256 < l0.length ∨ l1.length < 1 ∨ 512 < l1.length) :
    Calls Try.prog 17 #[.agg #[.slice A0 l0.length c0, .slice A1 l1.length c1]] w fun e w' => e = .returned (.int .i64 7) ∧ Below w.heap.size w w' := by
  by_cases h1 : 256 < l0.length
  · have e1 : decide ((256 : Int) < (l0.length : Int)) = true := decide_eq_true (by omega)
    go_enter Try.func17, Try.ntmps17
    go_wp2_with fail
    go_ret
    exact ⟨rfl, below_alloc (Below.refl _ _) _⟩
  · have e1 : decide ((256 : Int) < (l0.length : Int)) = false := decide_eq_false (by omega)
    by_cases h2 : l1.length < 1
    · have e2 : decide ((l1.length : Int) < 1) = true := decide_eq_true (by omega)
      go_enter Try.func17, Try.ntmps17
      go_wp2_with fail
      go_ret
      exact ⟨rfl, below_alloc (Below.refl _ _) _⟩
    · have e2 : decide ((l1.length : Int) < 1) = false := decide_eq_false (by omega)
      have e3 : decide ((512 : Int) < (l1.length : Int)) = true := decide_eq_true (by omega)
      go_enter Try.func17, Try.ntmps17
      go_wp2_with fail
      go_ret
      exact ⟨rfl, below_alloc (Below.refl _ _) _⟩
set_option maxHeartbeats 8000000 in
set_option maxRecDepth 100000 in
theorem rcheck_short (A0 : Option Addr) (c0 : Nat) (l0 : List S48) (A1 : Option Addr) (c1 : Nat) (l1 : List ByteArray) (R : Int) (w : World) (h1 : ¬ 256 < l0.length) (h2 : ¬ l1.length < 1) (h3 : ¬ 512 < l1.length)
    (hr0 : Kd.C k48 w A0 l0.length l0) (hc0 : l0.length ≤ c0) (hr1 : Kd.C Kd.string w A1 l1.length l1) (hc1 : l1.length ≤ c1) (hf : ∀ n ∈ l0, nodeFitsB n = true) (hR : nodeE (refGo [] l0 && goalsB (names0 l0) [] l1) = R) :
    Calls Try.prog 17 #[.agg #[.slice A0 l0.length c0, .slice A1 l1.length c1]] w fun e w' => e = .returned (.int .i64 R) ∧ Below w.heap.size w w' := by
  have e1 : decide ((256 : Int) < (l0.length : Int)) = false := decide_eq_false (by omega)
  have e2 : decide ((l1.length : Int) < 1) = false := decide_eq_false (by omega)
  have e3 : decide ((512 : Int) < (l1.length : Int)) = false := decide_eq_false (by omega)
  have HW0 := Aside0.mk hr0
  have HW1 := Aside0.mk hr1
  have HF := Aside0.mk hf
  have HR := Aside0.mk hR
  have hl0 : l0.length ≤ 256 := by omega
  have hl1 : l1.length ≤ 512 := by omega
  clear hr0 hr1 hf hR h1 h2 h3
  go_enter Try.func17, Try.ntmps17
  go_wp2_with fail
  go_loopw [3, 4] (fun va vi wr => ∃ (i : Nat), i ≤ l0.length ∧ vi = .int .i64 (i : Int) ∧ Aside0 (refGo [] l0 = refGo (names0 (l0.take i)) (l0.drop i)) ∧ Aside0 (Kd.R Kd.string 9 wr w.heap.size (fun k => k ≠ w.heap.size) va (names0 (l0.take i))) ∧ Aside0 (Below w.heap.size w wr) ∧ wr.cell? ⟨w.heap.size, 0, none⟩ = some (.slice A0 l0.length c0) ∧ wr.cell? ⟨w.heap.size, 1, none⟩ = some (.slice A1 l1.length c1)) (fun _ vi _ => ((l0.length : Int) - intOf vi).toNat)
  case atStart => exact ⟨0, Nat.zero_le _, rfl, ⟨rfl⟩, ⟨Kd.R_nil _ _ _ _ _⟩, ⟨below_alloc (Below.refl _ _) _⟩, by go_simp, by go_simp⟩
  case round =>
    obtain ⟨i, hi, rfl, HG, HO, HB, hcp0, hcp1⟩ := hrel
    have qp := World.block_lt_of_cell? _ _ hcp0
    by_cases hlt : i < l0.length
    · have hw1 : IntKind.i64.wrap ((i : Int) + 1) = ((i + 1 : Nat) : Int) := by rw [IntKind.wrap_i64]; omega
      have qi : (i : Int) < (l0.length : Int) := by omega
      have pi : (0 : Int) ≤ (i : Int) := by omega
      obtain ⟨ad, B1, d1, B2, d2, rfl, y0, y1, y2, y3, y4, y5, y6, y7, y8, y9, hd1, hg1, hd2, hg2⟩ := at_T48 (Kd.C_below HW0.out HB.out) (i : Int) pi qi
      have he : rd_T48 l0 (i : Int) = l0[i] := by simp [rd_T48, hlt]
      rw [he, Int.toNat_natCast] at y0 y1 y2 y3 y4 y5 y6 y7 y8 y9
      rw [he] at hd1 hg1 hd2 hg2
      have hG := HG.out
      rw [List.drop_eq_getElem_cons hlt, refGo] at hG
      have HT := Aside0.mk (show names0 (l0.take (i + 1)) = names0 (l0.take i) ++ [l0[i].f0] by rw [List.take_succ_eq_append_getElem hlt, names0_snoc])
      have hff := HF.out l0[i] (List.getElem_mem hlt)
      obtain ⟨x, hx⟩ : ∃ x, l0[i] = x := ⟨_, rfl⟩
      rw [hx] at y0 y1 y2 y3 y4 y5 y6 y7 y8 y9 hd1 hg1 hd2 hg2 hG HT hff
      obtain ⟨ah, hah⟩ : ∃ ah, names0 (l0.take i) = ah := ⟨_, rfl⟩
      have hahl : ah.length ≤ 256 := by rw [← hah]; unfold names0; rw [List.length_map, List.length_take]; omega
      rw [hah] at hG HT HO
      have HG1 := Aside0.mk (fun o => Kd.C_alloc hg1 o)
      have HG2 := Aside0.mk (fun o => Kd.C_alloc hg2 o)
      have HFF := Aside0.mk hff
      obtain ⟨Aa, ca, hva, hca, hCa0⟩ := Kd.R_reads HO.out
      subst hva
      have HCA := Aside0.mk hCa0
      clear hCa0
      clear he hx hah hg1 hg2 hff
      cases hb : nodeB x with
      | false =>
        have HX := Aside0.mk (show 7 = R by have h9 := HR.out; rw [hG, hb] at h9; exact h9)
        have HNC := Aside0.mk (fun W h1 h2 => by
          have h9 := smithyref12_Node.calls x.f0 B1 d1 x.f1 B2 d2 x.f2 x.f3 x.f4 x.f5 x.f6 x.f7 x.f8 x.f9 (nodeE (nodeB x)) W h1 hd1 h2 hd2 (by unfold smithyref12_Node.f; rw [if_pos HFF.out])
          rw [hb, show nodeE false = 7 from rfl] at h9
          exact h9)
        clear hG hb
        go_wp2_with (go_at_call 45; refine (HNC.out _ (HG1.out _) (HG2.out _)).mono ?_; rintro e w2 ⟨rfl, hb2⟩)
        go_ret
        exact ⟨congrArg (fun z => Ending.returned (Value.int .i64 z)) HX.out, below_step (below_alloc HB.out _) hb2⟩
      | true =>
        have HNC := Aside0.mk (fun W h1 h2 => by
          have h9 := smithyref12_Node.calls x.f0 B1 d1 x.f1 B2 d2 x.f2 x.f3 x.f4 x.f5 x.f6 x.f7 x.f8 x.f9 (nodeE (nodeB x)) W h1 hd1 h2 hd2 (by unfold smithyref12_Node.f; rw [if_pos HFF.out])
          rw [hb, show nodeE true = 0 from rfl] at h9
          exact h9)
        rw [hb, Bool.true_and] at hG
        clear hb
        cases hm : memB ah x.f0 with
        | true =>
          have HX := Aside0.mk (show 7 = R by have h9 := HR.out; rw [hG, hm] at h9; exact h9)
          have HM := Aside0.mk hm
          clear hG hm
          go_wp2_with (first | (go_at_call 45; refine (HNC.out _ (HG1.out _) (HG2.out _)).mono ?_; rintro e w2 ⟨rfl, hb2⟩; have zn0 : w2.cell? ⟨wr.heap.size, 0, none⟩ = some (.string x.f0) := (hb2.cell (p := ⟨wr.heap.size, 0, none⟩) (by simp)).trans (by simp); have HCa := Aside0.mk (Kd.C_below (Kd.C_alloc HCA.out _) hb2)) | (go_at_call 33; refine (nhas_at Aa ca _ ah x.f0 true HM.out _ HCa.out hca).mono ?_; rintro e w3 ⟨rfl, ⟨q3, rfl⟩⟩))
          go_ret
          exact ⟨congrArg (fun z => Ending.returned (Value.int .i64 z)) HX.out, pw_below_drewN (below_step (below_alloc HB.out _) hb2) _⟩
        | false =>
          rw [hm, Bool.not_false, Bool.true_and] at hG
          have HM := Aside0.mk hm
          have HGG := Aside0.mk hG
          clear hG hm
          go_wp2_with (first | (go_at_call 45; refine (HNC.out _ (HG1.out _) (HG2.out _)).mono ?_; rintro e w2 ⟨rfl, hb2⟩; have zn0 : w2.cell? ⟨wr.heap.size, 0, none⟩ = some (.string x.f0) := (hb2.cell (p := ⟨wr.heap.size, 0, none⟩) (by simp)).trans (by simp); have zn1 : w2.cell? ⟨wr.heap.size, 1, none⟩ = some (.slice B1 x.f1.length d1) := (hb2.cell (p := ⟨wr.heap.size, 1, none⟩) (by simp)).trans (by simp); have HO2 := Aside0.mk (Kd.R_below (Kd.R_alloc HO.out _) hb2); have HCa := Aside0.mk (Kd.C_below (Kd.C_alloc HCA.out _) hb2); have HN1 := Aside0.mk (Kd.C_below (HG1.out _) hb2); have HB2 := Aside0.mk (below_step (below_alloc HB.out _) hb2); have hcp2 := (hb2.cell (World.block_lt_of_cell? _ _ (Lib.cell?_alloc_some _ hcp0))).trans (Lib.cell?_alloc_some _ hcp0); have hcp2' := (hb2.cell (World.block_lt_of_cell? _ _ (Lib.cell?_alloc_some _ hcp1))).trans (Lib.cell?_alloc_some _ hcp1); clear hb2) | (go_at_call 33; refine (nhas_at Aa ca _ ah x.f0 false HM.out _ HCa.out hca).mono ?_; rintro e w3 ⟨rfl, ⟨q3, rfl⟩⟩))
          obtain ⟨wo, rfl⟩ : ∃ wo : World, wo = wr := ⟨_, rfl⟩
          go_loopw [6] (fun vj wr => ∃ (j q : Nat), j ≤ x.f1.length ∧ vj = .int .i64 (j : Int) ∧ Aside0 (x.f1.all (memB ah) = (x.f1.drop j).all (memB ah)) ∧ wr = w2.drewN q) (fun vj _ => ((x.f1.length : Int) - intOf vj).toNat)
          case atStart => exact ⟨0, q3, Nat.zero_le _, rfl, ⟨rfl⟩, rfl⟩
          case round =>
            obtain ⟨j, q, hj, rfl, hjb, rfl⟩ := hrel
            by_cases hlj : j < x.f1.length
            · have hxl : x.f1.length ≤ 9223372036854775807 := HN1.out.2.1
              have hw2 : IntKind.i64.wrap ((j : Int) + 1) = ((j + 1 : Nat) : Int) := by rw [IntKind.wrap_i64]; omega
              have qj : (j : Int) < (x.f1.length : Int) := by omega
              have pj : (0 : Int) ≤ (j : Int) := by omega
              obtain ⟨adj, rfl, hx0⟩ := Kd.at_string (Kd.C_drewN HN1.out q) (j : Int) pj qj
              have he2 : rdOf ByteArray.empty x.f1 (j : Int) = x.f1[j] := by simp [rdOf, hlj]
              rw [he2, Int.toNat_natCast] at hx0
              have hjb' := hjb.out
              rw [List.drop_eq_getElem_cons hlj, List.all_cons] at hjb'
              obtain ⟨y, hy⟩ : ∃ y, x.f1[j] = y := ⟨_, rfl⟩
              rw [hy] at hx0 hjb'
              clear he2 hy hjb
              cases hmy : memB ah y with
              | false =>
                have HX := Aside0.mk (show 7 = R by have h9 := HR.out; rw [HGG.out, hjb', hmy] at h9; exact h9)
                have HMY := Aside0.mk hmy
                clear hjb' hmy
                go_wp2_with (go_at_call 33; refine (nhas_at Aa ca _ ah y false HMY.out _ (Kd.C_drewN HCa.out _) hca).mono ?_; rintro e w3 ⟨rfl, ⟨q4, rfl⟩⟩)
                go_ret
                exact ⟨congrArg (fun z => Ending.returned (Value.int .i64 z)) HX.out, pw_below_drewN HB2.out _⟩
              | true =>
                have HX := Aside0.mk (show x.f1.all (memB ah) = (x.f1.drop (j + 1)).all (memB ah) by rw [hjb', hmy]; rfl)
                have HMY := Aside0.mk hmy
                clear hjb' hmy
                go_wp2_with (go_at_call 33; refine (nhas_at Aa ca _ ah y true HMY.out _ (Kd.C_drewN HCa.out _) hca).mono ?_; rintro e w3 ⟨rfl, ⟨q4, rfl⟩⟩)
                go_roundw
                case rel => exact ⟨j + 1, _, hlj, rfl, HX, rfl⟩
                case measure => simp [intOf]; omega
            · have hnj : ¬ (j : Int) < (x.f1.length : Int) := by omega
              have hjb' := hjb.out
              rw [List.drop_eq_nil_of_le (by omega), List.all_nil] at hjb'
              have HX := Aside0.mk (show refGo [] l0 = refGo (ah ++ [x.f0]) (l0.drop (i + 1)) by have h9 := HGG.out; rw [hjb', Bool.true_and] at h9; exact h9)
              clear hjb hjb'
              go_wp2_with (at_builtin; refine Kd.R_append Kd.string (w0 := w) w.heap.size rfl (.tmp 60) (.tmp 63) 23 9 (.string ⟨#[]⟩) 16 rfl Try.underlying23 info9 rfl (by decide) (by omega) (.slice Aa ah.length ca) ah x.f0 [.string x.f0] (fun k => k ≠ w.heap.size) (fun _ => False) rfl (by first | (go_simp; done) | (go_simp; rfl)) rfl (fun _ hk => hk.elim) ?aF ?aO ?aB ?aS ?aL ?_; (case aF => exact (fun k hk => by have h2 : w.heap.size < w2.heap.size := World.block_lt_of_cell? _ _ hcp2; have h3 : w2.heap.size ≤ k := hk; omega)); (case aO => exact Kd.R_drewN HO2.out _); (case aB => exact pw_below_drewN HB2.out _); (case aS => exact HB2.out.size); (case aL => exact (by omega)); intro v1 w5 HO5 HB5 hg5 _)
              go_roundw
              case rel =>
                have hne : ∀ k, (Value.slice Aa ah.length ca).ownBlock = some k → k ≠ w.heap.size := fun k hk => HO.out.1 k hk
                exact ⟨i + 1, hlt, rfl, by rw [HT.out]; exact HX, by rw [HT.out]; exact ⟨HO5⟩, ⟨HB5⟩, (hg5.cell_far _ (World.block_lt_of_cell? w2 _ hcp2) (fun e => hne _ e.symm rfl)).trans hcp2, (hg5.cell_far _ (World.block_lt_of_cell? w2 _ hcp2') (fun e => hne _ e.symm rfl)).trans hcp2'⟩
              case measure => simp [intOf]; omega
    · have hn : ¬ (i : Int) < (l0.length : Int) := by omega
      have hG := HG.out
      rw [List.drop_eq_nil_of_le (by omega), refGo] at hG
      have HRB := Aside0.mk (show nodeE (goalsB (names0 l0) [] l1) = R by have h9 := HR.out; rw [hG, Bool.true_and] at h9; exact h9)
      have hOx := HO.out
      rw [List.take_of_length_le (by omega)] at hOx
      obtain ⟨all, hall⟩ : ∃ all, names0 l0 = all := ⟨_, rfl⟩
      have halll : all.length ≤ 256 := by rw [← hall]; unfold names0; rw [List.length_map]; omega
      rw [hall] at hOx HRB
      obtain ⟨Aa, ca, hva, hca, hCa0⟩ := Kd.R_reads hOx
      subst hva
      have HCA := Aside0.mk hCa0
      obtain ⟨wo, rfl⟩ : ∃ wo : World, wo = wr := ⟨_, rfl⟩
      have HW1o := Aside0.mk (Kd.C_below HW1.out HB.out)
      clear hG HG hOx hall hCa0 HO
      go_wp2_with fail
      go_loopw [7] (fun vj wr => ∃ (j q : Nat), j ≤ l1.length ∧ vj = .int .i64 (j : Int) ∧ Aside0 (goalsB all [] l1 = goalsB all (l1.take j) (l1.drop j)) ∧ wr = wo.drewN q) (fun vj _ => ((l1.length : Int) - intOf vj).toNat)
      case atStart => exact ⟨0, 0, Nat.zero_le _, rfl, ⟨rfl⟩, rfl⟩
      case round =>
        obtain ⟨j, q, hj, rfl, hjb, rfl⟩ := hrel
        by_cases hlj : j < l1.length
        · have hw2 : IntKind.i64.wrap ((j : Int) + 1) = ((j + 1 : Nat) : Int) := by rw [IntKind.wrap_i64]; omega
          have qj : (j : Int) < (l1.length : Int) := by omega
          have pj : (0 : Int) ≤ (j : Int) := by omega
          have qic : (j : Int) ≤ (l1.length : Int) := by omega
          have qcc : (j : Int) ≤ (c1 : Int) := by omega
          have htk : (l1.take j).length = j := by rw [List.length_take]; omega
          have HC3 := Aside0.mk (by
            have h9 := Kd.C_take HW1o.out (show j ≤ l1.length by omega)
            rw [htk] at h9
            exact h9)
          obtain ⟨adj, rfl, hx0⟩ := Kd.at_string HW1o.out (j : Int) pj qj
          have he2 : rdOf ByteArray.empty l1 (j : Int) = l1[j] := by simp [rdOf, hlj]
          rw [he2, Int.toNat_natCast] at hx0
          have hjb' := hjb.out
          rw [List.drop_eq_getElem_cons hlj, goalsB] at hjb'
          have HT := Aside0.mk (show l1.take (j + 1) = l1.take j ++ [l1[j]] by rw [List.take_succ_eq_append_getElem hlj])
          obtain ⟨y, hy⟩ : ∃ y, l1[j] = y := ⟨_, rfl⟩
          rw [hy] at hx0 hjb' HT
          clear he2 hy hjb htk
          cases hma : memB all y with
          | false =>
            have HX := Aside0.mk (show 7 = R by have h9 := HRB.out; rw [hjb', hma] at h9; exact h9)
            have HMA := Aside0.mk hma
            clear hjb' hma
            go_wp2_with fail
            go_quiet (first | (go_at_call 33; (with_reducible refine (nhas_at Aa ca _ all y false HMA.out _ ?hk hca).mono ?_); (case hk => first | exact Kd.C_drewN HCA.out _ | exact Kd.C_drewN (Kd.C_drewN HCA.out _) _); rintro e w' ⟨rfl, ⟨nd, rfl⟩⟩; (first | exact ⟨rfl, _, World.drewN_drewN _ _ _⟩ | exact ⟨rfl, _, Eq.trans (World.drewN_drewN _ _ _) (congrArg (World.drewN _) (Nat.add_assoc _ _ _))⟩)))
            go_wp2
            go_ret
            exact ⟨congrArg (fun z => Ending.returned (Value.int .i64 z)) HX.out, pw_below_drewN (pw_below_drewN HB.out _) _⟩
          | true =>
            have HMA := Aside0.mk hma
            cases hmb : memB (l1.take j) y with
            | true =>
              have HX := Aside0.mk (show 7 = R by have h9 := HRB.out; rw [hjb', hma, hmb] at h9; exact h9)
              have HMB := Aside0.mk hmb
              clear hjb' hma hmb
              go_wp2_with fail
              go_quiet (first | (go_at_call 33; (with_reducible refine (nhas_at Aa ca _ all y true HMA.out _ ?hk hca).mono ?_); (case hk => first | exact Kd.C_drewN HCA.out _ | exact Kd.C_drewN (Kd.C_drewN HCA.out _) _); rintro e w' ⟨rfl, ⟨nd, rfl⟩⟩; (first | exact ⟨rfl, _, World.drewN_drewN _ _ _⟩ | exact ⟨rfl, _, Eq.trans (World.drewN_drewN _ _ _) (congrArg (World.drewN _) (Nat.add_assoc _ _ _))⟩)) | (go_at_call 33; (with_reducible refine (nhas_at (some adj) c1 j _ y true HMB.out _ ?hk (by omega)).mono ?_); (case hk => first | exact Kd.C_drewN HC3.out _ | exact Kd.C_drewN (Kd.C_drewN HC3.out _) _); rintro e w' ⟨rfl, ⟨nd, rfl⟩⟩; (first | exact ⟨rfl, _, World.drewN_drewN _ _ _⟩ | exact ⟨rfl, _, Eq.trans (World.drewN_drewN _ _ _) (congrArg (World.drewN _) (Nat.add_assoc _ _ _))⟩)))
              go_wp2
              go_ret
              exact ⟨congrArg (fun z => Ending.returned (Value.int .i64 z)) HX.out, pw_below_drewN (pw_below_drewN HB.out _) _⟩
            | false =>
              have HX := Aside0.mk (show goalsB all [] l1 = goalsB all (l1.take (j + 1)) (l1.drop (j + 1)) by rw [hjb', hma, hmb, HT.out]; rfl)
              have HMB := Aside0.mk hmb
              clear hjb' hma hmb
              go_wp2_with fail
              go_quiet (first | (go_at_call 33; (with_reducible refine (nhas_at Aa ca _ all y true HMA.out _ ?hk hca).mono ?_); (case hk => first | exact Kd.C_drewN HCA.out _ | exact Kd.C_drewN (Kd.C_drewN HCA.out _) _); rintro e w' ⟨rfl, ⟨nd, rfl⟩⟩; (first | exact ⟨rfl, _, World.drewN_drewN _ _ _⟩ | exact ⟨rfl, _, Eq.trans (World.drewN_drewN _ _ _) (congrArg (World.drewN _) (Nat.add_assoc _ _ _))⟩)) | (go_at_call 33; (with_reducible refine (nhas_at (some adj) c1 j _ y false HMB.out _ ?hk (by omega)).mono ?_); (case hk => first | exact Kd.C_drewN HC3.out _ | exact Kd.C_drewN (Kd.C_drewN HC3.out _) _); rintro e w' ⟨rfl, ⟨nd, rfl⟩⟩; (first | exact ⟨rfl, _, World.drewN_drewN _ _ _⟩ | exact ⟨rfl, _, Eq.trans (World.drewN_drewN _ _ _) (congrArg (World.drewN _) (Nat.add_assoc _ _ _))⟩)))
              go_wp2
              go_roundw
              case rel => exact ⟨j + 1, _, hlj, rfl, HX, rfl⟩
              case measure => simp [intOf]; omega
        · have hnj : ¬ (j : Int) < (l1.length : Int) := by omega
          have hjb' := hjb.out
          rw [List.drop_eq_nil_of_le (by omega), goalsB] at hjb'
          have HX := Aside0.mk (show 0 = R by have h9 := HRB.out; rw [hjb'] at h9; exact h9)
          clear hjb hjb'
          go_wp2_with fail
          go_ret
          exact ⟨congrArg (fun z => Ending.returned (Value.int .i64 z)) HX.out, pw_below_drewN HB.out _⟩
theorem rcheck_calls (A0 : Option Addr) (c0 : Nat) (l0 : List S48) (A1 : Option Addr) (c1 : Nat) (l1 : List ByteArray) (w : World)
    (hr0 : Kd.C k48 w A0 l0.length l0) (hc0 : l0.length ≤ c0) (hr1 : Kd.C Kd.string w A1 l1.length l1) (hc1 : l1.length ≤ c1) (hf : ∀ n ∈ l0, nodeFitsB n = true) :
    Calls Try.prog 17 #[.agg #[.slice A0 l0.length c0, .slice A1 l1.length c1]] w fun e w' => e = .returned (.int .i64 (refR l0 l1)) ∧ Below w.heap.size w w' := by
  unfold refR
  by_cases h1 : 256 < l0.length
  · rw [if_pos h1]; exact rcheck_long A0 c0 l0 A1 c1 l1 w (.inl h1)
  · rw [if_neg h1]
    by_cases h2 : l1.length < 1
    · rw [if_pos h2]; exact rcheck_long A0 c0 l0 A1 c1 l1 w (.inr (.inl h2))
    · rw [if_neg h2]
      by_cases h3 : 512 < l1.length
      · rw [if_pos h3]; exact rcheck_long A0 c0 l0 A1 c1 l1 w (.inr (.inr h3))
      · rw [if_neg h3]; exact rcheck_short A0 c0 l0 A1 c1 l1 _ w h1 h2 h3 hr0 hc0 hr1 hc1 hf rfl
def smithyref12_Check.f (l0 : List S48) (l1 : List ByteArray) : Option Int := if (l0.all nodeFitsB) = true then some (refR l0 l1) else none
theorem smithyref12_Check.calls (A0_0 : Option Addr) (c0_0 : Nat) (l0_0 : List S48) (A0_1 : Option Addr) (c0_1 : Nat) (l0_1 : List ByteArray) (r : Int) (w : World) (hr0_0 : Kd.C k48 w A0_0 l0_0.length l0_0) (hc0_0 : l0_0.length ≤ c0_0) (hr0_1 : Kd.C Kd.string w A0_1 l0_1.length l0_1) (hc0_1 : l0_1.length ≤ c0_1) (h : smithyref12_Check.f l0_0 l0_1 = some r) :
    Calls Try.prog 17 #[.agg #[.slice A0_0 l0_0.length c0_0, .slice A0_1 l0_1.length c0_1]] w fun e w' => e = .returned (.int .i64 r) ∧ Below w.heap.size w w' := by
  unfold smithyref12_Check.f at h
  split at h
  · rename_i hs
    obtain rfl := Option.some.inj h
    exact rcheck_calls A0_0 c0_0 l0_0 A0_1 c0_1 l0_1 w hr0_0 hc0_0 hr0_1 hc0_1 (fun n hn => List.all_eq_true.1 hs n hn)
  · cases h

end Go.Proofs.Ytedgkcdofiildaa.P
