import Derived.Test.YtedgkcdofiildaaFPx0
set_option linter.unusedVariables false
set_option linter.unusedSimpArgs false
set_option linter.unnecessarySimpa false
set_option linter.deprecated false
namespace Go.Proofs.Ytedgkcdofiildaa.F
open Go Go.RowKit Go.Proofs.Ytedgkcdofiildaa.Sl
/-! smithy/walk.asked$1 -/
def walk_asked_1.f (a0 : ByteArray) (c0 : WalkSet_string_) : Option Bool := (walk_set_string_has.f c0 a0).bind fun v1 => some (!v1)
set_option maxRecDepth 100000 in
set_option maxHeartbeats 4000000 in
theorem walk_asked_1.con (a0 : ByteArray) (c0 : WalkSet_string_) (r : Bool) (H : walk_asked_1.f a0 c0 = some r) : Con Try.prog 56 [VA.k kstr a0, VA.pt kWalkSet_string_ c0] [VA.k kbool r] := by
  unfold walk_asked_1.f at H
  refine con_enter Try.func56 rfl rfl rfl (fun w0 S0 θ => ?_)
  refine goes_seq ?_
  refine goes_region ?_
  refine go1 (op_assign rfl (.bool _)) rfl ?_
  refine goesO_nil ?_
  refine ends_then ?_
  refine goes_seq ?_
  refine goes_region ?_
  refine go1 (op_loadp rfl tk66 (.t (has rfl))) rfl ?_
  refine go1 (op_move rfl (.t (has rfl))) rfl ?_
  obtain ⟨v1, h2, H⟩ := bind_some H
  refine go1 (op_call' rfl enters36 (walk_set_string_has.con _ _ _ h2) rfl (.cons (ArgP.k (.t (has rfl))) (.cons (ArgP.k (.t (has rfl))) .nil))) rfl ?_
  refine go1 (op_not rfl (.t (has rfl))) rfl ?_
  refine go1 (op_assign rfl (.t (has rfl))) rfl ?_
  refine goesO_nil ?_
  refine ends_then ?_
  obtain rfl := Option.some.inj H
  exact goes_ret (ends_ret' rfl rfl (.t rfl (.nil _)))
theorem walk_asked_1.conF (a0 : ByteArray) (c0 : WalkSet_string_) (r : Bool) (H : walk_asked_1.f a0 c0 = some r) : ConF Try.prog 56 [VA.k kstr a0, VA.pt kWalkSet_string_ c0] [VA.k kbool r] := (walk_asked_1.con a0 c0 r H).freeL (.cons (KFree.k KFree.bool _) .nil)
/-! smithy/walk.asked -/
def walk_asked.l0 (a1 : List ByteArray) : Nat → Int → Option (Except Int Unit)
  | 0, _ => none
  | k + 1, s5 => bif icmp .lss s5 (a1.length : Int) then ((idx a1 s5).bind fun x10 => (names_Check.f k x10).bind fun v12 => bif icmp .neq v12 (0 : Int) then (some (Except.error v12)) else (walk_asked.l0 a1 k (IntKind.i64.wrap (s5 + (1 : Int))))) else (some (Except.ok ()))
def walk_asked.f (k : Nat) (a0 : Plan) (a1 : List ByteArray) : Option Int := (resolve_Check.f k a0).bind fun v1 => bif icmp .neq v1 (0 : Int) then (some v1) else (bif icmp .gtr (a1.length : Int) (512 : Int) then (some (2 : Int)) else ((walk_asked.l0 a1 k (0 : Int)).bind fun o8 => match o8 with | .error r' => some r' | .ok s6 => ((walk_targets.f k a0).bind fun v15 => (walk_setOf_string.f k v15).bind fun v17 => (slices_ContainsFunc_string_string.f k a1 (fun (z0 : ByteArray) => walk_asked_1.f z0 (⟨v17⟩ : WalkSet_string_))).bind fun v19 => bif v19 then (some (9 : Int)) else (some (0 : Int)))))
set_option maxRecDepth 100000 in
set_option maxHeartbeats 4000000 in
theorem walk_asked.con (k : Nat) (a0 : Plan) (a1 : List ByteArray) (r : Int) (H : walk_asked.f k a0 a1 = some r) : Con Try.prog 34 [VA.k kPlan a0, VA.k (kslice kstr) a1] [VA.k (kint .i64) r] := by
  unfold walk_asked.f at H
  refine con_enter Try.func34 rfl rfl rfl (fun w0 S0 θ => ?_)
  refine goes_seq ?_
  refine goes_region ?_
  refine go3 (op_box 2 rfl (fun h => by first | rfl | cases h) (.t (has rfl))) rfl ?_
  refine go1 (op_assign rfl (.int _ _)) rfl ?_
  refine goesO_nil ?_
  refine ends_then ?_
  refine goes_seq ?_
  refine goes_seq ?_
  refine goes_region ?_
  refine go1 (op_load rfl (Fld.whole kPlan) tk25 (.t (has rfl)) (has rfl)) rfl ?_
  obtain ⟨v1, h2, H⟩ := bind_some H
  refine go1 (op_call' rfl enters54 (resolve_Check.con _ _ _ h2) rfl (.cons (ArgP.k (.t (has rfl))) .nil)) rfl ?_
  refine go1 (op_assign rfl (.t (has rfl))) rfl ?_
  refine goesO_nil ?_
  refine ends_then ?_
  refine goes_seq ?_
  refine goes_region ?_
  refine go1 (op_move rfl (.t (has rfl))) rfl ?_
  refine go1 (op_icmp rfl rfl (.t (has rfl)) (.int _ _)) rfl ?_
  refine goesO_nil ?_
  refine ends_then ?_
  refine goes_if (.t (has rfl)) H (fun hb3 H => ?_) (fun hb3 H => ?_)
  · skip
    refine goes_seq ?_
    refine goes_region ?_
    refine go1 (op_move rfl (.t (has rfl))) rfl ?_
    refine go1 (op_assign rfl (.t (has rfl))) rfl ?_
    refine goesO_nil ?_
    refine ends_then ?_
    obtain rfl := Option.some.inj H
    exact goes_ret (ends_then_ret (ends_ret' rfl rfl (.t rfl (.nil _))))
  · skip
    refine goes_skip ?_
    refine ends_then ?_
    refine goes_seq ?_
    refine goes_seq ?_
    refine goes_region ?_
    refine go1 (op_move rfl (.t (has rfl))) rfl ?_
    refine go1 (op_len rfl rfl Try.underlying23 (.t (has rfl))) rfl ?_
    refine go1 (op_icmp rfl rfl (.t (has rfl)) (.int _ _)) rfl ?_
    refine goesO_nil ?_
    refine ends_then ?_
    refine goes_if (.t (has rfl)) H (fun hb4 H => ?_) (fun hb4 H => ?_)
    · skip
      refine goes_seq ?_
      refine goes_region ?_
      refine go1 (op_assign rfl (.int _ _)) rfl ?_
      refine goesO_nil ?_
      refine ends_then ?_
      obtain rfl := Option.some.inj H
      exact goes_ret (ends_then_ret (ends_ret' rfl rfl (.t rfl (.nil _))))
    · skip
      refine goes_skip ?_
      refine ends_then ?_
      refine goes_seq ?_
      refine goes_seq ?_
      refine goes_region ?_
      refine go1 (op_move rfl (.t (has rfl))) rfl ?_
      refine go1 (op_len rfl rfl Try.underlying23 (.t (has rfl))) rfl ?_
      refine go1 (op_move rfl (.int _ _)) rfl ?_
      refine goesO_nil ?_
      refine ends_then ?_
      obtain ⟨o8, h7, H⟩ := bind_some H
      refine goes_cutR (o := o8) (fun s6 : Unit => [Ent.t 1 (VA.k (kslice kstr) a1), Ent.t 2 (VA.ptr 2 0), Ent.h 2 (HE.box 25 kPlan a0)]) (fun r a w => bodyPost Try.prog Try.f34 (CPost w0 S0 θ [VA.k (kint .i64) r]) .ret a w) ?_ ?_ ?_
      · replace H := h7; clear h7
        refine goes_block ?_
        refine goes_loop (fun s5 : Int => [Ent.t 1 (VA.k (kslice kstr) a1), Ent.t 2 (VA.ptr 2 0), Ent.t 18 (VA.k (kslice kstr) a1), Ent.t 19 (VA.k (kint .i64) (a1.length : Int)), Ent.t 20 (VA.k (kint .i64) s5), Ent.h 2 (HE.box 25 kPlan a0)]) (fun k s5 => walk_asked.l0 a1 k s5) (fun _ => rfl) H (.cons rfl (.cons rfl (.cons rfl (.cons rfl (.cons rfl (.cons rfl .nil)))))) ?_
        intro k s5 H
        simp only [walk_asked.l0] at H
        refine goes_seq ?_
        refine goes_region ?_
        refine go1 (op_icmp rfl rfl (.t (has rfl)) (.t (has rfl))) rfl ?_
        refine goesO_nil ?_
        refine ends_then ?_
        refine goes_seq ?_
        refine goes_if (.t (has rfl)) H (fun hb9 H => ?_) (fun hb9 H => ?_)
        · skip
          refine goes_skip ?_
          refine ends_then ?_
          refine goes_seq ?_
          refine goes_block ?_
          refine goes_seq ?_
          refine goes_region ?_
          obtain ⟨x10, h11, H⟩ := bind_some H
          refine go1 (op_indexAddr rfl Try.underlying23 tk9 h11 (.t (has rfl)) (.t (has rfl))) rfl ?_
          refine go1 (op_loadp rfl tk9 (.t (has rfl))) rfl ?_
          refine go1 (op_assign rfl (.t (has rfl))) rfl ?_
          refine goesO_nil ?_
          refine ends_then ?_
          refine goes_seq ?_
          refine goes_region ?_
          refine go1 (op_move rfl (.t (has rfl))) rfl ?_
          obtain ⟨v12, h13, H⟩ := bind_some H
          refine go1 (op_call' rfl enters55 (names_Check.con _ _ _ h13) rfl (.cons (ArgP.k (.t (has rfl))) .nil)) rfl ?_
          refine go1 (op_assign rfl (.t (has rfl))) rfl ?_
          refine goesO_nil ?_
          refine ends_then ?_
          refine goes_seq ?_
          refine goes_region ?_
          refine go1 (op_move rfl (.t (has rfl))) rfl ?_
          refine go1 (op_icmp rfl rfl (.t (has rfl)) (.int _ _)) rfl ?_
          refine goesO_nil ?_
          refine ends_then ?_
          refine goes_if (.t (has rfl)) H (fun hb14 H => ?_) (fun hb14 H => ?_)
          · skip
            refine goes_seq ?_
            refine goes_region ?_
            refine go1 (op_move rfl (.t (has rfl))) rfl ?_
            refine go1 (op_assign rfl (.t (has rfl))) rfl ?_
            refine goesO_nil ?_
            refine ends_then ?_
            obtain rfl := Option.some.inj H
            refine goes_ret (ends_block_ret (ends_then_ret (ends_then_ret (ends_block_ret (ends_cutR_ret rfl ?_)))))
            exact ends_ret' rfl rfl (.t rfl (.nil _))
          · skip
            refine goes_skip ?_
            refine ends_block ?_
            refine ends_then ?_
            refine goes_region ?_
            refine go1 (op_add rfl (.t (has rfl)) (.int _ _)) rfl ?_
            refine go1 (op_move rfl (.t (has rfl))) rfl ?_
            refine goesO_nil ?_
            exact loop_next _ H (.cons rfl (.cons rfl (.cons rfl (.cons rfl (.cons rfl (.cons rfl .nil))))))
        · skip
          refine goes_exit (ends_then_exit (ends_then_exit (ends_block_exit ?_)))
          obtain rfl := Option.some.inj H
          exact ends_cutR rfl (.cons rfl (.cons rfl (.cons rfl .nil)))
      · rintro s6 rfl
        clear h7
        dsimp only at H
        refine ends_then ?_
        refine goes_seq ?_
        refine goes_region ?_
        refine go1 (op_load rfl (Fld.whole kPlan) tk25 (.t (has rfl)) (has rfl)) rfl ?_
        obtain ⟨v15, h16, H⟩ := bind_some H
        refine go1 (op_call' rfl enters46 (walk_targets.con _ _ _ h16) rfl (.cons (ArgP.k (.t (has rfl))) .nil)) rfl ?_
        refine goesO_settle 31 rfl rfl ?_
        obtain ⟨v17, h18, H⟩ := bind_some H
        refine go1 (op_call' rfl enters35 (walk_setOf_string.con _ _ _ h18) rfl (.cons (ArgP.k (.t (has rfl))) .nil)) rfl ?_
        refine goesO_adopt 32 32 rfl rfl ?_
        refine go3 (op_alloc_raw 9 rfl xaz66 rfl) rfl ?_
        refine go1 (op_store_mp xmz66 (.inl rfl) (.t (has rfl)) (has rfl) (.t (has rfl))) rfl ?_
        refine goesO_nil ?_
        refine ends_then ?_
        refine goes_seq ?_
        refine goes_seq ?_
        refine goes_region ?_
        refine go1 (op_move rfl (.t (has rfl))) rfl ?_
        refine go1 (op_makeFunc (ys := []) (xs := [9]) rfl rfl rfl rfl) rfl ?_
        obtain ⟨v19, h20, H⟩ := bind_some H
        refine go1 (op_callF' rfl enters37 (slices_ContainsFunc_string_string.conF 56 ([]) ([VA.pt kWalkSet_string_ (⟨v17⟩ : WalkSet_string_)]) _ _ (fun (z0 : ByteArray) => walk_asked_1.f z0 (⟨v17⟩ : WalkSet_string_)) enters56 (fun z0 r h => walk_asked_1.con z0 (⟨v17⟩ : WalkSet_string_) r h) _ h20) rfl (.cons (ArgB.k (.t (has rfl))) (.cons (ArgB.mf rfl rfl (has rfl) .nil (.cons (ArgB.ptm (.t (has rfl)) (has rfl) (has rfl) rfl) .nil)) .nil))) rfl ?_
        refine goesO_nil ?_
        refine ends_then ?_
        refine goes_if (.t (has rfl)) H (fun hb21 H => ?_) (fun hb21 H => ?_)
        · skip
          refine goes_seq ?_
          refine goes_region ?_
          refine go1 (op_assign rfl (.int _ _)) rfl ?_
          refine goesO_nil ?_
          refine ends_then ?_
          obtain rfl := Option.some.inj H
          exact goes_ret (ends_then_ret (ends_ret' rfl rfl (.t rfl (.nil _))))
        · skip
          refine goes_skip ?_
          refine ends_then ?_
          refine goes_seq ?_
          refine goes_region ?_
          refine go1 (op_assign rfl (.int _ _)) rfl ?_
          refine goesO_nil ?_
          refine ends_then ?_
          obtain rfl := Option.some.inj H
          exact goes_ret (ends_ret' rfl rfl (.t rfl (.nil _)))
      · rintro r' rfl a w hr
        obtain rfl := Option.some.inj H
        exact hr
theorem walk_asked.conF (k : Nat) (a0 : Plan) (a1 : List ByteArray) (r : Int) (H : walk_asked.f k a0 a1 = some r) : ConF Try.prog 34 [VA.k kPlan a0, VA.k (kslice kstr) a1] [VA.k (kint .i64) r] := (walk_asked.con k a0 a1 r H).freeL (.cons (KFree.k (KFree.int .i64) _) .nil)
/-! slices.Backward[[]smithy/api.Node,smithy/api.Node]$1 -/
def slices_Backward_api_Node_api_Node_1.l0 (c0 : List Node) : Nat → Int → Option (List (Int × Node))
  | 0, _ => none
  | k + 1, s1 => bif icmp .geq s1 (0 : Int) then ((idx c0 s1).bind fun x4 => (slices_Backward_api_Node_api_Node_1.l0 c0 k (IntKind.i64.wrap (s1 - (1 : Int)))).bind fun r6 => some ((s1, x4) :: r6)) else (some [])
def slices_Backward_api_Node_api_Node_1.f (k : Nat) (c0 : List Node) : Option (List (Int × Node)) := slices_Backward_api_Node_api_Node_1.l0 c0 k (IntKind.i64.wrap ((c0.length : Int) - (1 : Int)))
noncomputable def slices_Backward_api_Node_api_Node_1.V (x : Int × Node) : List VA := [VA.k (kint .i64) x.1, VA.k kNode x.2]
set_option maxRecDepth 100000 in
set_option maxHeartbeats 4000000 in
theorem slices_Backward_api_Node_api_Node_1.seq (k : Nat) (c0 : List Node) (r : List (Int × Node)) (H : slices_Backward_api_Node_api_Node_1.f k c0 = some r) : ∀ θ S w lb, argSat θ S w [VA.pt (kslice kNode) c0] lb → SeqC Try.prog 65 lb.toArray slices_Backward_api_Node_api_Node_1.V r S w := by
  unfold slices_Backward_api_Node_api_Node_1.f at H
  refine seq_enter Try.func65 rfl rfl rfl (fun l J Jx hst hstx w0 S0 X hc hR => ?_)
  refine goes_seq ?_
  refine goes_region ?_
  refine go1 (op_loadp rfl tk22 (.t (has rfl))) rfl ?_
  refine go1 (op_len rfl rfl Try.underlying22 (.t (has rfl))) rfl ?_
  refine go1 (op_sub rfl (.t (has rfl)) (.int _ _)) rfl ?_
  refine go1 (op_assign rfl (.t (has rfl))) rfl ?_
  refine goesO_nil ?_
  refine ends_then ?_
  refine goes_block ?_
  refine goes_loopP (fun q : Int × List (Int × Node) => [Ent.t 0 (VA.v (.func (.yield l) #[] #[])), Ent.t 1 (VA.pt (kslice kNode) c0), Ent.t 3 (VA.k (kint .i64) q.1), Ent.it J hst q.2]) (fun k q => slices_Backward_api_Node_api_Node_1.l0 c0 k q.1 = some q.2) (fun q h => by cases h) (s0 := (IntKind.i64.wrap ((c0.length : Int) - (1 : Int)), r)) H (.cons rfl (.cons rfl (.cons rfl (.cons rfl .nil)))) ?_
  rintro k ⟨s1, r2⟩ H
  dsimp only at H
  simp only [slices_Backward_api_Node_api_Node_1.l0] at H
  refine goes_seq ?_
  refine goes_seq ?_
  refine goes_region ?_
  refine go1 (op_move rfl (.t (has rfl))) rfl ?_
  refine go1 (op_icmp rfl rfl (.t (has rfl)) (.int _ _)) rfl ?_
  refine goesO_nil ?_
  refine ends_then ?_
  refine goes_if (.t (has rfl)) H (fun hb3 H => ?_) (fun hb3 H => ?_)
  · skip
    refine goes_skip ?_
    refine ends_then ?_
    refine goes_seq ?_
    refine goes_block ?_
    refine goes_seq ?_
    refine goes_region ?_
    refine go1 (op_moveA rfl plain_v (.t (has rfl))) rfl ?_
    refine go1 (op_move rfl (.t (has rfl))) rfl ?_
    refine go1 (op_loadp rfl tk22 (.t (has rfl))) rfl ?_
    refine go1 (op_move rfl (.t (has rfl))) rfl ?_
    obtain ⟨x4, h5, H⟩ := bind_some H
    refine go1 (op_indexAddr rfl Try.underlying22 tk48 h5 (.t (has rfl)) (.t (has rfl))) rfl ?_
    refine go1 (op_loadp rfl tk48 (.t (has rfl))) rfl ?_
    obtain ⟨r6, h7, H⟩ := bind_some H
    obtain rfl := Option.some.inj H
    replace H := h7; clear h7
    refine goesO_yield (hst := hst) (hstx := hstx) (x := (s1, x4)) hc rfl hR rfl (.t (has rfl)) (.cons (ArgP.k (.t (has rfl))) (.cons (ArgP.k (.t (has rfl))) .nil)) ?_ ?_
    · skip
      refine go1 (op_not rfl (.t (has rfl))) rfl ?_
      refine goesO_nil ?_
      refine ends_then ?_
      refine goes_ifF (.t (has rfl)) rfl ?_
      refine goes_skip ?_
      refine ends_block ?_
      refine ends_then ?_
      refine goes_region ?_
      refine go1 (op_move rfl (.t (has rfl))) rfl ?_
      refine go1 (op_sub rfl (.t (has rfl)) (.int _ _)) rfl ?_
      refine go1 (op_assign rfl (.t (has rfl))) rfl ?_
      refine goesO_nil ?_
      exact loop_nextP (l := fun k (q : Int × List (Int × Node)) => slices_Backward_api_Node_api_Node_1.l0 c0 k q.1 = some q.2) (k := k) (IntKind.i64.wrap (s1 - (1 : Int)), r6) H (.cons rfl (.cons rfl (.cons rfl (.cons rfl .nil))))
    · skip
      refine go1 (op_not rfl (.t (has rfl))) rfl ?_
      refine goesO_nil ?_
      refine ends_then ?_
      refine goes_ifT (.t (has rfl)) rfl ?_
      exact goes_ret (ends_block_ret (ends_then_ret (ends_then_ret (ends_block_ret (ends_itx rfl rfl)))))
  · skip
    refine goes_exit (ends_then_exit (ends_then_exit (ends_block_exit ?_)))
    obtain rfl := Option.some.inj H
    exact ends_fallR (ends_it rfl rfl)
/-! slices.Backward[[]smithy/api.Node,smithy/api.Node] -/
def slices_Backward_api_Node_api_Node.f (k : Nat) (a0 : List Node) : Option (List (Int × Node)) := (slices_Backward_api_Node_api_Node_1.f k a0).bind fun q1 => some q1
set_option maxRecDepth 100000 in
set_option maxHeartbeats 4000000 in
theorem slices_Backward_api_Node_api_Node.con (k : Nat) (a0 : List Node) (r : List (Int × Node)) (H : slices_Backward_api_Node_api_Node.f k a0 = some r) : Con Try.prog 59 [VA.k (kslice kNode) a0] [VA.seq Try.prog slices_Backward_api_Node_api_Node_1.V r] := by
  unfold slices_Backward_api_Node_api_Node.f at H
  refine con_enter Try.func59 rfl rfl rfl (fun w0 S0 θ => ?_)
  refine goes_seq ?_
  refine goes_region ?_
  refine go3 (op_box 1 rfl (fun h => by first | rfl | cases h) (.t (has rfl))) rfl ?_
  refine go1 (op_assignA rfl plain_v (.v _)) rfl ?_
  refine goesO_nil ?_
  refine ends_then ?_
  refine goes_seq ?_
  refine goes_region ?_
  refine goesO_by (fun a w hi => inv_box_pt 1 1 rfl rfl hi) ?_
  obtain ⟨q1, h2, H⟩ := bind_some H
  refine go1 (op_makeFunc (ys := []) (xs := [1]) rfl rfl rfl rfl) rfl ?_
  refine goesO_seq (V := slices_Backward_api_Node_api_Node_1.V) (els := q1) 3 rfl rfl (.cons (ArgP.a plain_pt (.t (has rfl))) .nil) enters65 (slices_Backward_api_Node_api_Node_1.seq k a0 q1 h2) ?_
  refine go1 (op_assignA rfl plain_seq (.t (has rfl))) rfl ?_
  refine goesO_nil ?_
  refine ends_then ?_
  obtain rfl := Option.some.inj H
  exact goes_ret (ends_ret' rfl rfl (.t rfl (.nil _)))
/-! (smithy/walk.set[string]).put -/
def walk_set_string_put.f (a0 : GM Int) (a1 : ByteArray) : Option (GM Int) := (gput a0 a1 (1 : Int)).bind fun x1 => some x1
set_option maxRecDepth 100000 in
set_option maxHeartbeats 4000000 in
theorem walk_set_string_put.con (a0 : GM Int) (a1 : ByteArray) (r : GM Int) (H : walk_set_string_put.f a0 a1 = some r) : ConIO Try.prog 39 9 (kint .i64) true a0 r [VA.k kstr a1] := by
  unfold walk_set_string_put.f at H
  refine con_enterIO Try.func39 rfl rfl rfl rfl (fun w0 S0 b => ?_)
  refine goes_seq ?_
  refine goes_region ?_
  refine go3 (op_box_mp 2 rfl rfl (.t (has rfl))) rfl ?_
  refine goesO_nil ?_
  refine ends_then ?_
  refine goes_region ?_
  refine go1 (op_fieldAddrM rfl Try.underlying66 rfl xmz64 (.t (has rfl))) rfl ?_
  refine go1 (op_load_mp rfl xmz64 (.t (has rfl)) (has rfl)) rfl ?_
  refine go1 (op_move rfl (.t (has rfl))) rfl ?_
  obtain ⟨x1, h2, H⟩ := bind_some H
  refine go1 (op_mapUpdate xmt64 h2 (.t (has rfl)) (has rfl) (.t (has rfl)) (.int _ _)) rfl ?_
  refine goesO_nil ?_
  obtain rfl := Option.some.inj H
  exact ends_fall (n := 0) (ends_io rfl rfl rfl)
/-! smithy/walk.below -/
def walk_below.l1 (x : Int × Node) : Nat → ((GM Int) × Int) → Option (GM Int)
  | 0, _ => none
  | k + 1, s17 => bif icmp .lss s17.2 (x.2.Needs.length : Int) then ((idx x.2.Needs s17.2).bind fun x21 => (walk_set_string_put.f s17.1 x21).bind fun x23 => walk_below.l1 x k (x23, IntKind.i64.wrap (s17.2 + (1 : Int)))) else (some s17.1)
def walk_below.l0 (k : Nat) (a1 : ByteArray) : List (Int × Node) → (GM Int) → Option (Except Empty (GM Int))
  | [], s => some (.ok s)
  | x :: r, s5 => ((bif scmp .neq x.2.Target a1 then ((walk_set_string_has.f (⟨s5⟩ : WalkSet_string_) x.2.Target).bind fun v14 => some (!v14)) else (some false)).bind fun s11 => bif s11 then (some s5) else ((walk_below.l1 x k (s5, (0 : Int))).bind fun s18 => some s18)).bind fun s9 => walk_below.l0 k a1 r s9
def walk_below.f (k : Nat) (a0 : Plan) (a1 : ByteArray) : Option (GM Int) := (walk_setOf_string.f k ([] : List ByteArray)).bind fun v1 => (slices_Backward_api_Node_api_Node.f k a0.Nodes).bind fun v3 => (walk_below.l0 k a1 v3 v1).bind fun o7 => match o7 with | .error _ => none | .ok s5 => (some s5)
set_option maxRecDepth 100000 in
set_option maxHeartbeats 4000000 in
theorem walk_below.con (k : Nat) (a0 : Plan) (a1 : ByteArray) (r : GM Int) (H : walk_below.f k a0 a1 = some r) : Con Try.prog 48 [VA.k kPlan a0, VA.k kstr a1] [VA.om Try.prog 9 (kint .i64) true r] := by
  unfold walk_below.f at H
  refine con_enterM Try.func48 rfl rfl rfl (fun w0 S0 θ => ?_)
  refine goes_seq ?_
  refine goes_region ?_
  refine go3 (op_box 2 rfl (fun h => by first | rfl | cases h) (.t (has rfl))) rfl ?_
  refine go3 (op_box 3 rfl (fun h => by first | rfl | cases h) (.t (has rfl))) rfl ?_
  refine go3 (op_alloc_raw 4 rfl xaz66 rfl) rfl ?_
  refine goesO_nil ?_
  refine ends_then ?_
  refine goes_seq ?_
  refine goes_region ?_
  obtain ⟨v1, h2, H⟩ := bind_some H
  refine go1 (op_call' rfl enters35 (walk_setOf_string.con _ _ _ h2) rfl (.cons (ArgP.k (.nil _)) .nil)) rfl ?_
  refine goesO_adopt 10 10 rfl rfl ?_
  refine go3 (op_alloc_raw 5 rfl xaz66 rfl) rfl ?_
  refine go1 (op_store_mp xmz66 (.inl rfl) (.t (has rfl)) (has rfl) (.t (has rfl))) rfl ?_
  refine goesO_nil ?_
  refine ends_then ?_
  refine goes_seq ?_
  refine goes_seq ?_
  refine goes_region ?_
  refine go1 (op_fieldAddr rfl Try.underlying25 rfl tk22 (.t (has rfl))) rfl ?_
  refine go1 (op_load rfl fldPlan_Nodes tk22 (.t (has rfl)) (has rfl)) rfl ?_
  obtain ⟨v3, h4, H⟩ := bind_some H
  refine go1 (op_call' rfl enters59 (slices_Backward_api_Node_api_Node.con _ _ _ h4) rfl (.cons (ArgP.k (.t (has rfl))) .nil)) rfl ?_
  refine goesO_nil ?_
  refine ends_then ?_
  refine goes_block ?_
  obtain ⟨o7, h6, H⟩ := bind_some H
  refine goes_rangeFunc (ps := [14, 15]) (m := 2) (walk_below.l0 k a1) (o := o7) v1 [3, 4, 5, 10] [Ent.t 3 (VA.ptr 3 0), Ent.t 4 (VA.ptr 4 0), Ent.t 5 (VA.ptr 5 0)] (fun s5 : (GM Int) => [Ent.h 3 (HE.box 9 kstr a1), Ent.h 4 (HE.raw 66 1), Ent.h 5 (HE.boxm 66 10), Ent.h 10 (HE.map Try.prog 9 (kint .i64) s5)]) (fun t8 : Empty => []) rfl rfl rfl h6 (fun _ => rfl) (.cons rfl (.cons rfl (.cons rfl .nil))) (.cons rfl (.cons rfl (.cons rfl (.cons rfl .nil)))) (.cons (noOwn_t plain_ptr) (.cons (noOwn_t plain_ptr) (.cons (noOwn_t plain_ptr) .nil))) rfl (fun _ => rfl) (fun _ => rfl) (fun _ => ⟨rfl, rfl⟩) rfl ?_ ?_ ?_
  · intro l x r s5 w0 S0 X β H
    simp only [walk_below.l0] at H
    refine goes_region ?_
    refine go3 (op_alloc 7 rfl zk48) rfl ?_
    refine go1 (op_store (Fld.whole kNode) tk48 (.t (has rfl)) (has rfl) (.t (has rfl))) rfl ?_
    refine goesO_nil ?_
    refine ends_asg (fun w0 S0 X => ?_)
    obtain ⟨s9, h10, H⟩ := bind_some H
    refine goes_cut [Ent.t 3 (VA.ptr 3 0), Ent.t 4 (VA.ptr 4 0), Ent.t 5 (VA.ptr 5 0), Ent.h 3 (HE.box 9 kstr a1), Ent.h 4 (HE.raw 66 1), Ent.h 5 (HE.boxm 66 10), Ent.h 10 (HE.map Try.prog 9 (kint .i64) s9), Ent.isb 3 (β 3), Ent.isb 4 (β 4), Ent.isb 5 (β 5), Ent.isb 10 (β 10)] ?_ ?_
    · replace H := h10; clear h10
      refine goes_block ?_
      refine goes_seq ?_
      refine goes_seq ?_
      obtain ⟨s11, h12, H⟩ := bind_some H
      refine goes_cut [Ent.t 3 (VA.ptr 3 0), Ent.t 4 (VA.ptr 4 0), Ent.t 5 (VA.ptr 5 0), Ent.t 7 (VA.ptr 7 0), Ent.t 26 (VA.k kbool s11), Ent.h 3 (HE.box 9 kstr a1), Ent.h 4 (HE.raw 66 1), Ent.h 5 (HE.boxm 66 10), Ent.h 7 (HE.box 48 kNode x.2), Ent.h 10 (HE.map Try.prog 9 (kint .i64) s5), Ent.isb 3 (β 3), Ent.isb 4 (β 4), Ent.isb 5 (β 5), Ent.isb 10 (β 10)] ?_ ?_
      · replace H := h12; clear h12
        refine goes_region ?_
        refine go1 (op_fieldAddr rfl Try.underlying48 rfl tk9 (.t (has rfl))) rfl ?_
        refine go1 (op_load rfl fldNode_Target tk9 (.t (has rfl)) (has rfl)) rfl ?_
        refine go1 (op_load rfl (Fld.whole kstr) tk9 (.t (has rfl)) (has rfl)) rfl ?_
        refine go1 (op_scmp rfl rfl (.t (has rfl)) (.t (has rfl))) rfl ?_
        refine go1 (op_move rfl (.t (has rfl))) rfl ?_
        refine goesO_split H (fun hb13 H => ?_) (fun hb13 H => ?_)
        · skip
          refine goG (op_load_mp rfl xmz66 (.t (has rfl)) (has rfl)) rfl rfl rfl rfl hb13 ?_
          refine goG (op_fieldAddr rfl Try.underlying48 rfl tk9 (.t (has rfl))) rfl rfl rfl rfl hb13 ?_
          refine goG (op_load rfl fldNode_Target tk9 (.t (has rfl)) (has rfl)) rfl rfl rfl rfl hb13 ?_
          obtain ⟨v14, h15, H⟩ := bind_some H
          refine goG (op_callF' rfl enters36 (walk_set_string_has.conF _ _ _ h15) rfl (.cons (ArgB.mps (.t (has rfl)) (has rfl) rfl) (.cons (ArgB.k (.t (has rfl))) .nil))) rfl rfl rfl rfl hb13 ?_
          refine goG (op_not rfl (.t (has rfl))) rfl rfl rfl rfl hb13 ?_
          refine go1 (op_pick_t rfl hb13 (.t (has rfl)) (.t (has rfl))) rfl ?_
          refine goesO_nil ?_
          obtain rfl := Option.some.inj H
          exact ends_cut (.cons rfl (.cons rfl (.cons rfl (.cons rfl (.cons rfl (.cons rfl (.cons rfl (.cons rfl (.cons rfl (.cons rfl (.cons rfl (.cons rfl (.cons rfl (.cons rfl .nil))))))))))))))
        · skip
          refine goS rfl rfl rfl rfl rfl rfl hb13 ?_
          refine goS rfl rfl rfl rfl rfl rfl hb13 ?_
          refine goS rfl rfl rfl rfl rfl rfl hb13 ?_
          refine goS rfl rfl rfl rfl rfl rfl hb13 ?_
          refine goS rfl rfl rfl rfl rfl rfl hb13 ?_
          refine go1 (op_pick_f rfl hb13 (.t (has rfl)) (.bool _)) rfl ?_
          refine goesO_nil ?_
          obtain rfl := Option.some.inj H
          exact ends_cut (.cons rfl (.cons rfl (.cons rfl (.cons rfl (.cons rfl (.cons rfl (.cons rfl (.cons rfl (.cons rfl (.cons rfl (.cons rfl (.cons rfl (.cons rfl (.cons rfl .nil))))))))))))))
      refine ends_then ?_
      refine goes_if (.t (has rfl)) H (fun hb16 H => ?_) (fun hb16 H => ?_)
      · skip
        refine goes_exit (ends_then_exit (ends_block_exit ?_))
        obtain rfl := Option.some.inj H
        exact ends_cut (.cons rfl (.cons rfl (.cons rfl (.cons rfl (.cons rfl (.cons rfl (.cons rfl (.cons rfl (.cons rfl (.cons rfl (.cons rfl .nil)))))))))))
      · skip
        refine goes_skip ?_
        refine ends_then ?_
        refine goes_seq ?_
        refine goes_region ?_
        refine go1 (op_fieldAddr rfl Try.underlying48 rfl tk23 (.t (has rfl))) rfl ?_
        refine go1 (op_load rfl fldNode_Needs tk23 (.t (has rfl)) (has rfl)) rfl ?_
        refine go1 (op_len rfl rfl Try.underlying23 (.t (has rfl))) rfl ?_
        refine go1 (op_move rfl (.int _ _)) rfl ?_
        refine goesO_nil ?_
        refine ends_then ?_
        obtain ⟨s18, h19, H⟩ := bind_some H
        refine goes_cut [Ent.t 3 (VA.ptr 3 0), Ent.t 4 (VA.ptr 4 0), Ent.t 5 (VA.ptr 5 0), Ent.h 3 (HE.box 9 kstr a1), Ent.h 4 (HE.raw 66 1), Ent.h 5 (HE.boxm 66 10), Ent.h 10 (HE.map Try.prog 9 (kint .i64) s18), Ent.isb 3 (β 3), Ent.isb 4 (β 4), Ent.isb 5 (β 5), Ent.isb 10 (β 10)] ?_ ?_
        · replace H := h19; clear h19
          refine goes_block ?_
          refine goes_loop (fun s17 : (GM Int) × Int => [Ent.t 3 (VA.ptr 3 0), Ent.t 4 (VA.ptr 4 0), Ent.t 5 (VA.ptr 5 0), Ent.t 28 (VA.k (kslice kstr) x.2.Needs), Ent.t 29 (VA.k (kint .i64) (x.2.Needs.length : Int)), Ent.t 30 (VA.k (kint .i64) s17.2), Ent.h 3 (HE.box 9 kstr a1), Ent.h 4 (HE.raw 66 1), Ent.h 5 (HE.boxm 66 10), Ent.h 10 (HE.map Try.prog 9 (kint .i64) s17.1), Ent.isb 3 (β 3), Ent.isb 4 (β 4), Ent.isb 5 (β 5), Ent.isb 10 (β 10)]) (fun k s17 => walk_below.l1 x k s17) (fun _ => rfl) H (.cons rfl (.cons rfl (.cons rfl (.cons rfl (.cons rfl (.cons rfl (.cons rfl (.cons rfl (.cons rfl (.cons rfl (.cons rfl (.cons rfl (.cons rfl (.cons rfl .nil)))))))))))))) ?_
          intro k s17 H
          simp only [walk_below.l1] at H
          refine goes_seq ?_
          refine goes_region ?_
          refine go1 (op_icmp rfl rfl (.t (has rfl)) (.t (has rfl))) rfl ?_
          refine goesO_nil ?_
          refine ends_then ?_
          refine goes_seq ?_
          refine goes_if (.t (has rfl)) H (fun hb20 H => ?_) (fun hb20 H => ?_)
          · skip
            refine goes_skip ?_
            refine ends_then ?_
            refine goes_seq ?_
            refine goes_block ?_
            refine goes_seq ?_
            refine goes_region ?_
            obtain ⟨x21, h22, H⟩ := bind_some H
            refine go1 (op_indexAddr rfl Try.underlying23 tk9 h22 (.t (has rfl)) (.t (has rfl))) rfl ?_
            refine go1 (op_loadp rfl tk9 (.t (has rfl))) rfl ?_
            refine go1 (op_assign rfl (.t (has rfl))) rfl ?_
            refine goesO_nil ?_
            refine ends_then ?_
            refine goes_region ?_
            refine go1 (op_load_mp rfl xmz66 (.t (has rfl)) (has rfl)) rfl ?_
            refine go1 (op_move rfl (.t (has rfl))) rfl ?_
            obtain ⟨x23, h24, H⟩ := bind_some H
            refine go2 (op_callIO rfl enters39 (walk_set_string_put.con _ _ _ h24) (.t (has rfl)) (has rfl) (.cons (ArgP.k (.t (has rfl))) .nil)) rfl ?_
            refine goesO_nil ?_
            refine ends_block ?_
            refine ends_then ?_
            refine goes_region ?_
            refine go1 (op_add rfl (.t (has rfl)) (.int _ _)) rfl ?_
            refine go1 (op_move rfl (.t (has rfl))) rfl ?_
            refine goesO_nil ?_
            exact loop_next _ H (.cons rfl (.cons rfl (.cons rfl (.cons rfl (.cons rfl (.cons rfl (.cons rfl (.cons rfl (.cons rfl (.cons rfl (.cons rfl (.cons rfl (.cons rfl (.cons rfl .nil))))))))))))))
          · skip
            refine goes_exit (ends_then_exit (ends_then_exit (ends_block_exit ?_)))
            obtain rfl := Option.some.inj H
            exact ends_cut (.cons rfl (.cons rfl (.cons rfl (.cons rfl (.cons rfl (.cons rfl (.cons rfl (.cons rfl (.cons rfl (.cons rfl (.cons rfl .nil)))))))))))
        refine ends_block ?_
        obtain rfl := Option.some.inj H
        exact ends_cut (.cons rfl (.cons rfl (.cons rfl (.cons rfl (.cons rfl (.cons rfl (.cons rfl (.cons rfl (.cons rfl (.cons rfl (.cons rfl .nil)))))))))))
    exact ends_round _ H (.cons rfl (.cons rfl (.cons rfl (.cons rfl .nil)))) (.cons rfl (.cons rfl (.cons rfl (.cons rfl .nil))))
  · rintro Dm s5 rfl
    dsimp only at H
    refine ends_block ?_
    refine ends_then ?_
    refine goes_seq ?_
    refine goes_region ?_
    refine go1 (op_load_mp rfl xmz66 (.t (has rfl)) (has rfl)) rfl ?_
    refine go1 (op_store_mp xmz66 (.inl rfl) (.t (has rfl)) (has rfl) (.t (has rfl))) rfl ?_
    refine goesO_nil ?_
    refine ends_then ?_
    obtain rfl := Option.some.inj H
    exact goes_ret (ends_stripM rfl (ends_ret' rfl rfl (.cm rfl rfl rfl xmz66 (.nil _))))
  · exact fun Dm t e => t.elim
/-! smithy/walk.some$1 -/
def walk_some_1.f (a0 : ByteArray) (c0 : ByteArray → Option Bool) : Option Bool := (c0 a0).bind fun v1 => some (!v1)
set_option maxRecDepth 100000 in
set_option maxHeartbeats 4000000 in
theorem walk_some_1.con (Fc0 : FuncId) (prec0 capsc0 : List VA) (a0 : ByteArray) (c0 : ByteArray → Option Bool) (hEc0 : Enters Try.prog Fc0) (hpc0 : ∀ (z0 : ByteArray) r, c0 z0 = some r → Con Try.prog Fc0 (prec0 ++ ([VA.k kstr z0] ++ capsc0)) [VA.k kbool r]) (r : Bool) (H : walk_some_1.f a0 c0 = some r) : Con Try.prog 61 [VA.k kstr a0, VA.pt kfun ⟨Fc0, prec0, capsc0⟩] [VA.k kbool r] := by
  unfold walk_some_1.f at H
  refine con_enter Try.func61 rfl rfl rfl (fun w0 S0 θ => ?_)
  refine goes_seq ?_
  refine goes_region ?_
  refine go1 (op_assign rfl (.bool _)) rfl ?_
  refine goesO_nil ?_
  refine ends_then ?_
  refine goes_seq ?_
  refine goes_region ?_
  refine go1 (op_loadp_fd rfl tk58 (.t (has rfl))) rfl ?_
  refine go1 (op_move rfl (.t (has rfl))) rfl ?_
  obtain ⟨v1, h2, H⟩ := bind_some H
  refine go1 (op_callv rfl (.t (has rfl)) hEc0 (hpc0 _ _ h2) rfl (.cons (ArgP.k (.t (has rfl))) .nil)) rfl ?_
  refine go1 (op_not rfl (.t (has rfl))) rfl ?_
  refine go1 (op_assign rfl (.t (has rfl))) rfl ?_
  refine goesO_nil ?_
  refine ends_then ?_
  obtain rfl := Option.some.inj H
  exact goes_ret (ends_ret' rfl rfl (.t rfl (.nil _)))
theorem walk_some_1.conF (Fc0 : FuncId) (prec0 capsc0 : List VA) (a0 : ByteArray) (c0 : ByteArray → Option Bool) (hEc0 : Enters Try.prog Fc0) (hpc0 : ∀ (z0 : ByteArray) r, c0 z0 = some r → Con Try.prog Fc0 (prec0 ++ ([VA.k kstr z0] ++ capsc0)) [VA.k kbool r]) (r : Bool) (H : walk_some_1.f a0 c0 = some r) : ConF Try.prog 61 [VA.k kstr a0, VA.pt kfun ⟨Fc0, prec0, capsc0⟩] [VA.k kbool r] := (walk_some_1.con Fc0 prec0 capsc0 a0 c0 hEc0 hpc0 r H).freeL (.cons (KFree.k KFree.bool _) .nil)
/-! slices.DeleteFunc[[]string,string] -/
def slices_DeleteFunc_string_string.l0 (a1 : ByteArray → Option Bool) : Nat → ((List ByteArray) × Int × Int) → Option ((List ByteArray) × Int)
  | 0, _ => none
  | k + 1, s4 => bif icmp .lss s4.2.2 (s4.1.length : Int) then (((idx s4.1 s4.2.2).bind fun x10 => (a1 x10).bind fun v12 => bif !v12 then ((idx s4.1 s4.2.1).bind fun x15 => some (s4.1.set s4.2.1.toNat x10, IntKind.i64.wrap (s4.2.1 + (1 : Int)))) else (some (s4.1, s4.2.1))).bind fun s8 => slices_DeleteFunc_string_string.l0 a1 k (s8.1, s8.2, IntKind.i64.wrap (s4.2.2 + (1 : Int)))) else (some (s4.1, s4.2.1))
def slices_DeleteFunc_string_string.f (k : Nat) (a0 : List ByteArray) (a1 : ByteArray → Option Bool) : Option (List ByteArray) := (slices_IndexFunc_string_string.f k a0 a1).bind fun v1 => bif icmp .eql v1 (-1 : Int) then (some a0) else ((slices_DeleteFunc_string_string.l0 a1 k (a0, v1, IntKind.i64.wrap (v1 + (1 : Int)))).bind fun s5 => (inrow s5.1 s5.2).bind fun z17 => (inrow (s5.1.take (Int.toNat s5.2) ++ List.replicate (s5.1.length - Int.toNat s5.2) ByteArray.empty) s5.2).bind fun z19 => some ((s5.1.take (Int.toNat s5.2) ++ List.replicate (s5.1.length - Int.toNat s5.2) ByteArray.empty).take s5.2.toNat))
set_option maxRecDepth 100000 in
set_option maxHeartbeats 4000000 in
theorem slices_DeleteFunc_string_string.con (F1 : FuncId) (pre1 caps1 : List VA) (k : Nat) (a0 : List ByteArray) (a1 : ByteArray → Option Bool) (hE1 : Enters Try.prog F1) (hp1 : ∀ (z0 : ByteArray) r, a1 z0 = some r → Con Try.prog F1 (pre1 ++ ([VA.k kstr z0] ++ caps1)) [VA.k kbool r]) (r : List ByteArray) (H : slices_DeleteFunc_string_string.f k a0 a1 = some r) : ConE Try.prog 60 [] [Ent.r 900 9 kstr a0] [VA.rw 900 (a0).length, VA.clo F1 pre1 caps1] [VA.own 9 kstr r] [] := by
  unfold slices_DeleteFunc_string_string.f at H
  refine con_enterE Try.func60 rfl rfl rfl rfl rfl (fun w0 S0 X β => ?_)
  refine goes_release 0 900 rfl rfl rfl ?_
  refine goes_seq ?_
  refine goes_region ?_
  refine go1 (op_assign_nil 9 kstr (.inr rfl) rfl) rfl ?_
  refine goesO_nil ?_
  refine ends_then ?_
  refine goes_seq ?_
  refine goes_region ?_
  refine go1 (op_same (.inl rfl) rfl rfl) rfl ?_
  refine go1 (op_moveA rfl plain_clo (.t (has rfl))) rfl ?_
  obtain ⟨v1, h2, H⟩ := bind_some H
  refine go1 (op_callF' rfl enters57 (slices_IndexFunc_string_string.conF F1 pre1 caps1 _ _ a1 hE1 hp1 _ h2) rfl (.cons (ArgB.owns rfl (has rfl) (has rfl)) (.cons (ArgB.clo (.t (has rfl))) .nil))) rfl ?_
  refine go1 (op_assign rfl (.t (has rfl))) rfl ?_
  refine goesO_nil ?_
  refine ends_then ?_
  refine goes_seq ?_
  refine goes_seq ?_
  refine goes_region ?_
  refine go1 (op_move rfl (.t (has rfl))) rfl ?_
  refine go1 (op_icmp rfl rfl (.t (has rfl)) (.int _ _)) rfl ?_
  refine goesO_nil ?_
  refine ends_then ?_
  refine goes_if (.t (has rfl)) H (fun hb3 H => ?_) (fun hb3 H => ?_)
  · skip
    refine goes_seq ?_
    refine goes_region ?_
    refine go2 (op_mv (.inl rfl) rfl rfl (has rfl)) rfl ?_
    refine go2 (op_mv (.inr rfl) rfl rfl (has rfl)) rfl ?_
    refine goesO_nil ?_
    refine ends_then ?_
    obtain rfl := Option.some.inj H
    exact goes_ret (ends_then_ret (ends_retE rfl .nil (.t rfl (.post .nil rfl))))
  · skip
    refine goes_skip ?_
    refine ends_then ?_
    refine goes_seq ?_
    refine goes_seq ?_
    refine goes_region ?_
    refine go1 (op_move rfl (.t (has rfl))) rfl ?_
    refine go1 (op_add rfl (.t (has rfl)) (.int _ _)) rfl ?_
    refine go1 (op_assign rfl (.t (has rfl))) rfl ?_
    refine goesO_nil ?_
    refine ends_then ?_
    obtain ⟨s5, h6, H⟩ := bind_some H
    refine goes_cut [Ent.t 0 (VA.own 9 kstr s5.1), Ent.t 5 (VA.k (kint .i64) s5.2)] ?_ ?_
    · replace H := h6; clear h6
      refine goes_block ?_
      refine goes_loop (fun s4 : (List ByteArray) × Int × Int => [Ent.t 0 (VA.own 9 kstr s4.1), Ent.t 1 (VA.clo F1 pre1 caps1), Ent.t 5 (VA.k (kint .i64) s4.2.1), Ent.t 6 (VA.k (kint .i64) s4.2.2)]) (fun k s4 => slices_DeleteFunc_string_string.l0 a1 k s4) (fun _ => rfl) H (.cons rfl (.cons rfl (.cons rfl (.cons rfl .nil)))) ?_
      intro k s4 H
      simp only [slices_DeleteFunc_string_string.l0] at H
      refine goes_seq ?_
      refine goes_seq ?_
      refine goes_region ?_
      refine go1 (op_move rfl (.t (has rfl))) rfl ?_
      refine go1 (op_same (.inl rfl) rfl rfl) rfl ?_
      refine go1 (op_len_own rfl rfl Try.underlying23 (.same (has rfl) (has rfl))) rfl ?_
      refine go1 (op_icmp rfl rfl (.t (has rfl)) (.t (has rfl))) rfl ?_
      refine goesO_nil ?_
      refine ends_then ?_
      refine goes_if (.t (has rfl)) H (fun hb7 H => ?_) (fun hb7 H => ?_)
      · skip
        refine goes_skip ?_
        refine ends_then ?_
        refine goes_seq ?_
        obtain ⟨s8, h9, H⟩ := bind_some H
        refine goes_cut [Ent.t 0 (VA.own 9 kstr s8.1), Ent.t 1 (VA.clo F1 pre1 caps1), Ent.t 5 (VA.k (kint .i64) s8.2), Ent.t 6 (VA.k (kint .i64) s4.2.2)] ?_ ?_
        · replace H := h9; clear h9
          refine goes_block ?_
          refine goes_seq ?_
          refine goes_region ?_
          refine go1 (op_same (.inl rfl) rfl rfl) rfl ?_
          refine go1 (op_move rfl (.t (has rfl))) rfl ?_
          obtain ⟨x10, h11, H⟩ := bind_some H
          refine go1 (op_indexAddr_own rfl rfl Try.underlying23 tk9 h11 (.same (has rfl)) (has rfl) (.t (has rfl))) rfl ?_
          refine go1 (op_load_oe (off := 0) rfl (Fld.whole kstr) tk9 h11 (has rfl) (has rfl)) rfl ?_
          refine go1 (op_assign rfl (.t (has rfl))) rfl ?_
          refine goesO_nil ?_
          refine ends_then ?_
          refine goes_seq ?_
          refine goes_region ?_
          refine go1 (op_moveA rfl plain_clo (.t (has rfl))) rfl ?_
          refine go1 (op_move rfl (.t (has rfl))) rfl ?_
          obtain ⟨v12, h13, H⟩ := bind_some H
          refine go1 (op_callv rfl (.t (has rfl)) hE1 (hp1 _ _ h13) rfl (.cons (ArgP.k (.t (has rfl))) .nil)) rfl ?_
          refine go1 (op_not rfl (.t (has rfl))) rfl ?_
          refine goesO_nil ?_
          refine ends_then ?_
          refine goes_if (.t (has rfl)) H (fun hb14 H => ?_) (fun hb14 H => ?_)
          · skip
            refine goes_seq ?_
            refine goes_region ?_
            refine go1 (op_same (.inl rfl) rfl rfl) rfl ?_
            refine go1 (op_move rfl (.t (has rfl))) rfl ?_
            refine go1 (op_move rfl (.t (has rfl))) rfl ?_
            obtain ⟨x15, h16, H⟩ := bind_some H
            refine go1 (op_indexAddr_own rfl rfl Try.underlying23 tk9 h16 (.same (has rfl)) (has rfl) (.t (has rfl))) rfl ?_
            refine go1 (op_store_oe (off := 0) (Fld.whole kstr) tk9 h16 (has rfl) (has rfl) (.t (has rfl))) rfl ?_
            refine goesO_nil ?_
            refine ends_then ?_
            refine goes_region ?_
            refine go1 (op_move rfl (.t (has rfl))) rfl ?_
            refine go1 (op_add rfl (.t (has rfl)) (.int _ _)) rfl ?_
            refine go1 (op_assign rfl (.t (has rfl))) rfl ?_
            refine goesO_nil ?_
            refine ends_block ?_
            obtain rfl := Option.some.inj H
            exact ends_cut (.cons rfl (.cons rfl (.cons rfl (.cons rfl .nil))))
          · skip
            refine goes_skip ?_
            refine ends_block ?_
            obtain rfl := Option.some.inj H
            exact ends_cut (.cons rfl (.cons rfl (.cons rfl (.cons rfl .nil))))
        refine ends_then ?_
        refine goes_region ?_
        refine go1 (op_move rfl (.t (has rfl))) rfl ?_
        refine go1 (op_add rfl (.t (has rfl)) (.int _ _)) rfl ?_
        refine go1 (op_assign rfl (.t (has rfl))) rfl ?_
        refine goesO_nil ?_
        exact loop_next _ H (.cons rfl (.cons rfl (.cons rfl (.cons rfl .nil))))
      · skip
        refine goes_exit (ends_then_exit (ends_then_exit (ends_block_exit ?_)))
        obtain rfl := Option.some.inj H
        exact ends_cut (.cons rfl (.cons rfl .nil))
    refine ends_then ?_
    refine goes_seq ?_
    refine goes_region ?_
    refine go1 (op_same (.inl rfl) rfl rfl) rfl ?_
    refine go1 (op_move rfl (.t (has rfl))) rfl ?_
    obtain ⟨z17, h18, H⟩ := bind_some H
    refine go1 (op_slice_tail rfl rfl Try.underlying23 tk9 (inrow_spec h18).1 (inrow_spec h18).2 (.same (has rfl)) (has rfl) (.t (has rfl))) rfl ?_
    refine go1 (op_clear_tail rfl ⟨_, at23⟩ zk9 (has rfl) (has rfl) tk9) rfl ?_
    refine goesO_nil ?_
    refine ends_then ?_
    refine goes_seq ?_
    refine goes_region ?_
    refine go1 (op_same (.inl rfl) rfl rfl) rfl ?_
    refine go1 (op_move rfl (.t (has rfl))) rfl ?_
    obtain ⟨z19, h20, H⟩ := bind_some H
    refine go2 (op_slice_own rfl rfl Try.underlying23 tk9 (inrow_spec h20).1 (inrow_spec h20).2 (.same (has rfl)) (has rfl) (.t (has rfl))) rfl ?_
    refine go2 (op_mv (.inr rfl) rfl rfl (has rfl)) rfl ?_
    refine goesO_nil ?_
    refine ends_then ?_
    obtain rfl := Option.some.inj H
    exact goes_ret (ends_retE rfl .nil (.t rfl (.post .nil rfl)))
theorem slices_DeleteFunc_string_string.conF (F1 : FuncId) (pre1 caps1 : List VA) (k : Nat) (a0 : List ByteArray) (a1 : ByteArray → Option Bool) (hE1 : Enters Try.prog F1) (hp1 : ∀ (z0 : ByteArray) r, a1 z0 = some r → Con Try.prog F1 (pre1 ++ ([VA.k kstr z0] ++ caps1)) [VA.k kbool r]) (r : List ByteArray) (H : slices_DeleteFunc_string_string.f k a0 a1 = some r) : ConEF Try.prog 60 [] [Ent.r 900 9 kstr a0] [VA.rw 900 (a0).length, VA.clo F1 pre1 caps1] [VA.own 9 kstr r] [] := (slices_DeleteFunc_string_string.con F1 pre1 caps1 k a0 a1 hE1 hp1 r H).freeL (.cons (KFree.own KFree.str _ _) .nil) (fun e he => by cases he)
/-! smithy/walk.some -/
def walk_some.f (k : Nat) (a0 : Plan) (a1 : ByteArray → Option Bool) : Option (List ByteArray) := (walk_targets.f k a0).bind fun v1 => (slices_DeleteFunc_string_string.f k v1 (fun (z0 : ByteArray) => walk_some_1.f z0 a1)).bind fun v3 => some v3
set_option maxRecDepth 100000 in
set_option maxHeartbeats 4000000 in
theorem walk_some.con (F1 : FuncId) (pre1 caps1 : List VA) (k : Nat) (a0 : Plan) (a1 : ByteArray → Option Bool) (hE1 : Enters Try.prog F1) (hp1 : ∀ (z0 : ByteArray) r, a1 z0 = some r → Con Try.prog F1 (pre1 ++ ([VA.k kstr z0] ++ caps1)) [VA.k kbool r]) (r : List ByteArray) (H : walk_some.f k a0 a1 = some r) : Con Try.prog 51 [VA.k kPlan a0, VA.clo F1 pre1 caps1] [VA.own 9 kstr r] := by
  unfold walk_some.f at H
  refine con_enter Try.func51 rfl rfl rfl (fun w0 S0 θ => ?_)
  refine goes_seq ?_
  refine goes_region ?_
  refine go3 (op_box 2 rfl (fun h => by first | rfl | cases h) (.t (has rfl))) rfl ?_
  refine go3 (op_box 3 rfl (fun h => by first | rfl | cases h) (Arg.fd (.t (has rfl)))) rfl ?_
  refine go1 (op_assign_nil 9 kstr (.inr rfl) rfl) rfl ?_
  refine goesO_nil ?_
  refine ends_then ?_
  refine goes_seq ?_
  refine goes_region ?_
  refine go1 (op_load rfl (Fld.whole kPlan) tk25 (.t (has rfl)) (has rfl)) rfl ?_
  obtain ⟨v1, h2, H⟩ := bind_some H
  refine go1 (op_call' rfl enters46 (walk_targets.con _ _ _ h2) rfl (.cons (ArgP.k (.t (has rfl))) .nil)) rfl ?_
  refine go1 (op_makeFunc (ys := []) (xs := [3]) rfl rfl rfl rfl) rfl ?_
  refine goesO_number 6 900 rfl rfl rfl ?_
  obtain ⟨v3, h4, H⟩ := bind_some H
  refine goN (op_callEF [5000900] [] rfl enters60 (slices_DeleteFunc_string_string.conF 61 ([]) ([VA.pt kfun ⟨F1, pre1, caps1⟩]) _ _ (fun (z0 : ByteArray) => walk_some_1.f z0 a1) enters61 (fun z0 r h => walk_some_1.con F1 pre1 caps1 z0 a1 hE1 hp1 r h) _ h4) rfl (.cons (has rfl) .nil) (.cons (ArgR.a plain_rw (.t (NR.mk (has rfl) rfl))) (.cons (ArgR.mf rfl rfl (NR.mk (has rfl) rfl) .nil (.cons (ArgR.ptk (get := fun x => x) (y := ⟨F1, pre1, caps1⟩) (Fld.whole kfun) (.t (NR.mk (has rfl) rfl)) (NR.mk (has rfl) rfl)) .nil)) .nil))) rfl ?_
  refine go2 (op_mv (.inr rfl) rfl rfl (has rfl)) rfl ?_
  refine goesO_nil ?_
  refine ends_then ?_
  obtain rfl := Option.some.inj H
  exact goes_ret (ends_ret' rfl rfl (.t rfl (.nil _)))
theorem walk_some.conF (F1 : FuncId) (pre1 caps1 : List VA) (k : Nat) (a0 : Plan) (a1 : ByteArray → Option Bool) (hE1 : Enters Try.prog F1) (hp1 : ∀ (z0 : ByteArray) r, a1 z0 = some r → Con Try.prog F1 (pre1 ++ ([VA.k kstr z0] ++ caps1)) [VA.k kbool r]) (r : List ByteArray) (H : walk_some.f k a0 a1 = some r) : ConF Try.prog 51 [VA.k kPlan a0, VA.clo F1 pre1 caps1] [VA.own 9 kstr r] := (walk_some.con F1 pre1 caps1 k a0 a1 hE1 hp1 r H).freeL (.cons (KFree.own KFree.str _ _) .nil)
/-! smithy/walk.Below -/
def walk_Below.f (k : Nat) (a0 : Plan) (a1 : ByteArray) : Option ((List ByteArray) × Int) := (walk_asked.f k a0 ([a1])).bind fun v1 => bif icmp .neq v1 (0 : Int) then (some (([] : List ByteArray), v1)) else ((walk_below.f k a0 a1).bind fun v4 => (walk_some.f k a0 (fun (z0 : ByteArray) => walk_set_string_has.f (⟨v4⟩ : WalkSet_string_) z0)).bind fun v6 => some (v6, (0 : Int)))
set_option maxRecDepth 100000 in
set_option maxHeartbeats 4000000 in
theorem walk_Below.con (k : Nat) (a0 : Plan) (a1 : ByteArray) (r : (List ByteArray) × Int) (H : walk_Below.f k a0 a1 = some r) : Con Try.prog 27 [VA.k kPlan a0, VA.k kstr a1] [VA.own 9 kstr r.1, VA.k (kint .i64) r.2] := by
  unfold walk_Below.f at H
  refine con_enter Try.func27 rfl rfl rfl (fun w0 S0 θ => ?_)
  refine goes_seq ?_
  refine goes_region ?_
  refine go3 (op_box 2 rfl (fun h => by first | rfl | cases h) (.t (has rfl))) rfl ?_
  refine go1 (op_assign_nil 9 kstr (.inr rfl) rfl) rfl ?_
  refine go1 (op_assign rfl (.int _ _)) rfl ?_
  refine goesO_nil ?_
  refine ends_then ?_
  refine goes_seq ?_
  refine goes_seq ?_
  refine goes_region ?_
  refine go1 (op_load rfl (Fld.whole kPlan) tk25 (.t (has rfl)) (has rfl)) rfl ?_
  refine go1 (op_move rfl (.t (has rfl))) rfl ?_
  refine go1 (op_buildSlice rfl at23 (fun h => by first | rfl | cases h) rfl rfl rfl (.cons (.t (has rfl)) (.nil _))) rfl ?_
  obtain ⟨v1, h2, H⟩ := bind_some H
  refine go1 (op_callF' rfl enters34 (walk_asked.conF _ _ _ _ h2) rfl (.cons (ArgB.k (.t (has rfl))) (.cons (ArgB.own rfl (has rfl)) .nil))) rfl ?_
  refine go1 (op_assign rfl (.t (has rfl))) rfl ?_
  refine goesO_nil ?_
  refine ends_then ?_
  refine goes_seq ?_
  refine goes_region ?_
  refine go1 (op_move rfl (.t (has rfl))) rfl ?_
  refine go1 (op_icmp rfl rfl (.t (has rfl)) (.int _ _)) rfl ?_
  refine goesO_nil ?_
  refine ends_then ?_
  refine goes_if (.t (has rfl)) H (fun hb3 H => ?_) (fun hb3 H => ?_)
  · skip
    refine goes_seq ?_
    refine goes_region ?_
    refine go1 (op_move rfl (.t (has rfl))) rfl ?_
    refine go1 (op_assign_nil 9 kstr (.inr rfl) rfl) rfl ?_
    refine go1 (op_assign rfl (.t (has rfl))) rfl ?_
    refine goesO_nil ?_
    refine ends_then ?_
    obtain rfl := Option.some.inj H
    exact goes_ret (ends_then_ret (ends_ret' rfl rfl (.t rfl (.t rfl (.nil _)))))
  · skip
    refine goes_skip ?_
    refine ends_then ?_
    refine goes_seq ?_
    obtain ⟨v4, h5, H⟩ := bind_some H
    obtain ⟨v6, h7, H⟩ := bind_some H
    refine goes_drawn [[Ent.t 14 (VA.k kPlan a0)], [Ent.t 15 (VA.k kPlan a0)], [Ent.t 16 (VA.k kstr a1)], [Ent.t 17 (VA.om Try.prog 9 (kint .i64) true v4)], [Ent.mf 18 36 [17] []], [Ent.t 19 (VA.own 9 kstr v6)], [Ent.t 4 (VA.own 9 kstr v6), Ent.t 19 (VA.any)], [Ent.t 5 (VA.k (kint .i64) (0 : Int))]] mixed (by kernel_rfl) (by kernel_rfl) (.cons [(none, Ent.t 2 (VA.ptr 2 0)), (none, Ent.h 2 (HE.box 25 kPlan a0))] (OpSpec.run rfl rfl (op_load rfl (Fld.whole kPlan) tk25 (.t NL.h0) (NL.hs NL.h0)) rfl) (.cons (has rfl) (.cons (has rfl) .nil)) (by kernel_rfl) (.cons [(none, Ent.t 2 (VA.ptr 2 0)), (none, Ent.h 2 (HE.box 25 kPlan a0))] (OpSpec.run rfl rfl (op_load rfl (Fld.whole kPlan) tk25 (.t NL.h0) (NL.hs NL.h0)) rfl) (.cons (has rfl) (.cons (has rfl) .nil)) (by kernel_rfl) (.cons [(none, Ent.t 1 (VA.k kstr a1))] (OpSpec.run rfl rfl (op_move rfl (.t NL.h0)) rfl) (.cons (has rfl) .nil) (by kernel_rfl) (.cons [(some 1, Ent.t 15 (VA.k kPlan a0)), (some 2, Ent.t 16 (VA.k kstr a1))] (OpSpec.run rfl rfl (op_call' rfl enters48 (walk_below.con _ _ _ _ h5) rfl (.cons (ArgP.k (.t NL.h0)) (.cons (ArgP.k (.t (NL.hs NL.h0))) .nil))) rfl) (.cons (has rfl) (.cons (has rfl) .nil)) (by kernel_rfl) (.cons [] (OpSpec.run rfl rfl (op_makeFunc (ys := [17]) (xs := []) rfl rfl rfl rfl) rfl) .nil (by kernel_rfl) (.cons [(some 0, Ent.t 14 (VA.k kPlan a0)), (some 4, Ent.mf 18 36 [17] []), (some 3, Ent.t 17 (VA.om Try.prog 9 (kint .i64) true v4))] (OpSpec.run rfl rfl (op_callF' rfl enters51 (walk_some.conF 36 ([VA.k kWalkSet_string_ (⟨v4⟩ : WalkSet_string_)]) ([]) _ _ (fun (z0 : ByteArray) => walk_set_string_has.f (⟨v4⟩ : WalkSet_string_) z0) enters36 (fun z0 r h => walk_set_string_has.con (⟨v4⟩ : WalkSet_string_) z0 r h) _ h7) rfl (.cons (ArgB.k (.t NL.h0)) (.cons (ArgB.mf rfl rfl (NL.hs NL.h0) (.cons (ArgB.oms (NL.hs (NL.hs NL.h0)) rfl) .nil) .nil) .nil))) rfl) (.cons (has rfl) (.cons (has rfl) (.cons (has rfl) .nil))) (by kernel_rfl) (.cons [(some 5, Ent.t 19 (VA.own 9 kstr v6))] (OpSpec.run rfl rfl (op_mv (.inr rfl) rfl rfl NL.h0) rfl) (.cons (has rfl) .nil) (by kernel_rfl) (.cons [] (OpSpec.run rfl rfl (op_assign rfl (.int _ _)) rfl) .nil (by kernel_rfl) (.nil _))))))))) ?_
    refine ends_sub [Ent.t 4 (VA.own 9 kstr v6), Ent.t 5 (VA.k (kint .i64) (0 : Int))] (.cons rfl (.cons rfl .nil)) ?_
    refine ends_then ?_
    obtain rfl := Option.some.inj H
    exact goes_ret (ends_ret' rfl rfl (.t rfl (.t rfl (.nil _))))
theorem walk_Below.conF (k : Nat) (a0 : Plan) (a1 : ByteArray) (r : (List ByteArray) × Int) (H : walk_Below.f k a0 a1 = some r) : ConF Try.prog 27 [VA.k kPlan a0, VA.k kstr a1] [VA.own 9 kstr r.1, VA.k (kint .i64) r.2] := (walk_Below.con k a0 a1 r H).freeL (.cons (KFree.own KFree.str _ _) (.cons (KFree.k (KFree.int .i64) _) .nil))
/-! smithy/walk.Above$1 -/
def walk_Above_1.f (k : Nat) (a0 : ByteArray) (c0 : Plan) (c1 : ByteArray) : Option Bool := (walk_below.f k c0 a0).bind fun v1 => (walk_set_string_has.f (⟨v1⟩ : WalkSet_string_) c1).bind fun v3 => some v3
set_option maxRecDepth 100000 in
set_option maxHeartbeats 4000000 in
theorem walk_Above_1.con (k : Nat) (a0 : ByteArray) (c0 : Plan) (c1 : ByteArray) (r : Bool) (H : walk_Above_1.f k a0 c0 c1 = some r) : Con Try.prog 52 [VA.k kstr a0, VA.pt kPlan c0, VA.pt kstr c1] [VA.k kbool r] := by
  unfold walk_Above_1.f at H
  refine con_enter Try.func52 rfl rfl rfl (fun w0 S0 θ => ?_)
  refine goes_seq ?_
  refine goes_region ?_
  refine go1 (op_assign rfl (.bool _)) rfl ?_
  refine goesO_nil ?_
  refine ends_then ?_
  refine goes_seq ?_
  obtain ⟨v1, h2, H⟩ := bind_some H
  obtain ⟨v3, h4, H⟩ := bind_some H
  refine goes_drawn [[Ent.t 5 (VA.k kPlan c0)], [Ent.t 6 (VA.k kstr a0)], [Ent.t 7 (VA.om Try.prog 9 (kint .i64) true v1)], [Ent.t 8 (VA.k kstr c1)], [Ent.t 9 (VA.k kbool v3)], [Ent.t 4 (VA.k kbool v3)]] mixed (by kernel_rfl) (by kernel_rfl) (.cons [(none, Ent.t 1 (VA.pt kPlan c0))] (OpSpec.run rfl rfl (op_loadp rfl tk25 (.t NL.h0)) rfl) (.cons (has rfl) .nil) (by kernel_rfl) (.cons [(none, Ent.t 0 (VA.k kstr a0))] (OpSpec.run rfl rfl (op_move rfl (.t NL.h0)) rfl) (.cons (has rfl) .nil) (by kernel_rfl) (.cons [(some 0, Ent.t 5 (VA.k kPlan c0)), (some 1, Ent.t 6 (VA.k kstr a0))] (OpSpec.run rfl rfl (op_call' rfl enters48 (walk_below.con _ _ _ _ h2) rfl (.cons (ArgP.k (.t NL.h0)) (.cons (ArgP.k (.t (NL.hs NL.h0))) .nil))) rfl) (.cons (has rfl) (.cons (has rfl) .nil)) (by kernel_rfl) (.cons [(none, Ent.t 2 (VA.pt kstr c1))] (OpSpec.run rfl rfl (op_loadp rfl tk9 (.t NL.h0)) rfl) (.cons (has rfl) .nil) (by kernel_rfl) (.cons [(some 2, Ent.t 7 (VA.om Try.prog 9 (kint .i64) true v1)), (some 3, Ent.t 8 (VA.k kstr c1))] (OpSpec.run rfl rfl (op_callF' rfl enters36 (walk_set_string_has.conF _ _ _ h4) rfl (.cons (ArgB.oms NL.h0 rfl) (.cons (ArgB.k (.t (NL.hs NL.h0))) .nil))) rfl) (.cons (has rfl) (.cons (has rfl) .nil)) (by kernel_rfl) (.cons [(some 4, Ent.t 9 (VA.k kbool v3))] (OpSpec.run rfl rfl (op_assign rfl (.t NL.h0)) rfl) (.cons (has rfl) .nil) (by kernel_rfl) (.nil _))))))) ?_
  refine ends_sub [Ent.t 4 (VA.k kbool v3)] (.cons rfl .nil) ?_
  refine ends_then ?_
  obtain rfl := Option.some.inj H
  exact goes_ret (ends_ret' rfl rfl (.t rfl (.nil _)))
theorem walk_Above_1.conF (k : Nat) (a0 : ByteArray) (c0 : Plan) (c1 : ByteArray) (r : Bool) (H : walk_Above_1.f k a0 c0 c1 = some r) : ConF Try.prog 52 [VA.k kstr a0, VA.pt kPlan c0, VA.pt kstr c1] [VA.k kbool r] := (walk_Above_1.con k a0 c0 c1 r H).freeL (.cons (KFree.k KFree.bool _) .nil)
/-! smithy/walk.Above -/
def walk_Above.f (k : Nat) (a0 : Plan) (a1 : ByteArray) : Option ((List ByteArray) × Int) := (walk_asked.f k a0 ([a1])).bind fun v1 => bif icmp .neq v1 (0 : Int) then (some (([] : List ByteArray), v1)) else ((walk_some.f k a0 (fun (z0 : ByteArray) => walk_Above_1.f k z0 a0 a1)).bind fun v4 => some (v4, (0 : Int)))
set_option maxRecDepth 100000 in
set_option maxHeartbeats 4000000 in
theorem walk_Above.con (k : Nat) (a0 : Plan) (a1 : ByteArray) (r : (List ByteArray) × Int) (H : walk_Above.f k a0 a1 = some r) : Con Try.prog 28 [VA.k kPlan a0, VA.k kstr a1] [VA.own 9 kstr r.1, VA.k (kint .i64) r.2] := by
  unfold walk_Above.f at H
  refine con_enter Try.func28 rfl rfl rfl (fun w0 S0 θ => ?_)
  refine goes_seq ?_
  refine goes_region ?_
  refine go3 (op_box 2 rfl (fun h => by first | rfl | cases h) (.t (has rfl))) rfl ?_
  refine go3 (op_box 3 rfl (fun h => by first | rfl | cases h) (.t (has rfl))) rfl ?_
  refine go1 (op_assign_nil 9 kstr (.inr rfl) rfl) rfl ?_
  refine go1 (op_assign rfl (.int _ _)) rfl ?_
  refine goesO_nil ?_
  refine ends_then ?_
  refine goes_seq ?_
  refine goes_seq ?_
  refine goes_region ?_
  refine go1 (op_load rfl (Fld.whole kPlan) tk25 (.t (has rfl)) (has rfl)) rfl ?_
  refine go1 (op_load rfl (Fld.whole kstr) tk9 (.t (has rfl)) (has rfl)) rfl ?_
  refine go1 (op_buildSlice rfl at23 (fun h => by first | rfl | cases h) rfl rfl rfl (.cons (.t (has rfl)) (.nil _))) rfl ?_
  obtain ⟨v1, h2, H⟩ := bind_some H
  refine go1 (op_callF' rfl enters34 (walk_asked.conF _ _ _ _ h2) rfl (.cons (ArgB.k (.t (has rfl))) (.cons (ArgB.own rfl (has rfl)) .nil))) rfl ?_
  refine go1 (op_assign rfl (.t (has rfl))) rfl ?_
  refine goesO_nil ?_
  refine ends_then ?_
  refine goes_seq ?_
  refine goes_region ?_
  refine go1 (op_move rfl (.t (has rfl))) rfl ?_
  refine go1 (op_icmp rfl rfl (.t (has rfl)) (.int _ _)) rfl ?_
  refine goesO_nil ?_
  refine ends_then ?_
  refine goes_if (.t (has rfl)) H (fun hb3 H => ?_) (fun hb3 H => ?_)
  · skip
    refine goes_seq ?_
    refine goes_region ?_
    refine go1 (op_move rfl (.t (has rfl))) rfl ?_
    refine go1 (op_assign_nil 9 kstr (.inr rfl) rfl) rfl ?_
    refine go1 (op_assign rfl (.t (has rfl))) rfl ?_
    refine goesO_nil ?_
    refine ends_then ?_
    obtain rfl := Option.some.inj H
    exact goes_ret (ends_then_ret (ends_ret' rfl rfl (.t rfl (.t rfl (.nil _)))))
  · skip
    refine goes_skip ?_
    refine ends_then ?_
    refine goes_seq ?_
    refine goes_region ?_
    refine go1 (op_load rfl (Fld.whole kPlan) tk25 (.t (has rfl)) (has rfl)) rfl ?_
    refine go1 (op_makeFunc (ys := []) (xs := [2, 3]) rfl rfl rfl rfl) rfl ?_
    obtain ⟨v4, h5, H⟩ := bind_some H
    refine go1 (op_callF' rfl enters51 (walk_some.conF 52 ([]) ([VA.pt kPlan a0, VA.pt kstr a1]) _ _ (fun (z0 : ByteArray) => walk_Above_1.f k z0 a0 a1) enters52 (fun z0 r h => walk_Above_1.con _ z0 a0 a1 r h) _ h5) rfl (.cons (ArgB.k (.t (has rfl))) (.cons (ArgB.mf rfl rfl (has rfl) .nil (.cons (ArgB.ptk (get := fun x => x) (y := a0) (Fld.whole kPlan) (.t (has rfl)) (has rfl)) (.cons (ArgB.ptk (get := fun x => x) (y := a1) (Fld.whole kstr) (.t (has rfl)) (has rfl)) .nil))) .nil))) rfl ?_
    refine go2 (op_mv (.inr rfl) rfl rfl (has rfl)) rfl ?_
    refine go1 (op_assign rfl (.int _ _)) rfl ?_
    refine goesO_nil ?_
    refine ends_then ?_
    obtain rfl := Option.some.inj H
    exact goes_ret (ends_ret' rfl rfl (.t rfl (.t rfl (.nil _))))
theorem walk_Above.conF (k : Nat) (a0 : Plan) (a1 : ByteArray) (r : (List ByteArray) × Int) (H : walk_Above.f k a0 a1 = some r) : ConF Try.prog 28 [VA.k kPlan a0, VA.k kstr a1] [VA.own 9 kstr r.1, VA.k (kint .i64) r.2] := (walk_Above.con k a0 a1 r H).freeL (.cons (KFree.own KFree.str _ _) (.cons (KFree.k (KFree.int .i64) _) .nil))
/-! smithy/walk.Apart -/
def walk_Apart.f (k : Nat) (a0 : Plan) (a1 : ByteArray) (a2 : ByteArray) : Option (Bool × Int) := (walk_asked.f k a0 ([a1, a2])).bind fun v1 => bif icmp .neq v1 (0 : Int) then (some (false, v1)) else ((bif scmp .neq a1 a2 then ((walk_below.f k a0 a1).bind fun v7 => (walk_set_string_has.f (⟨v7⟩ : WalkSet_string_) a2).bind fun v9 => bif !v9 then ((walk_below.f k a0 a2).bind fun v12 => (walk_set_string_has.f (⟨v12⟩ : WalkSet_string_) a1).bind fun v14 => some (!v14)) else (some false)) else (some false)).bind fun s4 => some (s4, (0 : Int)))
set_option maxRecDepth 100000 in
set_option maxHeartbeats 4000000 in
theorem walk_Apart.con (k : Nat) (a0 : Plan) (a1 : ByteArray) (a2 : ByteArray) (r : Bool × Int) (H : walk_Apart.f k a0 a1 a2 = some r) : Con Try.prog 21 [VA.k kPlan a0, VA.k kstr a1, VA.k kstr a2] [VA.k kbool r.1, VA.k (kint .i64) r.2] := by
  unfold walk_Apart.f at H
  refine con_enter Try.func21 rfl rfl rfl (fun w0 S0 θ => ?_)
  refine goes_seq ?_
  refine goes_region ?_
  refine go3 (op_box 3 rfl (fun h => by first | rfl | cases h) (.t (has rfl))) rfl ?_
  refine go1 (op_assign rfl (.bool _)) rfl ?_
  refine go1 (op_assign rfl (.int _ _)) rfl ?_
  refine goesO_nil ?_
  refine ends_then ?_
  refine goes_seq ?_
  refine goes_seq ?_
  refine goes_region ?_
  refine go1 (op_load rfl (Fld.whole kPlan) tk25 (.t (has rfl)) (has rfl)) rfl ?_
  refine go1 (op_move rfl (.t (has rfl))) rfl ?_
  refine go1 (op_move rfl (.t (has rfl))) rfl ?_
  refine go1 (op_buildSlice rfl at23 (fun h => by first | rfl | cases h) rfl rfl rfl (.cons (.t (has rfl)) (.cons (.t (has rfl)) (.nil _)))) rfl ?_
  obtain ⟨v1, h2, H⟩ := bind_some H
  refine go1 (op_callF' rfl enters34 (walk_asked.conF _ _ _ _ h2) rfl (.cons (ArgB.k (.t (has rfl))) (.cons (ArgB.own rfl (has rfl)) .nil))) rfl ?_
  refine go1 (op_assign rfl (.t (has rfl))) rfl ?_
  refine goesO_nil ?_
  refine ends_then ?_
  refine goes_seq ?_
  refine goes_region ?_
  refine go1 (op_move rfl (.t (has rfl))) rfl ?_
  refine go1 (op_icmp rfl rfl (.t (has rfl)) (.int _ _)) rfl ?_
  refine goesO_nil ?_
  refine ends_then ?_
  refine goes_if (.t (has rfl)) H (fun hb3 H => ?_) (fun hb3 H => ?_)
  · skip
    refine goes_seq ?_
    refine goes_region ?_
    refine go1 (op_move rfl (.t (has rfl))) rfl ?_
    refine go1 (op_assign rfl (.bool _)) rfl ?_
    refine go1 (op_assign rfl (.t (has rfl))) rfl ?_
    refine goesO_nil ?_
    refine ends_then ?_
    obtain rfl := Option.some.inj H
    exact goes_ret (ends_then_ret (ends_ret' rfl rfl (.t rfl (.t rfl (.nil _)))))
  · skip
    refine goes_skip ?_
    refine ends_then ?_
    refine goes_seq ?_
    obtain ⟨s4, h5, H⟩ := bind_some H
    refine goes_cut [Ent.t 6 (VA.k kbool s4), Ent.t 7 (VA.k (kint .i64) (0 : Int))] ?_ ?_
    · replace H := h5; clear h5
      refine goes_region ?_
      refine go1 (op_move rfl (.t (has rfl))) rfl ?_
      refine go1 (op_move rfl (.t (has rfl))) rfl ?_
      refine go1 (op_scmp rfl rfl (.t (has rfl)) (.t (has rfl))) rfl ?_
      refine go1 (op_move rfl (.t (has rfl))) rfl ?_
      refine goesO_split H (fun hb6 H => ?_) (fun hb6 H => ?_)
      · skip
        refine goG (op_load rfl (Fld.whole kPlan) tk25 (.t (has rfl)) (has rfl)) rfl rfl rfl rfl hb6 ?_
        refine goG (op_move rfl (.t (has rfl))) rfl rfl rfl rfl hb6 ?_
        obtain ⟨v7, h8, H⟩ := bind_some H
        refine goG (op_call' rfl enters48 (walk_below.con _ _ _ _ h8) rfl (.cons (ArgP.k (.t (has rfl))) (.cons (ArgP.k (.t (has rfl))) .nil))) rfl rfl rfl rfl hb6 ?_
        refine goesO_adopt 23 23 rfl rfl ?_
        refine goG (op_move rfl (.t (has rfl))) rfl rfl rfl rfl hb6 ?_
        obtain ⟨v9, h10, H⟩ := bind_some H
        refine goG (op_callF' rfl enters36 (walk_set_string_has.conF _ _ _ h10) rfl (.cons (ArgB.mps (.t (has rfl)) (has rfl) rfl) (.cons (ArgB.k (.t (has rfl))) .nil))) rfl rfl rfl rfl hb6 ?_
        refine goG (op_not rfl (.t (has rfl))) rfl rfl rfl rfl hb6 ?_
        refine go1 (op_pick_t rfl hb6 (.t (has rfl)) (.t (has rfl))) rfl ?_
        refine go1 (op_move rfl (.t (has rfl))) rfl ?_
        refine goesO_split H (fun hb11 H => ?_) (fun hb11 H => ?_)
        · skip
          refine goG (op_load rfl (Fld.whole kPlan) tk25 (.t (has rfl)) (has rfl)) rfl rfl rfl rfl hb11 ?_
          refine goG (op_move rfl (.t (has rfl))) rfl rfl rfl rfl hb11 ?_
          obtain ⟨v12, h13, H⟩ := bind_some H
          refine goG (op_call' rfl enters48 (walk_below.con _ _ _ _ h13) rfl (.cons (ArgP.k (.t (has rfl))) (.cons (ArgP.k (.t (has rfl))) .nil))) rfl rfl rfl rfl hb11 ?_
          refine goesO_adopt 31 31 rfl rfl ?_
          refine goG (op_move rfl (.t (has rfl))) rfl rfl rfl rfl hb11 ?_
          obtain ⟨v14, h15, H⟩ := bind_some H
          refine goG (op_callF' rfl enters36 (walk_set_string_has.conF _ _ _ h15) rfl (.cons (ArgB.mps (.t (has rfl)) (has rfl) rfl) (.cons (ArgB.k (.t (has rfl))) .nil))) rfl rfl rfl rfl hb11 ?_
          refine goG (op_not rfl (.t (has rfl))) rfl rfl rfl rfl hb11 ?_
          refine go1 (op_pick_t rfl hb11 (.t (has rfl)) (.t (has rfl))) rfl ?_
          refine go1 (op_assign rfl (.t (has rfl))) rfl ?_
          refine go1 (op_assign rfl (.int _ _)) rfl ?_
          refine goesO_nil ?_
          obtain rfl := Option.some.inj H
          exact ends_cut (.cons rfl (.cons rfl .nil))
        · skip
          refine goS rfl rfl rfl rfl rfl rfl hb11 ?_
          refine goS rfl rfl rfl rfl rfl rfl hb11 ?_
          refine goS rfl rfl rfl rfl rfl rfl hb11 ?_
          refine goS rfl rfl rfl rfl rfl rfl hb11 ?_
          refine goS rfl rfl rfl rfl rfl rfl hb11 ?_
          refine goS rfl rfl rfl rfl rfl rfl hb11 ?_
          refine go1 (op_pick_f rfl hb11 (.t (has rfl)) (.bool _)) rfl ?_
          refine go1 (op_assign rfl (.t (has rfl))) rfl ?_
          refine go1 (op_assign rfl (.int _ _)) rfl ?_
          refine goesO_nil ?_
          obtain rfl := Option.some.inj H
          exact ends_cut (.cons rfl (.cons rfl .nil))
      · skip
        refine goS rfl rfl rfl rfl rfl rfl hb6 ?_
        refine goS rfl rfl rfl rfl rfl rfl hb6 ?_
        refine goS rfl rfl rfl rfl rfl rfl hb6 ?_
        refine goS rfl rfl rfl rfl rfl rfl hb6 ?_
        refine goS rfl rfl rfl rfl rfl rfl hb6 ?_
        refine goS rfl rfl rfl rfl rfl rfl hb6 ?_
        refine go1 (op_pick_f rfl hb6 (.t (has rfl)) (.bool _)) rfl ?_
        refine go1 (op_move rfl (.t (has rfl))) rfl ?_
        refine goS rfl rfl rfl rfl rfl rfl rfl ?_
        refine goS rfl rfl rfl rfl rfl rfl rfl ?_
        refine goS rfl rfl rfl rfl rfl rfl rfl ?_
        refine goS rfl rfl rfl rfl rfl rfl rfl ?_
        refine goS rfl rfl rfl rfl rfl rfl rfl ?_
        refine goS rfl rfl rfl rfl rfl rfl rfl ?_
        refine go1 (op_pick_f rfl rfl (.t (has rfl)) (.bool _)) rfl ?_
        refine go1 (op_assign rfl (.t (has rfl))) rfl ?_
        refine go1 (op_assign rfl (.int _ _)) rfl ?_
        refine goesO_nil ?_
        obtain rfl := Option.some.inj H
        exact ends_cut (.cons rfl (.cons rfl .nil))
    refine ends_then ?_
    obtain rfl := Option.some.inj H
    exact goes_ret (ends_ret' rfl rfl (.t rfl (.t rfl (.nil _))))
theorem walk_Apart.conF (k : Nat) (a0 : Plan) (a1 : ByteArray) (a2 : ByteArray) (r : Bool × Int) (H : walk_Apart.f k a0 a1 a2 = some r) : ConF Try.prog 21 [VA.k kPlan a0, VA.k kstr a1, VA.k kstr a2] [VA.k kbool r.1, VA.k (kint .i64) r.2] := (walk_Apart.con k a0 a1 a2 r H).freeL (.cons (KFree.k KFree.bool _) (.cons (KFree.k (KFree.int .i64) _) .nil))
/-! smithy/smithyref02.Name -/
def smithyref02_Name.l0 (a0 : ByteArray) : Nat → Int → Option (Except Bool Unit)
  | 0, _ => none
  | k + 1, s1 => bif icmp .lss s1 (a0.size : Int) then ((bidx a0 s1).bind fun x6 => (bif icmp .geq x6 (97 : Int) then (bif icmp .leq x6 (122 : Int) then (some true) else (bif icmp .geq x6 (65 : Int) then (bif icmp .leq x6 (90 : Int) then (some true) else (bif icmp .geq x6 (48 : Int) then (some (icmp .leq x6 (57 : Int))) else (some false))) else (bif icmp .geq x6 (48 : Int) then (some (icmp .leq x6 (57 : Int))) else (some false)))) else (bif icmp .geq x6 (65 : Int) then (bif icmp .leq x6 (90 : Int) then (some true) else (bif icmp .geq x6 (48 : Int) then (some (icmp .leq x6 (57 : Int))) else (some false))) else (bif icmp .geq x6 (48 : Int) then (some (icmp .leq x6 (57 : Int))) else (some false)))).bind fun s8 => (bif !s8 then (bif icmp .neq x6 (95 : Int) then (bif icmp .neq x6 (45 : Int) then (bif icmp .neq x6 (46 : Int) then (bif icmp .neq x6 (47 : Int) then (some (icmp .neq x6 (43 : Int))) else (some false)) else (some false)) else (some false)) else (some false)) else (some false)).bind fun s20 => bif s20 then (some (Except.error false)) else (smithyref02_Name.l0 a0 k (IntKind.i64.wrap (s1 + (1 : Int))))) else (some (Except.ok ()))
def smithyref02_Name.f (k : Nat) (a0 : ByteArray) : Option Bool := (smithyref02_Name.l0 a0 k (0 : Int)).bind fun o4 => match o4 with | .error r' => some r' | .ok s2 => ((bif icmp .gtr (a0.size : Int) (0 : Int) then (some (icmp .leq (a0.size : Int) (64 : Int))) else (some false)).bind fun s28 => some s28)
set_option maxRecDepth 100000 in
set_option maxHeartbeats 4000000 in
theorem smithyref02_Name.con (k : Nat) (a0 : ByteArray) (r : Bool) (H : smithyref02_Name.f k a0 = some r) : Con Try.prog 29 [VA.k kstr a0] [VA.k kbool r] := by
  unfold smithyref02_Name.f at H
  refine con_enter Try.func29 rfl rfl rfl (fun w0 S0 θ => ?_)
  refine goes_seq ?_
  refine goes_region ?_
  refine go1 (op_assign rfl (.bool _)) rfl ?_
  refine goesO_nil ?_
  refine ends_then ?_
  refine goes_seq ?_
  refine goes_seq ?_
  refine goes_region ?_
  refine go1 (op_assign rfl (.int _ _)) rfl ?_
  refine goesO_nil ?_
  refine ends_then ?_
  obtain ⟨o4, h3, H⟩ := bind_some H
  refine goes_cutR (o := o4) (fun s2 : Unit => [Ent.t 0 (VA.k kstr a0)]) (fun r a w => bodyPost Try.prog Try.f29 (CPost w0 S0 θ [VA.k kbool r]) .ret a w) ?_ ?_ ?_
  · replace H := h3; clear h3
    refine goes_block ?_
    refine goes_loop (fun s1 : Int => [Ent.t 0 (VA.k kstr a0), Ent.t 3 (VA.k (kint .i64) s1)]) (fun k s1 => smithyref02_Name.l0 a0 k s1) (fun _ => rfl) H (.cons rfl (.cons rfl .nil)) ?_
    intro k s1 H
    simp only [smithyref02_Name.l0] at H
    refine goes_seq ?_
    refine goes_seq ?_
    refine goes_region ?_
    refine go1 (op_move rfl (.t (has rfl))) rfl ?_
    refine go1 (op_move rfl (.t (has rfl))) rfl ?_
    refine go1 (op_len_str rfl rfl Try.underlying9 (.t (has rfl))) rfl ?_
    refine go1 (op_icmp rfl rfl (.t (has rfl)) (.t (has rfl))) rfl ?_
    refine goesO_nil ?_
    refine ends_then ?_
    refine goes_if (.t (has rfl)) H (fun hb5 H => ?_) (fun hb5 H => ?_)
    · skip
      refine goes_skip ?_
      refine ends_then ?_
      refine goes_seq ?_
      refine goes_block ?_
      refine goes_seq ?_
      refine goes_region ?_
      refine go1 (op_move rfl (.t (has rfl))) rfl ?_
      refine go1 (op_move rfl (.t (has rfl))) rfl ?_
      obtain ⟨x6, h7, H⟩ := bind_some H
      refine go1 (op_index_str rfl Try.underlying9 h7 (.t (has rfl)) (.t (has rfl))) rfl ?_
      refine go1 (op_assign rfl (.t (has rfl))) rfl ?_
      refine goesO_nil ?_
      refine ends_then ?_
      refine goes_seq ?_
      obtain ⟨s8, h9, H⟩ := bind_some H
      refine goes_cut [Ent.t 0 (VA.k kstr a0), Ent.t 3 (VA.k (kint .i64) s1), Ent.t 4 (VA.k (kint .u8) x6), Ent.t 5 (VA.k kbool s8)] ?_ ?_
      · replace H := h9; clear h9
        refine goes_region ?_
        refine go1 (op_move rfl (.t (has rfl))) rfl ?_
        refine go1 (op_icmp rfl rfl (.t (has rfl)) (.int _ _)) rfl ?_
        refine go1 (op_move rfl (.t (has rfl))) rfl ?_
        refine goesO_split H (fun hb10 H => ?_) (fun hb10 H => ?_)
        · skip
          refine goG (op_move rfl (.t (has rfl))) rfl rfl rfl rfl hb10 ?_
          refine goG (op_icmp rfl rfl (.t (has rfl)) (.int _ _)) rfl rfl rfl rfl hb10 ?_
          refine go1 (op_pick_t rfl hb10 (.t (has rfl)) (.t (has rfl))) rfl ?_
          refine go1 (op_move rfl (.t (has rfl))) rfl ?_
          refine goesO_split H (fun hb11 H => ?_) (fun hb11 H => ?_)
          · skip
            refine goS rfl rfl rfl rfl rfl rfl hb11 ?_
            refine goS rfl rfl rfl rfl rfl rfl hb11 ?_
            refine goS rfl rfl rfl rfl rfl rfl hb11 ?_
            refine goSU rfl rfl rfl rfl rfl rfl ?_
            refine goSU rfl rfl rfl rfl rfl rfl ?_
            refine goS rfl rfl rfl rfl rfl rfl hb11 ?_
            refine go1 (op_pick_t rfl hb11 (.t (has rfl)) (.bool _)) rfl ?_
            refine go1 (op_move rfl (.t (has rfl))) rfl ?_
            refine goS rfl rfl rfl rfl rfl rfl rfl ?_
            refine goS rfl rfl rfl rfl rfl rfl rfl ?_
            refine goS rfl rfl rfl rfl rfl rfl rfl ?_
            refine goSU rfl rfl rfl rfl rfl rfl ?_
            refine goSU rfl rfl rfl rfl rfl rfl ?_
            refine goS rfl rfl rfl rfl rfl rfl rfl ?_
            refine go1 (op_pick_t rfl rfl (.t (has rfl)) (.bool _)) rfl ?_
            refine go1 (op_assign rfl (.t (has rfl))) rfl ?_
            refine goesO_nil ?_
            obtain rfl := Option.some.inj H
            exact ends_cut (.cons rfl (.cons rfl (.cons rfl (.cons rfl .nil))))
          · skip
            refine goG (op_move rfl (.t (has rfl))) rfl rfl rfl rfl hb11 ?_
            refine goG (op_icmp rfl rfl (.t (has rfl)) (.int _ _)) rfl rfl rfl rfl hb11 ?_
            refine goG (op_move rfl (.t (has rfl))) rfl rfl rfl rfl hb11 ?_
            refine goesO_split H (fun hb12 H => ?_) (fun hb12 H => ?_)
            · skip
              refine goG (op_move rfl (.t (has rfl))) rfl rfl rfl rfl hb12 ?_
              refine goG (op_icmp rfl rfl (.t (has rfl)) (.int _ _)) rfl rfl rfl rfl hb12 ?_
              refine goG (op_pick_t rfl hb12 (.t (has rfl)) (.t (has rfl))) rfl rfl rfl rfl hb11 ?_
              refine go1 (op_pick_f rfl hb11 (.t (has rfl)) (.t (has rfl))) rfl ?_
              refine go1 (op_move rfl (.t (has rfl))) rfl ?_
              refine goesO_split H (fun hb13 H => ?_) (fun hb13 H => ?_)
              · skip
                refine goS rfl rfl rfl rfl rfl rfl hb13 ?_
                refine goS rfl rfl rfl rfl rfl rfl hb13 ?_
                refine goS rfl rfl rfl rfl rfl rfl hb13 ?_
                refine goSU rfl rfl rfl rfl rfl rfl ?_
                refine goSU rfl rfl rfl rfl rfl rfl ?_
                refine goS rfl rfl rfl rfl rfl rfl hb13 ?_
                refine go1 (op_pick_t rfl hb13 (.t (has rfl)) (.bool _)) rfl ?_
                refine go1 (op_assign rfl (.t (has rfl))) rfl ?_
                refine goesO_nil ?_
                obtain rfl := Option.some.inj H
                exact ends_cut (.cons rfl (.cons rfl (.cons rfl (.cons rfl .nil))))
              · skip
                refine goG (op_move rfl (.t (has rfl))) rfl rfl rfl rfl hb13 ?_
                refine goG (op_icmp rfl rfl (.t (has rfl)) (.int _ _)) rfl rfl rfl rfl hb13 ?_
                refine goG (op_move rfl (.t (has rfl))) rfl rfl rfl rfl hb13 ?_
                refine goesO_split H (fun hb14 H => ?_) (fun hb14 H => ?_)
                · skip
                  refine goG (op_move rfl (.t (has rfl))) rfl rfl rfl rfl hb14 ?_
                  refine goG (op_icmp rfl rfl (.t (has rfl)) (.int _ _)) rfl rfl rfl rfl hb14 ?_
                  refine goG (op_pick_t rfl hb14 (.t (has rfl)) (.t (has rfl))) rfl rfl rfl rfl hb13 ?_
                  refine go1 (op_pick_f rfl hb13 (.t (has rfl)) (.t (has rfl))) rfl ?_
                  refine go1 (op_assign rfl (.t (has rfl))) rfl ?_
                  refine goesO_nil ?_
                  obtain rfl := Option.some.inj H
                  exact ends_cut (.cons rfl (.cons rfl (.cons rfl (.cons rfl .nil))))
                · skip
                  refine goS rfl rfl rfl rfl rfl rfl hb14 ?_
                  refine goS rfl rfl rfl rfl rfl rfl hb14 ?_
                  refine goG (op_pick_f rfl hb14 (.t (has rfl)) (.bool _)) rfl rfl rfl rfl hb13 ?_
                  refine go1 (op_pick_f rfl hb13 (.t (has rfl)) (.t (has rfl))) rfl ?_
                  refine go1 (op_assign rfl (.t (has rfl))) rfl ?_
                  refine goesO_nil ?_
                  obtain rfl := Option.some.inj H
                  exact ends_cut (.cons rfl (.cons rfl (.cons rfl (.cons rfl .nil))))
            · skip
              refine goS rfl rfl rfl rfl rfl rfl hb12 ?_
              refine goS rfl rfl rfl rfl rfl rfl hb12 ?_
              refine goG (op_pick_f rfl hb12 (.t (has rfl)) (.bool _)) rfl rfl rfl rfl hb11 ?_
              refine go1 (op_pick_f rfl hb11 (.t (has rfl)) (.t (has rfl))) rfl ?_
              refine go1 (op_move rfl (.t (has rfl))) rfl ?_
              refine goG (op_move rfl (.t (has rfl))) rfl rfl rfl rfl rfl ?_
              refine goG (op_icmp rfl rfl (.t (has rfl)) (.int _ _)) rfl rfl rfl rfl rfl ?_
              refine goG (op_move rfl (.t (has rfl))) rfl rfl rfl rfl rfl ?_
              refine goesO_split H (fun hb15 H => ?_) (fun hb15 H => ?_)
              · skip
                refine goG (op_move rfl (.t (has rfl))) rfl rfl rfl rfl hb15 ?_
                refine goG (op_icmp rfl rfl (.t (has rfl)) (.int _ _)) rfl rfl rfl rfl hb15 ?_
                refine goG (op_pick_t rfl hb15 (.t (has rfl)) (.t (has rfl))) rfl rfl rfl rfl rfl ?_
                refine go1 (op_pick_f rfl rfl (.t (has rfl)) (.t (has rfl))) rfl ?_
                refine go1 (op_assign rfl (.t (has rfl))) rfl ?_
                refine goesO_nil ?_
                obtain rfl := Option.some.inj H
                exact ends_cut (.cons rfl (.cons rfl (.cons rfl (.cons rfl .nil))))
              · skip
                refine goS rfl rfl rfl rfl rfl rfl hb15 ?_
                refine goS rfl rfl rfl rfl rfl rfl hb15 ?_
                refine goG (op_pick_f rfl hb15 (.t (has rfl)) (.bool _)) rfl rfl rfl rfl rfl ?_
                refine go1 (op_pick_f rfl rfl (.t (has rfl)) (.t (has rfl))) rfl ?_
                refine go1 (op_assign rfl (.t (has rfl))) rfl ?_
                refine goesO_nil ?_
                obtain rfl := Option.some.inj H
                exact ends_cut (.cons rfl (.cons rfl (.cons rfl (.cons rfl .nil))))
        · skip
          refine goS rfl rfl rfl rfl rfl rfl hb10 ?_
          refine goS rfl rfl rfl rfl rfl rfl hb10 ?_
          refine go1 (op_pick_f rfl hb10 (.t (has rfl)) (.bool _)) rfl ?_
          refine go1 (op_move rfl (.t (has rfl))) rfl ?_
          refine goG (op_move rfl (.t (has rfl))) rfl rfl rfl rfl rfl ?_
          refine goG (op_icmp rfl rfl (.t (has rfl)) (.int _ _)) rfl rfl rfl rfl rfl ?_
          refine goG (op_move rfl (.t (has rfl))) rfl rfl rfl rfl rfl ?_
          refine goesO_split H (fun hb16 H => ?_) (fun hb16 H => ?_)
          · skip
            refine goG (op_move rfl (.t (has rfl))) rfl rfl rfl rfl hb16 ?_
            refine goG (op_icmp rfl rfl (.t (has rfl)) (.int _ _)) rfl rfl rfl rfl hb16 ?_
            refine goG (op_pick_t rfl hb16 (.t (has rfl)) (.t (has rfl))) rfl rfl rfl rfl rfl ?_
            refine go1 (op_pick_f rfl rfl (.t (has rfl)) (.t (has rfl))) rfl ?_
            refine go1 (op_move rfl (.t (has rfl))) rfl ?_
            refine goesO_split H (fun hb17 H => ?_) (fun hb17 H => ?_)
            · skip
              refine goS rfl rfl rfl rfl rfl rfl hb17 ?_
              refine goS rfl rfl rfl rfl rfl rfl hb17 ?_
              refine goS rfl rfl rfl rfl rfl rfl hb17 ?_
              refine goSU rfl rfl rfl rfl rfl rfl ?_
              refine goSU rfl rfl rfl rfl rfl rfl ?_
              refine goS rfl rfl rfl rfl rfl rfl hb17 ?_
              refine go1 (op_pick_t rfl hb17 (.t (has rfl)) (.bool _)) rfl ?_
              refine go1 (op_assign rfl (.t (has rfl))) rfl ?_
              refine goesO_nil ?_
              obtain rfl := Option.some.inj H
              exact ends_cut (.cons rfl (.cons rfl (.cons rfl (.cons rfl .nil))))
            · skip
              refine goG (op_move rfl (.t (has rfl))) rfl rfl rfl rfl hb17 ?_
              refine goG (op_icmp rfl rfl (.t (has rfl)) (.int _ _)) rfl rfl rfl rfl hb17 ?_
              refine goG (op_move rfl (.t (has rfl))) rfl rfl rfl rfl hb17 ?_
              refine goesO_split H (fun hb18 H => ?_) (fun hb18 H => ?_)
              · skip
                refine goG (op_move rfl (.t (has rfl))) rfl rfl rfl rfl hb18 ?_
                refine goG (op_icmp rfl rfl (.t (has rfl)) (.int _ _)) rfl rfl rfl rfl hb18 ?_
                refine goG (op_pick_t rfl hb18 (.t (has rfl)) (.t (has rfl))) rfl rfl rfl rfl hb17 ?_
                refine go1 (op_pick_f rfl hb17 (.t (has rfl)) (.t (has rfl))) rfl ?_
                refine go1 (op_assign rfl (.t (has rfl))) rfl ?_
                refine goesO_nil ?_
                obtain rfl := Option.some.inj H
                exact ends_cut (.cons rfl (.cons rfl (.cons rfl (.cons rfl .nil))))
              · skip
                refine goS rfl rfl rfl rfl rfl rfl hb18 ?_
                refine goS rfl rfl rfl rfl rfl rfl hb18 ?_
                refine goG (op_pick_f rfl hb18 (.t (has rfl)) (.bool _)) rfl rfl rfl rfl hb17 ?_
                refine go1 (op_pick_f rfl hb17 (.t (has rfl)) (.t (has rfl))) rfl ?_
                refine go1 (op_assign rfl (.t (has rfl))) rfl ?_
                refine goesO_nil ?_
                obtain rfl := Option.some.inj H
                exact ends_cut (.cons rfl (.cons rfl (.cons rfl (.cons rfl .nil))))
          · skip
            refine goS rfl rfl rfl rfl rfl rfl hb16 ?_
            refine goS rfl rfl rfl rfl rfl rfl hb16 ?_
            refine goG (op_pick_f rfl hb16 (.t (has rfl)) (.bool _)) rfl rfl rfl rfl rfl ?_
            refine go1 (op_pick_f rfl rfl (.t (has rfl)) (.t (has rfl))) rfl ?_
            refine go1 (op_move rfl (.t (has rfl))) rfl ?_
            refine goG (op_move rfl (.t (has rfl))) rfl rfl rfl rfl rfl ?_
            refine goG (op_icmp rfl rfl (.t (has rfl)) (.int _ _)) rfl rfl rfl rfl rfl ?_
            refine goG (op_move rfl (.t (has rfl))) rfl rfl rfl rfl rfl ?_
            refine goesO_split H (fun hb19 H => ?_) (fun hb19 H => ?_)
            · skip
              refine goG (op_move rfl (.t (has rfl))) rfl rfl rfl rfl hb19 ?_
              refine goG (op_icmp rfl rfl (.t (has rfl)) (.int _ _)) rfl rfl rfl rfl hb19 ?_
              refine goG (op_pick_t rfl hb19 (.t (has rfl)) (.t (has rfl))) rfl rfl rfl rfl rfl ?_
              refine go1 (op_pick_f rfl rfl (.t (has rfl)) (.t (has rfl))) rfl ?_
              refine go1 (op_assign rfl (.t (has rfl))) rfl ?_
              refine goesO_nil ?_
              obtain rfl := Option.some.inj H
              exact ends_cut (.cons rfl (.cons rfl (.cons rfl (.cons rfl .nil))))
            · skip
              refine goS rfl rfl rfl rfl rfl rfl hb19 ?_
              refine goS rfl rfl rfl rfl rfl rfl hb19 ?_
              refine goG (op_pick_f rfl hb19 (.t (has rfl)) (.bool _)) rfl rfl rfl rfl rfl ?_
              refine go1 (op_pick_f rfl rfl (.t (has rfl)) (.t (has rfl))) rfl ?_
              refine go1 (op_assign rfl (.t (has rfl))) rfl ?_
              refine goesO_nil ?_
              obtain rfl := Option.some.inj H
              exact ends_cut (.cons rfl (.cons rfl (.cons rfl (.cons rfl .nil))))
      refine ends_then ?_
      refine goes_seq ?_
      obtain ⟨s20, h21, H⟩ := bind_some H
      refine goes_cut [Ent.t 0 (VA.k kstr a0), Ent.t 3 (VA.k (kint .i64) s1), Ent.t 58 (VA.k kbool s20)] ?_ ?_
      · replace H := h21; clear h21
        refine goes_region ?_
        refine go1 (op_move rfl (.t (has rfl))) rfl ?_
        refine go1 (op_not rfl (.t (has rfl))) rfl ?_
        refine go1 (op_move rfl (.t (has rfl))) rfl ?_
        refine goesO_split H (fun hb22 H => ?_) (fun hb22 H => ?_)
        · skip
          refine goG (op_move rfl (.t (has rfl))) rfl rfl rfl rfl hb22 ?_
          refine goG (op_icmp rfl rfl (.t (has rfl)) (.int _ _)) rfl rfl rfl rfl hb22 ?_
          refine go1 (op_pick_t rfl hb22 (.t (has rfl)) (.t (has rfl))) rfl ?_
          refine go1 (op_move rfl (.t (has rfl))) rfl ?_
          refine goesO_split H (fun hb23 H => ?_) (fun hb23 H => ?_)
          · skip
            refine goG (op_move rfl (.t (has rfl))) rfl rfl rfl rfl hb23 ?_
            refine goG (op_icmp rfl rfl (.t (has rfl)) (.int _ _)) rfl rfl rfl rfl hb23 ?_
            refine go1 (op_pick_t rfl hb23 (.t (has rfl)) (.t (has rfl))) rfl ?_
            refine go1 (op_move rfl (.t (has rfl))) rfl ?_
            refine goesO_split H (fun hb24 H => ?_) (fun hb24 H => ?_)
            · skip
              refine goG (op_move rfl (.t (has rfl))) rfl rfl rfl rfl hb24 ?_
              refine goG (op_icmp rfl rfl (.t (has rfl)) (.int _ _)) rfl rfl rfl rfl hb24 ?_
              refine go1 (op_pick_t rfl hb24 (.t (has rfl)) (.t (has rfl))) rfl ?_
              refine go1 (op_move rfl (.t (has rfl))) rfl ?_
              refine goesO_split H (fun hb25 H => ?_) (fun hb25 H => ?_)
              · skip
                refine goG (op_move rfl (.t (has rfl))) rfl rfl rfl rfl hb25 ?_
                refine goG (op_icmp rfl rfl (.t (has rfl)) (.int _ _)) rfl rfl rfl rfl hb25 ?_
                refine go1 (op_pick_t rfl hb25 (.t (has rfl)) (.t (has rfl))) rfl ?_
                refine go1 (op_move rfl (.t (has rfl))) rfl ?_
                refine goesO_split H (fun hb26 H => ?_) (fun hb26 H => ?_)
                · skip
                  refine goG (op_move rfl (.t (has rfl))) rfl rfl rfl rfl hb26 ?_
                  refine goG (op_icmp rfl rfl (.t (has rfl)) (.int _ _)) rfl rfl rfl rfl hb26 ?_
                  refine go1 (op_pick_t rfl hb26 (.t (has rfl)) (.t (has rfl))) rfl ?_
                  refine goesO_nil ?_
                  obtain rfl := Option.some.inj H
                  exact ends_cut (.cons rfl (.cons rfl (.cons rfl .nil)))
                · skip
                  refine goS rfl rfl rfl rfl rfl rfl hb26 ?_
                  refine goS rfl rfl rfl rfl rfl rfl hb26 ?_
                  refine go1 (op_pick_f rfl hb26 (.t (has rfl)) (.bool _)) rfl ?_
                  refine goesO_nil ?_
                  obtain rfl := Option.some.inj H
                  exact ends_cut (.cons rfl (.cons rfl (.cons rfl .nil)))
              · skip
                refine goS rfl rfl rfl rfl rfl rfl hb25 ?_
                refine goS rfl rfl rfl rfl rfl rfl hb25 ?_
                refine go1 (op_pick_f rfl hb25 (.t (has rfl)) (.bool _)) rfl ?_
                refine go1 (op_move rfl (.t (has rfl))) rfl ?_
                refine goS rfl rfl rfl rfl rfl rfl rfl ?_
                refine goS rfl rfl rfl rfl rfl rfl rfl ?_
                refine go1 (op_pick_f rfl rfl (.t (has rfl)) (.bool _)) rfl ?_
                refine goesO_nil ?_
                obtain rfl := Option.some.inj H
                exact ends_cut (.cons rfl (.cons rfl (.cons rfl .nil)))
            · skip
              refine goS rfl rfl rfl rfl rfl rfl hb24 ?_
              refine goS rfl rfl rfl rfl rfl rfl hb24 ?_
              refine go1 (op_pick_f rfl hb24 (.t (has rfl)) (.bool _)) rfl ?_
              refine go1 (op_move rfl (.t (has rfl))) rfl ?_
              refine goS rfl rfl rfl rfl rfl rfl rfl ?_
              refine goS rfl rfl rfl rfl rfl rfl rfl ?_
              refine go1 (op_pick_f rfl rfl (.t (has rfl)) (.bool _)) rfl ?_
              refine go1 (op_move rfl (.t (has rfl))) rfl ?_
              refine goS rfl rfl rfl rfl rfl rfl rfl ?_
              refine goS rfl rfl rfl rfl rfl rfl rfl ?_
              refine go1 (op_pick_f rfl rfl (.t (has rfl)) (.bool _)) rfl ?_
              refine goesO_nil ?_
              obtain rfl := Option.some.inj H
              exact ends_cut (.cons rfl (.cons rfl (.cons rfl .nil)))
          · skip
            refine goS rfl rfl rfl rfl rfl rfl hb23 ?_
            refine goS rfl rfl rfl rfl rfl rfl hb23 ?_
            refine go1 (op_pick_f rfl hb23 (.t (has rfl)) (.bool _)) rfl ?_
            refine go1 (op_move rfl (.t (has rfl))) rfl ?_
            refine goS rfl rfl rfl rfl rfl rfl rfl ?_
            refine goS rfl rfl rfl rfl rfl rfl rfl ?_
            refine go1 (op_pick_f rfl rfl (.t (has rfl)) (.bool _)) rfl ?_
            refine go1 (op_move rfl (.t (has rfl))) rfl ?_
            refine goS rfl rfl rfl rfl rfl rfl rfl ?_
            refine goS rfl rfl rfl rfl rfl rfl rfl ?_
            refine go1 (op_pick_f rfl rfl (.t (has rfl)) (.bool _)) rfl ?_
            refine go1 (op_move rfl (.t (has rfl))) rfl ?_
            refine goS rfl rfl rfl rfl rfl rfl rfl ?_
            refine goS rfl rfl rfl rfl rfl rfl rfl ?_
            refine go1 (op_pick_f rfl rfl (.t (has rfl)) (.bool _)) rfl ?_
            refine goesO_nil ?_
            obtain rfl := Option.some.inj H
            exact ends_cut (.cons rfl (.cons rfl (.cons rfl .nil)))
        · skip
          refine goS rfl rfl rfl rfl rfl rfl hb22 ?_
          refine goS rfl rfl rfl rfl rfl rfl hb22 ?_
          refine go1 (op_pick_f rfl hb22 (.t (has rfl)) (.bool _)) rfl ?_
          refine go1 (op_move rfl (.t (has rfl))) rfl ?_
          refine goS rfl rfl rfl rfl rfl rfl rfl ?_
          refine goS rfl rfl rfl rfl rfl rfl rfl ?_
          refine go1 (op_pick_f rfl rfl (.t (has rfl)) (.bool _)) rfl ?_
          refine go1 (op_move rfl (.t (has rfl))) rfl ?_
          refine goS rfl rfl rfl rfl rfl rfl rfl ?_
          refine goS rfl rfl rfl rfl rfl rfl rfl ?_
          refine go1 (op_pick_f rfl rfl (.t (has rfl)) (.bool _)) rfl ?_
          refine go1 (op_move rfl (.t (has rfl))) rfl ?_
          refine goS rfl rfl rfl rfl rfl rfl rfl ?_
          refine goS rfl rfl rfl rfl rfl rfl rfl ?_
          refine go1 (op_pick_f rfl rfl (.t (has rfl)) (.bool _)) rfl ?_
          refine go1 (op_move rfl (.t (has rfl))) rfl ?_
          refine goS rfl rfl rfl rfl rfl rfl rfl ?_
          refine goS rfl rfl rfl rfl rfl rfl rfl ?_
          refine go1 (op_pick_f rfl rfl (.t (has rfl)) (.bool _)) rfl ?_
          refine goesO_nil ?_
          obtain rfl := Option.some.inj H
          exact ends_cut (.cons rfl (.cons rfl (.cons rfl .nil)))
      refine ends_then ?_
      refine goes_if (.t (has rfl)) H (fun hb27 H => ?_) (fun hb27 H => ?_)
      · skip
        refine goes_seq ?_
        refine goes_region ?_
        refine go1 (op_assign rfl (.bool _)) rfl ?_
        refine goesO_nil ?_
        refine ends_then ?_
        obtain rfl := Option.some.inj H
        refine goes_ret (ends_block_ret (ends_then_ret (ends_then_ret (ends_block_ret (ends_cutR_ret rfl ?_)))))
        exact ends_ret' rfl rfl (.t rfl (.nil _))
      · skip
        refine goes_skip ?_
        refine ends_block ?_
        refine ends_then ?_
        refine goes_region ?_
        refine go1 (op_move rfl (.t (has rfl))) rfl ?_
        refine go1 (op_add rfl (.t (has rfl)) (.int _ _)) rfl ?_
        refine go1 (op_assign rfl (.t (has rfl))) rfl ?_
        refine goesO_nil ?_
        exact loop_next _ H (.cons rfl (.cons rfl .nil))
    · skip
      refine goes_exit (ends_then_exit (ends_then_exit (ends_block_exit ?_)))
      obtain rfl := Option.some.inj H
      exact ends_cutR rfl (.cons rfl .nil)
  · rintro s2 rfl
    clear h3
    dsimp only at H
    refine ends_then ?_
    refine goes_seq ?_
    obtain ⟨s28, h29, H⟩ := bind_some H
    refine goes_cut [Ent.t 2 (VA.k kbool s28)] ?_ ?_
    · replace H := h29; clear h29
      refine goes_region ?_
      refine go1 (op_move rfl (.t (has rfl))) rfl ?_
      refine go1 (op_len_str rfl rfl Try.underlying9 (.t (has rfl))) rfl ?_
      refine go1 (op_icmp rfl rfl (.t (has rfl)) (.int _ _)) rfl ?_
      refine go1 (op_move rfl (.t (has rfl))) rfl ?_
      refine goesO_split H (fun hb30 H => ?_) (fun hb30 H => ?_)
      · skip
        refine goG (op_move rfl (.t (has rfl))) rfl rfl rfl rfl hb30 ?_
        refine goG (op_len_str rfl rfl Try.underlying9 (.t (has rfl))) rfl rfl rfl rfl hb30 ?_
        refine goG (op_icmp rfl rfl (.t (has rfl)) (.int _ _)) rfl rfl rfl rfl hb30 ?_
        refine go1 (op_pick_t rfl hb30 (.t (has rfl)) (.t (has rfl))) rfl ?_
        refine go1 (op_assign rfl (.t (has rfl))) rfl ?_
        refine goesO_nil ?_
        obtain rfl := Option.some.inj H
        exact ends_cut (.cons rfl .nil)
      · skip
        refine goS rfl rfl rfl rfl rfl rfl hb30 ?_
        refine goS rfl rfl rfl rfl rfl rfl hb30 ?_
        refine goS rfl rfl rfl rfl rfl rfl hb30 ?_
        refine go1 (op_pick_f rfl hb30 (.t (has rfl)) (.bool _)) rfl ?_
        refine go1 (op_assign rfl (.t (has rfl))) rfl ?_
        refine goesO_nil ?_
        obtain rfl := Option.some.inj H
        exact ends_cut (.cons rfl .nil)
    refine ends_then ?_
    obtain rfl := Option.some.inj H
    exact goes_ret (ends_ret' rfl rfl (.t rfl (.nil _)))
  · rintro r' rfl a w hr
    obtain rfl := Option.some.inj H
    exact hr
theorem smithyref02_Name.conF (k : Nat) (a0 : ByteArray) (r : Bool) (H : smithyref02_Name.f k a0 = some r) : ConF Try.prog 29 [VA.k kstr a0] [VA.k kbool r] := (smithyref02_Name.con k a0 r H).freeL (.cons (KFree.k KFree.bool _) .nil)
/-! smithy/smithyref03.Has -/
def smithyref03_Has.l0 (a0 : List ByteArray) (a1 : ByteArray) : Nat → Int → Option (Except Bool Unit)
  | 0, _ => none
  | k + 1, s1 => bif icmp .lss s1 (a0.length : Int) then ((idx a0 s1).bind fun x6 => bif scmp .eql x6 a1 then (some (Except.error true)) else (smithyref03_Has.l0 a0 a1 k (IntKind.i64.wrap (s1 + (1 : Int))))) else (some (Except.ok ()))
def smithyref03_Has.f (k : Nat) (a0 : List ByteArray) (a1 : ByteArray) : Option Bool := (smithyref03_Has.l0 a0 a1 k (0 : Int)).bind fun o4 => match o4 with | .error r' => some r' | .ok s2 => (some false)
set_option maxRecDepth 100000 in
set_option maxHeartbeats 4000000 in
theorem smithyref03_Has.con (k : Nat) (a0 : List ByteArray) (a1 : ByteArray) (r : Bool) (H : smithyref03_Has.f k a0 a1 = some r) : Con Try.prog 33 [VA.k (kslice kstr) a0, VA.k kstr a1] [VA.k kbool r] := by
  unfold smithyref03_Has.f at H
  refine con_enter Try.func33 rfl rfl rfl (fun w0 S0 θ => ?_)
  refine goes_seq ?_
  refine goes_region ?_
  refine go1 (op_assign rfl (.bool _)) rfl ?_
  refine goesO_nil ?_
  refine ends_then ?_
  refine goes_seq ?_
  refine goes_seq ?_
  refine goes_region ?_
  refine go1 (op_move rfl (.t (has rfl))) rfl ?_
  refine go1 (op_len rfl rfl Try.underlying23 (.t (has rfl))) rfl ?_
  refine go1 (op_move rfl (.int _ _)) rfl ?_
  refine goesO_nil ?_
  refine ends_then ?_
  obtain ⟨o4, h3, H⟩ := bind_some H
  refine goes_cutR (o := o4) (fun s2 : Unit => []) (fun r a w => bodyPost Try.prog Try.f33 (CPost w0 S0 θ [VA.k kbool r]) .ret a w) ?_ ?_ ?_
  · replace H := h3; clear h3
    refine goes_block ?_
    refine goes_loop (fun s1 : Int => [Ent.t 1 (VA.k kstr a1), Ent.t 7 (VA.k (kslice kstr) a0), Ent.t 8 (VA.k (kint .i64) (a0.length : Int)), Ent.t 9 (VA.k (kint .i64) s1)]) (fun k s1 => smithyref03_Has.l0 a0 a1 k s1) (fun _ => rfl) H (.cons rfl (.cons rfl (.cons rfl (.cons rfl .nil)))) ?_
    intro k s1 H
    simp only [smithyref03_Has.l0] at H
    refine goes_seq ?_
    refine goes_region ?_
    refine go1 (op_icmp rfl rfl (.t (has rfl)) (.t (has rfl))) rfl ?_
    refine goesO_nil ?_
    refine ends_then ?_
    refine goes_seq ?_
    refine goes_if (.t (has rfl)) H (fun hb5 H => ?_) (fun hb5 H => ?_)
    · skip
      refine goes_skip ?_
      refine ends_then ?_
      refine goes_seq ?_
      refine goes_block ?_
      refine goes_seq ?_
      refine goes_region ?_
      obtain ⟨x6, h7, H⟩ := bind_some H
      refine go1 (op_indexAddr rfl Try.underlying23 tk9 h7 (.t (has rfl)) (.t (has rfl))) rfl ?_
      refine go1 (op_loadp rfl tk9 (.t (has rfl))) rfl ?_
      refine go1 (op_assign rfl (.t (has rfl))) rfl ?_
      refine goesO_nil ?_
      refine ends_then ?_
      refine goes_seq ?_
      refine goes_region ?_
      refine go1 (op_move rfl (.t (has rfl))) rfl ?_
      refine go1 (op_move rfl (.t (has rfl))) rfl ?_
      refine go1 (op_scmp rfl rfl (.t (has rfl)) (.t (has rfl))) rfl ?_
      refine goesO_nil ?_
      refine ends_then ?_
      refine goes_if (.t (has rfl)) H (fun hb8 H => ?_) (fun hb8 H => ?_)
      · skip
        refine goes_seq ?_
        refine goes_region ?_
        refine go1 (op_assign rfl (.bool _)) rfl ?_
        refine goesO_nil ?_
        refine ends_then ?_
        obtain rfl := Option.some.inj H
        refine goes_ret (ends_block_ret (ends_then_ret (ends_then_ret (ends_block_ret (ends_cutR_ret rfl ?_)))))
        exact ends_ret' rfl rfl (.t rfl (.nil _))
      · skip
        refine goes_skip ?_
        refine ends_block ?_
        refine ends_then ?_
        refine goes_region ?_
        refine go1 (op_add rfl (.t (has rfl)) (.int _ _)) rfl ?_
        refine go1 (op_move rfl (.t (has rfl))) rfl ?_
        refine goesO_nil ?_
        exact loop_next _ H (.cons rfl (.cons rfl (.cons rfl (.cons rfl .nil))))
    · skip
      refine goes_exit (ends_then_exit (ends_then_exit (ends_block_exit ?_)))
      obtain rfl := Option.some.inj H
      exact ends_cutR rfl .nil
  · rintro s2 rfl
    clear h3
    dsimp only at H
    refine ends_then ?_
    refine goes_seq ?_
    refine goes_region ?_
    refine go1 (op_assign rfl (.bool _)) rfl ?_
    refine goesO_nil ?_
    refine ends_then ?_
    obtain rfl := Option.some.inj H
    exact goes_ret (ends_ret' rfl rfl (.t rfl (.nil _)))
  · rintro r' rfl a w hr
    obtain rfl := Option.some.inj H
    exact hr
theorem smithyref03_Has.conF (k : Nat) (a0 : List ByteArray) (a1 : ByteArray) (r : Bool) (H : smithyref03_Has.f k a0 a1 = some r) : ConF Try.prog 33 [VA.k (kslice kstr) a0, VA.k kstr a1] [VA.k kbool r] := (smithyref03_Has.con k a0 a1 r H).freeL (.cons (KFree.k KFree.bool _) .nil)
end Go.Proofs.Ytedgkcdofiildaa.F
