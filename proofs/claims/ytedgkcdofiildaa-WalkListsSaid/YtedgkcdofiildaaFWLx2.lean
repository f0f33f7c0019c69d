import Derived.Test.YtedgkcdofiildaaFWLx1
set_option linter.unusedVariables false
set_option linter.unusedSimpArgs false
set_option linter.unnecessarySimpa false
set_option linter.deprecated false
namespace Go.Proofs.Ytedgkcdofiildaa.F
open Go Go.RowKit Go.Proofs.Ytedgkcdofiildaa.Sl
/-! smithy/walk.setOf[string] -/
def walk_setOf_string.l0 (a0 : List ByteArray) : Nat → ((GM Int) × Int) → Option (GM Int)
  | 0, _ => none
  | k + 1, s1 => bif icmp .lss s1.2 (a0.length : Int) then ((idx a0 s1.2).bind fun x5 => (gput s1.1 x5 (1 : Int)).bind fun x7 => walk_setOf_string.l0 a0 k (x7, IntKind.i64.wrap (s1.2 + (1 : Int)))) else (some s1.1)
def walk_setOf_string.f (k : Nat) (a0 : List ByteArray) : Option (GM Int) := (walk_setOf_string.l0 a0 k ((gempty : GM Int), (0 : Int))).bind fun s2 => some s2
set_option maxRecDepth 100000 in
set_option maxHeartbeats 4000000 in
theorem walk_setOf_string.con (k : Nat) (a0 : List ByteArray) (r : GM Int) (H : walk_setOf_string.f k a0 = some r) : Con Try.prog 35 [VA.k (kslice kstr) a0] [VA.om Try.prog 9 (kint .i64) true r] := by
  unfold walk_setOf_string.f at H
  refine con_enter Try.func35 rfl rfl rfl (fun w0 S0 θ => ?_)
  refine goes_seq ?_
  refine goes_region ?_
  refine go3 (op_alloc_raw 2 rfl xaz66 rfl) rfl ?_
  refine goesO_nil ?_
  refine ends_then ?_
  refine goes_seq ?_
  refine goes_region ?_
  refine go3 (op_makeMap 9 (kint .i64) 6 rfl) rfl ?_
  refine go1 (op_build_mp rfl xbm66 (.t (has rfl))) rfl ?_
  refine go3 (op_alloc_raw 3 rfl xaz66 rfl) rfl ?_
  refine go1 (op_store_mp xmz66 (.inl rfl) (.t (has rfl)) (has rfl) (.t (has rfl))) rfl ?_
  refine goesO_nil ?_
  refine ends_then ?_
  refine goes_seq ?_
  refine goes_seq ?_
  refine goes_region ?_
  refine go1 (op_move rfl (.t (has rfl))) rfl ?_
  refine go1 (op_len rfl rfl Try.underlying23 (.t (has rfl))) rfl ?_
  refine go1 (op_move rfl (.int _ _)) rfl ?_
  refine goesO_nil ?_
  refine ends_then ?_
  obtain ⟨s2, h3, H⟩ := bind_some H
  refine goes_cut [Ent.t 2 (VA.ptr 2 0), Ent.t 3 (VA.ptr 3 0), Ent.h 2 (HE.raw 66 1), Ent.h 3 (HE.boxm 66 6), Ent.h 6 (HE.map Try.prog 9 (kint .i64) s2)] ?_ ?_
  · replace H := h3; clear h3
    refine goes_block ?_
    refine goes_loop (fun s1 : (GM Int) × Int => [Ent.t 2 (VA.ptr 2 0), Ent.t 3 (VA.ptr 3 0), Ent.t 8 (VA.k (kslice kstr) a0), Ent.t 9 (VA.k (kint .i64) (a0.length : Int)), Ent.t 10 (VA.k (kint .i64) s1.2), Ent.h 2 (HE.raw 66 1), Ent.h 3 (HE.boxm 66 6), Ent.h 6 (HE.map Try.prog 9 (kint .i64) s1.1)]) (fun k s1 => walk_setOf_string.l0 a0 k s1) (fun _ => rfl) H (.cons rfl (.cons rfl (.cons rfl (.cons rfl (.cons rfl (.cons rfl (.cons rfl (.cons rfl .nil)))))))) ?_
    intro k s1 H
    simp only [walk_setOf_string.l0] at H
    refine goes_seq ?_
    refine goes_region ?_
    refine go1 (op_icmp rfl rfl (.t (has rfl)) (.t (has rfl))) rfl ?_
    refine goesO_nil ?_
    refine ends_then ?_
    refine goes_seq ?_
    refine goes_if (.t (has rfl)) H (fun hb4 H => ?_) (fun hb4 H => ?_)
    · skip
      refine goes_skip ?_
      refine ends_then ?_
      refine goes_seq ?_
      refine goes_block ?_
      refine goes_seq ?_
      refine goes_region ?_
      obtain ⟨x5, h6, H⟩ := bind_some H
      refine go1 (op_indexAddr rfl Try.underlying23 tk9 h6 (.t (has rfl)) (.t (has rfl))) rfl ?_
      refine go1 (op_loadp rfl tk9 (.t (has rfl))) rfl ?_
      refine go1 (op_assign rfl (.t (has rfl))) rfl ?_
      refine goesO_nil ?_
      refine ends_then ?_
      refine goes_region ?_
      refine go1 (op_fieldAddr rfl Try.underlying66 rfl tk64 (.t (has rfl))) rfl ?_
      refine go1 (op_load_mp rfl xmz64 (.t (has rfl)) (has rfl)) rfl ?_
      refine go1 (op_move rfl (.t (has rfl))) rfl ?_
      obtain ⟨x7, h8, H⟩ := bind_some H
      refine go1 (op_mapUpdate xmt64 h8 (.t (has rfl)) (has rfl) (.t (has rfl)) (.int _ _)) rfl ?_
      refine goesO_nil ?_
      refine ends_block ?_
      refine ends_then ?_
      refine goes_region ?_
      refine go1 (op_add rfl (.t (has rfl)) (.int _ _)) rfl ?_
      refine go1 (op_move rfl (.t (has rfl))) rfl ?_
      refine goesO_nil ?_
      exact loop_next _ H (.cons rfl (.cons rfl (.cons rfl (.cons rfl (.cons rfl (.cons rfl (.cons rfl (.cons rfl .nil))))))))
    · skip
      refine goes_exit (ends_then_exit (ends_then_exit (ends_block_exit ?_)))
      obtain rfl := Option.some.inj H
      exact ends_cut (.cons rfl (.cons rfl (.cons rfl (.cons rfl (.cons rfl .nil)))))
  refine ends_then ?_
  refine goes_seq ?_
  refine goes_region ?_
  refine go1 (op_load_mp rfl xmz66 (.t (has rfl)) (has rfl)) rfl ?_
  refine go1 (op_store_mp xmz66 (.inl rfl) (.t (has rfl)) (has rfl) (.t (has rfl))) rfl ?_
  refine goesO_nil ?_
  refine ends_then ?_
  obtain rfl := Option.some.inj H
  exact goes_ret (ends_ret' rfl rfl (.cm rfl rfl rfl xmz66 (.nil _)))
/-! (smithy/walk.set[string]).has -/
def walk_set_string_has.f (a0 : WalkSet_string_) (a1 : ByteArray) : Option Bool := (gget a0.l (0 : Int) a1).bind fun x1 => some (icmp .eql x1 (1 : Int))
set_option maxRecDepth 100000 in
set_option maxHeartbeats 4000000 in
theorem walk_set_string_has.con (a0 : WalkSet_string_) (a1 : ByteArray) (r : Bool) (H : walk_set_string_has.f a0 a1 = some r) : Con Try.prog 36 [VA.k kWalkSet_string_ a0, VA.k kstr a1] [VA.k kbool r] := by
  unfold walk_set_string_has.f at H
  refine con_enter Try.func36 rfl rfl rfl (fun w0 S0 θ => ?_)
  refine goes_seq ?_
  refine goes_region ?_
  refine go3 (op_box 2 rfl (fun h => by first | rfl | cases h) (.t (has rfl))) rfl ?_
  refine go1 (op_assign rfl (.bool _)) rfl ?_
  refine goesO_nil ?_
  refine ends_then ?_
  refine goes_seq ?_
  refine goes_region ?_
  refine go1 (op_fieldAddr rfl Try.underlying66 rfl tk64 (.t (has rfl))) rfl ?_
  refine go1 (op_load rfl fldWalkSet_string__l tk64 (.t (has rfl)) (has rfl)) rfl ?_
  refine go1 (op_move rfl (.t (has rfl))) rfl ?_
  obtain ⟨x1, h2, H⟩ := bind_some H
  refine go1 (op_lookup_k rfl xmt64 h2 (.t (has rfl)) (.t (has rfl))) rfl ?_
  refine go1 (op_icmp rfl rfl (.t (has rfl)) (.int _ _)) rfl ?_
  refine go1 (op_assign rfl (.t (has rfl))) rfl ?_
  refine goesO_nil ?_
  refine ends_then ?_
  obtain rfl := Option.some.inj H
  exact goes_ret (ends_ret' rfl rfl (.t rfl (.nil _)))
theorem walk_set_string_has.conF (a0 : WalkSet_string_) (a1 : ByteArray) (r : Bool) (H : walk_set_string_has.f a0 a1 = some r) : ConF Try.prog 36 [VA.k kWalkSet_string_ a0, VA.k kstr a1] [VA.k kbool r] := (walk_set_string_has.con a0 a1 r H).freeL (.cons (KFree.k KFree.bool _) .nil)
/-! smithy/walk.asked$1 -/
def walk_asked_1.f (a0 : ByteArray) (c0 : WalkSet_string_) : Option Bool := (walk_set_string_has.f c0 a0).bind fun v1 => some (!v1)
set_option maxRecDepth 100000 in
set_option maxHeartbeats 4000000 in
theorem walk_asked_1.con (a0 : ByteArray) (c0 : WalkSet_string_) (r : Bool) (H : walk_asked_1.f a0 c0 = some r) : Con Try.prog 56 [VA.k kstr a0, VA.pt kWalkSet_string_ c0] [VA.k kbool r] := by
  unfold walk_asked_1.f at H
  refine con_enter Try.func56 rfl rfl rfl (fun w0 S0 θ => ?_)
  refine goes_seq ?_
  refine goes_region ?_
  refine go1 (op_assign rfl (.bool _)) rfl ?_
  refine goesO_nil ?_
  refine ends_then ?_
  refine goes_seq ?_
  refine goes_region ?_
  refine go1 (op_loadp rfl tk66 (.t (has rfl))) rfl ?_
  refine go1 (op_move rfl (.t (has rfl))) rfl ?_
  obtain ⟨v1, h2, H⟩ := bind_some H
  refine go1 (op_call' rfl enters36 (walk_set_string_has.con _ _ _ h2) rfl (.cons (ArgP.k (.t (has rfl))) (.cons (ArgP.k (.t (has rfl))) .nil))) rfl ?_
  refine go1 (op_not rfl (.t (has rfl))) rfl ?_
  refine go1 (op_assign rfl (.t (has rfl))) rfl ?_
  refine goesO_nil ?_
  refine ends_then ?_
  obtain rfl := Option.some.inj H
  exact goes_ret (ends_ret' rfl rfl (.t rfl (.nil _)))
theorem walk_asked_1.conF (a0 : ByteArray) (c0 : WalkSet_string_) (r : Bool) (H : walk_asked_1.f a0 c0 = some r) : ConF Try.prog 56 [VA.k kstr a0, VA.pt kWalkSet_string_ c0] [VA.k kbool r] := (walk_asked_1.con a0 c0 r H).freeL (.cons (KFree.k KFree.bool _) .nil)
/-! smithy/walk.asked -/
def walk_asked.l0 (a1 : List ByteArray) : Nat → Int → Option (Except Int Unit)
  | 0, _ => none
  | k + 1, s5 => bif icmp .lss s5 (a1.length : Int) then ((idx a1 s5).bind fun x10 => (names_Check.f k x10).bind fun v12 => bif icmp .neq v12 (0 : Int) then (some (Except.error v12)) else (walk_asked.l0 a1 k (IntKind.i64.wrap (s5 + (1 : Int))))) else (some (Except.ok ()))
def walk_asked.f (k : Nat) (a0 : Plan) (a1 : List ByteArray) : Option Int := (resolve_Check.f k a0).bind fun v1 => bif icmp .neq v1 (0 : Int) then (some v1) else (bif icmp .gtr (a1.length : Int) (512 : Int) then (some (2 : Int)) else ((walk_asked.l0 a1 k (0 : Int)).bind fun o8 => match o8 with | .error r' => some r' | .ok s6 => ((walk_targets.f k a0).bind fun v15 => (walk_setOf_string.f k v15).bind fun v17 => (slices_ContainsFunc_string_string.f k a1 (fun (z0 : ByteArray) => walk_asked_1.f z0 (⟨v17⟩ : WalkSet_string_))).bind fun v19 => bif v19 then (some (9 : Int)) else (some (0 : Int)))))
set_option maxRecDepth 100000 in
set_option maxHeartbeats 4000000 in
theorem walk_asked.con (k : Nat) (a0 : Plan) (a1 : List ByteArray) (r : Int) (H : walk_asked.f k a0 a1 = some r) : Con Try.prog 34 [VA.k kPlan a0, VA.k (kslice kstr) a1] [VA.k (kint .i64) r] := by
  unfold walk_asked.f at H
  refine con_enter Try.func34 rfl rfl rfl (fun w0 S0 θ => ?_)
  refine goes_seq ?_
  refine goes_region ?_
  refine go3 (op_box 2 rfl (fun h => by first | rfl | cases h) (.t (has rfl))) rfl ?_
  refine go1 (op_assign rfl (.int _ _)) rfl ?_
  refine goesO_nil ?_
  refine ends_then ?_
  refine goes_seq ?_
  refine goes_seq ?_
  refine goes_region ?_
  refine go1 (op_load rfl (Fld.whole kPlan) tk25 (.t (has rfl)) (has rfl)) rfl ?_
  obtain ⟨v1, h2, H⟩ := bind_some H
  refine go1 (op_call' rfl enters54 (resolve_Check.con _ _ _ h2) rfl (.cons (ArgP.k (.t (has rfl))) .nil)) rfl ?_
  refine go1 (op_assign rfl (.t (has rfl))) rfl ?_
  refine goesO_nil ?_
  refine ends_then ?_
  refine goes_seq ?_
  refine goes_region ?_
  refine go1 (op_move rfl (.t (has rfl))) rfl ?_
  refine go1 (op_icmp rfl rfl (.t (has rfl)) (.int _ _)) rfl ?_
  refine goesO_nil ?_
  refine ends_then ?_
  refine goes_if (.t (has rfl)) H (fun hb3 H => ?_) (fun hb3 H => ?_)
  · skip
    refine goes_seq ?_
    refine goes_region ?_
    refine go1 (op_move rfl (.t (has rfl))) rfl ?_
    refine go1 (op_assign rfl (.t (has rfl))) rfl ?_
    refine goesO_nil ?_
    refine ends_then ?_
    obtain rfl := Option.some.inj H
    exact goes_ret (ends_then_ret (ends_ret' rfl rfl (.t rfl (.nil _))))
  · skip
    refine goes_skip ?_
    refine ends_then ?_
    refine goes_seq ?_
    refine goes_seq ?_
    refine goes_region ?_
    refine go1 (op_move rfl (.t (has rfl))) rfl ?_
    refine go1 (op_len rfl rfl Try.underlying23 (.t (has rfl))) rfl ?_
    refine go1 (op_icmp rfl rfl (.t (has rfl)) (.int _ _)) rfl ?_
    refine goesO_nil ?_
    refine ends_then ?_
    refine goes_if (.t (has rfl)) H (fun hb4 H => ?_) (fun hb4 H => ?_)
    · skip
      refine goes_seq ?_
      refine goes_region ?_
      refine go1 (op_assign rfl (.int _ _)) rfl ?_
      refine goesO_nil ?_
      refine ends_then ?_
      obtain rfl := Option.some.inj H
      exact goes_ret (ends_then_ret (ends_ret' rfl rfl (.t rfl (.nil _))))
    · skip
      refine goes_skip ?_
      refine ends_then ?_
      refine goes_seq ?_
      refine goes_seq ?_
      refine goes_region ?_
      refine go1 (op_move rfl (.t (has rfl))) rfl ?_
      refine go1 (op_len rfl rfl Try.underlying23 (.t (has rfl))) rfl ?_
      refine go1 (op_move rfl (.int _ _)) rfl ?_
      refine goesO_nil ?_
      refine ends_then ?_
      obtain ⟨o8, h7, H⟩ := bind_some H
      refine goes_cutR (o := o8) (fun s6 : Unit => [Ent.t 1 (VA.k (kslice kstr) a1), Ent.t 2 (VA.ptr 2 0), Ent.h 2 (HE.box 25 kPlan a0)]) (fun r a w => bodyPost Try.prog Try.f34 (CPost w0 S0 θ [VA.k (kint .i64) r]) .ret a w) ?_ ?_ ?_
      · replace H := h7; clear h7
        refine goes_block ?_
        refine goes_loop (fun s5 : Int => [Ent.t 1 (VA.k (kslice kstr) a1), Ent.t 2 (VA.ptr 2 0), Ent.t 18 (VA.k (kslice kstr) a1), Ent.t 19 (VA.k (kint .i64) (a1.length : Int)), Ent.t 20 (VA.k (kint .i64) s5), Ent.h 2 (HE.box 25 kPlan a0)]) (fun k s5 => walk_asked.l0 a1 k s5) (fun _ => rfl) H (.cons rfl (.cons rfl (.cons rfl (.cons rfl (.cons rfl (.cons rfl .nil)))))) ?_
        intro k s5 H
        simp only [walk_asked.l0] at H
        refine goes_seq ?_
        refine goes_region ?_
        refine go1 (op_icmp rfl rfl (.t (has rfl)) (.t (has rfl))) rfl ?_
        refine goesO_nil ?_
        refine ends_then ?_
        refine goes_seq ?_
        refine goes_if (.t (has rfl)) H (fun hb9 H => ?_) (fun hb9 H => ?_)
        · skip
          refine goes_skip ?_
          refine ends_then ?_
          refine goes_seq ?_
          refine goes_block ?_
          refine goes_seq ?_
          refine goes_region ?_
          obtain ⟨x10, h11, H⟩ := bind_some H
          refine go1 (op_indexAddr rfl Try.underlying23 tk9 h11 (.t (has rfl)) (.t (has rfl))) rfl ?_
          refine go1 (op_loadp rfl tk9 (.t (has rfl))) rfl ?_
          refine go1 (op_assign rfl (.t (has rfl))) rfl ?_
          refine goesO_nil ?_
          refine ends_then ?_
          refine goes_seq ?_
          refine goes_region ?_
          refine go1 (op_move rfl (.t (has rfl))) rfl ?_
          obtain ⟨v12, h13, H⟩ := bind_some H
          refine go1 (op_call' rfl enters55 (names_Check.con _ _ _ h13) rfl (.cons (ArgP.k (.t (has rfl))) .nil)) rfl ?_
          refine go1 (op_assign rfl (.t (has rfl))) rfl ?_
          refine goesO_nil ?_
          refine ends_then ?_
          refine goes_seq ?_
          refine goes_region ?_
          refine go1 (op_move rfl (.t (has rfl))) rfl ?_
          refine go1 (op_icmp rfl rfl (.t (has rfl)) (.int _ _)) rfl ?_
          refine goesO_nil ?_
          refine ends_then ?_
          refine goes_if (.t (has rfl)) H (fun hb14 H => ?_) (fun hb14 H => ?_)
          · skip
            refine goes_seq ?_
            refine goes_region ?_
            refine go1 (op_move rfl (.t (has rfl))) rfl ?_
            refine go1 (op_assign rfl (.t (has rfl))) rfl ?_
            refine goesO_nil ?_
            refine ends_then ?_
            obtain rfl := Option.some.inj H
            refine goes_ret (ends_block_ret (ends_then_ret (ends_then_ret (ends_block_ret (ends_cutR_ret rfl ?_)))))
            exact ends_ret' rfl rfl (.t rfl (.nil _))
          · skip
            refine goes_skip ?_
            refine ends_block ?_
            refine ends_then ?_
            refine goes_region ?_
            refine go1 (op_add rfl (.t (has rfl)) (.int _ _)) rfl ?_
            refine go1 (op_move rfl (.t (has rfl))) rfl ?_
            refine goesO_nil ?_
            exact loop_next _ H (.cons rfl (.cons rfl (.cons rfl (.cons rfl (.cons rfl (.cons rfl .nil))))))
        · skip
          refine goes_exit (ends_then_exit (ends_then_exit (ends_block_exit ?_)))
          obtain rfl := Option.some.inj H
          exact ends_cutR rfl (.cons rfl (.cons rfl (.cons rfl .nil)))
      · rintro s6 rfl
        clear h7
        dsimp only at H
        refine ends_then ?_
        refine goes_seq ?_
        refine goes_region ?_
        refine go1 (op_load rfl (Fld.whole kPlan) tk25 (.t (has rfl)) (has rfl)) rfl ?_
        obtain ⟨v15, h16, H⟩ := bind_some H
        refine go1 (op_call' rfl enters46 (walk_targets.con _ _ _ h16) rfl (.cons (ArgP.k (.t (has rfl))) .nil)) rfl ?_
        refine goesO_settle 31 rfl rfl ?_
        obtain ⟨v17, h18, H⟩ := bind_some H
        refine go1 (op_call' rfl enters35 (walk_setOf_string.con _ _ _ h18) rfl (.cons (ArgP.k (.t (has rfl))) .nil)) rfl ?_
        refine goesO_adopt 32 32 rfl rfl ?_
        refine go3 (op_alloc_raw 9 rfl xaz66 rfl) rfl ?_
        refine go1 (op_store_mp xmz66 (.inl rfl) (.t (has rfl)) (has rfl) (.t (has rfl))) rfl ?_
        refine goesO_nil ?_
        refine ends_then ?_
        refine goes_seq ?_
        refine goes_seq ?_
        refine goes_region ?_
        refine go1 (op_move rfl (.t (has rfl))) rfl ?_
        refine go1 (op_makeFunc (ys := []) (xs := [9]) rfl rfl rfl rfl) rfl ?_
        obtain ⟨v19, h20, H⟩ := bind_some H
        refine go1 (op_callF' rfl enters37 (slices_ContainsFunc_string_string.conF 56 ([]) ([VA.pt kWalkSet_string_ (⟨v17⟩ : WalkSet_string_)]) _ _ (fun (z0 : ByteArray) => walk_asked_1.f z0 (⟨v17⟩ : WalkSet_string_)) enters56 (fun z0 r h => walk_asked_1.con z0 (⟨v17⟩ : WalkSet_string_) r h) _ h20) rfl (.cons (ArgB.k (.t (has rfl))) (.cons (ArgB.mf rfl rfl (has rfl) .nil (.cons (ArgB.ptm (.t (has rfl)) (has rfl) (has rfl) rfl) .nil)) .nil))) rfl ?_
        refine goesO_nil ?_
        refine ends_then ?_
        refine goes_if (.t (has rfl)) H (fun hb21 H => ?_) (fun hb21 H => ?_)
        · skip
          refine goes_seq ?_
          refine goes_region ?_
          refine go1 (op_assign rfl (.int _ _)) rfl ?_
          refine goesO_nil ?_
          refine ends_then ?_
          obtain rfl := Option.some.inj H
          exact goes_ret (ends_then_ret (ends_ret' rfl rfl (.t rfl (.nil _))))
        · skip
          refine goes_skip ?_
          refine ends_then ?_
          refine goes_seq ?_
          refine goes_region ?_
          refine go1 (op_assign rfl (.int _ _)) rfl ?_
          refine goesO_nil ?_
          refine ends_then ?_
          obtain rfl := Option.some.inj H
          exact goes_ret (ends_ret' rfl rfl (.t rfl (.nil _)))
      · rintro r' rfl a w hr
        obtain rfl := Option.some.inj H
        exact hr
theorem walk_asked.conF (k : Nat) (a0 : Plan) (a1 : List ByteArray) (r : Int) (H : walk_asked.f k a0 a1 = some r) : ConF Try.prog 34 [VA.k kPlan a0, VA.k (kslice kstr) a1] [VA.k (kint .i64) r] := (walk_asked.con k a0 a1 r H).freeL (.cons (KFree.k (KFree.int .i64) _) .nil)
/-! smithy/walk.Fits$1 -/
def walk_Fits_1.f (a0 : ByteArray) (c0 : WalkSet_string_) : Option Bool := (walk_set_string_has.f c0 a0).bind fun v1 => some (!v1)
set_option maxRecDepth 100000 in
set_option maxHeartbeats 4000000 in
theorem walk_Fits_1.con (a0 : ByteArray) (c0 : WalkSet_string_) (r : Bool) (H : walk_Fits_1.f a0 c0 = some r) : Con Try.prog 38 [VA.k kstr a0, VA.pt kWalkSet_string_ c0] [VA.k kbool r] := by
  unfold walk_Fits_1.f at H
  refine con_enter Try.func38 rfl rfl rfl (fun w0 S0 θ => ?_)
  refine goes_seq ?_
  refine goes_region ?_
  refine go1 (op_assign rfl (.bool _)) rfl ?_
  refine goesO_nil ?_
  refine ends_then ?_
  refine goes_seq ?_
  refine goes_region ?_
  refine go1 (op_loadp rfl tk66 (.t (has rfl))) rfl ?_
  refine go1 (op_move rfl (.t (has rfl))) rfl ?_
  obtain ⟨v1, h2, H⟩ := bind_some H
  refine go1 (op_call' rfl enters36 (walk_set_string_has.con _ _ _ h2) rfl (.cons (ArgP.k (.t (has rfl))) (.cons (ArgP.k (.t (has rfl))) .nil))) rfl ?_
  refine go1 (op_not rfl (.t (has rfl))) rfl ?_
  refine go1 (op_assign rfl (.t (has rfl))) rfl ?_
  refine goesO_nil ?_
  refine ends_then ?_
  obtain rfl := Option.some.inj H
  exact goes_ret (ends_ret' rfl rfl (.t rfl (.nil _)))
theorem walk_Fits_1.conF (a0 : ByteArray) (c0 : WalkSet_string_) (r : Bool) (H : walk_Fits_1.f a0 c0 = some r) : ConF Try.prog 38 [VA.k kstr a0, VA.pt kWalkSet_string_ c0] [VA.k kbool r] := (walk_Fits_1.con a0 c0 r H).freeL (.cons (KFree.k KFree.bool _) .nil)
/-! (smithy/walk.set[string]).put -/
def walk_set_string_put.f (a0 : GM Int) (a1 : ByteArray) : Option (GM Int) := (gput a0 a1 (1 : Int)).bind fun x1 => some x1
set_option maxRecDepth 100000 in
set_option maxHeartbeats 4000000 in
theorem walk_set_string_put.con (a0 : GM Int) (a1 : ByteArray) (r : GM Int) (H : walk_set_string_put.f a0 a1 = some r) : ConIO Try.prog 39 9 (kint .i64) true a0 r [VA.k kstr a1] := by
  unfold walk_set_string_put.f at H
  refine con_enterIO Try.func39 rfl rfl rfl rfl (fun w0 S0 b => ?_)
  refine goes_seq ?_
  refine goes_region ?_
  refine go3 (op_box_mp 2 rfl rfl (.t (has rfl))) rfl ?_
  refine goesO_nil ?_
  refine ends_then ?_
  refine goes_region ?_
  refine go1 (op_fieldAddr rfl Try.underlying66 rfl tk64 (.t (has rfl))) rfl ?_
  refine go1 (op_load_mp rfl xmz64 (.t (has rfl)) (has rfl)) rfl ?_
  refine go1 (op_move rfl (.t (has rfl))) rfl ?_
  obtain ⟨x1, h2, H⟩ := bind_some H
  refine go1 (op_mapUpdate xmt64 h2 (.t (has rfl)) (has rfl) (.t (has rfl)) (.int _ _)) rfl ?_
  refine goesO_nil ?_
  obtain rfl := Option.some.inj H
  exact ends_fall (n := 0) (ends_io rfl rfl rfl)
/-! smithy/walk.Fits -/
def walk_Fits.l0 (a0 : Plan) : Nat → ((GM (List ByteArray)) × Int) → Option (GM (List ByteArray))
  | 0, _ => none
  | k + 1, s4 => bif icmp .lss s4.2 (a0.Nodes.length : Int) then ((idx a0.Nodes s4.2).bind fun x8 => (gput s4.1 x8.Target x8.Needs).bind fun x10 => walk_Fits.l0 a0 k (x10, IntKind.i64.wrap (s4.2 + (1 : Int)))) else (some s4.1)
def walk_Fits.l1 (a1 : List ByteArray) (s5 : (GM (List ByteArray))) : Nat → ((GM Int) × Int) → Option (Except (Bool × Bool × Int) Unit)
  | 0, _ => none
  | k + 1, s14 => bif icmp .lss s14.2 (a1.length : Int) then ((idx a1 s14.2).bind fun x19 => ((walk_set_string_has.f (⟨s14.1⟩ : WalkSet_string_) x19).bind fun v23 => bif v23 then (some true) else ((gget s5 ([] : List ByteArray) x19).bind fun x26 => (slices_ContainsFunc_string_string.f k x26 (fun (z0 : ByteArray) => walk_Fits_1.f z0 (⟨s14.1⟩ : WalkSet_string_))).bind fun v28 => some v28)).bind fun s21 => bif s21 then (some (Except.error (false, false, (0 : Int)))) else ((walk_set_string_put.f s14.1 x19).bind fun x31 => walk_Fits.l1 a1 s5 k (x31, IntKind.i64.wrap (s14.2 + (1 : Int))))) else (some (Except.ok ()))
def walk_Fits.f (k : Nat) (a0 : Plan) (a1 : List ByteArray) : Option (Bool × Bool × Int) := (walk_asked.f k a0 a1).bind fun v1 => bif icmp .neq v1 (0 : Int) then (some (false, false, v1)) else ((walk_Fits.l0 a0 k ((gempty : GM (List ByteArray)), (0 : Int))).bind fun s5 => (walk_setOf_string.f k ([] : List ByteArray)).bind fun v12 => (walk_Fits.l1 a1 s5 k (v12, (0 : Int))).bind fun o17 => match o17 with | .error r' => some r' | .ok s15 => (some (true, icmp .eql (a1.length : Int) (a0.Nodes.length : Int), (0 : Int))))
set_option maxRecDepth 100000 in
set_option maxHeartbeats 4000000 in
theorem walk_Fits.con (k : Nat) (a0 : Plan) (a1 : List ByteArray) (r : Bool × Bool × Int) (H : walk_Fits.f k a0 a1 = some r) : Con Try.prog 10 [VA.k kPlan a0, VA.k (kslice kstr) a1] [VA.k kbool r.1, VA.k kbool r.2.1, VA.k (kint .i64) r.2.2] := by
  unfold walk_Fits.f at H
  refine con_enter Try.func10 rfl rfl rfl (fun w0 S0 θ => ?_)
  refine goes_seq ?_
  refine goes_region ?_
  refine go3 (op_box 2 rfl (fun h => by first | rfl | cases h) (.t (has rfl))) rfl ?_
  refine go1 (op_assign rfl (.bool _)) rfl ?_
  refine go1 (op_assign rfl (.bool _)) rfl ?_
  refine go1 (op_assign rfl (.int _ _)) rfl ?_
  refine goesO_nil ?_
  refine ends_then ?_
  refine goes_seq ?_
  refine goes_seq ?_
  refine goes_region ?_
  refine go1 (op_load rfl (Fld.whole kPlan) tk25 (.t (has rfl)) (has rfl)) rfl ?_
  refine go1 (op_move rfl (.t (has rfl))) rfl ?_
  obtain ⟨v1, h2, H⟩ := bind_some H
  refine go1 (op_call' rfl enters34 (walk_asked.con _ _ _ _ h2) rfl (.cons (ArgP.k (.t (has rfl))) (.cons (ArgP.k (.t (has rfl))) .nil))) rfl ?_
  refine go1 (op_assign rfl (.t (has rfl))) rfl ?_
  refine goesO_nil ?_
  refine ends_then ?_
  refine goes_seq ?_
  refine goes_region ?_
  refine go1 (op_move rfl (.t (has rfl))) rfl ?_
  refine go1 (op_icmp rfl rfl (.t (has rfl)) (.int _ _)) rfl ?_
  refine goesO_nil ?_
  refine ends_then ?_
  refine goes_if (.t (has rfl)) H (fun hb3 H => ?_) (fun hb3 H => ?_)
  · skip
    refine goes_seq ?_
    refine goes_region ?_
    refine go1 (op_move rfl (.t (has rfl))) rfl ?_
    refine go1 (op_assign rfl (.bool _)) rfl ?_
    refine go1 (op_assign rfl (.bool _)) rfl ?_
    refine go1 (op_assign rfl (.t (has rfl))) rfl ?_
    refine goesO_nil ?_
    refine ends_then ?_
    obtain rfl := Option.some.inj H
    exact goes_ret (ends_then_ret (ends_ret' rfl rfl (.t rfl (.t rfl (.t rfl (.nil _))))))
  · skip
    refine goes_skip ?_
    refine ends_then ?_
    refine goes_seq ?_
    refine goes_region ?_
    refine go3 (op_makeMap 9 (kslice kstr) 20 rfl) rfl ?_
    refine go1 (op_assignA rfl plain_mp (.t (has rfl))) rfl ?_
    refine goesO_nil ?_
    refine ends_then ?_
    refine goes_seq ?_
    refine goes_seq ?_
    refine goes_region ?_
    refine go1 (op_fieldAddr rfl Try.underlying25 rfl tk22 (.t (has rfl))) rfl ?_
    refine go1 (op_load rfl fldPlan_Nodes tk22 (.t (has rfl)) (has rfl)) rfl ?_
    refine go1 (op_len rfl rfl Try.underlying22 (.t (has rfl))) rfl ?_
    refine go1 (op_move rfl (.int _ _)) rfl ?_
    refine goesO_nil ?_
    refine ends_then ?_
    obtain ⟨s5, h6, H⟩ := bind_some H
    refine goes_cut [Ent.t 1 (VA.k (kslice kstr) a1), Ent.t 2 (VA.ptr 2 0), Ent.t 8 (VA.mp false 20), Ent.h 2 (HE.box 25 kPlan a0), Ent.h 20 (HE.map Try.prog 9 (kslice kstr) s5)] ?_ ?_
    · replace H := h6; clear h6
      refine goes_block ?_
      refine goes_loop (fun s4 : (GM (List ByteArray)) × Int => [Ent.t 1 (VA.k (kslice kstr) a1), Ent.t 2 (VA.ptr 2 0), Ent.t 8 (VA.mp false 20), Ent.t 22 (VA.k (kslice kNode) a0.Nodes), Ent.t 23 (VA.k (kint .i64) (a0.Nodes.length : Int)), Ent.t 24 (VA.k (kint .i64) s4.2), Ent.h 2 (HE.box 25 kPlan a0), Ent.h 20 (HE.map Try.prog 9 (kslice kstr) s4.1)]) (fun k s4 => walk_Fits.l0 a0 k s4) (fun _ => rfl) H (.cons rfl (.cons rfl (.cons rfl (.cons rfl (.cons rfl (.cons rfl (.cons rfl (.cons rfl .nil)))))))) ?_
      intro k s4 H
      simp only [walk_Fits.l0] at H
      refine goes_seq ?_
      refine goes_region ?_
      refine go1 (op_icmp rfl rfl (.t (has rfl)) (.t (has rfl))) rfl ?_
      refine goesO_nil ?_
      refine ends_then ?_
      refine goes_seq ?_
      refine goes_if (.t (has rfl)) H (fun hb7 H => ?_) (fun hb7 H => ?_)
      · skip
        refine goes_skip ?_
        refine ends_then ?_
        refine goes_seq ?_
        refine goes_block ?_
        refine goes_seq ?_
        refine goes_region ?_
        obtain ⟨x8, h9, H⟩ := bind_some H
        refine go1 (op_indexAddr rfl Try.underlying22 tk48 h9 (.t (has rfl)) (.t (has rfl))) rfl ?_
        refine go1 (op_loadp rfl tk48 (.t (has rfl))) rfl ?_
        refine go3 (op_alloc 10 rfl zk48) rfl ?_
        refine go1 (op_store (Fld.whole kNode) tk48 (.t (has rfl)) (has rfl) (.t (has rfl))) rfl ?_
        refine goesO_nil ?_
        refine ends_then ?_
        refine goes_region ?_
        refine go1 (op_moveA rfl plain_mp (.t (has rfl))) rfl ?_
        refine go1 (op_fieldAddr rfl Try.underlying48 rfl tk9 (.t (has rfl))) rfl ?_
        refine go1 (op_load rfl fldNode_Target tk9 (.t (has rfl)) (has rfl)) rfl ?_
        refine go1 (op_fieldAddr rfl Try.underlying48 rfl tk23 (.t (has rfl))) rfl ?_
        refine go1 (op_load rfl fldNode_Needs tk23 (.t (has rfl)) (has rfl)) rfl ?_
        obtain ⟨x10, h11, H⟩ := bind_some H
        refine go1 (op_mapUpdate xmt63 h11 (.t (has rfl)) (has rfl) (.t (has rfl)) (.t (has rfl))) rfl ?_
        refine goesO_nil ?_
        refine ends_block ?_
        refine ends_then ?_
        refine goes_region ?_
        refine go1 (op_add rfl (.t (has rfl)) (.int _ _)) rfl ?_
        refine go1 (op_move rfl (.t (has rfl))) rfl ?_
        refine goesO_nil ?_
        exact loop_next _ H (.cons rfl (.cons rfl (.cons rfl (.cons rfl (.cons rfl (.cons rfl (.cons rfl (.cons rfl .nil))))))))
      · skip
        refine goes_exit (ends_then_exit (ends_then_exit (ends_block_exit ?_)))
        obtain rfl := Option.some.inj H
        exact ends_cut (.cons rfl (.cons rfl (.cons rfl (.cons rfl (.cons rfl .nil)))))
    refine ends_then ?_
    refine goes_seq ?_
    refine goes_region ?_
    obtain ⟨v12, h13, H⟩ := bind_some H
    refine go1 (op_call' rfl enters35 (walk_setOf_string.con _ _ _ h13) rfl (.cons (ArgP.k (.nil _)) .nil)) rfl ?_
    refine goesO_adopt 34 34 rfl rfl ?_
    refine go3 (op_alloc_raw 11 rfl xaz66 rfl) rfl ?_
    refine go1 (op_store_mp xmz66 (.inl rfl) (.t (has rfl)) (has rfl) (.t (has rfl))) rfl ?_
    refine goesO_nil ?_
    refine ends_then ?_
    refine goes_seq ?_
    refine goes_seq ?_
    refine goes_region ?_
    refine go1 (op_move rfl (.t (has rfl))) rfl ?_
    refine go1 (op_len rfl rfl Try.underlying23 (.t (has rfl))) rfl ?_
    refine go1 (op_move rfl (.int _ _)) rfl ?_
    refine goesO_nil ?_
    refine ends_then ?_
    obtain ⟨o17, h16, H⟩ := bind_some H
    refine goes_cutR (o := o17) (fun s15 : Unit => [Ent.t 1 (VA.k (kslice kstr) a1), Ent.t 2 (VA.ptr 2 0), Ent.h 2 (HE.box 25 kPlan a0)]) (fun r a w => bodyPost Try.prog Try.f10 (CPost w0 S0 θ [VA.k kbool r.1, VA.k kbool r.2.1, VA.k (kint .i64) r.2.2]) .ret a w) ?_ ?_ ?_
    · replace H := h16; clear h16
      refine goes_block ?_
      refine goes_loop (fun s14 : (GM Int) × Int => [Ent.t 1 (VA.k (kslice kstr) a1), Ent.t 2 (VA.ptr 2 0), Ent.t 8 (VA.mp false 20), Ent.t 11 (VA.ptr 11 0), Ent.t 35 (VA.k (kslice kstr) a1), Ent.t 36 (VA.k (kint .i64) (a1.length : Int)), Ent.t 37 (VA.k (kint .i64) s14.2), Ent.h 2 (HE.box 25 kPlan a0), Ent.h 11 (HE.boxm 66 34), Ent.h 20 (HE.map Try.prog 9 (kslice kstr) s5), Ent.h 34 (HE.map Try.prog 9 (kint .i64) s14.1)]) (fun k s14 => walk_Fits.l1 a1 s5 k s14) (fun _ => rfl) H (.cons rfl (.cons rfl (.cons rfl (.cons rfl (.cons rfl (.cons rfl (.cons rfl (.cons rfl (.cons rfl (.cons rfl (.cons rfl .nil))))))))))) ?_
      intro k s14 H
      simp only [walk_Fits.l1] at H
      refine goes_seq ?_
      refine goes_region ?_
      refine go1 (op_icmp rfl rfl (.t (has rfl)) (.t (has rfl))) rfl ?_
      refine goesO_nil ?_
      refine ends_then ?_
      refine goes_seq ?_
      refine goes_if (.t (has rfl)) H (fun hb18 H => ?_) (fun hb18 H => ?_)
      · skip
        refine goes_skip ?_
        refine ends_then ?_
        refine goes_seq ?_
        refine goes_block ?_
        refine goes_seq ?_
        refine goes_region ?_
        obtain ⟨x19, h20, H⟩ := bind_some H
        refine go1 (op_indexAddr rfl Try.underlying23 tk9 h20 (.t (has rfl)) (.t (has rfl))) rfl ?_
        refine go1 (op_loadp rfl tk9 (.t (has rfl))) rfl ?_
        refine go1 (op_assign rfl (.t (has rfl))) rfl ?_
        refine goesO_nil ?_
        refine ends_then ?_
        refine goes_seq ?_
        refine goes_seq ?_
        obtain ⟨s21, h22, H⟩ := bind_some H
        refine goes_cut [Ent.t 1 (VA.k (kslice kstr) a1), Ent.t 2 (VA.ptr 2 0), Ent.t 8 (VA.mp false 20), Ent.t 11 (VA.ptr 11 0), Ent.t 13 (VA.k kstr x19), Ent.t 35 (VA.k (kslice kstr) a1), Ent.t 36 (VA.k (kint .i64) (a1.length : Int)), Ent.t 37 (VA.k (kint .i64) s14.2), Ent.t 50 (VA.k kbool s21), Ent.h 2 (HE.box 25 kPlan a0), Ent.h 11 (HE.boxm 66 34), Ent.h 20 (HE.map Try.prog 9 (kslice kstr) s5), Ent.h 34 (HE.map Try.prog 9 (kint .i64) s14.1)] ?_ ?_
        · replace H := h22; clear h22
          refine goes_region ?_
          refine go1 (op_load_mp rfl xmz66 (.t (has rfl)) (has rfl)) rfl ?_
          refine go1 (op_move rfl (.t (has rfl))) rfl ?_
          obtain ⟨v23, h24, H⟩ := bind_some H
          refine go1 (op_callF' rfl enters36 (walk_set_string_has.conF _ _ _ h24) rfl (.cons (ArgB.mps (.t (has rfl)) (has rfl) rfl) (.cons (ArgB.k (.t (has rfl))) .nil))) rfl ?_
          refine go1 (op_move rfl (.t (has rfl))) rfl ?_
          refine goesO_split H (fun hb25 H => ?_) (fun hb25 H => ?_)
          · skip
            refine goS rfl rfl rfl rfl rfl rfl hb25 ?_
            refine goS rfl rfl rfl rfl rfl rfl hb25 ?_
            refine goS rfl rfl rfl rfl rfl rfl hb25 ?_
            refine goS rfl rfl rfl rfl rfl rfl hb25 ?_
            refine goS rfl rfl rfl rfl rfl rfl hb25 ?_
            refine go1 (op_pick_t rfl hb25 (.t (has rfl)) (.bool _)) rfl ?_
            refine goesO_nil ?_
            obtain rfl := Option.some.inj H
            exact ends_cut (.cons rfl (.cons rfl (.cons rfl (.cons rfl (.cons rfl (.cons rfl (.cons rfl (.cons rfl (.cons rfl (.cons rfl (.cons rfl (.cons rfl (.cons rfl .nil)))))))))))))
          · skip
            refine goG (op_moveA rfl plain_mp (.t (has rfl))) rfl rfl rfl rfl hb25 ?_
            refine goG (op_move rfl (.t (has rfl))) rfl rfl rfl rfl hb25 ?_
            obtain ⟨x26, h27, H⟩ := bind_some H
            refine goG (op_lookup rfl xmt63 h27 (.t (has rfl)) (has rfl) (.t (has rfl))) rfl rfl rfl rfl hb25 ?_
            refine goG (op_makeFunc (ys := []) (xs := [11]) rfl rfl rfl rfl) rfl rfl rfl rfl hb25 ?_
            obtain ⟨v28, h29, H⟩ := bind_some H
            refine goG (op_callF' rfl enters37 (slices_ContainsFunc_string_string.conF 38 ([]) ([VA.pt kWalkSet_string_ (⟨s14.1⟩ : WalkSet_string_)]) _ _ (fun (z0 : ByteArray) => walk_Fits_1.f z0 (⟨s14.1⟩ : WalkSet_string_)) enters38 (fun z0 r h => walk_Fits_1.con z0 (⟨s14.1⟩ : WalkSet_string_) r h) _ h29) rfl (.cons (ArgB.k (.t (has rfl))) (.cons (ArgB.mf rfl rfl (has rfl) .nil (.cons (ArgB.ptm (.t (has rfl)) (has rfl) (has rfl) rfl) .nil)) .nil))) rfl rfl rfl rfl hb25 ?_
            refine go1 (op_pick_f rfl hb25 (.t (has rfl)) (.t (has rfl))) rfl ?_
            refine goesO_nil ?_
            obtain rfl := Option.some.inj H
            exact ends_cut (.cons rfl (.cons rfl (.cons rfl (.cons rfl (.cons rfl (.cons rfl (.cons rfl (.cons rfl (.cons rfl (.cons rfl (.cons rfl (.cons rfl (.cons rfl .nil)))))))))))))
        refine ends_then ?_
        refine goes_if (.t (has rfl)) H (fun hb30 H => ?_) (fun hb30 H => ?_)
        · skip
          refine goes_seq ?_
          refine goes_region ?_
          refine go1 (op_assign rfl (.bool _)) rfl ?_
          refine go1 (op_assign rfl (.bool _)) rfl ?_
          refine go1 (op_assign rfl (.int _ _)) rfl ?_
          refine goesO_nil ?_
          refine ends_then ?_
          obtain rfl := Option.some.inj H
          refine goes_ret (ends_then_ret (ends_block_ret (ends_then_ret (ends_then_ret (ends_block_ret (ends_cutR_ret rfl ?_))))))
          exact ends_ret' rfl rfl (.t rfl (.t rfl (.t rfl (.nil _))))
        · skip
          refine goes_skip ?_
          refine ends_then ?_
          refine goes_region ?_
          refine go1 (op_load_mp rfl xmz66 (.t (has rfl)) (has rfl)) rfl ?_
          refine go1 (op_move rfl (.t (has rfl))) rfl ?_
          obtain ⟨x31, h32, H⟩ := bind_some H
          refine go2 (op_callIO rfl enters39 (walk_set_string_put.con _ _ _ h32) (.t (has rfl)) (has rfl) (.cons (ArgP.k (.t (has rfl))) .nil)) rfl ?_
          refine goesO_nil ?_
          refine ends_block ?_
          refine ends_then ?_
          refine goes_region ?_
          refine go1 (op_add rfl (.t (has rfl)) (.int _ _)) rfl ?_
          refine go1 (op_move rfl (.t (has rfl))) rfl ?_
          refine goesO_nil ?_
          exact loop_next _ H (.cons rfl (.cons rfl (.cons rfl (.cons rfl (.cons rfl (.cons rfl (.cons rfl (.cons rfl (.cons rfl (.cons rfl (.cons rfl .nil)))))))))))
      · skip
        refine goes_exit (ends_then_exit (ends_then_exit (ends_block_exit ?_)))
        obtain rfl := Option.some.inj H
        exact ends_cutR rfl (.cons rfl (.cons rfl (.cons rfl .nil)))
    · rintro s15 rfl
      clear h16
      dsimp only at H
      refine ends_then ?_
      refine goes_seq ?_
      refine goes_drawn [[Ent.t 55 (VA.k (kslice kstr) a1)], [Ent.t 56 (VA.k (kint .i64) (a1.length : Int))], [Ent.t 57 (VA.ptr 2 0)], [Ent.t 58 (VA.k (kslice kNode) a0.Nodes)], [Ent.t 59 (VA.k (kint .i64) (a0.Nodes.length : Int))], [Ent.t 60 (VA.k kbool (icmp .eql (a1.length : Int) (a0.Nodes.length : Int)))], [Ent.t 4 (VA.k kbool true)], [Ent.t 5 (VA.k kbool (icmp .eql (a1.length : Int) (a0.Nodes.length : Int)))], [Ent.t 6 (VA.k (kint .i64) (0 : Int))]] mixed (by kernel_rfl) (by kernel_rfl) (.cons [(none, Ent.t 1 (VA.k (kslice kstr) a1))] (OpSpec.run rfl rfl (op_move rfl (.t NL.h0)) rfl) (.cons (has rfl) .nil) (by kernel_rfl) (.cons [(some 0, Ent.t 55 (VA.k (kslice kstr) a1))] (OpSpec.run rfl rfl (op_len rfl rfl Try.underlying23 (.t NL.h0)) rfl) (.cons (has rfl) .nil) (by kernel_rfl) (.cons [(none, Ent.t 2 (VA.ptr 2 0))] (OpSpec.run rfl rfl (op_fieldAddr rfl Try.underlying25 rfl tk22 (.t NL.h0)) rfl) (.cons (has rfl) .nil) (by kernel_rfl) (.cons [(some 2, Ent.t 57 (VA.ptr 2 0)), (none, Ent.h 2 (HE.box 25 kPlan a0))] (OpSpec.run rfl rfl (op_load rfl fldPlan_Nodes tk22 (.t NL.h0) (NL.hs NL.h0)) rfl) (.cons (has rfl) (.cons (has rfl) .nil)) (by kernel_rfl) (.cons [(some 3, Ent.t 58 (VA.k (kslice kNode) a0.Nodes))] (OpSpec.run rfl rfl (op_len rfl rfl Try.underlying22 (.t NL.h0)) rfl) (.cons (has rfl) .nil) (by kernel_rfl) (.cons [(some 1, Ent.t 56 (VA.k (kint .i64) (a1.length : Int))), (some 4, Ent.t 59 (VA.k (kint .i64) (a0.Nodes.length : Int)))] (OpSpec.run rfl rfl (op_icmp rfl rfl (.t NL.h0) (.t (NL.hs NL.h0))) rfl) (.cons (has rfl) (.cons (has rfl) .nil)) (by kernel_rfl) (.cons [] (OpSpec.run rfl rfl (op_assign rfl (.bool _)) rfl) .nil (by kernel_rfl) (.cons [(some 5, Ent.t 60 (VA.k kbool (icmp .eql (a1.length : Int) (a0.Nodes.length : Int))))] (OpSpec.run rfl rfl (op_assign rfl (.t NL.h0)) rfl) (.cons (has rfl) .nil) (by kernel_rfl) (.cons [] (OpSpec.run rfl rfl (op_assign rfl (.int _ _)) rfl) .nil (by kernel_rfl) (.nil _)))))))))) ?_
      refine ends_sub [Ent.t 4 (VA.k kbool true), Ent.t 5 (VA.k kbool (icmp .eql (a1.length : Int) (a0.Nodes.length : Int))), Ent.t 6 (VA.k (kint .i64) (0 : Int))] (.cons rfl (.cons rfl (.cons rfl .nil))) ?_
      refine ends_then ?_
      obtain rfl := Option.some.inj H
      exact goes_ret (ends_ret' rfl rfl (.t rfl (.t rfl (.t rfl (.nil _)))))
    · rintro r' rfl a w hr
      obtain rfl := Option.some.inj H
      exact hr
theorem walk_Fits.conF (k : Nat) (a0 : Plan) (a1 : List ByteArray) (r : Bool × Bool × Int) (H : walk_Fits.f k a0 a1 = some r) : ConF Try.prog 10 [VA.k kPlan a0, VA.k (kslice kstr) a1] [VA.k kbool r.1, VA.k kbool r.2.1, VA.k (kint .i64) r.2.2] := (walk_Fits.con k a0 a1 r H).freeL (.cons (KFree.k KFree.bool _) (.cons (KFree.k KFree.bool _) (.cons (KFree.k (KFree.int .i64) _) .nil)))
/-! smithy/walk.next$1 -/
def walk_next_1.f (a0 : ByteArray) (c0 : WalkSet_string_) : Option Bool := (walk_set_string_has.f c0 a0).bind fun v1 => some (!v1)
set_option maxRecDepth 100000 in
set_option maxHeartbeats 4000000 in
theorem walk_next_1.con (a0 : ByteArray) (c0 : WalkSet_string_) (r : Bool) (H : walk_next_1.f a0 c0 = some r) : Con Try.prog 58 [VA.k kstr a0, VA.pt kWalkSet_string_ c0] [VA.k kbool r] := by
  unfold walk_next_1.f at H
  refine con_enter Try.func58 rfl rfl rfl (fun w0 S0 θ => ?_)
  refine goes_seq ?_
  refine goes_region ?_
  refine go1 (op_assign rfl (.bool _)) rfl ?_
  refine goesO_nil ?_
  refine ends_then ?_
  refine goes_seq ?_
  refine goes_region ?_
  refine go1 (op_loadp rfl tk66 (.t (has rfl))) rfl ?_
  refine go1 (op_move rfl (.t (has rfl))) rfl ?_
  obtain ⟨v1, h2, H⟩ := bind_some H
  refine go1 (op_call' rfl enters36 (walk_set_string_has.con _ _ _ h2) rfl (.cons (ArgP.k (.t (has rfl))) (.cons (ArgP.k (.t (has rfl))) .nil))) rfl ?_
  refine go1 (op_not rfl (.t (has rfl))) rfl ?_
  refine go1 (op_assign rfl (.t (has rfl))) rfl ?_
  refine goesO_nil ?_
  refine ends_then ?_
  obtain rfl := Option.some.inj H
  exact goes_ret (ends_ret' rfl rfl (.t rfl (.nil _)))
theorem walk_next_1.conF (a0 : ByteArray) (c0 : WalkSet_string_) (r : Bool) (H : walk_next_1.f a0 c0 = some r) : ConF Try.prog 58 [VA.k kstr a0, VA.pt kWalkSet_string_ c0] [VA.k kbool r] := (walk_next_1.con a0 c0 r H).freeL (.cons (KFree.k KFree.bool _) .nil)
/-! smithy/walk.next -/
def walk_next.l0 (a0 : Plan) (a1 : WalkSet_string_) : Nat → ((List ByteArray) × Int) → Option (List ByteArray)
  | 0, _ => none
  | k + 1, s1 => bif icmp .lss s1.2 (a0.Nodes.length : Int) then (((idx a0.Nodes s1.2).bind fun x7 => ((walk_set_string_has.f a1 x7.Target).bind fun v11 => bif !v11 then ((slices_ContainsFunc_string_string.f k x7.Needs (fun (z0 : ByteArray) => walk_next_1.f z0 a1)).bind fun v14 => some (!v14)) else (some false)).bind fun s9 => bif s9 then ((app 16 s1.1 ([x7.Target])).bind fun x17 => some x17) else (some s1.1)).bind fun s5 => walk_next.l0 a0 a1 k (s5, IntKind.i64.wrap (s1.2 + (1 : Int)))) else (some s1.1)
def walk_next.f (k : Nat) (a0 : Plan) (a1 : WalkSet_string_) : Option (List ByteArray) := (walk_next.l0 a0 a1 k (([] : List ByteArray), (0 : Int))).bind fun s2 => some s2
set_option maxRecDepth 100000 in
set_option maxHeartbeats 4000000 in
theorem walk_next.con (k : Nat) (a0 : Plan) (a1 : WalkSet_string_) (r : List ByteArray) (H : walk_next.f k a0 a1 = some r) : Con Try.prog 40 [VA.k kPlan a0, VA.k kWalkSet_string_ a1] [VA.own 9 kstr r] := by
  unfold walk_next.f at H
  refine con_enter Try.func40 rfl rfl rfl (fun w0 S0 θ => ?_)
  refine goes_seq ?_
  refine goes_region ?_
  refine go3 (op_box 2 rfl (fun h => by first | rfl | cases h) (.t (has rfl))) rfl ?_
  refine go3 (op_box 3 rfl (fun h => by first | rfl | cases h) (.t (has rfl))) rfl ?_
  refine go1 (op_assign_nil 9 kstr (.inr rfl) rfl) rfl ?_
  refine goesO_nil ?_
  refine ends_then ?_
  refine goes_seq ?_
  refine goes_region ?_
  refine go1 (op_assign_nil 9 kstr (.inr rfl) rfl) rfl ?_
  refine goesO_nil ?_
  refine ends_then ?_
  refine goes_seq ?_
  refine goes_seq ?_
  refine goes_region ?_
  refine go1 (op_fieldAddr rfl Try.underlying25 rfl tk22 (.t (has rfl))) rfl ?_
  refine go1 (op_load rfl fldPlan_Nodes tk22 (.t (has rfl)) (has rfl)) rfl ?_
  refine go1 (op_len rfl rfl Try.underlying22 (.t (has rfl))) rfl ?_
  refine go1 (op_move rfl (.int _ _)) rfl ?_
  refine goesO_nil ?_
  refine ends_then ?_
  obtain ⟨s2, h3, H⟩ := bind_some H
  refine goes_cut [Ent.t 5 (VA.own 9 kstr s2)] ?_ ?_
  · replace H := h3; clear h3
    refine goes_block ?_
    refine goes_loop (fun s1 : (List ByteArray) × Int => [Ent.t 3 (VA.ptr 3 0), Ent.t 5 (VA.own 9 kstr s1.1), Ent.t 9 (VA.k (kslice kNode) a0.Nodes), Ent.t 10 (VA.k (kint .i64) (a0.Nodes.length : Int)), Ent.t 11 (VA.k (kint .i64) s1.2), Ent.h 3 (HE.box 66 kWalkSet_string_ a1)]) (fun k s1 => walk_next.l0 a0 a1 k s1) (fun _ => rfl) H (.cons rfl (.cons rfl (.cons rfl (.cons rfl (.cons rfl (.cons rfl .nil)))))) ?_
    intro k s1 H
    simp only [walk_next.l0] at H
    refine goes_seq ?_
    refine goes_region ?_
    refine go1 (op_icmp rfl rfl (.t (has rfl)) (.t (has rfl))) rfl ?_
    refine goesO_nil ?_
    refine ends_then ?_
    refine goes_seq ?_
    refine goes_if (.t (has rfl)) H (fun hb4 H => ?_) (fun hb4 H => ?_)
    · skip
      refine goes_skip ?_
      refine ends_then ?_
      refine goes_seq ?_
      obtain ⟨s5, h6, H⟩ := bind_some H
      refine goes_cut [Ent.t 3 (VA.ptr 3 0), Ent.t 5 (VA.own 9 kstr s5), Ent.t 9 (VA.k (kslice kNode) a0.Nodes), Ent.t 10 (VA.k (kint .i64) (a0.Nodes.length : Int)), Ent.t 11 (VA.k (kint .i64) s1.2), Ent.h 3 (HE.box 66 kWalkSet_string_ a1)] ?_ ?_
      · replace H := h6; clear h6
        refine goes_block ?_
        refine goes_seq ?_
        refine goes_region ?_
        obtain ⟨x7, h8, H⟩ := bind_some H
        refine go1 (op_indexAddr rfl Try.underlying22 tk48 h8 (.t (has rfl)) (.t (has rfl))) rfl ?_
        refine go1 (op_loadp rfl tk48 (.t (has rfl))) rfl ?_
        refine go3 (op_alloc 7 rfl zk48) rfl ?_
        refine go1 (op_store (Fld.whole kNode) tk48 (.t (has rfl)) (has rfl) (.t (has rfl))) rfl ?_
        refine goesO_nil ?_
        refine ends_then ?_
        refine goes_seq ?_
        obtain ⟨s9, h10, H⟩ := bind_some H
        refine goes_cut [Ent.t 3 (VA.ptr 3 0), Ent.t 5 (VA.own 9 kstr s1.1), Ent.t 7 (VA.ptr 7 0), Ent.t 9 (VA.k (kslice kNode) a0.Nodes), Ent.t 10 (VA.k (kint .i64) (a0.Nodes.length : Int)), Ent.t 11 (VA.k (kint .i64) s1.2), Ent.t 26 (VA.k kbool s9), Ent.h 3 (HE.box 66 kWalkSet_string_ a1), Ent.h 7 (HE.box 48 kNode x7)] ?_ ?_
        · replace H := h10; clear h10
          refine goes_region ?_
          refine go1 (op_load rfl (Fld.whole kWalkSet_string_) tk66 (.t (has rfl)) (has rfl)) rfl ?_
          refine go1 (op_fieldAddr rfl Try.underlying48 rfl tk9 (.t (has rfl))) rfl ?_
          refine go1 (op_load rfl fldNode_Target tk9 (.t (has rfl)) (has rfl)) rfl ?_
          obtain ⟨v11, h12, H⟩ := bind_some H
          refine go1 (op_call' rfl enters36 (walk_set_string_has.con _ _ _ h12) rfl (.cons (ArgP.k (.t (has rfl))) (.cons (ArgP.k (.t (has rfl))) .nil))) rfl ?_
          refine go1 (op_not rfl (.t (has rfl))) rfl ?_
          refine go1 (op_move rfl (.t (has rfl))) rfl ?_
          refine goesO_split H (fun hb13 H => ?_) (fun hb13 H => ?_)
          · skip
            refine goG (op_fieldAddr rfl Try.underlying48 rfl tk23 (.t (has rfl))) rfl rfl rfl rfl hb13 ?_
            refine goG (op_load rfl fldNode_Needs tk23 (.t (has rfl)) (has rfl)) rfl rfl rfl rfl hb13 ?_
            refine goG (op_makeFunc (ys := []) (xs := [3]) rfl rfl rfl rfl) rfl rfl rfl rfl hb13 ?_
            obtain ⟨v14, h15, H⟩ := bind_some H
            refine goG (op_callF' rfl enters37 (slices_ContainsFunc_string_string.conF 58 ([]) ([VA.pt kWalkSet_string_ a1]) _ _ (fun (z0 : ByteArray) => walk_next_1.f z0 a1) enters58 (fun z0 r h => walk_next_1.con z0 a1 r h) _ h15) rfl (.cons (ArgB.k (.t (has rfl))) (.cons (ArgB.mf rfl rfl (has rfl) .nil (.cons (ArgB.ptk (Fld.whole kWalkSet_string_) (.t (has rfl)) (has rfl)) .nil)) .nil))) rfl rfl rfl rfl hb13 ?_
            refine goG (op_not rfl (.t (has rfl))) rfl rfl rfl rfl hb13 ?_
            refine go1 (op_pick_t rfl hb13 (.t (has rfl)) (.t (has rfl))) rfl ?_
            refine goesO_nil ?_
            obtain rfl := Option.some.inj H
            exact ends_cut (.cons rfl (.cons rfl (.cons rfl (.cons rfl (.cons rfl (.cons rfl (.cons rfl (.cons rfl (.cons rfl .nil)))))))))
          · skip
            refine goS rfl rfl rfl rfl rfl rfl hb13 ?_
            refine goS rfl rfl rfl rfl rfl rfl hb13 ?_
            refine goS rfl rfl rfl rfl rfl rfl hb13 ?_
            refine goS rfl rfl rfl rfl rfl rfl hb13 ?_
            refine goS rfl rfl rfl rfl rfl rfl hb13 ?_
            refine go1 (op_pick_f rfl hb13 (.t (has rfl)) (.bool _)) rfl ?_
            refine goesO_nil ?_
            obtain rfl := Option.some.inj H
            exact ends_cut (.cons rfl (.cons rfl (.cons rfl (.cons rfl (.cons rfl (.cons rfl (.cons rfl (.cons rfl (.cons rfl .nil)))))))))
        refine ends_then ?_
        refine goes_if (.t (has rfl)) H (fun hb16 H => ?_) (fun hb16 H => ?_)
        · skip
          refine goes_region ?_
          refine go2 (op_mv (.inl rfl) rfl rfl (has rfl)) rfl ?_
          refine go1 (op_fieldAddr rfl Try.underlying48 rfl tk9 (.t (has rfl))) rfl ?_
          refine go1 (op_load rfl fldNode_Target tk9 (.t (has rfl)) (has rfl)) rfl ?_
          refine go1 (op_buildSlice rfl at23 (fun h => by first | rfl | cases h) rfl rfl rfl (.cons (.t (has rfl)) (.nil _))) rfl ?_
          obtain ⟨x17, h18, H⟩ := bind_some H
          refine go2 (op_append rfl rfl at23 h18 (has rfl) (ReadsArg.own (.t (has rfl)))) rfl ?_
          refine go2 (op_mv (.inr rfl) rfl rfl (has rfl)) rfl ?_
          refine goesO_nil ?_
          refine ends_block ?_
          obtain rfl := Option.some.inj H
          exact ends_cut (.cons rfl (.cons rfl (.cons rfl (.cons rfl (.cons rfl (.cons rfl .nil))))))
        · skip
          refine goes_skip ?_
          refine ends_block ?_
          obtain rfl := Option.some.inj H
          exact ends_cut (.cons rfl (.cons rfl (.cons rfl (.cons rfl (.cons rfl (.cons rfl .nil))))))
      refine ends_then ?_
      refine goes_region ?_
      refine go1 (op_add rfl (.t (has rfl)) (.int _ _)) rfl ?_
      refine go1 (op_move rfl (.t (has rfl))) rfl ?_
      refine goesO_nil ?_
      exact loop_next _ H (.cons rfl (.cons rfl (.cons rfl (.cons rfl (.cons rfl (.cons rfl .nil))))))
    · skip
      refine goes_exit (ends_then_exit (ends_then_exit (ends_block_exit ?_)))
      obtain rfl := Option.some.inj H
      exact ends_cut (.cons rfl .nil)
  refine ends_then ?_
  refine goes_seq ?_
  refine goes_region ?_
  refine go2 (op_mv (.inl rfl) rfl rfl (has rfl)) rfl ?_
  refine go2 (op_mv (.inr rfl) rfl rfl (has rfl)) rfl ?_
  refine goesO_nil ?_
  refine ends_then ?_
  obtain rfl := Option.some.inj H
  exact goes_ret (ends_ret' rfl rfl (.t rfl (.nil _)))
theorem walk_next.conF (k : Nat) (a0 : Plan) (a1 : WalkSet_string_) (r : List ByteArray) (H : walk_next.f k a0 a1 = some r) : ConF Try.prog 40 [VA.k kPlan a0, VA.k kWalkSet_string_ a1] [VA.own 9 kstr r] := (walk_next.con k a0 a1 r H).freeL (.cons (KFree.own KFree.str _ _) .nil)
/-! smithy/walk.Next -/
def walk_Next.f (k : Nat) (a0 : Plan) (a1 : List ByteArray) : Option ((List ByteArray) × Int) := (walk_asked.f k a0 a1).bind fun v1 => bif icmp .neq v1 (0 : Int) then (some (([] : List ByteArray), v1)) else ((walk_setOf_string.f k a1).bind fun v4 => (walk_next.f k a0 (⟨v4⟩ : WalkSet_string_)).bind fun v6 => some (v6, (0 : Int)))
set_option maxRecDepth 100000 in
set_option maxHeartbeats 4000000 in
theorem walk_Next.con (k : Nat) (a0 : Plan) (a1 : List ByteArray) (r : (List ByteArray) × Int) (H : walk_Next.f k a0 a1 = some r) : Con Try.prog 11 [VA.k kPlan a0, VA.k (kslice kstr) a1] [VA.own 9 kstr r.1, VA.k (kint .i64) r.2] := by
  unfold walk_Next.f at H
  refine con_enter Try.func11 rfl rfl rfl (fun w0 S0 θ => ?_)
  refine goes_seq ?_
  refine goes_region ?_
  refine go3 (op_box 2 rfl (fun h => by first | rfl | cases h) (.t (has rfl))) rfl ?_
  refine go1 (op_assign_nil 9 kstr (.inr rfl) rfl) rfl ?_
  refine go1 (op_assign rfl (.int _ _)) rfl ?_
  refine goesO_nil ?_
  refine ends_then ?_
  refine goes_seq ?_
  refine goes_seq ?_
  refine goes_region ?_
  refine go1 (op_load rfl (Fld.whole kPlan) tk25 (.t (has rfl)) (has rfl)) rfl ?_
  refine go1 (op_move rfl (.t (has rfl))) rfl ?_
  obtain ⟨v1, h2, H⟩ := bind_some H
  refine go1 (op_call' rfl enters34 (walk_asked.con _ _ _ _ h2) rfl (.cons (ArgP.k (.t (has rfl))) (.cons (ArgP.k (.t (has rfl))) .nil))) rfl ?_
  refine go1 (op_assign rfl (.t (has rfl))) rfl ?_
  refine goesO_nil ?_
  refine ends_then ?_
  refine goes_seq ?_
  refine goes_region ?_
  refine go1 (op_move rfl (.t (has rfl))) rfl ?_
  refine go1 (op_icmp rfl rfl (.t (has rfl)) (.int _ _)) rfl ?_
  refine goesO_nil ?_
  refine ends_then ?_
  refine goes_if (.t (has rfl)) H (fun hb3 H => ?_) (fun hb3 H => ?_)
  · skip
    refine goes_seq ?_
    refine goes_region ?_
    refine go1 (op_move rfl (.t (has rfl))) rfl ?_
    refine go1 (op_assign_nil 9 kstr (.inr rfl) rfl) rfl ?_
    refine go1 (op_assign rfl (.t (has rfl))) rfl ?_
    refine goesO_nil ?_
    refine ends_then ?_
    obtain rfl := Option.some.inj H
    exact goes_ret (ends_then_ret (ends_ret' rfl rfl (.t rfl (.t rfl (.nil _)))))
  · skip
    refine goes_skip ?_
    refine ends_then ?_
    refine goes_seq ?_
    obtain ⟨v4, h5, H⟩ := bind_some H
    obtain ⟨v6, h7, H⟩ := bind_some H
    refine goes_drawn [[Ent.t 13 (VA.k kPlan a0)], [Ent.t 14 (VA.k (kslice kstr) a1)], [Ent.t 15 (VA.om Try.prog 9 (kint .i64) true v4)], [Ent.t 16 (VA.own 9 kstr v6)], [Ent.t 4 (VA.own 9 kstr v6), Ent.t 16 (VA.any)], [Ent.t 5 (VA.k (kint .i64) (0 : Int))]] mixed (by kernel_rfl) (by kernel_rfl) (.cons [(none, Ent.t 2 (VA.ptr 2 0)), (none, Ent.h 2 (HE.box 25 kPlan a0))] (OpSpec.run rfl rfl (op_load rfl (Fld.whole kPlan) tk25 (.t NL.h0) (NL.hs NL.h0)) rfl) (.cons (has rfl) (.cons (has rfl) .nil)) (by kernel_rfl) (.cons [(none, Ent.t 1 (VA.k (kslice kstr) a1))] (OpSpec.run rfl rfl (op_move rfl (.t NL.h0)) rfl) (.cons (has rfl) .nil) (by kernel_rfl) (.cons [(some 1, Ent.t 14 (VA.k (kslice kstr) a1))] (OpSpec.run rfl rfl (op_call' rfl enters35 (walk_setOf_string.con _ _ _ h5) rfl (.cons (ArgP.k (.t NL.h0)) .nil)) rfl) (.cons (has rfl) .nil) (by kernel_rfl) (.cons [(some 0, Ent.t 13 (VA.k kPlan a0)), (some 2, Ent.t 15 (VA.om Try.prog 9 (kint .i64) true v4))] (OpSpec.run rfl rfl (op_callF' rfl enters40 (walk_next.conF _ _ _ _ h7) rfl (.cons (ArgB.k (.t NL.h0)) (.cons (ArgB.oms (NL.hs NL.h0) rfl) .nil))) rfl) (.cons (has rfl) (.cons (has rfl) .nil)) (by kernel_rfl) (.cons [(some 3, Ent.t 16 (VA.own 9 kstr v6))] (OpSpec.run rfl rfl (op_mv (.inr rfl) rfl rfl NL.h0) rfl) (.cons (has rfl) .nil) (by kernel_rfl) (.cons [] (OpSpec.run rfl rfl (op_assign rfl (.int _ _)) rfl) .nil (by kernel_rfl) (.nil _))))))) ?_
    refine ends_sub [Ent.t 4 (VA.own 9 kstr v6), Ent.t 5 (VA.k (kint .i64) (0 : Int))] (.cons rfl (.cons rfl .nil)) ?_
    refine ends_then ?_
    obtain rfl := Option.some.inj H
    exact goes_ret (ends_ret' rfl rfl (.t rfl (.t rfl (.nil _))))
theorem walk_Next.conF (k : Nat) (a0 : Plan) (a1 : List ByteArray) (r : (List ByteArray) × Int) (H : walk_Next.f k a0 a1 = some r) : ConF Try.prog 11 [VA.k kPlan a0, VA.k (kslice kstr) a1] [VA.own 9 kstr r.1, VA.k (kint .i64) r.2] := (walk_Next.con k a0 a1 r H).freeL (.cons (KFree.own KFree.str _ _) (.cons (KFree.k (KFree.int .i64) _) .nil))
end Go.Proofs.Ytedgkcdofiildaa.F
