import Derived.Test.YtedgkcdofiildaaFSx3
set_option linter.unusedVariables false
set_option linter.unusedSimpArgs false
set_option linter.unnecessarySimpa false
set_option linter.deprecated false
namespace Go.Proofs.Ytedgkcdofiildaa.F
open Go Go.RowKit Go.Proofs.Ytedgkcdofiildaa.Sl
/-! smithy/walk.Choose -/
def walk_Choose.l0 (a0 : Plan) (a1 : List Int) : Nat → ((GM Int) × (List ByteArray) × Int) → Option (List ByteArray)
  | 0, _ => none
  | k + 1, s7 => bif icmp .lss s7.2.2 (a1.length : Int) then ((idx a1 s7.2.2).bind fun x11 => (walk_next.f k a0 (⟨s7.1⟩ : WalkSet_string_)).bind fun v13 => bif icmp .eql (v13.length : Int) (0 : Int) then (some s7.2.1) else ((divok (v13.length : Int)).bind fun z16 => (bif icmp .lss (Int.tmod x11 (v13.length : Int)) (0 : Int) then (some (IntKind.i64.wrap (Int.tmod x11 (v13.length : Int) + (v13.length : Int)))) else (some (Int.tmod x11 (v13.length : Int)))).bind fun s18 => (idx v13 s18).bind fun x21 => (app 16 s7.2.1 ([x21])).bind fun x23 => (idx v13 s18).bind fun x25 => (walk_set_string_put.f s7.1 x25).bind fun x27 => walk_Choose.l0 a0 a1 k (x27, x23, IntKind.i64.wrap (s7.2.2 + (1 : Int))))) else (some s7.2.1)
def walk_Choose.f (k : Nat) (a0 : Plan) (a1 : List Int) : Option ((List ByteArray) × Int) := (walk_asked.f k a0 ([] : List ByteArray)).bind fun v1 => bif icmp .neq v1 (0 : Int) then (some (([] : List ByteArray), v1)) else (bif icmp .gtr (a1.length : Int) (256 : Int) then (some (([] : List ByteArray), (2 : Int))) else ((walk_setOf_string.f k ([] : List ByteArray)).bind fun v5 => (walk_Choose.l0 a0 a1 k (v5, ([] : List ByteArray), (0 : Int))).bind fun s8 => some (s8, (0 : Int))))
set_option maxRecDepth 100000 in
set_option maxHeartbeats 4000000 in
theorem walk_Choose.con (k : Nat) (a0 : Plan) (a1 : List Int) (r : (List ByteArray) × Int) (H : walk_Choose.f k a0 a1 = some r) : Con Try.prog 19 [VA.k kPlan a0, VA.k (kslice (kint .i64)) a1] [VA.own 9 kstr r.1, VA.k (kint .i64) r.2] := by
  unfold walk_Choose.f at H
  refine con_enter Try.func19 rfl rfl rfl (fun w0 S0 θ => ?_)
  refine goes_seq ?_
  refine goes_region ?_
  refine go3 (op_box 2 rfl (fun h => by first | rfl | cases h) (.t (has rfl))) rfl ?_
  refine go1 (op_assign_nil 9 kstr (.inr rfl) rfl) rfl ?_
  refine go1 (op_assign rfl (.int _ _)) rfl ?_
  refine goesO_nil ?_
  refine ends_then ?_
  refine goes_seq ?_
  refine goes_seq ?_
  refine goes_region ?_
  refine go1 (op_load rfl (Fld.whole kPlan) tk25 (.t (has rfl)) (has rfl)) rfl ?_
  obtain ⟨v1, h2, H⟩ := bind_some H
  refine go1 (op_call' rfl enters34 (walk_asked.con _ _ _ _ h2) rfl (.cons (ArgP.k (.t (has rfl))) (.cons (ArgP.k (.nil _)) .nil))) rfl ?_
  refine go1 (op_assign rfl (.t (has rfl))) rfl ?_
  refine goesO_nil ?_
  refine ends_then ?_
  refine goes_seq ?_
  refine goes_region ?_
  refine go1 (op_move rfl (.t (has rfl))) rfl ?_
  refine go1 (op_icmp rfl rfl (.t (has rfl)) (.int _ _)) rfl ?_
  refine goesO_nil ?_
  refine ends_then ?_
  refine goes_if (.t (has rfl)) H (fun hb3 H => ?_) (fun hb3 H => ?_)
  · skip
    refine goes_seq ?_
    refine goes_region ?_
    refine go1 (op_move rfl (.t (has rfl))) rfl ?_
    refine go1 (op_assign_nil 9 kstr (.inr rfl) rfl) rfl ?_
    refine go1 (op_assign rfl (.t (has rfl))) rfl ?_
    refine goesO_nil ?_
    refine ends_then ?_
    obtain rfl := Option.some.inj H
    exact goes_ret (ends_then_ret (ends_ret' rfl rfl (.t rfl (.t rfl (.nil _)))))
  · skip
    refine goes_skip ?_
    refine ends_then ?_
    refine goes_seq ?_
    refine goes_seq ?_
    refine goes_region ?_
    refine go1 (op_move rfl (.t (has rfl))) rfl ?_
    refine go1 (op_len rfl rfl Try.underlying38 (.t (has rfl))) rfl ?_
    refine go1 (op_icmp rfl rfl (.t (has rfl)) (.int _ _)) rfl ?_
    refine goesO_nil ?_
    refine ends_then ?_
    refine goes_if (.t (has rfl)) H (fun hb4 H => ?_) (fun hb4 H => ?_)
    · skip
      refine goes_seq ?_
      refine goes_region ?_
      refine go1 (op_assign_nil 9 kstr (.inr rfl) rfl) rfl ?_
      refine go1 (op_assign rfl (.int _ _)) rfl ?_
      refine goesO_nil ?_
      refine ends_then ?_
      obtain rfl := Option.some.inj H
      exact goes_ret (ends_then_ret (ends_ret' rfl rfl (.t rfl (.t rfl (.nil _)))))
    · skip
      refine goes_skip ?_
      refine ends_then ?_
      refine goes_seq ?_
      refine goes_region ?_
      obtain ⟨v5, h6, H⟩ := bind_some H
      refine go1 (op_call' rfl enters35 (walk_setOf_string.con _ _ _ h6) rfl (.cons (ArgP.k (.nil _)) .nil)) rfl ?_
      refine goesO_adopt 21 21 rfl rfl ?_
      refine go3 (op_alloc_raw 7 rfl xaz66 rfl) rfl ?_
      refine go1 (op_store_mp xmz66 (.inl rfl) (.t (has rfl)) (has rfl) (.t (has rfl))) rfl ?_
      refine goesO_nil ?_
      refine ends_then ?_
      refine goes_seq ?_
      refine goes_region ?_
      refine go1 (op_assign_nil 9 kstr (.inr rfl) rfl) rfl ?_
      refine goesO_nil ?_
      refine ends_then ?_
      refine goes_seq ?_
      refine goes_seq ?_
      refine goes_region ?_
      refine go1 (op_move rfl (.t (has rfl))) rfl ?_
      refine go1 (op_len rfl rfl Try.underlying38 (.t (has rfl))) rfl ?_
      refine go1 (op_move rfl (.int _ _)) rfl ?_
      refine goesO_nil ?_
      refine ends_then ?_
      obtain ⟨s8, h9, H⟩ := bind_some H
      refine goes_cut [Ent.t 8 (VA.own 9 kstr s8)] ?_ ?_
      · replace H := h9; clear h9
        refine goes_block ?_
        refine goes_loop (fun s7 : (GM Int) × (List ByteArray) × Int => [Ent.t 2 (VA.ptr 2 0), Ent.t 7 (VA.ptr 7 0), Ent.t 8 (VA.own 9 kstr s7.2.1), Ent.t 22 (VA.k (kslice (kint .i64)) a1), Ent.t 23 (VA.k (kint .i64) (a1.length : Int)), Ent.t 24 (VA.k (kint .i64) s7.2.2), Ent.h 2 (HE.box 25 kPlan a0), Ent.h 7 (HE.boxm 66 21), Ent.h 21 (HE.map Try.prog 9 (kint .i64) s7.1)]) (fun k s7 => walk_Choose.l0 a0 a1 k s7) (fun _ => rfl) H (.cons rfl (.cons rfl (.cons rfl (.cons rfl (.cons rfl (.cons rfl (.cons rfl (.cons rfl (.cons rfl .nil))))))))) ?_
        intro k s7 H
        simp only [walk_Choose.l0] at H
        refine goes_seq ?_
        refine goes_region ?_
        refine go1 (op_icmp rfl rfl (.t (has rfl)) (.t (has rfl))) rfl ?_
        refine goesO_nil ?_
        refine ends_then ?_
        refine goes_seq ?_
        refine goes_if (.t (has rfl)) H (fun hb10 H => ?_) (fun hb10 H => ?_)
        · skip
          refine goes_skip ?_
          refine ends_then ?_
          refine goes_seq ?_
          refine goes_block ?_
          refine goes_seq ?_
          refine goes_region ?_
          obtain ⟨x11, h12, H⟩ := bind_some H
          refine go1 (op_indexAddr rfl Try.underlying38 tk3 h12 (.t (has rfl)) (.t (has rfl))) rfl ?_
          refine go1 (op_loadp rfl tk3 (.t (has rfl))) rfl ?_
          refine go1 (op_assign rfl (.t (has rfl))) rfl ?_
          refine goesO_nil ?_
          refine ends_then ?_
          refine goes_seq ?_
          refine goes_region ?_
          refine go1 (op_load rfl (Fld.whole kPlan) tk25 (.t (has rfl)) (has rfl)) rfl ?_
          refine go1 (op_load_mp rfl xmz66 (.t (has rfl)) (has rfl)) rfl ?_
          obtain ⟨v13, h14, H⟩ := bind_some H
          refine go1 (op_callF' rfl enters40 (walk_next.conF _ _ _ _ h14) rfl (.cons (ArgB.k (.t (has rfl))) (.cons (ArgB.mps (.t (has rfl)) (has rfl) rfl) .nil))) rfl ?_
          refine go2 (op_mv (.inr rfl) rfl rfl (has rfl)) rfl ?_
          refine goesO_nil ?_
          refine ends_then ?_
          refine goes_seq ?_
          refine goes_seq ?_
          refine goes_region ?_
          refine goesO_settle 11 rfl rfl ?_
          refine go1 (op_move rfl (.t (has rfl))) rfl ?_
          refine go1 (op_len rfl rfl Try.underlying23 (.t (has rfl))) rfl ?_
          refine go1 (op_icmp rfl rfl (.t (has rfl)) (.int _ _)) rfl ?_
          refine goesO_nil ?_
          refine ends_then ?_
          refine goes_if (.t (has rfl)) H (fun hb15 H => ?_) (fun hb15 H => ?_)
          · skip
            refine goes_exit (ends_then_exit (ends_block_ne rfl (ends_then_exit (ends_then_exit (ends_block_exit ?_)))))
            obtain rfl := Option.some.inj H
            exact ends_cut (.cons rfl .nil)
          · skip
            refine goes_skip ?_
            refine ends_then ?_
            refine goes_seq ?_
            refine goes_region ?_
            refine go1 (op_move rfl (.t (has rfl))) rfl ?_
            refine go1 (op_move rfl (.t (has rfl))) rfl ?_
            refine go1 (op_len rfl rfl Try.underlying23 (.t (has rfl))) rfl ?_
            obtain ⟨z16, h17, H⟩ := bind_some H
            refine go1 (op_rem rfl (divok_spec h17) (.t (has rfl)) (.t (has rfl))) rfl ?_
            refine go1 (op_assign rfl (.t (has rfl))) rfl ?_
            refine goesO_nil ?_
            refine ends_then ?_
            refine goes_seq ?_
            refine goes_seq ?_
            refine goes_region ?_
            refine go1 (op_move rfl (.t (has rfl))) rfl ?_
            refine go1 (op_icmp rfl rfl (.t (has rfl)) (.int _ _)) rfl ?_
            refine goesO_nil ?_
            refine ends_then ?_
            obtain ⟨s18, h19, H⟩ := bind_some H
            refine goes_cut [Ent.t 2 (VA.ptr 2 0), Ent.t 7 (VA.ptr 7 0), Ent.t 8 (VA.own 9 kstr s7.2.1), Ent.t 11 (VA.k (kslice kstr) v13), Ent.t 12 (VA.k (kint .i64) s18), Ent.t 22 (VA.k (kslice (kint .i64)) a1), Ent.t 23 (VA.k (kint .i64) (a1.length : Int)), Ent.t 24 (VA.k (kint .i64) s7.2.2), Ent.h 2 (HE.box 25 kPlan a0), Ent.h 7 (HE.boxm 66 21), Ent.h 21 (HE.map Try.prog 9 (kint .i64) s7.1)] ?_ ?_
            · replace H := h19; clear h19
              refine goes_if (.t (has rfl)) H (fun hb20 H => ?_) (fun hb20 H => ?_)
              · skip
                refine goes_region ?_
                refine go1 (op_move rfl (.t (has rfl))) rfl ?_
                refine go1 (op_move rfl (.t (has rfl))) rfl ?_
                refine go1 (op_len rfl rfl Try.underlying23 (.t (has rfl))) rfl ?_
                refine go1 (op_add rfl (.t (has rfl)) (.t (has rfl))) rfl ?_
                refine go1 (op_assign rfl (.t (has rfl))) rfl ?_
                refine goesO_nil ?_
                obtain rfl := Option.some.inj H
                exact ends_cut (.cons rfl (.cons rfl (.cons rfl (.cons rfl (.cons rfl (.cons rfl (.cons rfl (.cons rfl (.cons rfl (.cons rfl (.cons rfl .nil)))))))))))
              · skip
                refine goes_skip ?_
                obtain rfl := Option.some.inj H
                exact ends_cut (.cons rfl (.cons rfl (.cons rfl (.cons rfl (.cons rfl (.cons rfl (.cons rfl (.cons rfl (.cons rfl (.cons rfl (.cons rfl .nil)))))))))))
            refine ends_then ?_
            refine goes_seq ?_
            refine goes_region ?_
            refine go2 (op_mv (.inl rfl) rfl rfl (has rfl)) rfl ?_
            refine go1 (op_move rfl (.t (has rfl))) rfl ?_
            refine go1 (op_move rfl (.t (has rfl))) rfl ?_
            obtain ⟨x21, h22, H⟩ := bind_some H
            refine go1 (op_indexAddr rfl Try.underlying23 tk9 h22 (.t (has rfl)) (.t (has rfl))) rfl ?_
            refine go1 (op_loadp rfl tk9 (.t (has rfl))) rfl ?_
            refine go1 (op_buildSlice rfl at23 (fun h => by first | rfl | cases h) rfl rfl rfl (.cons (.t (has rfl)) (.nil _))) rfl ?_
            obtain ⟨x23, h24, H⟩ := bind_some H
            refine go2 (op_append rfl rfl at23 h24 (has rfl) (ReadsArg.own (.t (has rfl)))) rfl ?_
            refine go2 (op_mv (.inr rfl) rfl rfl (has rfl)) rfl ?_
            refine goesO_nil ?_
            refine ends_then ?_
            obtain ⟨x25, h26, H⟩ := bind_some H
            obtain ⟨x27, h28, H⟩ := bind_some H
            refine goes_drawn [[Ent.t 51 (VA.mp true 21)], [Ent.t 52 (VA.k (kslice kstr) v13)], [Ent.t 53 (VA.k (kint .i64) s18)], [Ent.t 54 (VA.pt kstr x25)], [Ent.t 55 (VA.k kstr x25)], [Ent.t 56 (VA.any), Ent.h 21 (HE.map Try.prog 9 (kint .i64) x27)]] mixed (by kernel_rfl) (by kernel_rfl) (.cons [(none, Ent.t 7 (VA.ptr 7 0)), (none, Ent.h 7 (HE.boxm 66 21))] (OpSpec.run rfl rfl (op_load_mp rfl xmz66 (.t NL.h0) (NL.hs NL.h0)) rfl) (.cons (has rfl) (.cons (has rfl) .nil)) (by kernel_rfl) (.cons [(none, Ent.t 11 (VA.k (kslice kstr) v13))] (OpSpec.run rfl rfl (op_move rfl (.t NL.h0)) rfl) (.cons (has rfl) .nil) (by kernel_rfl) (.cons [(none, Ent.t 12 (VA.k (kint .i64) s18))] (OpSpec.run rfl rfl (op_move rfl (.t NL.h0)) rfl) (.cons (has rfl) .nil) (by kernel_rfl) (.cons [(some 1, Ent.t 52 (VA.k (kslice kstr) v13)), (some 2, Ent.t 53 (VA.k (kint .i64) s18))] (OpSpec.run rfl rfl (op_indexAddr rfl Try.underlying23 tk9 h26 (.t NL.h0) (.t (NL.hs NL.h0))) rfl) (.cons (has rfl) (.cons (has rfl) .nil)) (by kernel_rfl) (.cons [(some 3, Ent.t 54 (VA.pt kstr x25))] (OpSpec.run rfl rfl (op_loadp rfl tk9 (.t NL.h0)) rfl) (.cons (has rfl) .nil) (by kernel_rfl) (.cons [(some 0, Ent.t 51 (VA.mp true 21)), (some 4, Ent.t 55 (VA.k kstr x25)), (none, Ent.h 21 (HE.map Try.prog 9 (kint .i64) s7.1))] (OpSpec.run rfl rfl (op_callIO rfl enters39 (walk_set_string_put.con _ _ _ h28) (.t NL.h0) (NL.hs (NL.hs NL.h0)) (.cons (ArgP.k (.t (NL.hs NL.h0))) .nil)) rfl) (.cons (has rfl) (.cons (has rfl) (.cons (has rfl) .nil))) (by kernel_rfl) (.nil _))))))) ?_
            refine ends_sub [Ent.t 2 (VA.ptr 2 0), Ent.t 7 (VA.ptr 7 0), Ent.t 8 (VA.own 9 kstr x23), Ent.t 22 (VA.k (kslice (kint .i64)) a1), Ent.t 23 (VA.k (kint .i64) (a1.length : Int)), Ent.t 24 (VA.k (kint .i64) s7.2.2), Ent.h 2 (HE.box 25 kPlan a0), Ent.h 7 (HE.boxm 66 21), Ent.h 21 (HE.map Try.prog 9 (kint .i64) x27)] (.cons rfl (.cons rfl (.cons rfl (.cons rfl (.cons rfl (.cons rfl (.cons rfl (.cons rfl (.cons rfl .nil))))))))) ?_
            refine ends_block ?_
            refine ends_then ?_
            refine goes_region ?_
            refine go1 (op_add rfl (.t (has rfl)) (.int _ _)) rfl ?_
            refine go1 (op_move rfl (.t (has rfl))) rfl ?_
            refine goesO_nil ?_
            exact loop_next _ H (.cons rfl (.cons rfl (.cons rfl (.cons rfl (.cons rfl (.cons rfl (.cons rfl (.cons rfl (.cons rfl .nil)))))))))
        · skip
          refine goes_exit (ends_then_exit (ends_then_exit (ends_block_exit ?_)))
          obtain rfl := Option.some.inj H
          exact ends_cut (.cons rfl .nil)
      refine ends_then ?_
      refine goes_seq ?_
      refine goes_region ?_
      refine go2 (op_mv (.inl rfl) rfl rfl (has rfl)) rfl ?_
      refine go2 (op_mv (.inr rfl) rfl rfl (has rfl)) rfl ?_
      refine go1 (op_assign rfl (.int _ _)) rfl ?_
      refine goesO_nil ?_
      refine ends_then ?_
      obtain rfl := Option.some.inj H
      exact goes_ret (ends_ret' rfl rfl (.t rfl (.t rfl (.nil _))))
theorem walk_Choose.conF (k : Nat) (a0 : Plan) (a1 : List Int) (r : (List ByteArray) × Int) (H : walk_Choose.f k a0 a1 = some r) : ConF Try.prog 19 [VA.k kPlan a0, VA.k (kslice (kint .i64)) a1] [VA.own 9 kstr r.1, VA.k (kint .i64) r.2] := (walk_Choose.con k a0 a1 r H).freeL (.cons (KFree.own KFree.str _ _) (.cons (KFree.k (KFree.int .i64) _) .nil))
/-! smithy/smithyplain.Texts -/
def smithyplain_Texts.l0 (a0 : List ByteArray) (a1 : List ByteArray) : Nat → Int → Option (Except Bool Unit)
  | 0, _ => none
  | k + 1, s2 => bif icmp .lss s2 (a0.length : Int) then ((idx a0 s2).bind fun x7 => (idx a1 s2).bind fun x9 => bif scmp .neq x7 x9 then (some (Except.error false)) else (smithyplain_Texts.l0 a0 a1 k (IntKind.i64.wrap (s2 + (1 : Int))))) else (some (Except.ok ()))
def smithyplain_Texts.f (k : Nat) (a0 : List ByteArray) (a1 : List ByteArray) : Option Bool := bif icmp .neq (a0.length : Int) (a1.length : Int) then (some false) else ((smithyplain_Texts.l0 a0 a1 k (0 : Int)).bind fun o5 => match o5 with | .error r' => some r' | .ok s3 => (some true))
set_option maxRecDepth 100000 in
set_option maxHeartbeats 4000000 in
theorem smithyplain_Texts.con (k : Nat) (a0 : List ByteArray) (a1 : List ByteArray) (r : Bool) (H : smithyplain_Texts.f k a0 a1 = some r) : Con Try.prog 15 [VA.k (kslice kstr) a0, VA.k (kslice kstr) a1] [VA.k kbool r] := by
  unfold smithyplain_Texts.f at H
  refine con_enter Try.func15 rfl rfl rfl (fun w0 S0 θ => ?_)
  refine goes_seq ?_
  refine goes_region ?_
  refine go1 (op_assign rfl (.bool _)) rfl ?_
  refine goesO_nil ?_
  refine ends_then ?_
  refine goes_seq ?_
  refine goes_seq ?_
  refine goes_region ?_
  refine go1 (op_move rfl (.t (has rfl))) rfl ?_
  refine go1 (op_len rfl rfl Try.underlying23 (.t (has rfl))) rfl ?_
  refine go1 (op_move rfl (.t (has rfl))) rfl ?_
  refine go1 (op_len rfl rfl Try.underlying23 (.t (has rfl))) rfl ?_
  refine go1 (op_icmp rfl rfl (.t (has rfl)) (.t (has rfl))) rfl ?_
  refine goesO_nil ?_
  refine ends_then ?_
  refine goes_if (.t (has rfl)) H (fun hb1 H => ?_) (fun hb1 H => ?_)
  · skip
    refine goes_seq ?_
    refine goes_region ?_
    refine go1 (op_assign rfl (.bool _)) rfl ?_
    refine goesO_nil ?_
    refine ends_then ?_
    obtain rfl := Option.some.inj H
    exact goes_ret (ends_then_ret (ends_ret' rfl rfl (.t rfl (.nil _))))
  · skip
    refine goes_skip ?_
    refine ends_then ?_
    refine goes_seq ?_
    refine goes_seq ?_
    refine goes_region ?_
    refine go1 (op_move rfl (.t (has rfl))) rfl ?_
    refine go1 (op_len rfl rfl Try.underlying23 (.t (has rfl))) rfl ?_
    refine go1 (op_move rfl (.int _ _)) rfl ?_
    refine goesO_nil ?_
    refine ends_then ?_
    obtain ⟨o5, h4, H⟩ := bind_some H
    refine goes_cutR (o := o5) (fun s3 : Unit => []) (fun r a w => bodyPost Try.prog Try.f15 (CPost w0 S0 θ [VA.k kbool r]) .ret a w) ?_ ?_ ?_
    · replace H := h4; clear h4
      refine goes_block ?_
      refine goes_loop (fun s2 : Int => [Ent.t 0 (VA.k (kslice kstr) a0), Ent.t 1 (VA.k (kslice kstr) a1), Ent.t 12 (VA.k (kint .i64) (a0.length : Int)), Ent.t 13 (VA.k (kint .i64) s2)]) (fun k s2 => smithyplain_Texts.l0 a0 a1 k s2) (fun _ => rfl) H (.cons rfl (.cons rfl (.cons rfl (.cons rfl .nil)))) ?_
      intro k s2 H
      simp only [smithyplain_Texts.l0] at H
      refine goes_seq ?_
      refine goes_region ?_
      refine go1 (op_icmp rfl rfl (.t (has rfl)) (.t (has rfl))) rfl ?_
      refine goesO_nil ?_
      refine ends_then ?_
      refine goes_seq ?_
      refine goes_if (.t (has rfl)) H (fun hb6 H => ?_) (fun hb6 H => ?_)
      · skip
        refine goes_skip ?_
        refine ends_then ?_
        refine goes_seq ?_
        refine goes_block ?_
        refine goes_seq ?_
        refine goes_region ?_
        refine go1 (op_move rfl (.t (has rfl))) rfl ?_
        refine go1 (op_assign rfl (.t (has rfl))) rfl ?_
        refine goesO_nil ?_
        refine ends_then ?_
        refine goes_seq ?_
        obtain ⟨x7, h8, H⟩ := bind_some H
        obtain ⟨x9, h10, H⟩ := bind_some H
        refine goes_drawn [[Ent.t 16 (VA.k (kslice kstr) a0)], [Ent.t 17 (VA.k (kint .i64) s2)], [Ent.t 18 (VA.pt kstr x7)], [Ent.t 19 (VA.k kstr x7)], [Ent.t 20 (VA.k (kslice kstr) a1)], [Ent.t 21 (VA.k (kint .i64) s2)], [Ent.t 22 (VA.pt kstr x9)], [Ent.t 23 (VA.k kstr x9)], [Ent.t 24 (VA.k kbool (scmp .neq x7 x9))]] mixed (by kernel_rfl) (by kernel_rfl) (.cons [(none, Ent.t 0 (VA.k (kslice kstr) a0))] (OpSpec.run rfl rfl (op_move rfl (.t NL.h0)) rfl) (.cons (has rfl) .nil) (by kernel_rfl) (.cons [(none, Ent.t 5 (VA.k (kint .i64) s2))] (OpSpec.run rfl rfl (op_move rfl (.t NL.h0)) rfl) (.cons (has rfl) .nil) (by kernel_rfl) (.cons [(some 0, Ent.t 16 (VA.k (kslice kstr) a0)), (some 1, Ent.t 17 (VA.k (kint .i64) s2))] (OpSpec.run rfl rfl (op_indexAddr rfl Try.underlying23 tk9 h8 (.t NL.h0) (.t (NL.hs NL.h0))) rfl) (.cons (has rfl) (.cons (has rfl) .nil)) (by kernel_rfl) (.cons [(some 2, Ent.t 18 (VA.pt kstr x7))] (OpSpec.run rfl rfl (op_loadp rfl tk9 (.t NL.h0)) rfl) (.cons (has rfl) .nil) (by kernel_rfl) (.cons [(none, Ent.t 1 (VA.k (kslice kstr) a1))] (OpSpec.run rfl rfl (op_move rfl (.t NL.h0)) rfl) (.cons (has rfl) .nil) (by kernel_rfl) (.cons [(none, Ent.t 5 (VA.k (kint .i64) s2))] (OpSpec.run rfl rfl (op_move rfl (.t NL.h0)) rfl) (.cons (has rfl) .nil) (by kernel_rfl) (.cons [(some 4, Ent.t 20 (VA.k (kslice kstr) a1)), (some 5, Ent.t 21 (VA.k (kint .i64) s2))] (OpSpec.run rfl rfl (op_indexAddr rfl Try.underlying23 tk9 h10 (.t NL.h0) (.t (NL.hs NL.h0))) rfl) (.cons (has rfl) (.cons (has rfl) .nil)) (by kernel_rfl) (.cons [(some 6, Ent.t 22 (VA.pt kstr x9))] (OpSpec.run rfl rfl (op_loadp rfl tk9 (.t NL.h0)) rfl) (.cons (has rfl) .nil) (by kernel_rfl) (.cons [(some 3, Ent.t 19 (VA.k kstr x7)), (some 7, Ent.t 23 (VA.k kstr x9))] (OpSpec.run rfl rfl (op_scmp rfl rfl (.t NL.h0) (.t (NL.hs NL.h0))) rfl) (.cons (has rfl) (.cons (has rfl) .nil)) (by kernel_rfl) (.nil _)))))))))) ?_
        refine ends_sub [Ent.t 0 (VA.k (kslice kstr) a0), Ent.t 1 (VA.k (kslice kstr) a1), Ent.t 12 (VA.k (kint .i64) (a0.length : Int)), Ent.t 13 (VA.k (kint .i64) s2), Ent.t 24 (VA.k kbool (scmp .neq x7 x9))] (.cons rfl (.cons rfl (.cons rfl (.cons rfl (.cons rfl .nil))))) ?_
        refine ends_then ?_
        refine goes_if (.t (has rfl)) H (fun hb11 H => ?_) (fun hb11 H => ?_)
        · skip
          refine goes_seq ?_
          refine goes_region ?_
          refine go1 (op_assign rfl (.bool _)) rfl ?_
          refine goesO_nil ?_
          refine ends_then ?_
          obtain rfl := Option.some.inj H
          refine goes_ret (ends_block_ret (ends_then_ret (ends_then_ret (ends_block_ret (ends_cutR_ret rfl ?_)))))
          exact ends_ret' rfl rfl (.t rfl (.nil _))
        · skip
          refine goes_skip ?_
          refine ends_block ?_
          refine ends_then ?_
          refine goes_region ?_
          refine go1 (op_add rfl (.t (has rfl)) (.int _ _)) rfl ?_
          refine go1 (op_move rfl (.t (has rfl))) rfl ?_
          refine goesO_nil ?_
          exact loop_next _ H (.cons rfl (.cons rfl (.cons rfl (.cons rfl .nil))))
      · skip
        refine goes_exit (ends_then_exit (ends_then_exit (ends_block_exit ?_)))
        obtain rfl := Option.some.inj H
        exact ends_cutR rfl .nil
    · rintro s3 rfl
      clear h4
      dsimp only at H
      refine ends_then ?_
      refine goes_seq ?_
      refine goes_region ?_
      refine go1 (op_assign rfl (.bool _)) rfl ?_
      refine goesO_nil ?_
      refine ends_then ?_
      obtain rfl := Option.some.inj H
      exact goes_ret (ends_ret' rfl rfl (.t rfl (.nil _)))
    · rintro r' rfl a w hr
      obtain rfl := Option.some.inj H
      exact hr
theorem smithyplain_Texts.conF (k : Nat) (a0 : List ByteArray) (a1 : List ByteArray) (r : Bool) (H : smithyplain_Texts.f k a0 a1 = some r) : ConF Try.prog 15 [VA.k (kslice kstr) a0, VA.k (kslice kstr) a1] [VA.k kbool r] := (smithyplain_Texts.con k a0 a1 r H).freeL (.cons (KFree.k KFree.bool _) .nil)
/-! smithy/smithylaw14.speaks -/
def smithylaw14_speaks.f (k : Nat) : Option Bool := (smithylaw14_four.f).bind fun v1 => (walk_Count.f k v1 (100 : Int)).bind fun v3 => (smithylaw14_four.f).bind fun v5 => (walk_Next.f k v5 ([(⟨#[100]⟩ : ByteArray)])).bind fun v7 => (smithylaw14_four.f).bind fun v9 => (walk_Choose.f k v9 ([(0 : Int), (1 : Int)])).bind fun v11 => (bif icmp .eql v3.1 (2 : Int) then (bif icmp .eql v3.2 (0 : Int) then ((smithyplain_Texts.f k v7.1 ([(⟨#[98]⟩ : ByteArray), (⟨#[99]⟩ : ByteArray)])).bind fun v17 => bif v17 then (bif icmp .eql v7.2 (0 : Int) then ((smithyplain_Texts.f k v11.1 ([(⟨#[100]⟩ : ByteArray), (⟨#[99]⟩ : ByteArray)])).bind fun v21 => bif v21 then (some (icmp .eql v11.2 (0 : Int))) else (some false)) else (some false)) else (some false)) else (some false)) else (some false)).bind fun s13 => some s13
set_option maxRecDepth 100000 in
set_option maxHeartbeats 4000000 in
theorem smithylaw14_speaks.con (k : Nat) (r : Bool) (H : smithylaw14_speaks.f k = some r) : Con Try.prog 13 [] [VA.k kbool r] := by
  unfold smithylaw14_speaks.f at H
  refine con_enter Try.func13 rfl rfl rfl (fun w0 S0 θ => ?_)
  refine goes_seq ?_
  refine goes_region ?_
  refine go1 (op_assign rfl (.bool _)) rfl ?_
  refine goesO_nil ?_
  refine ends_then ?_
  refine goes_seq ?_
  refine goes_region ?_
  obtain ⟨v1, h2, H⟩ := bind_some H
  refine go1 (op_call' rfl enters43 (smithylaw14_four.con  _ h2) rfl .nil) rfl ?_
  obtain ⟨v3, h4, H⟩ := bind_some H
  refine goN (op_calls' rfl enters20 (walk_Count.con _ _ _ _ h4) rfl rfl (.cons (ArgP.k (.t (has rfl))) (.cons (ArgP.k (.int _ _)) .nil))) rfl ?_
  refine go1 (op_same (.inl rfl) rfl rfl) rfl ?_
  refine go1 (op_extract_same rfl plain_k (has rfl) (has rfl)) rfl ?_
  refine go1 (op_extract_same rfl plain_k (has rfl) (has rfl)) rfl ?_
  refine go1 (op_assign rfl (.t (has rfl))) rfl ?_
  refine go1 (op_assign rfl (.t (has rfl))) rfl ?_
  refine goesO_nil ?_
  refine ends_then ?_
  refine goes_seq ?_
  refine goes_region ?_
  obtain ⟨v5, h6, H⟩ := bind_some H
  refine go1 (op_call' rfl enters43 (smithylaw14_four.con  _ h6) rfl .nil) rfl ?_
  refine go1 (op_buildSlice rfl at23 (fun h => by first | rfl | cases h) rfl rfl rfl (.cons (.str _) (.nil _))) rfl ?_
  obtain ⟨v7, h8, H⟩ := bind_some H
  refine goN (op_callsF' rfl enters11 (walk_Next.conF _ _ _ _ h8) rfl rfl (.cons (ArgB.k (.t (has rfl))) (.cons (ArgB.own rfl (has rfl)) .nil))) rfl ?_
  refine go1 (op_same (.inl rfl) rfl rfl) rfl ?_
  refine go2 (op_extract_own_same rfl rfl rfl (has rfl) (has rfl)) rfl ?_
  refine go1 (op_extract_same rfl plain_k (has rfl) (has rfl)) rfl ?_
  refine go2 (op_mv (.inr rfl) rfl rfl (has rfl)) rfl ?_
  refine go1 (op_assign rfl (.t (has rfl))) rfl ?_
  refine goesO_nil ?_
  refine ends_then ?_
  refine goes_seq ?_
  refine goes_region ?_
  obtain ⟨v9, h10, H⟩ := bind_some H
  refine go1 (op_call' rfl enters43 (smithylaw14_four.con  _ h10) rfl .nil) rfl ?_
  refine go1 (op_buildSlice rfl at38 (fun h => by first | rfl | cases h) rfl rfl rfl (.cons (.int _ _) (.cons (.int _ _) (.nil _)))) rfl ?_
  obtain ⟨v11, h12, H⟩ := bind_some H
  refine goN (op_callsF' rfl enters19 (walk_Choose.conF _ _ _ _ h12) rfl rfl (.cons (ArgB.k (.t (has rfl))) (.cons (ArgB.own rfl (has rfl)) .nil))) rfl ?_
  refine go1 (op_same (.inl rfl) rfl rfl) rfl ?_
  refine go2 (op_extract_own_same rfl rfl rfl (has rfl) (has rfl)) rfl ?_
  refine go1 (op_extract_same rfl plain_k (has rfl) (has rfl)) rfl ?_
  refine go2 (op_mv (.inr rfl) rfl rfl (has rfl)) rfl ?_
  refine go1 (op_assign rfl (.t (has rfl))) rfl ?_
  refine goesO_nil ?_
  refine ends_then ?_
  refine goes_seq ?_
  obtain ⟨s13, h14, H⟩ := bind_some H
  refine goes_cut [Ent.t 0 (VA.k kbool s13)] ?_ ?_
  · replace H := h14; clear h14
    refine goes_region ?_
    refine go1 (op_move rfl (.t (has rfl))) rfl ?_
    refine go1 (op_icmp rfl rfl (.t (has rfl)) (.int _ _)) rfl ?_
    refine go1 (op_move rfl (.t (has rfl))) rfl ?_
    refine goesO_split H (fun hb15 H => ?_) (fun hb15 H => ?_)
    · skip
      refine goG (op_move rfl (.t (has rfl))) rfl rfl rfl rfl hb15 ?_
      refine goG (op_icmp rfl rfl (.t (has rfl)) (.int _ _)) rfl rfl rfl rfl hb15 ?_
      refine go1 (op_pick_t rfl hb15 (.t (has rfl)) (.t (has rfl))) rfl ?_
      refine go1 (op_move rfl (.t (has rfl))) rfl ?_
      refine goesO_split H (fun hb16 H => ?_) (fun hb16 H => ?_)
      · skip
        refine goesO_settle 3 rfl rfl ?_
        refine goG (op_move rfl (.t (has rfl))) rfl rfl rfl rfl hb16 ?_
        refine goG (op_buildSlice rfl at23 (fun h => by first | rfl | cases h) rfl rfl rfl (.cons (.str _) (.cons (.str _) (.nil _)))) rfl rfl rfl rfl hb16 ?_
        obtain ⟨v17, h18, H⟩ := bind_some H
        refine goG (op_callF' rfl enters15 (smithyplain_Texts.conF _ _ _ _ h18) rfl (.cons (ArgB.k (.t (has rfl))) (.cons (ArgB.own rfl (has rfl)) .nil))) rfl rfl rfl rfl hb16 ?_
        refine go1 (op_pick_t rfl hb16 (.t (has rfl)) (.t (has rfl))) rfl ?_
        refine go1 (op_move rfl (.t (has rfl))) rfl ?_
        refine goesO_split H (fun hb19 H => ?_) (fun hb19 H => ?_)
        · skip
          refine goG (op_move rfl (.t (has rfl))) rfl rfl rfl rfl hb19 ?_
          refine goG (op_icmp rfl rfl (.t (has rfl)) (.int _ _)) rfl rfl rfl rfl hb19 ?_
          refine go1 (op_pick_t rfl hb19 (.t (has rfl)) (.t (has rfl))) rfl ?_
          refine go1 (op_move rfl (.t (has rfl))) rfl ?_
          refine goesO_split H (fun hb20 H => ?_) (fun hb20 H => ?_)
          · skip
            refine goesO_settle 5 rfl rfl ?_
            refine goG (op_move rfl (.t (has rfl))) rfl rfl rfl rfl hb20 ?_
            refine goG (op_buildSlice rfl at23 (fun h => by first | rfl | cases h) rfl rfl rfl (.cons (.str _) (.cons (.str _) (.nil _)))) rfl rfl rfl rfl hb20 ?_
            obtain ⟨v21, h22, H⟩ := bind_some H
            refine goG (op_callF' rfl enters15 (smithyplain_Texts.conF _ _ _ _ h22) rfl (.cons (ArgB.k (.t (has rfl))) (.cons (ArgB.own rfl (has rfl)) .nil))) rfl rfl rfl rfl hb20 ?_
            refine go1 (op_pick_t rfl hb20 (.t (has rfl)) (.t (has rfl))) rfl ?_
            refine go1 (op_move rfl (.t (has rfl))) rfl ?_
            refine goesO_split H (fun hb23 H => ?_) (fun hb23 H => ?_)
            · skip
              refine goG (op_move rfl (.t (has rfl))) rfl rfl rfl rfl hb23 ?_
              refine goG (op_icmp rfl rfl (.t (has rfl)) (.int _ _)) rfl rfl rfl rfl hb23 ?_
              refine go1 (op_pick_t rfl hb23 (.t (has rfl)) (.t (has rfl))) rfl ?_
              refine go1 (op_assign rfl (.t (has rfl))) rfl ?_
              refine goesO_nil ?_
              obtain rfl := Option.some.inj H
              exact ends_cut (.cons rfl .nil)
            · skip
              refine goS rfl rfl rfl rfl rfl rfl hb23 ?_
              refine goS rfl rfl rfl rfl rfl rfl hb23 ?_
              refine go1 (op_pick_f rfl hb23 (.t (has rfl)) (.bool _)) rfl ?_
              refine go1 (op_assign rfl (.t (has rfl))) rfl ?_
              refine goesO_nil ?_
              obtain rfl := Option.some.inj H
              exact ends_cut (.cons rfl .nil)
          · skip
            refine goS rfl rfl rfl rfl rfl rfl hb20 ?_
            refine goS rfl rfl rfl rfl rfl rfl hb20 ?_
            refine goS rfl rfl rfl rfl rfl rfl hb20 ?_
            refine go1 (op_pick_f rfl hb20 (.t (has rfl)) (.bool _)) rfl ?_
            refine go1 (op_move rfl (.t (has rfl))) rfl ?_
            refine goS rfl rfl rfl rfl rfl rfl rfl ?_
            refine goS rfl rfl rfl rfl rfl rfl rfl ?_
            refine go1 (op_pick_f rfl rfl (.t (has rfl)) (.bool _)) rfl ?_
            refine go1 (op_assign rfl (.t (has rfl))) rfl ?_
            refine goesO_nil ?_
            obtain rfl := Option.some.inj H
            exact ends_cut (.cons rfl .nil)
        · skip
          refine goS rfl rfl rfl rfl rfl rfl hb19 ?_
          refine goS rfl rfl rfl rfl rfl rfl hb19 ?_
          refine go1 (op_pick_f rfl hb19 (.t (has rfl)) (.bool _)) rfl ?_
          refine go1 (op_move rfl (.t (has rfl))) rfl ?_
          refine goS rfl rfl rfl rfl rfl rfl rfl ?_
          refine goS rfl rfl rfl rfl rfl rfl rfl ?_
          refine goS rfl rfl rfl rfl rfl rfl rfl ?_
          refine go1 (op_pick_f rfl rfl (.t (has rfl)) (.bool _)) rfl ?_
          refine go1 (op_move rfl (.t (has rfl))) rfl ?_
          refine goS rfl rfl rfl rfl rfl rfl rfl ?_
          refine goS rfl rfl rfl rfl rfl rfl rfl ?_
          refine go1 (op_pick_f rfl rfl (.t (has rfl)) (.bool _)) rfl ?_
          refine go1 (op_assign rfl (.t (has rfl))) rfl ?_
          refine goesO_nil ?_
          obtain rfl := Option.some.inj H
          exact ends_cut (.cons rfl .nil)
      · skip
        refine goS rfl rfl rfl rfl rfl rfl hb16 ?_
        refine goS rfl rfl rfl rfl rfl rfl hb16 ?_
        refine goS rfl rfl rfl rfl rfl rfl hb16 ?_
        refine go1 (op_pick_f rfl hb16 (.t (has rfl)) (.bool _)) rfl ?_
        refine go1 (op_move rfl (.t (has rfl))) rfl ?_
        refine goS rfl rfl rfl rfl rfl rfl rfl ?_
        refine goS rfl rfl rfl rfl rfl rfl rfl ?_
        refine go1 (op_pick_f rfl rfl (.t (has rfl)) (.bool _)) rfl ?_
        refine go1 (op_move rfl (.t (has rfl))) rfl ?_
        refine goS rfl rfl rfl rfl rfl rfl rfl ?_
        refine goS rfl rfl rfl rfl rfl rfl rfl ?_
        refine goS rfl rfl rfl rfl rfl rfl rfl ?_
        refine go1 (op_pick_f rfl rfl (.t (has rfl)) (.bool _)) rfl ?_
        refine go1 (op_move rfl (.t (has rfl))) rfl ?_
        refine goS rfl rfl rfl rfl rfl rfl rfl ?_
        refine goS rfl rfl rfl rfl rfl rfl rfl ?_
        refine go1 (op_pick_f rfl rfl (.t (has rfl)) (.bool _)) rfl ?_
        refine go1 (op_assign rfl (.t (has rfl))) rfl ?_
        refine goesO_nil ?_
        obtain rfl := Option.some.inj H
        exact ends_cut (.cons rfl .nil)
    · skip
      refine goS rfl rfl rfl rfl rfl rfl hb15 ?_
      refine goS rfl rfl rfl rfl rfl rfl hb15 ?_
      refine go1 (op_pick_f rfl hb15 (.t (has rfl)) (.bool _)) rfl ?_
      refine go1 (op_move rfl (.t (has rfl))) rfl ?_
      refine goS rfl rfl rfl rfl rfl rfl rfl ?_
      refine goS rfl rfl rfl rfl rfl rfl rfl ?_
      refine goS rfl rfl rfl rfl rfl rfl rfl ?_
      refine go1 (op_pick_f rfl rfl (.t (has rfl)) (.bool _)) rfl ?_
      refine go1 (op_move rfl (.t (has rfl))) rfl ?_
      refine goS rfl rfl rfl rfl rfl rfl rfl ?_
      refine goS rfl rfl rfl rfl rfl rfl rfl ?_
      refine go1 (op_pick_f rfl rfl (.t (has rfl)) (.bool _)) rfl ?_
      refine go1 (op_move rfl (.t (has rfl))) rfl ?_
      refine goS rfl rfl rfl rfl rfl rfl rfl ?_
      refine goS rfl rfl rfl rfl rfl rfl rfl ?_
      refine goS rfl rfl rfl rfl rfl rfl rfl ?_
      refine go1 (op_pick_f rfl rfl (.t (has rfl)) (.bool _)) rfl ?_
      refine go1 (op_move rfl (.t (has rfl))) rfl ?_
      refine goS rfl rfl rfl rfl rfl rfl rfl ?_
      refine goS rfl rfl rfl rfl rfl rfl rfl ?_
      refine go1 (op_pick_f rfl rfl (.t (has rfl)) (.bool _)) rfl ?_
      refine go1 (op_assign rfl (.t (has rfl))) rfl ?_
      refine goesO_nil ?_
      obtain rfl := Option.some.inj H
      exact ends_cut (.cons rfl .nil)
  refine ends_then ?_
  obtain rfl := Option.some.inj H
  exact goes_ret (ends_ret' rfl rfl (.t rfl (.nil _)))
/-! slices.Backward[[]smithy/api.Node,smithy/api.Node]$1 -/
def slices_Backward_api_Node_api_Node_1.l0 (c0 : List Node) : Nat → Int → Option (List (Int × Node))
  | 0, _ => none
  | k + 1, s1 => bif icmp .geq s1 (0 : Int) then ((idx c0 s1).bind fun x4 => (slices_Backward_api_Node_api_Node_1.l0 c0 k (IntKind.i64.wrap (s1 - (1 : Int)))).bind fun r6 => some ((s1, x4) :: r6)) else (some [])
def slices_Backward_api_Node_api_Node_1.f (k : Nat) (c0 : List Node) : Option (List (Int × Node)) := slices_Backward_api_Node_api_Node_1.l0 c0 k (IntKind.i64.wrap ((c0.length : Int) - (1 : Int)))
noncomputable def slices_Backward_api_Node_api_Node_1.V (x : Int × Node) : List VA := [VA.k (kint .i64) x.1, VA.k kNode x.2]
set_option maxRecDepth 100000 in
set_option maxHeartbeats 4000000 in
theorem slices_Backward_api_Node_api_Node_1.seq (k : Nat) (c0 : List Node) (r : List (Int × Node)) (H : slices_Backward_api_Node_api_Node_1.f k c0 = some r) : ∀ θ S w lb, argSat θ S w [VA.pt (kslice kNode) c0] lb → SeqC Try.prog 65 lb.toArray slices_Backward_api_Node_api_Node_1.V r S w := by
  unfold slices_Backward_api_Node_api_Node_1.f at H
  refine seq_enter Try.func65 rfl rfl rfl (fun l J Jx hst hstx w0 S0 X hc hR => ?_)
  refine goes_seq ?_
  refine goes_region ?_
  refine go1 (op_loadp rfl tk22 (.t (has rfl))) rfl ?_
  refine go1 (op_len rfl rfl Try.underlying22 (.t (has rfl))) rfl ?_
  refine go1 (op_sub rfl (.t (has rfl)) (.int _ _)) rfl ?_
  refine go1 (op_assign rfl (.t (has rfl))) rfl ?_
  refine goesO_nil ?_
  refine ends_then ?_
  refine goes_block ?_
  refine goes_loopP (fun q : Int × List (Int × Node) => [Ent.t 0 (VA.v (.func (.yield l) #[] #[])), Ent.t 1 (VA.pt (kslice kNode) c0), Ent.t 3 (VA.k (kint .i64) q.1), Ent.it J hst q.2]) (fun k q => slices_Backward_api_Node_api_Node_1.l0 c0 k q.1 = some q.2) (fun q h => by cases h) (s0 := (IntKind.i64.wrap ((c0.length : Int) - (1 : Int)), r)) H (.cons rfl (.cons rfl (.cons rfl (.cons rfl .nil)))) ?_
  rintro k ⟨s1, r2⟩ H
  dsimp only at H
  simp only [slices_Backward_api_Node_api_Node_1.l0] at H
  refine goes_seq ?_
  refine goes_seq ?_
  refine goes_region ?_
  refine go1 (op_move rfl (.t (has rfl))) rfl ?_
  refine go1 (op_icmp rfl rfl (.t (has rfl)) (.int _ _)) rfl ?_
  refine goesO_nil ?_
  refine ends_then ?_
  refine goes_if (.t (has rfl)) H (fun hb3 H => ?_) (fun hb3 H => ?_)
  · skip
    refine goes_skip ?_
    refine ends_then ?_
    refine goes_seq ?_
    refine goes_block ?_
    refine goes_seq ?_
    refine goes_region ?_
    refine go1 (op_moveA rfl plain_v (.t (has rfl))) rfl ?_
    refine go1 (op_move rfl (.t (has rfl))) rfl ?_
    refine go1 (op_loadp rfl tk22 (.t (has rfl))) rfl ?_
    refine go1 (op_move rfl (.t (has rfl))) rfl ?_
    obtain ⟨x4, h5, H⟩ := bind_some H
    refine go1 (op_indexAddr rfl Try.underlying22 tk48 h5 (.t (has rfl)) (.t (has rfl))) rfl ?_
    refine go1 (op_loadp rfl tk48 (.t (has rfl))) rfl ?_
    obtain ⟨r6, h7, H⟩ := bind_some H
    obtain rfl := Option.some.inj H
    replace H := h7; clear h7
    refine goesO_yield (hst := hst) (hstx := hstx) (x := (s1, x4)) hc rfl hR rfl (.t (has rfl)) (.cons (ArgP.k (.t (has rfl))) (.cons (ArgP.k (.t (has rfl))) .nil)) ?_ ?_
    · skip
      refine go1 (op_not rfl (.t (has rfl))) rfl ?_
      refine goesO_nil ?_
      refine ends_then ?_
      refine goes_ifF (.t (has rfl)) rfl ?_
      refine goes_skip ?_
      refine ends_block ?_
      refine ends_then ?_
      refine goes_region ?_
      refine go1 (op_move rfl (.t (has rfl))) rfl ?_
      refine go1 (op_sub rfl (.t (has rfl)) (.int _ _)) rfl ?_
      refine go1 (op_assign rfl (.t (has rfl))) rfl ?_
      refine goesO_nil ?_
      exact loop_nextP (l := fun k (q : Int × List (Int × Node)) => slices_Backward_api_Node_api_Node_1.l0 c0 k q.1 = some q.2) (k := k) (IntKind.i64.wrap (s1 - (1 : Int)), r6) H (.cons rfl (.cons rfl (.cons rfl (.cons rfl .nil))))
    · skip
      refine go1 (op_not rfl (.t (has rfl))) rfl ?_
      refine goesO_nil ?_
      refine ends_then ?_
      refine goes_ifT (.t (has rfl)) rfl ?_
      exact goes_ret (ends_block_ret (ends_then_ret (ends_then_ret (ends_block_ret (ends_itx rfl rfl)))))
  · skip
    refine goes_exit (ends_then_exit (ends_then_exit (ends_block_exit ?_)))
    obtain rfl := Option.some.inj H
    exact ends_fallR (ends_it rfl rfl)
/-! slices.Backward[[]smithy/api.Node,smithy/api.Node] -/
def slices_Backward_api_Node_api_Node.f (k : Nat) (a0 : List Node) : Option (List (Int × Node)) := (slices_Backward_api_Node_api_Node_1.f k a0).bind fun q1 => some q1
set_option maxRecDepth 100000 in
set_option maxHeartbeats 4000000 in
theorem slices_Backward_api_Node_api_Node.con (k : Nat) (a0 : List Node) (r : List (Int × Node)) (H : slices_Backward_api_Node_api_Node.f k a0 = some r) : Con Try.prog 59 [VA.k (kslice kNode) a0] [VA.seq Try.prog slices_Backward_api_Node_api_Node_1.V r] := by
  unfold slices_Backward_api_Node_api_Node.f at H
  refine con_enter Try.func59 rfl rfl rfl (fun w0 S0 θ => ?_)
  refine goes_seq ?_
  refine goes_region ?_
  refine go3 (op_box 1 rfl (fun h => by first | rfl | cases h) (.t (has rfl))) rfl ?_
  refine go1 (op_assignA rfl plain_v (.v _)) rfl ?_
  refine goesO_nil ?_
  refine ends_then ?_
  refine goes_seq ?_
  refine goes_region ?_
  refine goesO_by (fun a w hi => inv_box_pt 1 1 rfl rfl hi) ?_
  obtain ⟨q1, h2, H⟩ := bind_some H
  refine go1 (op_makeFunc (ys := []) (xs := [1]) rfl rfl rfl rfl) rfl ?_
  refine goesO_seq (V := slices_Backward_api_Node_api_Node_1.V) (els := q1) 3 rfl rfl (.cons (ArgP.a plain_pt (.t (has rfl))) .nil) enters65 (slices_Backward_api_Node_api_Node_1.seq k a0 q1 h2) ?_
  refine go1 (op_assignA rfl plain_seq (.t (has rfl))) rfl ?_
  refine goesO_nil ?_
  refine ends_then ?_
  obtain rfl := Option.some.inj H
  exact goes_ret (ends_ret' rfl rfl (.t rfl (.nil _)))
/-! smithy/walk.below -/
def walk_below.l1 (x : Int × Node) : Nat → ((GM Int) × Int) → Option (GM Int)
  | 0, _ => none
  | k + 1, s17 => bif icmp .lss s17.2 (x.2.Needs.length : Int) then ((idx x.2.Needs s17.2).bind fun x21 => (walk_set_string_put.f s17.1 x21).bind fun x23 => walk_below.l1 x k (x23, IntKind.i64.wrap (s17.2 + (1 : Int)))) else (some s17.1)
def walk_below.l0 (k : Nat) (a1 : ByteArray) : List (Int × Node) → (GM Int) → Option (Except Empty (GM Int))
  | [], s => some (.ok s)
  | x :: r, s5 => ((bif scmp .neq x.2.Target a1 then ((walk_set_string_has.f (⟨s5⟩ : WalkSet_string_) x.2.Target).bind fun v14 => some (!v14)) else (some false)).bind fun s11 => bif s11 then (some s5) else ((walk_below.l1 x k (s5, (0 : Int))).bind fun s18 => some s18)).bind fun s9 => walk_below.l0 k a1 r s9
def walk_below.f (k : Nat) (a0 : Plan) (a1 : ByteArray) : Option (GM Int) := (walk_setOf_string.f k ([] : List ByteArray)).bind fun v1 => (slices_Backward_api_Node_api_Node.f k a0.Nodes).bind fun v3 => (walk_below.l0 k a1 v3 v1).bind fun o7 => match o7 with | .error _ => none | .ok s5 => (some s5)
set_option maxRecDepth 100000 in
set_option maxHeartbeats 4000000 in
theorem walk_below.con (k : Nat) (a0 : Plan) (a1 : ByteArray) (r : GM Int) (H : walk_below.f k a0 a1 = some r) : Con Try.prog 48 [VA.k kPlan a0, VA.k kstr a1] [VA.om Try.prog 9 (kint .i64) true r] := by
  unfold walk_below.f at H
  refine con_enterM Try.func48 rfl rfl rfl (fun w0 S0 θ => ?_)
  refine goes_seq ?_
  refine goes_region ?_
  refine go3 (op_box 2 rfl (fun h => by first | rfl | cases h) (.t (has rfl))) rfl ?_
  refine go3 (op_box 3 rfl (fun h => by first | rfl | cases h) (.t (has rfl))) rfl ?_
  refine go3 (op_alloc_raw 4 rfl xaz66 rfl) rfl ?_
  refine goesO_nil ?_
  refine ends_then ?_
  refine goes_seq ?_
  refine goes_region ?_
  obtain ⟨v1, h2, H⟩ := bind_some H
  refine go1 (op_call' rfl enters35 (walk_setOf_string.con _ _ _ h2) rfl (.cons (ArgP.k (.nil _)) .nil)) rfl ?_
  refine goesO_adopt 10 10 rfl rfl ?_
  refine go3 (op_alloc_raw 5 rfl xaz66 rfl) rfl ?_
  refine go1 (op_store_mp xmz66 (.inl rfl) (.t (has rfl)) (has rfl) (.t (has rfl))) rfl ?_
  refine goesO_nil ?_
  refine ends_then ?_
  refine goes_seq ?_
  refine goes_seq ?_
  refine goes_region ?_
  refine go1 (op_fieldAddr rfl Try.underlying25 rfl tk22 (.t (has rfl))) rfl ?_
  refine go1 (op_load rfl fldPlan_Nodes tk22 (.t (has rfl)) (has rfl)) rfl ?_
  obtain ⟨v3, h4, H⟩ := bind_some H
  refine go1 (op_call' rfl enters59 (slices_Backward_api_Node_api_Node.con _ _ _ h4) rfl (.cons (ArgP.k (.t (has rfl))) .nil)) rfl ?_
  refine goesO_nil ?_
  refine ends_then ?_
  refine goes_block ?_
  obtain ⟨o7, h6, H⟩ := bind_some H
  refine goes_rangeFunc (ps := [14, 15]) (m := 2) (walk_below.l0 k a1) (o := o7) v1 [3, 4, 5, 10] [Ent.t 3 (VA.ptr 3 0), Ent.t 4 (VA.ptr 4 0), Ent.t 5 (VA.ptr 5 0)] (fun s5 : (GM Int) => [Ent.h 3 (HE.box 9 kstr a1), Ent.h 4 (HE.raw 66 1), Ent.h 5 (HE.boxm 66 10), Ent.h 10 (HE.map Try.prog 9 (kint .i64) s5)]) (fun t8 : Empty => []) rfl rfl rfl h6 (fun _ => rfl) (.cons rfl (.cons rfl (.cons rfl .nil))) (.cons rfl (.cons rfl (.cons rfl (.cons rfl .nil)))) (.cons (noOwn_t plain_ptr) (.cons (noOwn_t plain_ptr) (.cons (noOwn_t plain_ptr) .nil))) rfl (fun _ => rfl) (fun _ => rfl) (fun _ => ⟨rfl, rfl⟩) rfl ?_ ?_ ?_
  · intro l x r s5 w0 S0 X β H
    simp only [walk_below.l0] at H
    refine goes_region ?_
    refine go3 (op_alloc 7 rfl zk48) rfl ?_
    refine go1 (op_store (Fld.whole kNode) tk48 (.t (has rfl)) (has rfl) (.t (has rfl))) rfl ?_
    refine goesO_nil ?_
    refine ends_asg (fun w0 S0 X => ?_)
    obtain ⟨s9, h10, H⟩ := bind_some H
    refine goes_cut [Ent.t 3 (VA.ptr 3 0), Ent.t 4 (VA.ptr 4 0), Ent.t 5 (VA.ptr 5 0), Ent.h 3 (HE.box 9 kstr a1), Ent.h 4 (HE.raw 66 1), Ent.h 5 (HE.boxm 66 10), Ent.h 10 (HE.map Try.prog 9 (kint .i64) s9), Ent.isb 3 (β 3), Ent.isb 4 (β 4), Ent.isb 5 (β 5), Ent.isb 10 (β 10)] ?_ ?_
    · replace H := h10; clear h10
      refine goes_block ?_
      refine goes_seq ?_
      refine goes_seq ?_
      obtain ⟨s11, h12, H⟩ := bind_some H
      refine goes_cut [Ent.t 3 (VA.ptr 3 0), Ent.t 4 (VA.ptr 4 0), Ent.t 5 (VA.ptr 5 0), Ent.t 7 (VA.ptr 7 0), Ent.t 26 (VA.k kbool s11), Ent.h 3 (HE.box 9 kstr a1), Ent.h 4 (HE.raw 66 1), Ent.h 5 (HE.boxm 66 10), Ent.h 7 (HE.box 48 kNode x.2), Ent.h 10 (HE.map Try.prog 9 (kint .i64) s5), Ent.isb 3 (β 3), Ent.isb 4 (β 4), Ent.isb 5 (β 5), Ent.isb 10 (β 10)] ?_ ?_
      · replace H := h12; clear h12
        refine goes_region ?_
        refine go1 (op_fieldAddr rfl Try.underlying48 rfl tk9 (.t (has rfl))) rfl ?_
        refine go1 (op_load rfl fldNode_Target tk9 (.t (has rfl)) (has rfl)) rfl ?_
        refine go1 (op_load rfl (Fld.whole kstr) tk9 (.t (has rfl)) (has rfl)) rfl ?_
        refine go1 (op_scmp rfl rfl (.t (has rfl)) (.t (has rfl))) rfl ?_
        refine go1 (op_move rfl (.t (has rfl))) rfl ?_
        refine goesO_split H (fun hb13 H => ?_) (fun hb13 H => ?_)
        · skip
          refine goG (op_load_mp rfl xmz66 (.t (has rfl)) (has rfl)) rfl rfl rfl rfl hb13 ?_
          refine goG (op_fieldAddr rfl Try.underlying48 rfl tk9 (.t (has rfl))) rfl rfl rfl rfl hb13 ?_
          refine goG (op_load rfl fldNode_Target tk9 (.t (has rfl)) (has rfl)) rfl rfl rfl rfl hb13 ?_
          obtain ⟨v14, h15, H⟩ := bind_some H
          refine goG (op_callF' rfl enters36 (walk_set_string_has.conF _ _ _ h15) rfl (.cons (ArgB.mps (.t (has rfl)) (has rfl) rfl) (.cons (ArgB.k (.t (has rfl))) .nil))) rfl rfl rfl rfl hb13 ?_
          refine goG (op_not rfl (.t (has rfl))) rfl rfl rfl rfl hb13 ?_
          refine go1 (op_pick_t rfl hb13 (.t (has rfl)) (.t (has rfl))) rfl ?_
          refine goesO_nil ?_
          obtain rfl := Option.some.inj H
          exact ends_cut (.cons rfl (.cons rfl (.cons rfl (.cons rfl (.cons rfl (.cons rfl (.cons rfl (.cons rfl (.cons rfl (.cons rfl (.cons rfl (.cons rfl (.cons rfl (.cons rfl .nil))))))))))))))
        · skip
          refine goS rfl rfl rfl rfl rfl rfl hb13 ?_
          refine goS rfl rfl rfl rfl rfl rfl hb13 ?_
          refine goS rfl rfl rfl rfl rfl rfl hb13 ?_
          refine goS rfl rfl rfl rfl rfl rfl hb13 ?_
          refine goS rfl rfl rfl rfl rfl rfl hb13 ?_
          refine go1 (op_pick_f rfl hb13 (.t (has rfl)) (.bool _)) rfl ?_
          refine goesO_nil ?_
          obtain rfl := Option.some.inj H
          exact ends_cut (.cons rfl (.cons rfl (.cons rfl (.cons rfl (.cons rfl (.cons rfl (.cons rfl (.cons rfl (.cons rfl (.cons rfl (.cons rfl (.cons rfl (.cons rfl (.cons rfl .nil))))))))))))))
      refine ends_then ?_
      refine goes_if (.t (has rfl)) H (fun hb16 H => ?_) (fun hb16 H => ?_)
      · skip
        refine goes_exit (ends_then_exit (ends_block_exit ?_))
        obtain rfl := Option.some.inj H
        exact ends_cut (.cons rfl (.cons rfl (.cons rfl (.cons rfl (.cons rfl (.cons rfl (.cons rfl (.cons rfl (.cons rfl (.cons rfl (.cons rfl .nil)))))))))))
      · skip
        refine goes_skip ?_
        refine ends_then ?_
        refine goes_seq ?_
        refine goes_region ?_
        refine go1 (op_fieldAddr rfl Try.underlying48 rfl tk23 (.t (has rfl))) rfl ?_
        refine go1 (op_load rfl fldNode_Needs tk23 (.t (has rfl)) (has rfl)) rfl ?_
        refine go1 (op_len rfl rfl Try.underlying23 (.t (has rfl))) rfl ?_
        refine go1 (op_move rfl (.int _ _)) rfl ?_
        refine goesO_nil ?_
        refine ends_then ?_
        obtain ⟨s18, h19, H⟩ := bind_some H
        refine goes_cut [Ent.t 3 (VA.ptr 3 0), Ent.t 4 (VA.ptr 4 0), Ent.t 5 (VA.ptr 5 0), Ent.h 3 (HE.box 9 kstr a1), Ent.h 4 (HE.raw 66 1), Ent.h 5 (HE.boxm 66 10), Ent.h 10 (HE.map Try.prog 9 (kint .i64) s18), Ent.isb 3 (β 3), Ent.isb 4 (β 4), Ent.isb 5 (β 5), Ent.isb 10 (β 10)] ?_ ?_
        · replace H := h19; clear h19
          refine goes_block ?_
          refine goes_loop (fun s17 : (GM Int) × Int => [Ent.t 3 (VA.ptr 3 0), Ent.t 4 (VA.ptr 4 0), Ent.t 5 (VA.ptr 5 0), Ent.t 28 (VA.k (kslice kstr) x.2.Needs), Ent.t 29 (VA.k (kint .i64) (x.2.Needs.length : Int)), Ent.t 30 (VA.k (kint .i64) s17.2), Ent.h 3 (HE.box 9 kstr a1), Ent.h 4 (HE.raw 66 1), Ent.h 5 (HE.boxm 66 10), Ent.h 10 (HE.map Try.prog 9 (kint .i64) s17.1), Ent.isb 3 (β 3), Ent.isb 4 (β 4), Ent.isb 5 (β 5), Ent.isb 10 (β 10)]) (fun k s17 => walk_below.l1 x k s17) (fun _ => rfl) H (.cons rfl (.cons rfl (.cons rfl (.cons rfl (.cons rfl (.cons rfl (.cons rfl (.cons rfl (.cons rfl (.cons rfl (.cons rfl (.cons rfl (.cons rfl (.cons rfl .nil)))))))))))))) ?_
          intro k s17 H
          simp only [walk_below.l1] at H
          refine goes_seq ?_
          refine goes_region ?_
          refine go1 (op_icmp rfl rfl (.t (has rfl)) (.t (has rfl))) rfl ?_
          refine goesO_nil ?_
          refine ends_then ?_
          refine goes_seq ?_
          refine goes_if (.t (has rfl)) H (fun hb20 H => ?_) (fun hb20 H => ?_)
          · skip
            refine goes_skip ?_
            refine ends_then ?_
            refine goes_seq ?_
            refine goes_block ?_
            refine goes_seq ?_
            refine goes_region ?_
            obtain ⟨x21, h22, H⟩ := bind_some H
            refine go1 (op_indexAddr rfl Try.underlying23 tk9 h22 (.t (has rfl)) (.t (has rfl))) rfl ?_
            refine go1 (op_loadp rfl tk9 (.t (has rfl))) rfl ?_
            refine go1 (op_assign rfl (.t (has rfl))) rfl ?_
            refine goesO_nil ?_
            refine ends_then ?_
            refine goes_region ?_
            refine go1 (op_load_mp rfl xmz66 (.t (has rfl)) (has rfl)) rfl ?_
            refine go1 (op_move rfl (.t (has rfl))) rfl ?_
            obtain ⟨x23, h24, H⟩ := bind_some H
            refine go2 (op_callIO rfl enters39 (walk_set_string_put.con _ _ _ h24) (.t (has rfl)) (has rfl) (.cons (ArgP.k (.t (has rfl))) .nil)) rfl ?_
            refine goesO_nil ?_
            refine ends_block ?_
            refine ends_then ?_
            refine goes_region ?_
            refine go1 (op_add rfl (.t (has rfl)) (.int _ _)) rfl ?_
            refine go1 (op_move rfl (.t (has rfl))) rfl ?_
            refine goesO_nil ?_
            exact loop_next _ H (.cons rfl (.cons rfl (.cons rfl (.cons rfl (.cons rfl (.cons rfl (.cons rfl (.cons rfl (.cons rfl (.cons rfl (.cons rfl (.cons rfl (.cons rfl (.cons rfl .nil))))))))))))))
          · skip
            refine goes_exit (ends_then_exit (ends_then_exit (ends_block_exit ?_)))
            obtain rfl := Option.some.inj H
            exact ends_cut (.cons rfl (.cons rfl (.cons rfl (.cons rfl (.cons rfl (.cons rfl (.cons rfl (.cons rfl (.cons rfl (.cons rfl (.cons rfl .nil)))))))))))
        refine ends_block ?_
        obtain rfl := Option.some.inj H
        exact ends_cut (.cons rfl (.cons rfl (.cons rfl (.cons rfl (.cons rfl (.cons rfl (.cons rfl (.cons rfl (.cons rfl (.cons rfl (.cons rfl .nil)))))))))))
    exact ends_round _ H (.cons rfl (.cons rfl (.cons rfl (.cons rfl .nil)))) (.cons rfl (.cons rfl (.cons rfl (.cons rfl .nil))))
  · rintro Dm s5 rfl
    dsimp only at H
    refine ends_block ?_
    refine ends_then ?_
    refine goes_seq ?_
    refine goes_region ?_
    refine go1 (op_load_mp rfl xmz66 (.t (has rfl)) (has rfl)) rfl ?_
    refine go1 (op_store_mp xmz66 (.inl rfl) (.t (has rfl)) (has rfl) (.t (has rfl))) rfl ?_
    refine goesO_nil ?_
    refine ends_then ?_
    obtain rfl := Option.some.inj H
    exact goes_ret (ends_stripM rfl (ends_ret' rfl rfl (.cm rfl rfl rfl xmz66 (.nil _))))
  · exact fun Dm t e => t.elim
/-! smithy/walk.Apart -/
def walk_Apart.f (k : Nat) (a0 : Plan) (a1 : ByteArray) (a2 : ByteArray) : Option (Bool × Int) := (walk_asked.f k a0 ([a1, a2])).bind fun v1 => bif icmp .neq v1 (0 : Int) then (some (false, v1)) else ((bif scmp .neq a1 a2 then ((walk_below.f k a0 a1).bind fun v7 => (walk_set_string_has.f (⟨v7⟩ : WalkSet_string_) a2).bind fun v9 => bif !v9 then ((walk_below.f k a0 a2).bind fun v12 => (walk_set_string_has.f (⟨v12⟩ : WalkSet_string_) a1).bind fun v14 => some (!v14)) else (some false)) else (some false)).bind fun s4 => some (s4, (0 : Int)))
set_option maxRecDepth 100000 in
set_option maxHeartbeats 4000000 in
theorem walk_Apart.con (k : Nat) (a0 : Plan) (a1 : ByteArray) (a2 : ByteArray) (r : Bool × Int) (H : walk_Apart.f k a0 a1 a2 = some r) : Con Try.prog 21 [VA.k kPlan a0, VA.k kstr a1, VA.k kstr a2] [VA.k kbool r.1, VA.k (kint .i64) r.2] := by
  unfold walk_Apart.f at H
  refine con_enter Try.func21 rfl rfl rfl (fun w0 S0 θ => ?_)
  refine goes_seq ?_
  refine goes_region ?_
  refine go3 (op_box 3 rfl (fun h => by first | rfl | cases h) (.t (has rfl))) rfl ?_
  refine go1 (op_assign rfl (.bool _)) rfl ?_
  refine go1 (op_assign rfl (.int _ _)) rfl ?_
  refine goesO_nil ?_
  refine ends_then ?_
  refine goes_seq ?_
  refine goes_seq ?_
  refine goes_region ?_
  refine go1 (op_load rfl (Fld.whole kPlan) tk25 (.t (has rfl)) (has rfl)) rfl ?_
  refine go1 (op_move rfl (.t (has rfl))) rfl ?_
  refine go1 (op_move rfl (.t (has rfl))) rfl ?_
  refine go1 (op_buildSlice rfl at23 (fun h => by first | rfl | cases h) rfl rfl rfl (.cons (.t (has rfl)) (.cons (.t (has rfl)) (.nil _)))) rfl ?_
  obtain ⟨v1, h2, H⟩ := bind_some H
  refine go1 (op_callF' rfl enters34 (walk_asked.conF _ _ _ _ h2) rfl (.cons (ArgB.k (.t (has rfl))) (.cons (ArgB.own rfl (has rfl)) .nil))) rfl ?_
  refine go1 (op_assign rfl (.t (has rfl))) rfl ?_
  refine goesO_nil ?_
  refine ends_then ?_
  refine goes_seq ?_
  refine goes_region ?_
  refine go1 (op_move rfl (.t (has rfl))) rfl ?_
  refine go1 (op_icmp rfl rfl (.t (has rfl)) (.int _ _)) rfl ?_
  refine goesO_nil ?_
  refine ends_then ?_
  refine goes_if (.t (has rfl)) H (fun hb3 H => ?_) (fun hb3 H => ?_)
  · skip
    refine goes_seq ?_
    refine goes_region ?_
    refine go1 (op_move rfl (.t (has rfl))) rfl ?_
    refine go1 (op_assign rfl (.bool _)) rfl ?_
    refine go1 (op_assign rfl (.t (has rfl))) rfl ?_
    refine goesO_nil ?_
    refine ends_then ?_
    obtain rfl := Option.some.inj H
    exact goes_ret (ends_then_ret (ends_ret' rfl rfl (.t rfl (.t rfl (.nil _)))))
  · skip
    refine goes_skip ?_
    refine ends_then ?_
    refine goes_seq ?_
    obtain ⟨s4, h5, H⟩ := bind_some H
    refine goes_cut [Ent.t 6 (VA.k kbool s4), Ent.t 7 (VA.k (kint .i64) (0 : Int))] ?_ ?_
    · replace H := h5; clear h5
      refine goes_region ?_
      refine go1 (op_move rfl (.t (has rfl))) rfl ?_
      refine go1 (op_move rfl (.t (has rfl))) rfl ?_
      refine go1 (op_scmp rfl rfl (.t (has rfl)) (.t (has rfl))) rfl ?_
      refine go1 (op_move rfl (.t (has rfl))) rfl ?_
      refine goesO_split H (fun hb6 H => ?_) (fun hb6 H => ?_)
      · skip
        refine goG (op_load rfl (Fld.whole kPlan) tk25 (.t (has rfl)) (has rfl)) rfl rfl rfl rfl hb6 ?_
        refine goG (op_move rfl (.t (has rfl))) rfl rfl rfl rfl hb6 ?_
        obtain ⟨v7, h8, H⟩ := bind_some H
        refine goG (op_call' rfl enters48 (walk_below.con _ _ _ _ h8) rfl (.cons (ArgP.k (.t (has rfl))) (.cons (ArgP.k (.t (has rfl))) .nil))) rfl rfl rfl rfl hb6 ?_
        refine goesO_adopt 23 23 rfl rfl ?_
        refine goG (op_move rfl (.t (has rfl))) rfl rfl rfl rfl hb6 ?_
        obtain ⟨v9, h10, H⟩ := bind_some H
        refine goG (op_callF' rfl enters36 (walk_set_string_has.conF _ _ _ h10) rfl (.cons (ArgB.mps (.t (has rfl)) (has rfl) rfl) (.cons (ArgB.k (.t (has rfl))) .nil))) rfl rfl rfl rfl hb6 ?_
        refine goG (op_not rfl (.t (has rfl))) rfl rfl rfl rfl hb6 ?_
        refine go1 (op_pick_t rfl hb6 (.t (has rfl)) (.t (has rfl))) rfl ?_
        refine go1 (op_move rfl (.t (has rfl))) rfl ?_
        refine goesO_split H (fun hb11 H => ?_) (fun hb11 H => ?_)
        · skip
          refine goG (op_load rfl (Fld.whole kPlan) tk25 (.t (has rfl)) (has rfl)) rfl rfl rfl rfl hb11 ?_
          refine goG (op_move rfl (.t (has rfl))) rfl rfl rfl rfl hb11 ?_
          obtain ⟨v12, h13, H⟩ := bind_some H
          refine goG (op_call' rfl enters48 (walk_below.con _ _ _ _ h13) rfl (.cons (ArgP.k (.t (has rfl))) (.cons (ArgP.k (.t (has rfl))) .nil))) rfl rfl rfl rfl hb11 ?_
          refine goesO_adopt 31 31 rfl rfl ?_
          refine goG (op_move rfl (.t (has rfl))) rfl rfl rfl rfl hb11 ?_
          obtain ⟨v14, h15, H⟩ := bind_some H
          refine goG (op_callF' rfl enters36 (walk_set_string_has.conF _ _ _ h15) rfl (.cons (ArgB.mps (.t (has rfl)) (has rfl) rfl) (.cons (ArgB.k (.t (has rfl))) .nil))) rfl rfl rfl rfl hb11 ?_
          refine goG (op_not rfl (.t (has rfl))) rfl rfl rfl rfl hb11 ?_
          refine go1 (op_pick_t rfl hb11 (.t (has rfl)) (.t (has rfl))) rfl ?_
          refine go1 (op_assign rfl (.t (has rfl))) rfl ?_
          refine go1 (op_assign rfl (.int _ _)) rfl ?_
          refine goesO_nil ?_
          obtain rfl := Option.some.inj H
          exact ends_cut (.cons rfl (.cons rfl .nil))
        · skip
          refine goS rfl rfl rfl rfl rfl rfl hb11 ?_
          refine goS rfl rfl rfl rfl rfl rfl hb11 ?_
          refine goS rfl rfl rfl rfl rfl rfl hb11 ?_
          refine goS rfl rfl rfl rfl rfl rfl hb11 ?_
          refine goS rfl rfl rfl rfl rfl rfl hb11 ?_
          refine goS rfl rfl rfl rfl rfl rfl hb11 ?_
          refine go1 (op_pick_f rfl hb11 (.t (has rfl)) (.bool _)) rfl ?_
          refine go1 (op_assign rfl (.t (has rfl))) rfl ?_
          refine go1 (op_assign rfl (.int _ _)) rfl ?_
          refine goesO_nil ?_
          obtain rfl := Option.some.inj H
          exact ends_cut (.cons rfl (.cons rfl .nil))
      · skip
        refine goS rfl rfl rfl rfl rfl rfl hb6 ?_
        refine goS rfl rfl rfl rfl rfl rfl hb6 ?_
        refine goS rfl rfl rfl rfl rfl rfl hb6 ?_
        refine goS rfl rfl rfl rfl rfl rfl hb6 ?_
        refine goS rfl rfl rfl rfl rfl rfl hb6 ?_
        refine goS rfl rfl rfl rfl rfl rfl hb6 ?_
        refine go1 (op_pick_f rfl hb6 (.t (has rfl)) (.bool _)) rfl ?_
        refine go1 (op_move rfl (.t (has rfl))) rfl ?_
        refine goS rfl rfl rfl rfl rfl rfl rfl ?_
        refine goS rfl rfl rfl rfl rfl rfl rfl ?_
        refine goS rfl rfl rfl rfl rfl rfl rfl ?_
        refine goS rfl rfl rfl rfl rfl rfl rfl ?_
        refine goS rfl rfl rfl rfl rfl rfl rfl ?_
        refine goS rfl rfl rfl rfl rfl rfl rfl ?_
        refine go1 (op_pick_f rfl rfl (.t (has rfl)) (.bool _)) rfl ?_
        refine go1 (op_assign rfl (.t (has rfl))) rfl ?_
        refine go1 (op_assign rfl (.int _ _)) rfl ?_
        refine goesO_nil ?_
        obtain rfl := Option.some.inj H
        exact ends_cut (.cons rfl (.cons rfl .nil))
    refine ends_then ?_
    obtain rfl := Option.some.inj H
    exact goes_ret (ends_ret' rfl rfl (.t rfl (.t rfl (.nil _))))
/-! smithy/smithylaw14.WalkSole -/
def smithylaw14_WalkSole.l1 (a0 : Plan) (s8 : Bool × Int) : Nat → (Bool × Int) → Option (Except Bool Bool)
  | 0, _ => none
  | k + 1, s16 => (bif icmp .lss s16.2 s8.2 then (some (!s16.1)) else (some false)).bind fun s20 => bif s20 then ((idx a0.Nodes s8.2).bind fun x24 => (idx a0.Nodes s16.2).bind fun x26 => (walk_Apart.f k a0 x24.Target x26.Target).bind fun v28 => bif icmp .neq v28.2 (0 : Int) then (some (Except.error false)) else (smithylaw14_WalkSole.l1 a0 s8 k (v28.1, IntKind.i64.wrap (s16.2 + (1 : Int))))) else (some (Except.ok s16.1))
def smithylaw14_WalkSole.l0 (a0 : Plan) : Nat → (Bool × Int) → Option (Except Bool Bool)
  | 0, _ => none
  | k + 1, s8 => (bif icmp .lss s8.2 (a0.Nodes.length : Int) then (some (!s8.1)) else (some false)).bind fun s12 => bif s12 then ((smithylaw14_WalkSole.l1 a0 s8 k (s8.1, (0 : Int))).bind fun o19 => match o19 with | .error r' => some (Except.error r') | .ok s17 => (smithylaw14_WalkSole.l0 a0 k (s17, IntKind.i64.wrap (s8.2 + (1 : Int))))) else (some (Except.ok s8.1))
def smithylaw14_WalkSole.f (k : Nat) (a0 : Plan) : Option Bool := (smithyref12_Check.f k a0).bind fun v1 => bif icmp .neq v1 (0 : Int) then ((smithylaw14_speaks.f k).bind fun v4 => some v4) else ((walk_Count.f k a0 (2 : Int)).bind fun v6 => (smithylaw14_WalkSole.l0 a0 k (false, (0 : Int))).bind fun o11 => match o11 with | .error r' => some r' | .ok s9 => ((bif icmp .eql v6.2 (0 : Int) then (bif (icmp .eql v6.1 (2 : Int) == s9) then (bif (icmp .eql v6.1 (1 : Int) == !s9) then ((smithylaw14_speaks.f k).bind fun v36 => some v36) else (some false)) else (some false)) else (some false)).bind fun s31 => some s31))
set_option maxRecDepth 100000 in
set_option maxHeartbeats 4000000 in
theorem smithylaw14_WalkSole.con (k : Nat) (a0 : Plan) (r : Bool) (H : smithylaw14_WalkSole.f k a0 = some r) : Con Try.prog 5 [VA.k kPlan a0] [VA.k kbool r] := by
  unfold smithylaw14_WalkSole.f at H
  refine con_enter Try.func5 rfl rfl rfl (fun w0 S0 θ => ?_)
  refine goes_seq ?_
  refine goes_region ?_
  refine go3 (op_box 1 rfl (fun h => by first | rfl | cases h) (.t (has rfl))) rfl ?_
  refine go1 (op_assign rfl (.bool _)) rfl ?_
  refine goesO_nil ?_
  refine ends_then ?_
  refine goes_seq ?_
  refine goes_seq ?_
  refine goes_region ?_
  refine go1 (op_load rfl (Fld.whole kPlan) tk25 (.t (has rfl)) (has rfl)) rfl ?_
  obtain ⟨v1, h2, H⟩ := bind_some H
  refine go1 (op_call' rfl enters17 (smithyref12_Check.con _ _ _ h2) rfl (.cons (ArgP.k (.t (has rfl))) .nil)) rfl ?_
  refine go1 (op_icmp rfl rfl (.t (has rfl)) (.int _ _)) rfl ?_
  refine goesO_nil ?_
  refine ends_then ?_
  refine goes_if (.t (has rfl)) H (fun hb3 H => ?_) (fun hb3 H => ?_)
  · skip
    refine goes_seq ?_
    refine goes_region ?_
    obtain ⟨v4, h5, H⟩ := bind_some H
    refine go1 (op_call' rfl enters13 (smithylaw14_speaks.con _  _ h5) rfl .nil) rfl ?_
    refine go1 (op_assign rfl (.t (has rfl))) rfl ?_
    refine goesO_nil ?_
    refine ends_then ?_
    obtain rfl := Option.some.inj H
    exact goes_ret (ends_then_ret (ends_ret' rfl rfl (.t rfl (.nil _))))
  · skip
    refine goes_skip ?_
    refine ends_then ?_
    refine goes_seq ?_
    refine goes_region ?_
    refine go1 (op_load rfl (Fld.whole kPlan) tk25 (.t (has rfl)) (has rfl)) rfl ?_
    obtain ⟨v6, h7, H⟩ := bind_some H
    refine goN (op_calls' rfl enters20 (walk_Count.con _ _ _ _ h7) rfl rfl (.cons (ArgP.k (.t (has rfl))) (.cons (ArgP.k (.int _ _)) .nil))) rfl ?_
    refine go1 (op_same (.inl rfl) rfl rfl) rfl ?_
    refine go1 (op_extract_same rfl plain_k (has rfl) (has rfl)) rfl ?_
    refine go1 (op_extract_same rfl plain_k (has rfl) (has rfl)) rfl ?_
    refine go1 (op_assign rfl (.t (has rfl))) rfl ?_
    refine go1 (op_assign rfl (.t (has rfl))) rfl ?_
    refine goesO_nil ?_
    refine ends_then ?_
    refine goes_seq ?_
    refine goes_region ?_
    refine go1 (op_assign rfl (.bool _)) rfl ?_
    refine goesO_nil ?_
    refine ends_then ?_
    refine goes_seq ?_
    refine goes_seq ?_
    refine goes_region ?_
    refine go1 (op_assign rfl (.int _ _)) rfl ?_
    refine goesO_nil ?_
    refine ends_then ?_
    obtain ⟨o11, h10, H⟩ := bind_some H
    refine goes_cutR (o := o11) (fun s9 : Bool => [Ent.t 3 (VA.k (kint .i64) v6.1), Ent.t 4 (VA.k (kint .i64) v6.2), Ent.t 5 (VA.k kbool s9)]) (fun r a w => bodyPost Try.prog Try.f5 (CPost w0 S0 θ [VA.k kbool r]) .ret a w) ?_ ?_ ?_
    · replace H := h10; clear h10
      refine goes_block ?_
      refine goes_loop (fun s8 : Bool × Int => [Ent.t 1 (VA.ptr 1 0), Ent.t 3 (VA.k (kint .i64) v6.1), Ent.t 4 (VA.k (kint .i64) v6.2), Ent.t 5 (VA.k kbool s8.1), Ent.t 6 (VA.k (kint .i64) s8.2), Ent.h 1 (HE.box 25 kPlan a0)]) (fun k s8 => smithylaw14_WalkSole.l0 a0 k s8) (fun _ => rfl) H (.cons rfl (.cons rfl (.cons rfl (.cons rfl (.cons rfl (.cons rfl .nil)))))) ?_
      intro k s8 H
      simp only [smithylaw14_WalkSole.l0] at H
      refine goes_seq ?_
      refine goes_seq ?_
      obtain ⟨s12, h13, H⟩ := bind_some H
      refine goes_cut [Ent.t 1 (VA.ptr 1 0), Ent.t 3 (VA.k (kint .i64) v6.1), Ent.t 4 (VA.k (kint .i64) v6.2), Ent.t 5 (VA.k kbool s8.1), Ent.t 6 (VA.k (kint .i64) s8.2), Ent.t 27 (VA.k kbool s12), Ent.h 1 (HE.box 25 kPlan a0)] ?_ ?_
      · replace H := h13; clear h13
        refine goes_region ?_
        refine go1 (op_move rfl (.t (has rfl))) rfl ?_
        refine go1 (op_fieldAddr rfl Try.underlying25 rfl tk22 (.t (has rfl))) rfl ?_
        refine go1 (op_load rfl fldPlan_Nodes tk22 (.t (has rfl)) (has rfl)) rfl ?_
        refine go1 (op_len rfl rfl Try.underlying22 (.t (has rfl))) rfl ?_
        refine go1 (op_icmp rfl rfl (.t (has rfl)) (.t (has rfl))) rfl ?_
        refine go1 (op_move rfl (.t (has rfl))) rfl ?_
        refine goesO_split H (fun hb14 H => ?_) (fun hb14 H => ?_)
        · skip
          refine goG (op_move rfl (.t (has rfl))) rfl rfl rfl rfl hb14 ?_
          refine goG (op_not rfl (.t (has rfl))) rfl rfl rfl rfl hb14 ?_
          refine go1 (op_pick_t rfl hb14 (.t (has rfl)) (.t (has rfl))) rfl ?_
          refine goesO_nil ?_
          obtain rfl := Option.some.inj H
          exact ends_cut (.cons rfl (.cons rfl (.cons rfl (.cons rfl (.cons rfl (.cons rfl (.cons rfl .nil)))))))
        · skip
          refine goS rfl rfl rfl rfl rfl rfl hb14 ?_
          refine goS rfl rfl rfl rfl rfl rfl hb14 ?_
          refine go1 (op_pick_f rfl hb14 (.t (has rfl)) (.bool _)) rfl ?_
          refine goesO_nil ?_
          obtain rfl := Option.some.inj H
          exact ends_cut (.cons rfl (.cons rfl (.cons rfl (.cons rfl (.cons rfl (.cons rfl (.cons rfl .nil)))))))
      refine ends_then ?_
      refine goes_if (.t (has rfl)) H (fun hb15 H => ?_) (fun hb15 H => ?_)
      · skip
        refine goes_skip ?_
        refine ends_then ?_
        refine goes_seq ?_
        refine goes_block ?_
        refine goes_seq ?_
        refine goes_region ?_
        refine go1 (op_assign rfl (.int _ _)) rfl ?_
        refine goesO_nil ?_
        refine ends_then ?_
        obtain ⟨o19, h18, H⟩ := bind_some H
        refine goes_cutR (o := o19) (fun s17 : Bool => [Ent.t 1 (VA.ptr 1 0), Ent.t 3 (VA.k (kint .i64) v6.1), Ent.t 4 (VA.k (kint .i64) v6.2), Ent.t 5 (VA.k kbool s17), Ent.t 6 (VA.k (kint .i64) s8.2), Ent.h 1 (HE.box 25 kPlan a0)]) (fun r a w => bodyPost Try.prog Try.f5 (CPost w0 S0 θ [VA.k kbool r]) .ret a w) ?_ ?_ ?_
        · replace H := h18; clear h18
          refine goes_block ?_
          refine goes_loop (fun s16 : Bool × Int => [Ent.t 1 (VA.ptr 1 0), Ent.t 3 (VA.k (kint .i64) v6.1), Ent.t 4 (VA.k (kint .i64) v6.2), Ent.t 5 (VA.k kbool s16.1), Ent.t 6 (VA.k (kint .i64) s8.2), Ent.t 7 (VA.k (kint .i64) s16.2), Ent.h 1 (HE.box 25 kPlan a0)]) (fun k s16 => smithylaw14_WalkSole.l1 a0 s8 k s16) (fun _ => rfl) H (.cons rfl (.cons rfl (.cons rfl (.cons rfl (.cons rfl (.cons rfl (.cons rfl .nil))))))) ?_
          intro k s16 H
          simp only [smithylaw14_WalkSole.l1] at H
          refine goes_seq ?_
          refine goes_seq ?_
          obtain ⟨s20, h21, H⟩ := bind_some H
          refine goes_cut [Ent.t 1 (VA.ptr 1 0), Ent.t 3 (VA.k (kint .i64) v6.1), Ent.t 4 (VA.k (kint .i64) v6.2), Ent.t 5 (VA.k kbool s16.1), Ent.t 6 (VA.k (kint .i64) s8.2), Ent.t 7 (VA.k (kint .i64) s16.2), Ent.t 36 (VA.k kbool s20), Ent.h 1 (HE.box 25 kPlan a0)] ?_ ?_
          · replace H := h21; clear h21
            refine goes_region ?_
            refine go1 (op_move rfl (.t (has rfl))) rfl ?_
            refine go1 (op_move rfl (.t (has rfl))) rfl ?_
            refine go1 (op_icmp rfl rfl (.t (has rfl)) (.t (has rfl))) rfl ?_
            refine go1 (op_move rfl (.t (has rfl))) rfl ?_
            refine goesO_split H (fun hb22 H => ?_) (fun hb22 H => ?_)
            · skip
              refine goG (op_move rfl (.t (has rfl))) rfl rfl rfl rfl hb22 ?_
              refine goG (op_not rfl (.t (has rfl))) rfl rfl rfl rfl hb22 ?_
              refine go1 (op_pick_t rfl hb22 (.t (has rfl)) (.t (has rfl))) rfl ?_
              refine goesO_nil ?_
              obtain rfl := Option.some.inj H
              exact ends_cut (.cons rfl (.cons rfl (.cons rfl (.cons rfl (.cons rfl (.cons rfl (.cons rfl (.cons rfl .nil))))))))
            · skip
              refine goS rfl rfl rfl rfl rfl rfl hb22 ?_
              refine goS rfl rfl rfl rfl rfl rfl hb22 ?_
              refine go1 (op_pick_f rfl hb22 (.t (has rfl)) (.bool _)) rfl ?_
              refine goesO_nil ?_
              obtain rfl := Option.some.inj H
              exact ends_cut (.cons rfl (.cons rfl (.cons rfl (.cons rfl (.cons rfl (.cons rfl (.cons rfl (.cons rfl .nil))))))))
          refine ends_then ?_
          refine goes_if (.t (has rfl)) H (fun hb23 H => ?_) (fun hb23 H => ?_)
          · skip
            refine goes_skip ?_
            refine ends_then ?_
            refine goes_seq ?_
            refine goes_block ?_
            refine goes_seq ?_
            obtain ⟨x24, h25, H⟩ := bind_some H
            obtain ⟨x26, h27, H⟩ := bind_some H
            obtain ⟨v28, h29, H⟩ := bind_some H
            refine goes_drawn [[Ent.t 40 (VA.k kPlan a0)], [Ent.t 41 (VA.ptr 1 0)], [Ent.t 42 (VA.k (kslice kNode) a0.Nodes)], [Ent.t 43 (VA.k (kint .i64) s8.2)], [Ent.t 44 (VA.pt kNode x24)], [Ent.t 45 (VA.pt kstr x24.Target)], [Ent.t 46 (VA.k kstr x24.Target)], [Ent.t 47 (VA.ptr 1 0)], [Ent.t 48 (VA.k (kslice kNode) a0.Nodes)], [Ent.t 49 (VA.k (kint .i64) s16.2)], [Ent.t 50 (VA.pt kNode x26)], [Ent.t 51 (VA.pt kstr x26.Target)], [Ent.t 52 (VA.k kstr x26.Target)], [Ent.c 53 0 (VA.k kbool v28.1), Ent.c 53 1 (VA.k (kint .i64) v28.2), Ent.t 53 (VA.any)], [Ent.same 39 53], [Ent.t 54 (VA.k kbool v28.1)], [Ent.t 55 (VA.k (kint .i64) v28.2)], [Ent.t 8 (VA.k kbool v28.1)], [Ent.t 9 (VA.k (kint .i64) v28.2)]] mixed (by kernel_rfl) (by kernel_rfl) (.cons [(none, Ent.t 1 (VA.ptr 1 0)), (none, Ent.h 1 (HE.box 25 kPlan a0))] (OpSpec.run rfl rfl (op_load rfl (Fld.whole kPlan) tk25 (.t NL.h0) (NL.hs NL.h0)) rfl) (.cons (has rfl) (.cons (has rfl) .nil)) (by kernel_rfl) (.cons [(none, Ent.t 1 (VA.ptr 1 0))] (OpSpec.run rfl rfl (op_fieldAddr rfl Try.underlying25 rfl tk22 (.t NL.h0)) rfl) (.cons (has rfl) .nil) (by kernel_rfl) (.cons [(some 1, Ent.t 41 (VA.ptr 1 0)), (none, Ent.h 1 (HE.box 25 kPlan a0))] (OpSpec.run rfl rfl (op_load rfl fldPlan_Nodes tk22 (.t NL.h0) (NL.hs NL.h0)) rfl) (.cons (has rfl) (.cons (has rfl) .nil)) (by kernel_rfl) (.cons [(none, Ent.t 6 (VA.k (kint .i64) s8.2))] (OpSpec.run rfl rfl (op_move rfl (.t NL.h0)) rfl) (.cons (has rfl) .nil) (by kernel_rfl) (.cons [(some 2, Ent.t 42 (VA.k (kslice kNode) a0.Nodes)), (some 3, Ent.t 43 (VA.k (kint .i64) s8.2))] (OpSpec.run rfl rfl (op_indexAddr rfl Try.underlying22 tk48 h25 (.t NL.h0) (.t (NL.hs NL.h0))) rfl) (.cons (has rfl) (.cons (has rfl) .nil)) (by kernel_rfl) (.cons [(some 4, Ent.t 44 (VA.pt kNode x24))] (OpSpec.run rfl rfl (op_fieldAddrp rfl fldNode_Target Try.underlying48 rfl tk9 (.t NL.h0)) rfl) (.cons (has rfl) .nil) (by kernel_rfl) (.cons [(some 5, Ent.t 45 (VA.pt kstr x24.Target))] (OpSpec.run rfl rfl (op_loadp rfl tk9 (.t NL.h0)) rfl) (.cons (has rfl) .nil) (by kernel_rfl) (.cons [(none, Ent.t 1 (VA.ptr 1 0))] (OpSpec.run rfl rfl (op_fieldAddr rfl Try.underlying25 rfl tk22 (.t NL.h0)) rfl) (.cons (has rfl) .nil) (by kernel_rfl) (.cons [(some 7, Ent.t 47 (VA.ptr 1 0)), (none, Ent.h 1 (HE.box 25 kPlan a0))] (OpSpec.run rfl rfl (op_load rfl fldPlan_Nodes tk22 (.t NL.h0) (NL.hs NL.h0)) rfl) (.cons (has rfl) (.cons (has rfl) .nil)) (by kernel_rfl) (.cons [(none, Ent.t 7 (VA.k (kint .i64) s16.2))] (OpSpec.run rfl rfl (op_move rfl (.t NL.h0)) rfl) (.cons (has rfl) .nil) (by kernel_rfl) (.cons [(some 8, Ent.t 48 (VA.k (kslice kNode) a0.Nodes)), (some 9, Ent.t 49 (VA.k (kint .i64) s16.2))] (OpSpec.run rfl rfl (op_indexAddr rfl Try.underlying22 tk48 h27 (.t NL.h0) (.t (NL.hs NL.h0))) rfl) (.cons (has rfl) (.cons (has rfl) .nil)) (by kernel_rfl) (.cons [(some 10, Ent.t 50 (VA.pt kNode x26))] (OpSpec.run rfl rfl (op_fieldAddrp rfl fldNode_Target Try.underlying48 rfl tk9 (.t NL.h0)) rfl) (.cons (has rfl) .nil) (by kernel_rfl) (.cons [(some 11, Ent.t 51 (VA.pt kstr x26.Target))] (OpSpec.run rfl rfl (op_loadp rfl tk9 (.t NL.h0)) rfl) (.cons (has rfl) .nil) (by kernel_rfl) (.cons [(some 0, Ent.t 40 (VA.k kPlan a0)), (some 6, Ent.t 46 (VA.k kstr x24.Target)), (some 12, Ent.t 52 (VA.k kstr x26.Target))] (OpSpec.run rfl rfl (op_calls' rfl enters21 (walk_Apart.con _ _ _ _ _ h29) rfl rfl (.cons (ArgP.k (.t NL.h0)) (.cons (ArgP.k (.t (NL.hs NL.h0))) (.cons (ArgP.k (.t (NL.hs (NL.hs NL.h0)))) .nil)))) rfl) (.cons (has rfl) (.cons (has rfl) (.cons (has rfl) .nil))) (by kernel_rfl) (.cons [(some 13, Ent.t 53 (VA.any))] (OpSpec.run rfl rfl (op_same (.inl rfl) rfl rfl) rfl) (.cons (has rfl) .nil) (by kernel_rfl) (.cons [(some 14, Ent.same 39 53), (some 13, Ent.c 53 0 (VA.k kbool v28.1))] (OpSpec.run rfl rfl (op_extract_same rfl plain_k NL.h0 (NL.hs NL.h0)) rfl) (.cons (has rfl) (.cons (has rfl) .nil)) (by kernel_rfl) (.cons [(some 14, Ent.same 39 53), (some 13, Ent.c 53 1 (VA.k (kint .i64) v28.2))] (OpSpec.run rfl rfl (op_extract_same rfl plain_k NL.h0 (NL.hs NL.h0)) rfl) (.cons (has rfl) (.cons (has rfl) .nil)) (by kernel_rfl) (.cons [(some 15, Ent.t 54 (VA.k kbool v28.1))] (OpSpec.run rfl rfl (op_assign rfl (.t NL.h0)) rfl) (.cons (has rfl) .nil) (by kernel_rfl) (.cons [(some 16, Ent.t 55 (VA.k (kint .i64) v28.2))] (OpSpec.run rfl rfl (op_assign rfl (.t NL.h0)) rfl) (.cons (has rfl) .nil) (by kernel_rfl) (.nil _)))))))))))))))))))) ?_
            refine ends_sub [Ent.t 1 (VA.ptr 1 0), Ent.t 3 (VA.k (kint .i64) v6.1), Ent.t 4 (VA.k (kint .i64) v6.2), Ent.t 6 (VA.k (kint .i64) s8.2), Ent.t 7 (VA.k (kint .i64) s16.2), Ent.t 8 (VA.k kbool v28.1), Ent.t 9 (VA.k (kint .i64) v28.2), Ent.h 1 (HE.box 25 kPlan a0)] (.cons rfl (.cons rfl (.cons rfl (.cons rfl (.cons rfl (.cons rfl (.cons rfl (.cons rfl .nil)))))))) ?_
            refine ends_then ?_
            refine goes_seq ?_
            refine goes_seq ?_
            refine goes_region ?_
            refine go1 (op_move rfl (.t (has rfl))) rfl ?_
            refine go1 (op_icmp rfl rfl (.t (has rfl)) (.int _ _)) rfl ?_
            refine goesO_nil ?_
            refine ends_then ?_
            refine goes_if (.t (has rfl)) H (fun hb30 H => ?_) (fun hb30 H => ?_)
            · skip
              refine goes_seq ?_
              refine goes_region ?_
              refine go1 (op_assign rfl (.bool _)) rfl ?_
              refine goesO_nil ?_
              refine ends_then ?_
              obtain rfl := Option.some.inj H
              refine goes_ret (ends_then_ret (ends_block_ret (ends_then_ret (ends_then_ret (ends_block_ret (ends_cutR_ret rfl ?_))))))
              exact ends_ret' rfl rfl (.t rfl (.nil _))
            · skip
              refine goes_skip ?_
              refine ends_then ?_
              refine goes_region ?_
              refine go1 (op_move rfl (.t (has rfl))) rfl ?_
              refine go1 (op_assign rfl (.t (has rfl))) rfl ?_
              refine goesO_nil ?_
              refine ends_block ?_
              refine ends_then ?_
              refine goes_region ?_
              refine go1 (op_move rfl (.t (has rfl))) rfl ?_
              refine go1 (op_add rfl (.t (has rfl)) (.int _ _)) rfl ?_
              refine go1 (op_assign rfl (.t (has rfl))) rfl ?_
              refine goesO_nil ?_
              exact loop_next _ H (.cons rfl (.cons rfl (.cons rfl (.cons rfl (.cons rfl (.cons rfl (.cons rfl .nil)))))))
          · skip
            refine goes_exit (ends_then_exit (ends_then_exit (ends_block_exit ?_)))
            obtain rfl := Option.some.inj H
            exact ends_cutR rfl (.cons rfl (.cons rfl (.cons rfl (.cons rfl (.cons rfl (.cons rfl .nil))))))
        · rintro s17 rfl
          clear h18
          dsimp only at H
          refine ends_block ?_
          refine ends_then ?_
          refine goes_region ?_
          refine go1 (op_move rfl (.t (has rfl))) rfl ?_
          refine go1 (op_add rfl (.t (has rfl)) (.int _ _)) rfl ?_
          refine go1 (op_assign rfl (.t (has rfl))) rfl ?_
          refine goesO_nil ?_
          exact loop_next _ H (.cons rfl (.cons rfl (.cons rfl (.cons rfl (.cons rfl (.cons rfl .nil))))))
        · rintro r' rfl a w hr
          obtain rfl := Option.some.inj H
          exact ⟨_, rfl, hr⟩
      · skip
        refine goes_exit (ends_then_exit (ends_then_exit (ends_block_exit ?_)))
        obtain rfl := Option.some.inj H
        exact ends_cutR rfl (.cons rfl (.cons rfl (.cons rfl .nil)))
    · rintro s9 rfl
      clear h10
      dsimp only at H
      refine ends_then ?_
      refine goes_seq ?_
      obtain ⟨s31, h32, H⟩ := bind_some H
      refine goes_cut [Ent.t 2 (VA.k kbool s31)] ?_ ?_
      · replace H := h32; clear h32
        refine goes_region ?_
        refine go1 (op_move rfl (.t (has rfl))) rfl ?_
        refine go1 (op_icmp rfl rfl (.t (has rfl)) (.int _ _)) rfl ?_
        refine go1 (op_move rfl (.t (has rfl))) rfl ?_
        refine goesO_split H (fun hb33 H => ?_) (fun hb33 H => ?_)
        · skip
          refine goG (op_move rfl (.t (has rfl))) rfl rfl rfl rfl hb33 ?_
          refine goG (op_icmp rfl rfl (.t (has rfl)) (.int _ _)) rfl rfl rfl rfl hb33 ?_
          refine goG (op_move rfl (.t (has rfl))) rfl rfl rfl rfl hb33 ?_
          refine goG (op_beq rfl Try.underlying4 (.t (has rfl)) (.t (has rfl))) rfl rfl rfl rfl hb33 ?_
          refine go1 (op_pick_t rfl hb33 (.t (has rfl)) (.t (has rfl))) rfl ?_
          refine go1 (op_move rfl (.t (has rfl))) rfl ?_
          refine goesO_split H (fun hb34 H => ?_) (fun hb34 H => ?_)
          · skip
            refine goG (op_move rfl (.t (has rfl))) rfl rfl rfl rfl hb34 ?_
            refine goG (op_icmp rfl rfl (.t (has rfl)) (.int _ _)) rfl rfl rfl rfl hb34 ?_
            refine goG (op_move rfl (.t (has rfl))) rfl rfl rfl rfl hb34 ?_
            refine goG (op_not rfl (.t (has rfl))) rfl rfl rfl rfl hb34 ?_
            refine goG (op_beq rfl Try.underlying4 (.t (has rfl)) (.t (has rfl))) rfl rfl rfl rfl hb34 ?_
            refine go1 (op_pick_t rfl hb34 (.t (has rfl)) (.t (has rfl))) rfl ?_
            refine go1 (op_move rfl (.t (has rfl))) rfl ?_
            refine goesO_split H (fun hb35 H => ?_) (fun hb35 H => ?_)
            · skip
              obtain ⟨v36, h37, H⟩ := bind_some H
              refine goG (op_call' rfl enters13 (smithylaw14_speaks.con _  _ h37) rfl .nil) rfl rfl rfl rfl hb35 ?_
              refine go1 (op_pick_t rfl hb35 (.t (has rfl)) (.t (has rfl))) rfl ?_
              refine go1 (op_assign rfl (.t (has rfl))) rfl ?_
              refine goesO_nil ?_
              obtain rfl := Option.some.inj H
              exact ends_cut (.cons rfl .nil)
            · skip
              refine goS rfl rfl rfl rfl rfl rfl hb35 ?_
              refine go1 (op_pick_f rfl hb35 (.t (has rfl)) (.bool _)) rfl ?_
              refine go1 (op_assign rfl (.t (has rfl))) rfl ?_
              refine goesO_nil ?_
              obtain rfl := Option.some.inj H
              exact ends_cut (.cons rfl .nil)
          · skip
            refine goS rfl rfl rfl rfl rfl rfl hb34 ?_
            refine goS rfl rfl rfl rfl rfl rfl hb34 ?_
            refine goS rfl rfl rfl rfl rfl rfl hb34 ?_
            refine goS rfl rfl rfl rfl rfl rfl hb34 ?_
            refine goS rfl rfl rfl rfl rfl rfl hb34 ?_
            refine go1 (op_pick_f rfl hb34 (.t (has rfl)) (.bool _)) rfl ?_
            refine go1 (op_move rfl (.t (has rfl))) rfl ?_
            refine goS rfl rfl rfl rfl rfl rfl rfl ?_
            refine go1 (op_pick_f rfl rfl (.t (has rfl)) (.bool _)) rfl ?_
            refine go1 (op_assign rfl (.t (has rfl))) rfl ?_
            refine goesO_nil ?_
            obtain rfl := Option.some.inj H
            exact ends_cut (.cons rfl .nil)
        · skip
          refine goS rfl rfl rfl rfl rfl rfl hb33 ?_
          refine goS rfl rfl rfl rfl rfl rfl hb33 ?_
          refine goS rfl rfl rfl rfl rfl rfl hb33 ?_
          refine goS rfl rfl rfl rfl rfl rfl hb33 ?_
          refine go1 (op_pick_f rfl hb33 (.t (has rfl)) (.bool _)) rfl ?_
          refine go1 (op_move rfl (.t (has rfl))) rfl ?_
          refine goS rfl rfl rfl rfl rfl rfl rfl ?_
          refine goS rfl rfl rfl rfl rfl rfl rfl ?_
          refine goS rfl rfl rfl rfl rfl rfl rfl ?_
          refine goS rfl rfl rfl rfl rfl rfl rfl ?_
          refine goS rfl rfl rfl rfl rfl rfl rfl ?_
          refine go1 (op_pick_f rfl rfl (.t (has rfl)) (.bool _)) rfl ?_
          refine go1 (op_move rfl (.t (has rfl))) rfl ?_
          refine goS rfl rfl rfl rfl rfl rfl rfl ?_
          refine go1 (op_pick_f rfl rfl (.t (has rfl)) (.bool _)) rfl ?_
          refine go1 (op_assign rfl (.t (has rfl))) rfl ?_
          refine goesO_nil ?_
          obtain rfl := Option.some.inj H
          exact ends_cut (.cons rfl .nil)
      refine ends_then ?_
      obtain rfl := Option.some.inj H
      exact goes_ret (ends_ret' rfl rfl (.t rfl (.nil _)))
    · rintro r' rfl a w hr
      obtain rfl := Option.some.inj H
      exact hr
end Go.Proofs.Ytedgkcdofiildaa.F
