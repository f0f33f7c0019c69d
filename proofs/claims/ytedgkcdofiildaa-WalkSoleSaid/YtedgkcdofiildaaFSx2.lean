import Derived.Test.YtedgkcdofiildaaFSx1
set_option linter.unusedVariables false
set_option linter.unusedSimpArgs false
set_option linter.unnecessarySimpa false
set_option linter.deprecated false
namespace Go.Proofs.Ytedgkcdofiildaa.F
open Go Go.RowKit Go.Proofs.Ytedgkcdofiildaa.Sl
/-! smithy/smithyref12.Check -/
def smithyref12_Check.l1 (s6 : (List ByteArray) × Int) (x11 : Node) : Nat → Int → Option (Except Int Unit)
  | 0, _ => none
  | k + 1, s21 => bif icmp .lss s21 (x11.Needs.length : Int) then ((idx x11.Needs s21).bind fun x26 => (smithyref03_Has.f k s6.1 x26).bind fun v28 => bif !v28 then (some (Except.error (7 : Int))) else (smithyref12_Check.l1 s6 x11 k (IntKind.i64.wrap (s21 + (1 : Int))))) else (some (Except.ok ()))
def smithyref12_Check.l0 (a0 : Plan) : Nat → ((List ByteArray) × Int) → Option (Except Int (List ByteArray))
  | 0, _ => none
  | k + 1, s6 => bif icmp .lss s6.2 (a0.Nodes.length : Int) then ((idx a0.Nodes s6.2).bind fun x11 => ((smithyref12_Node.f k x11).bind fun v15 => bif icmp .neq v15 (0 : Int) then (some true) else ((smithyref03_Has.f k s6.1 x11.Target).bind fun v18 => some v18)).bind fun s13 => bif s13 then (some (Except.error (7 : Int))) else ((smithyref12_Check.l1 s6 x11 k (0 : Int)).bind fun o24 => match o24 with | .error r' => some (Except.error r') | .ok s22 => ((app 16 s6.1 ([x11.Target])).bind fun x31 => smithyref12_Check.l0 a0 k (x31, IntKind.i64.wrap (s6.2 + (1 : Int)))))) else (some (Except.ok s6.1))
def smithyref12_Check.l2 (a0 : Plan) (s7 : (List ByteArray)) : Nat → Int → Option (Except Int Unit)
  | 0, _ => none
  | k + 1, s33 => bif icmp .lss s33 (a0.Goals.length : Int) then (((idx a0.Goals s33).bind fun x40 => (smithyref03_Has.f k s7 x40).bind fun v42 => bif !v42 then (some true) else ((sub a0.Goals (0 : Int) s33).bind fun x45 => (idx a0.Goals s33).bind fun x47 => (smithyref03_Has.f k x45 x47).bind fun v49 => some v49)).bind fun s38 => bif s38 then (some (Except.error (7 : Int))) else (smithyref12_Check.l2 a0 s7 k (IntKind.i64.wrap (s33 + (1 : Int))))) else (some (Except.ok ()))
def smithyref12_Check.f (k : Nat) (a0 : Plan) : Option Int := (bif icmp .gtr (a0.Nodes.length : Int) (256 : Int) then (some true) else (bif icmp .lss (a0.Goals.length : Int) (1 : Int) then (some true) else (some (icmp .gtr (a0.Goals.length : Int) (512 : Int))))).bind fun s1 => bif s1 then (some (7 : Int)) else ((smithyref12_Check.l0 a0 k (([] : List ByteArray), (0 : Int))).bind fun o9 => match o9 with | .error r' => some r' | .ok s7 => ((smithyref12_Check.l2 a0 s7 k (0 : Int)).bind fun o36 => match o36 with | .error r' => some r' | .ok s34 => (some (0 : Int))))
set_option maxRecDepth 100000 in
set_option maxHeartbeats 4000000 in
theorem smithyref12_Check.con (k : Nat) (a0 : Plan) (r : Int) (H : smithyref12_Check.f k a0 = some r) : Con Try.prog 17 [VA.k kPlan a0] [VA.k (kint .i64) r] := by
  unfold smithyref12_Check.f at H
  refine con_enter Try.func17 rfl rfl rfl (fun w0 S0 θ => ?_)
  refine goes_seq ?_
  refine goes_region ?_
  refine go3 (op_box 1 rfl (fun h => by first | rfl | cases h) (.t (has rfl))) rfl ?_
  refine go1 (op_assign rfl (.int _ _)) rfl ?_
  refine goesO_nil ?_
  refine ends_then ?_
  refine goes_seq ?_
  refine goes_seq ?_
  obtain ⟨s1, h2, H⟩ := bind_some H
  refine goes_cut [Ent.t 1 (VA.ptr 1 0), Ent.t 23 (VA.k kbool s1), Ent.h 1 (HE.box 25 kPlan a0)] ?_ ?_
  · replace H := h2; clear h2
    refine goes_region ?_
    refine go1 (op_fieldAddr rfl Try.underlying25 rfl tk22 (.t (has rfl))) rfl ?_
    refine go1 (op_load rfl fldPlan_Nodes tk22 (.t (has rfl)) (has rfl)) rfl ?_
    refine go1 (op_len rfl rfl Try.underlying22 (.t (has rfl))) rfl ?_
    refine go1 (op_icmp rfl rfl (.t (has rfl)) (.int _ _)) rfl ?_
    refine go1 (op_move rfl (.t (has rfl))) rfl ?_
    refine goesO_split H (fun hb3 H => ?_) (fun hb3 H => ?_)
    · skip
      refine goS rfl rfl rfl rfl rfl rfl hb3 ?_
      refine goS rfl rfl rfl rfl rfl rfl hb3 ?_
      refine goS rfl rfl rfl rfl rfl rfl hb3 ?_
      refine goS rfl rfl rfl rfl rfl rfl hb3 ?_
      refine go1 (op_pick_t rfl hb3 (.t (has rfl)) (.bool _)) rfl ?_
      refine go1 (op_move rfl (.t (has rfl))) rfl ?_
      refine goS rfl rfl rfl rfl rfl rfl rfl ?_
      refine goS rfl rfl rfl rfl rfl rfl rfl ?_
      refine goS rfl rfl rfl rfl rfl rfl rfl ?_
      refine goS rfl rfl rfl rfl rfl rfl rfl ?_
      refine go1 (op_pick_t rfl rfl (.t (has rfl)) (.bool _)) rfl ?_
      refine goesO_nil ?_
      obtain rfl := Option.some.inj H
      exact ends_cut (.cons rfl (.cons rfl (.cons rfl .nil)))
    · skip
      refine goG (op_fieldAddr rfl Try.underlying25 rfl tk23 (.t (has rfl))) rfl rfl rfl rfl hb3 ?_
      refine goG (op_load rfl fldPlan_Goals tk23 (.t (has rfl)) (has rfl)) rfl rfl rfl rfl hb3 ?_
      refine goG (op_len rfl rfl Try.underlying23 (.t (has rfl))) rfl rfl rfl rfl hb3 ?_
      refine goG (op_icmp rfl rfl (.t (has rfl)) (.int _ _)) rfl rfl rfl rfl hb3 ?_
      refine go1 (op_pick_f rfl hb3 (.t (has rfl)) (.t (has rfl))) rfl ?_
      refine go1 (op_move rfl (.t (has rfl))) rfl ?_
      refine goesO_split H (fun hb4 H => ?_) (fun hb4 H => ?_)
      · skip
        refine goS rfl rfl rfl rfl rfl rfl hb4 ?_
        refine goS rfl rfl rfl rfl rfl rfl hb4 ?_
        refine goS rfl rfl rfl rfl rfl rfl hb4 ?_
        refine goS rfl rfl rfl rfl rfl rfl hb4 ?_
        refine go1 (op_pick_t rfl hb4 (.t (has rfl)) (.bool _)) rfl ?_
        refine goesO_nil ?_
        obtain rfl := Option.some.inj H
        exact ends_cut (.cons rfl (.cons rfl (.cons rfl .nil)))
      · skip
        refine goG (op_fieldAddr rfl Try.underlying25 rfl tk23 (.t (has rfl))) rfl rfl rfl rfl hb4 ?_
        refine goG (op_load rfl fldPlan_Goals tk23 (.t (has rfl)) (has rfl)) rfl rfl rfl rfl hb4 ?_
        refine goG (op_len rfl rfl Try.underlying23 (.t (has rfl))) rfl rfl rfl rfl hb4 ?_
        refine goG (op_icmp rfl rfl (.t (has rfl)) (.int _ _)) rfl rfl rfl rfl hb4 ?_
        refine go1 (op_pick_f rfl hb4 (.t (has rfl)) (.t (has rfl))) rfl ?_
        refine goesO_nil ?_
        obtain rfl := Option.some.inj H
        exact ends_cut (.cons rfl (.cons rfl (.cons rfl .nil)))
  refine ends_then ?_
  refine goes_if (.t (has rfl)) H (fun hb5 H => ?_) (fun hb5 H => ?_)
  · skip
    refine goes_seq ?_
    refine goes_region ?_
    refine go1 (op_assign rfl (.int _ _)) rfl ?_
    refine goesO_nil ?_
    refine ends_then ?_
    obtain rfl := Option.some.inj H
    exact goes_ret (ends_then_ret (ends_ret' rfl rfl (.t rfl (.nil _))))
  · skip
    refine goes_skip ?_
    refine ends_then ?_
    refine goes_seq ?_
    refine goes_region ?_
    refine go1 (op_assign_nil 9 kstr (.inr rfl) rfl) rfl ?_
    refine goesO_nil ?_
    refine ends_then ?_
    refine goes_seq ?_
    refine goes_seq ?_
    refine goes_region ?_
    refine go1 (op_assign rfl (.int _ _)) rfl ?_
    refine goesO_nil ?_
    refine ends_then ?_
    obtain ⟨o9, h8, H⟩ := bind_some H
    refine goes_cutR (o := o9) (fun s7 : (List ByteArray) => [Ent.t 1 (VA.ptr 1 0), Ent.t 3 (VA.own 9 kstr s7), Ent.h 1 (HE.box 25 kPlan a0)]) (fun r a w => bodyPost Try.prog Try.f17 (CPost w0 S0 θ [VA.k (kint .i64) r]) .ret a w) ?_ ?_ ?_
    · replace H := h8; clear h8
      refine goes_block ?_
      refine goes_loop (fun s6 : (List ByteArray) × Int => [Ent.t 1 (VA.ptr 1 0), Ent.t 3 (VA.own 9 kstr s6.1), Ent.t 4 (VA.k (kint .i64) s6.2), Ent.h 1 (HE.box 25 kPlan a0)]) (fun k s6 => smithyref12_Check.l0 a0 k s6) (fun _ => rfl) H (.cons rfl (.cons rfl (.cons rfl (.cons rfl .nil)))) ?_
      intro k s6 H
      simp only [smithyref12_Check.l0] at H
      refine goes_seq ?_
      refine goes_seq ?_
      refine goes_region ?_
      refine go1 (op_move rfl (.t (has rfl))) rfl ?_
      refine go1 (op_fieldAddr rfl Try.underlying25 rfl tk22 (.t (has rfl))) rfl ?_
      refine go1 (op_load rfl fldPlan_Nodes tk22 (.t (has rfl)) (has rfl)) rfl ?_
      refine go1 (op_len rfl rfl Try.underlying22 (.t (has rfl))) rfl ?_
      refine go1 (op_icmp rfl rfl (.t (has rfl)) (.t (has rfl))) rfl ?_
      refine goesO_nil ?_
      refine ends_then ?_
      refine goes_if (.t (has rfl)) H (fun hb10 H => ?_) (fun hb10 H => ?_)
      · skip
        refine goes_skip ?_
        refine ends_then ?_
        refine goes_seq ?_
        refine goes_block ?_
        refine goes_seq ?_
        refine goes_region ?_
        refine go1 (op_fieldAddr rfl Try.underlying25 rfl tk22 (.t (has rfl))) rfl ?_
        refine go1 (op_load rfl fldPlan_Nodes tk22 (.t (has rfl)) (has rfl)) rfl ?_
        refine go1 (op_move rfl (.t (has rfl))) rfl ?_
        obtain ⟨x11, h12, H⟩ := bind_some H
        refine go1 (op_indexAddr rfl Try.underlying22 tk48 h12 (.t (has rfl)) (.t (has rfl))) rfl ?_
        refine go1 (op_loadp rfl tk48 (.t (has rfl))) rfl ?_
        refine go3 (op_alloc 5 rfl zk48) rfl ?_
        refine go1 (op_store (Fld.whole kNode) tk48 (.t (has rfl)) (has rfl) (.t (has rfl))) rfl ?_
        refine goesO_nil ?_
        refine ends_then ?_
        refine goes_seq ?_
        refine goes_seq ?_
        obtain ⟨s13, h14, H⟩ := bind_some H
        refine goes_cut [Ent.t 1 (VA.ptr 1 0), Ent.t 3 (VA.own 9 kstr s6.1), Ent.t 4 (VA.k (kint .i64) s6.2), Ent.t 5 (VA.ptr 5 0), Ent.t 44 (VA.k kbool s13), Ent.h 1 (HE.box 25 kPlan a0), Ent.h 5 (HE.box 48 kNode x11)] ?_ ?_
        · replace H := h14; clear h14
          refine goes_region ?_
          refine go1 (op_load rfl (Fld.whole kNode) tk48 (.t (has rfl)) (has rfl)) rfl ?_
          obtain ⟨v15, h16, H⟩ := bind_some H
          refine go1 (op_call' rfl enters45 (smithyref12_Node.con _ _ _ h16) rfl (.cons (ArgP.k (.t (has rfl))) .nil)) rfl ?_
          refine go1 (op_icmp rfl rfl (.t (has rfl)) (.int _ _)) rfl ?_
          refine go1 (op_move rfl (.t (has rfl))) rfl ?_
          refine goesO_split H (fun hb17 H => ?_) (fun hb17 H => ?_)
          · skip
            refine goS rfl rfl rfl rfl rfl rfl hb17 ?_
            refine goS rfl rfl rfl rfl rfl rfl hb17 ?_
            refine goS rfl rfl rfl rfl rfl rfl hb17 ?_
            refine goS rfl rfl rfl rfl rfl rfl hb17 ?_
            refine go1 (op_pick_t rfl hb17 (.t (has rfl)) (.bool _)) rfl ?_
            refine goesO_nil ?_
            obtain rfl := Option.some.inj H
            exact ends_cut (.cons rfl (.cons rfl (.cons rfl (.cons rfl (.cons rfl (.cons rfl (.cons rfl .nil)))))))
          · skip
            refine goG (op_same (.inl rfl) rfl rfl) rfl rfl rfl rfl hb17 ?_
            refine goG (op_fieldAddr rfl Try.underlying48 rfl tk9 (.t (has rfl))) rfl rfl rfl rfl hb17 ?_
            refine goG (op_load rfl fldNode_Target tk9 (.t (has rfl)) (has rfl)) rfl rfl rfl rfl hb17 ?_
            obtain ⟨v18, h19, H⟩ := bind_some H
            refine goG (op_callF' rfl enters33 (smithyref03_Has.conF _ _ _ _ h19) rfl (.cons (ArgB.owns rfl (has rfl) (has rfl)) (.cons (ArgB.k (.t (has rfl))) .nil))) rfl rfl rfl rfl hb17 ?_
            refine go1 (op_pick_f rfl hb17 (.t (has rfl)) (.t (has rfl))) rfl ?_
            refine goesO_nil ?_
            obtain rfl := Option.some.inj H
            exact ends_cut (.cons rfl (.cons rfl (.cons rfl (.cons rfl (.cons rfl (.cons rfl (.cons rfl .nil)))))))
        refine ends_then ?_
        refine goes_if (.t (has rfl)) H (fun hb20 H => ?_) (fun hb20 H => ?_)
        · skip
          refine goes_seq ?_
          refine goes_region ?_
          refine go1 (op_assign rfl (.int _ _)) rfl ?_
          refine goesO_nil ?_
          refine ends_then ?_
          obtain rfl := Option.some.inj H
          refine goes_ret (ends_then_ret (ends_block_ret (ends_then_ret (ends_then_ret (ends_block_ret (ends_cutR_ret rfl ?_))))))
          exact ends_ret' rfl rfl (.t rfl (.nil _))
        · skip
          refine goes_skip ?_
          refine ends_then ?_
          refine goes_seq ?_
          refine goes_seq ?_
          refine goes_region ?_
          refine go1 (op_assign rfl (.int _ _)) rfl ?_
          refine goesO_nil ?_
          refine ends_then ?_
          obtain ⟨o24, h23, H⟩ := bind_some H
          refine goes_cutR (o := o24) (fun s22 : Unit => [Ent.t 1 (VA.ptr 1 0), Ent.t 3 (VA.own 9 kstr s6.1), Ent.t 4 (VA.k (kint .i64) s6.2), Ent.t 5 (VA.ptr 5 0), Ent.h 1 (HE.box 25 kPlan a0), Ent.h 5 (HE.box 48 kNode x11)]) (fun r a w => bodyPost Try.prog Try.f17 (CPost w0 S0 θ [VA.k (kint .i64) r]) .ret a w) ?_ ?_ ?_
          · replace H := h23; clear h23
            refine goes_block ?_
            refine goes_loop (fun s21 : Int => [Ent.t 1 (VA.ptr 1 0), Ent.t 3 (VA.own 9 kstr s6.1), Ent.t 4 (VA.k (kint .i64) s6.2), Ent.t 5 (VA.ptr 5 0), Ent.t 6 (VA.k (kint .i64) s21), Ent.h 1 (HE.box 25 kPlan a0), Ent.h 5 (HE.box 48 kNode x11)]) (fun k s21 => smithyref12_Check.l1 s6 x11 k s21) (fun _ => rfl) H (.cons rfl (.cons rfl (.cons rfl (.cons rfl (.cons rfl (.cons rfl (.cons rfl .nil))))))) ?_
            intro k s21 H
            simp only [smithyref12_Check.l1] at H
            refine goes_seq ?_
            refine goes_seq ?_
            refine goes_region ?_
            refine go1 (op_move rfl (.t (has rfl))) rfl ?_
            refine go1 (op_fieldAddr rfl Try.underlying48 rfl tk23 (.t (has rfl))) rfl ?_
            refine go1 (op_load rfl fldNode_Needs tk23 (.t (has rfl)) (has rfl)) rfl ?_
            refine go1 (op_len rfl rfl Try.underlying23 (.t (has rfl))) rfl ?_
            refine go1 (op_icmp rfl rfl (.t (has rfl)) (.t (has rfl))) rfl ?_
            refine goesO_nil ?_
            refine ends_then ?_
            refine goes_if (.t (has rfl)) H (fun hb25 H => ?_) (fun hb25 H => ?_)
            · skip
              refine goes_skip ?_
              refine ends_then ?_
              refine goes_seq ?_
              refine goes_block ?_
              refine goes_seq ?_
              refine goes_region ?_
              refine go1 (op_same (.inl rfl) rfl rfl) rfl ?_
              refine go1 (op_fieldAddr rfl Try.underlying48 rfl tk23 (.t (has rfl))) rfl ?_
              refine go1 (op_load rfl fldNode_Needs tk23 (.t (has rfl)) (has rfl)) rfl ?_
              refine go1 (op_move rfl (.t (has rfl))) rfl ?_
              obtain ⟨x26, h27, H⟩ := bind_some H
              refine go1 (op_indexAddr rfl Try.underlying23 tk9 h27 (.t (has rfl)) (.t (has rfl))) rfl ?_
              refine go1 (op_loadp rfl tk9 (.t (has rfl))) rfl ?_
              obtain ⟨v28, h29, H⟩ := bind_some H
              refine go1 (op_callF' rfl enters33 (smithyref03_Has.conF _ _ _ _ h29) rfl (.cons (ArgB.owns rfl (has rfl) (has rfl)) (.cons (ArgB.k (.t (has rfl))) .nil))) rfl ?_
              refine go1 (op_not rfl (.t (has rfl))) rfl ?_
              refine goesO_nil ?_
              refine ends_then ?_
              refine goes_if (.t (has rfl)) H (fun hb30 H => ?_) (fun hb30 H => ?_)
              · skip
                refine goes_seq ?_
                refine goes_region ?_
                refine go1 (op_assign rfl (.int _ _)) rfl ?_
                refine goesO_nil ?_
                refine ends_then ?_
                obtain rfl := Option.some.inj H
                refine goes_ret (ends_block_ret (ends_then_ret (ends_then_ret (ends_block_ret (ends_cutR_ret rfl ?_)))))
                exact ends_ret' rfl rfl (.t rfl (.nil _))
              · skip
                refine goes_skip ?_
                refine ends_block ?_
                refine ends_then ?_
                refine goes_region ?_
                refine go1 (op_move rfl (.t (has rfl))) rfl ?_
                refine go1 (op_add rfl (.t (has rfl)) (.int _ _)) rfl ?_
                refine go1 (op_assign rfl (.t (has rfl))) rfl ?_
                refine goesO_nil ?_
                exact loop_next _ H (.cons rfl (.cons rfl (.cons rfl (.cons rfl (.cons rfl (.cons rfl (.cons rfl .nil)))))))
            · skip
              refine goes_exit (ends_then_exit (ends_then_exit (ends_block_exit ?_)))
              obtain rfl := Option.some.inj H
              exact ends_cutR rfl (.cons rfl (.cons rfl (.cons rfl (.cons rfl (.cons rfl (.cons rfl .nil))))))
          · rintro s22 rfl
            clear h23
            dsimp only at H
            refine ends_then ?_
            refine goes_region ?_
            refine go2 (op_mv (.inl rfl) rfl rfl (has rfl)) rfl ?_
            refine go1 (op_fieldAddr rfl Try.underlying48 rfl tk9 (.t (has rfl))) rfl ?_
            refine go1 (op_load rfl fldNode_Target tk9 (.t (has rfl)) (has rfl)) rfl ?_
            refine go1 (op_buildSlice rfl at23 (fun h => by first | rfl | cases h) rfl rfl rfl (.cons (.t (has rfl)) (.nil _))) rfl ?_
            obtain ⟨x31, h32, H⟩ := bind_some H
            refine go2 (op_append rfl rfl at23 h32 (has rfl) (ReadsArg.own (.t (has rfl)))) rfl ?_
            refine go2 (op_mv (.inr rfl) rfl rfl (has rfl)) rfl ?_
            refine goesO_nil ?_
            refine ends_block ?_
            refine ends_then ?_
            refine goes_region ?_
            refine go1 (op_move rfl (.t (has rfl))) rfl ?_
            refine go1 (op_add rfl (.t (has rfl)) (.int _ _)) rfl ?_
            refine go1 (op_assign rfl (.t (has rfl))) rfl ?_
            refine goesO_nil ?_
            exact loop_next _ H (.cons rfl (.cons rfl (.cons rfl (.cons rfl .nil))))
          · rintro r' rfl a w hr
            obtain rfl := Option.some.inj H
            exact ⟨_, rfl, hr⟩
      · skip
        refine goes_exit (ends_then_exit (ends_then_exit (ends_block_exit ?_)))
        obtain rfl := Option.some.inj H
        exact ends_cutR rfl (.cons rfl (.cons rfl (.cons rfl .nil)))
    · rintro s7 rfl
      clear h8
      dsimp only at H
      refine ends_then ?_
      refine goes_seq ?_
      refine goes_seq ?_
      refine goes_region ?_
      refine go1 (op_assign rfl (.int _ _)) rfl ?_
      refine goesO_nil ?_
      refine ends_then ?_
      obtain ⟨o36, h35, H⟩ := bind_some H
      refine goes_cutR (o := o36) (fun s34 : Unit => []) (fun r a w => bodyPost Try.prog Try.f17 (CPost w0 S0 θ [VA.k (kint .i64) r]) .ret a w) ?_ ?_ ?_
      · replace H := h35; clear h35
        refine goes_block ?_
        refine goes_loop (fun s33 : Int => [Ent.t 1 (VA.ptr 1 0), Ent.t 3 (VA.own 9 kstr s7), Ent.t 7 (VA.k (kint .i64) s33), Ent.h 1 (HE.box 25 kPlan a0)]) (fun k s33 => smithyref12_Check.l2 a0 s7 k s33) (fun _ => rfl) H (.cons rfl (.cons rfl (.cons rfl (.cons rfl .nil)))) ?_
        intro k s33 H
        simp only [smithyref12_Check.l2] at H
        refine goes_seq ?_
        refine goes_seq ?_
        refine goes_region ?_
        refine go1 (op_move rfl (.t (has rfl))) rfl ?_
        refine go1 (op_fieldAddr rfl Try.underlying25 rfl tk23 (.t (has rfl))) rfl ?_
        refine go1 (op_load rfl fldPlan_Goals tk23 (.t (has rfl)) (has rfl)) rfl ?_
        refine go1 (op_len rfl rfl Try.underlying23 (.t (has rfl))) rfl ?_
        refine go1 (op_icmp rfl rfl (.t (has rfl)) (.t (has rfl))) rfl ?_
        refine goesO_nil ?_
        refine ends_then ?_
        refine goes_if (.t (has rfl)) H (fun hb37 H => ?_) (fun hb37 H => ?_)
        · skip
          refine goes_skip ?_
          refine ends_then ?_
          refine goes_seq ?_
          refine goes_block ?_
          refine goes_seq ?_
          obtain ⟨s38, h39, H⟩ := bind_some H
          refine goes_cut [Ent.t 1 (VA.ptr 1 0), Ent.t 3 (VA.own 9 kstr s7), Ent.t 7 (VA.k (kint .i64) s33), Ent.t 91 (VA.k kbool s38), Ent.h 1 (HE.box 25 kPlan a0)] ?_ ?_
          · replace H := h39; clear h39
            obtain ⟨x40, h41, H⟩ := bind_some H
            obtain ⟨v42, h43, H⟩ := bind_some H
            refine goes_split H (fun hb44 H => ?_) (fun hb44 H => ?_)
            · skip
              refine goes_drawn [[Ent.same 72 3], [Ent.t 73 (VA.ptr 1 1)], [Ent.t 74 (VA.k (kslice kstr) a0.Goals)], [Ent.t 75 (VA.k (kint .i64) s33)], [Ent.t 76 (VA.pt kstr x40)], [Ent.t 77 (VA.k kstr x40)], [Ent.t 78 (VA.k kbool v42)], [Ent.t 79 (VA.k kbool (!v42))], [Ent.t 80 (VA.k kbool (!v42))], [Ent.t 81 (VA.v undef)], [Ent.t 82 (VA.v undef)], [Ent.t 83 (VA.v undef)], [Ent.t 84 (VA.v undef)], [Ent.t 85 (VA.v undef)], [Ent.t 86 (VA.v undef)], [Ent.t 87 (VA.v undef)], [Ent.t 88 (VA.v undef)], [Ent.t 89 (VA.v undef)], [Ent.t 90 (VA.v undef)], [Ent.t 91 (VA.k kbool true)]] mixed (by kernel_rfl) (by kernel_rfl) (.cons [] (OpSpec.run rfl rfl (op_same (.inl rfl) rfl rfl) rfl) .nil (by kernel_rfl) (.cons [(none, Ent.t 1 (VA.ptr 1 0))] (OpSpec.run rfl rfl (op_fieldAddr rfl Try.underlying25 rfl tk23 (.t NL.h0)) rfl) (.cons (has rfl) .nil) (by kernel_rfl) (.cons [(some 1, Ent.t 73 (VA.ptr 1 1)), (none, Ent.h 1 (HE.box 25 kPlan a0))] (OpSpec.run rfl rfl (op_load rfl fldPlan_Goals tk23 (.t NL.h0) (NL.hs NL.h0)) rfl) (.cons (has rfl) (.cons (has rfl) .nil)) (by kernel_rfl) (.cons [(none, Ent.t 7 (VA.k (kint .i64) s33))] (OpSpec.run rfl rfl (op_move rfl (.t NL.h0)) rfl) (.cons (has rfl) .nil) (by kernel_rfl) (.cons [(some 2, Ent.t 74 (VA.k (kslice kstr) a0.Goals)), (some 3, Ent.t 75 (VA.k (kint .i64) s33))] (OpSpec.run rfl rfl (op_indexAddr rfl Try.underlying23 tk9 h41 (.t NL.h0) (.t (NL.hs NL.h0))) rfl) (.cons (has rfl) (.cons (has rfl) .nil)) (by kernel_rfl) (.cons [(some 4, Ent.t 76 (VA.pt kstr x40))] (OpSpec.run rfl rfl (op_loadp rfl tk9 (.t NL.h0)) rfl) (.cons (has rfl) .nil) (by kernel_rfl) (.cons [(some 0, Ent.same 72 3), (none, Ent.t 3 (VA.own 9 kstr s7)), (some 5, Ent.t 77 (VA.k kstr x40))] (OpSpec.run rfl rfl (op_callF' rfl enters33 (smithyref03_Has.conF _ _ _ _ h43) rfl (.cons (ArgB.owns rfl NL.h0 (NL.hs NL.h0)) (.cons (ArgB.k (.t (NL.hs (NL.hs NL.h0)))) .nil))) rfl) (.cons (has rfl) (.cons (has rfl) (.cons (has rfl) .nil))) (by kernel_rfl) (.cons [(some 6, Ent.t 78 (VA.k kbool v42))] (OpSpec.run rfl rfl (op_not rfl (.t NL.h0)) rfl) (.cons (has rfl) .nil) (by kernel_rfl) (.cons [(some 7, Ent.t 79 (VA.k kbool (!v42)))] (OpSpec.run rfl rfl (op_move rfl (.t NL.h0)) rfl) (.cons (has rfl) .nil) (by kernel_rfl) (.cons [(some 8, Ent.t 80 (VA.k kbool (!v42)))] (run_skip rfl rfl rfl rfl rfl rfl NL.h0 hb44) (.cons (has rfl) .nil) (by kernel_rfl) (.cons [(some 8, Ent.t 80 (VA.k kbool (!v42)))] (run_skip rfl rfl rfl rfl rfl rfl NL.h0 hb44) (.cons (has rfl) .nil) (by kernel_rfl) (.cons [(some 8, Ent.t 80 (VA.k kbool (!v42)))] (run_skip rfl rfl rfl rfl rfl rfl NL.h0 hb44) (.cons (has rfl) .nil) (by kernel_rfl) (.cons [(some 8, Ent.t 80 (VA.k kbool (!v42)))] (run_skip rfl rfl rfl rfl rfl rfl NL.h0 hb44) (.cons (has rfl) .nil) (by kernel_rfl) (.cons [(some 8, Ent.t 80 (VA.k kbool (!v42)))] (run_skip rfl rfl rfl rfl rfl rfl NL.h0 hb44) (.cons (has rfl) .nil) (by kernel_rfl) (.cons [(some 8, Ent.t 80 (VA.k kbool (!v42)))] (run_skip rfl rfl rfl rfl rfl rfl NL.h0 hb44) (.cons (has rfl) .nil) (by kernel_rfl) (.cons [(some 8, Ent.t 80 (VA.k kbool (!v42)))] (run_skip rfl rfl rfl rfl rfl rfl NL.h0 hb44) (.cons (has rfl) .nil) (by kernel_rfl) (.cons [(some 8, Ent.t 80 (VA.k kbool (!v42)))] (run_skip rfl rfl rfl rfl rfl rfl NL.h0 hb44) (.cons (has rfl) .nil) (by kernel_rfl) (.cons [(some 8, Ent.t 80 (VA.k kbool (!v42)))] (run_skip rfl rfl rfl rfl rfl rfl NL.h0 hb44) (.cons (has rfl) .nil) (by kernel_rfl) (.cons [(some 8, Ent.t 80 (VA.k kbool (!v42)))] (run_skip rfl rfl rfl rfl rfl rfl NL.h0 hb44) (.cons (has rfl) .nil) (by kernel_rfl) (.cons [(some 8, Ent.t 80 (VA.k kbool (!v42)))] (OpSpec.run rfl rfl (op_pick_t rfl hb44 (.t NL.h0) (.bool _)) rfl) (.cons (has rfl) .nil) (by kernel_rfl) (.nil _))))))))))))))))))))) ?_
              refine ends_sub [Ent.t 1 (VA.ptr 1 0), Ent.t 3 (VA.own 9 kstr s7), Ent.t 7 (VA.k (kint .i64) s33), Ent.t 91 (VA.k kbool true), Ent.h 1 (HE.box 25 kPlan a0)] (.cons rfl (.cons rfl (.cons rfl (.cons rfl (.cons rfl .nil))))) ?_
              obtain rfl := Option.some.inj H
              exact ends_cut (.cons rfl (.cons rfl (.cons rfl (.cons rfl (.cons rfl .nil)))))
            · skip
              obtain ⟨x45, h46, H⟩ := bind_some H
              obtain ⟨x47, h48, H⟩ := bind_some H
              obtain ⟨v49, h50, H⟩ := bind_some H
              refine goes_drawn [[Ent.same 72 3], [Ent.t 73 (VA.ptr 1 1)], [Ent.t 74 (VA.k (kslice kstr) a0.Goals)], [Ent.t 75 (VA.k (kint .i64) s33)], [Ent.t 76 (VA.pt kstr x40)], [Ent.t 77 (VA.k kstr x40)], [Ent.t 78 (VA.k kbool v42)], [Ent.t 79 (VA.k kbool (!v42))], [Ent.t 80 (VA.k kbool (!v42))], [Ent.t 81 (VA.ptr 1 1)], [Ent.t 82 (VA.k (kslice kstr) a0.Goals)], [Ent.t 83 (VA.k (kint .i64) s33)], [Ent.t 84 (VA.k (kslice kstr) x45)], [Ent.t 85 (VA.ptr 1 1)], [Ent.t 86 (VA.k (kslice kstr) a0.Goals)], [Ent.t 87 (VA.k (kint .i64) s33)], [Ent.t 88 (VA.pt kstr x47)], [Ent.t 89 (VA.k kstr x47)], [Ent.t 90 (VA.k kbool v49)], [Ent.t 91 (VA.k kbool v49)]] mixed (by kernel_rfl) (by kernel_rfl) (.cons [] (OpSpec.run rfl rfl (op_same (.inl rfl) rfl rfl) rfl) .nil (by kernel_rfl) (.cons [(none, Ent.t 1 (VA.ptr 1 0))] (OpSpec.run rfl rfl (op_fieldAddr rfl Try.underlying25 rfl tk23 (.t NL.h0)) rfl) (.cons (has rfl) .nil) (by kernel_rfl) (.cons [(some 1, Ent.t 73 (VA.ptr 1 1)), (none, Ent.h 1 (HE.box 25 kPlan a0))] (OpSpec.run rfl rfl (op_load rfl fldPlan_Goals tk23 (.t NL.h0) (NL.hs NL.h0)) rfl) (.cons (has rfl) (.cons (has rfl) .nil)) (by kernel_rfl) (.cons [(none, Ent.t 7 (VA.k (kint .i64) s33))] (OpSpec.run rfl rfl (op_move rfl (.t NL.h0)) rfl) (.cons (has rfl) .nil) (by kernel_rfl) (.cons [(some 2, Ent.t 74 (VA.k (kslice kstr) a0.Goals)), (some 3, Ent.t 75 (VA.k (kint .i64) s33))] (OpSpec.run rfl rfl (op_indexAddr rfl Try.underlying23 tk9 h41 (.t NL.h0) (.t (NL.hs NL.h0))) rfl) (.cons (has rfl) (.cons (has rfl) .nil)) (by kernel_rfl) (.cons [(some 4, Ent.t 76 (VA.pt kstr x40))] (OpSpec.run rfl rfl (op_loadp rfl tk9 (.t NL.h0)) rfl) (.cons (has rfl) .nil) (by kernel_rfl) (.cons [(some 0, Ent.same 72 3), (none, Ent.t 3 (VA.own 9 kstr s7)), (some 5, Ent.t 77 (VA.k kstr x40))] (OpSpec.run rfl rfl (op_callF' rfl enters33 (smithyref03_Has.conF _ _ _ _ h43) rfl (.cons (ArgB.owns rfl NL.h0 (NL.hs NL.h0)) (.cons (ArgB.k (.t (NL.hs (NL.hs NL.h0)))) .nil))) rfl) (.cons (has rfl) (.cons (has rfl) (.cons (has rfl) .nil))) (by kernel_rfl) (.cons [(some 6, Ent.t 78 (VA.k kbool v42))] (OpSpec.run rfl rfl (op_not rfl (.t NL.h0)) rfl) (.cons (has rfl) .nil) (by kernel_rfl) (.cons [(some 7, Ent.t 79 (VA.k kbool (!v42)))] (OpSpec.run rfl rfl (op_move rfl (.t NL.h0)) rfl) (.cons (has rfl) .nil) (by kernel_rfl) (.cons [(some 8, Ent.t 80 (VA.k kbool (!v42))), (none, Ent.t 1 (VA.ptr 1 0))] (OpSpec.runG rfl rfl rfl rfl NL.h0 hb44 (op_fieldAddr rfl Try.underlying25 rfl tk23 (.t (NL.hs NL.h0))) rfl) (.cons (has rfl) (.cons (has rfl) .nil)) (by kernel_rfl) (.cons [(some 8, Ent.t 80 (VA.k kbool (!v42))), (some 9, Ent.t 81 (VA.ptr 1 1)), (none, Ent.h 1 (HE.box 25 kPlan a0))] (OpSpec.runG rfl rfl rfl rfl NL.h0 hb44 (op_load rfl fldPlan_Goals tk23 (.t (NL.hs NL.h0)) (NL.hs (NL.hs NL.h0))) rfl) (.cons (has rfl) (.cons (has rfl) (.cons (has rfl) .nil))) (by kernel_rfl) (.cons [(some 8, Ent.t 80 (VA.k kbool (!v42))), (none, Ent.t 7 (VA.k (kint .i64) s33))] (OpSpec.runG rfl rfl rfl rfl NL.h0 hb44 (op_move rfl (.t (NL.hs NL.h0))) rfl) (.cons (has rfl) (.cons (has rfl) .nil)) (by kernel_rfl) (.cons [(some 8, Ent.t 80 (VA.k kbool (!v42))), (some 10, Ent.t 82 (VA.k (kslice kstr) a0.Goals)), (some 11, Ent.t 83 (VA.k (kint .i64) s33))] (OpSpec.runG rfl rfl rfl rfl NL.h0 hb44 (op_slice (l := none) (h := some _) rfl Try.underlying23 tk9 h46 (.t (NL.hs NL.h0)) trivial (.t (NL.hs (NL.hs NL.h0)))) rfl) (.cons (has rfl) (.cons (has rfl) (.cons (has rfl) .nil))) (by kernel_rfl) (.cons [(some 8, Ent.t 80 (VA.k kbool (!v42))), (none, Ent.t 1 (VA.ptr 1 0))] (OpSpec.runG rfl rfl rfl rfl NL.h0 hb44 (op_fieldAddr rfl Try.underlying25 rfl tk23 (.t (NL.hs NL.h0))) rfl) (.cons (has rfl) (.cons (has rfl) .nil)) (by kernel_rfl) (.cons [(some 8, Ent.t 80 (VA.k kbool (!v42))), (some 13, Ent.t 85 (VA.ptr 1 1)), (none, Ent.h 1 (HE.box 25 kPlan a0))] (OpSpec.runG rfl rfl rfl rfl NL.h0 hb44 (op_load rfl fldPlan_Goals tk23 (.t (NL.hs NL.h0)) (NL.hs (NL.hs NL.h0))) rfl) (.cons (has rfl) (.cons (has rfl) (.cons (has rfl) .nil))) (by kernel_rfl) (.cons [(some 8, Ent.t 80 (VA.k kbool (!v42))), (none, Ent.t 7 (VA.k (kint .i64) s33))] (OpSpec.runG rfl rfl rfl rfl NL.h0 hb44 (op_move rfl (.t (NL.hs NL.h0))) rfl) (.cons (has rfl) (.cons (has rfl) .nil)) (by kernel_rfl) (.cons [(some 8, Ent.t 80 (VA.k kbool (!v42))), (some 14, Ent.t 86 (VA.k (kslice kstr) a0.Goals)), (some 15, Ent.t 87 (VA.k (kint .i64) s33))] (OpSpec.runG rfl rfl rfl rfl NL.h0 hb44 (op_indexAddr rfl Try.underlying23 tk9 h48 (.t (NL.hs NL.h0)) (.t (NL.hs (NL.hs NL.h0)))) rfl) (.cons (has rfl) (.cons (has rfl) (.cons (has rfl) .nil))) (by kernel_rfl) (.cons [(some 8, Ent.t 80 (VA.k kbool (!v42))), (some 16, Ent.t 88 (VA.pt kstr x47))] (OpSpec.runG rfl rfl rfl rfl NL.h0 hb44 (op_loadp rfl tk9 (.t (NL.hs NL.h0))) rfl) (.cons (has rfl) (.cons (has rfl) .nil)) (by kernel_rfl) (.cons [(some 8, Ent.t 80 (VA.k kbool (!v42))), (some 12, Ent.t 84 (VA.k (kslice kstr) x45)), (some 17, Ent.t 89 (VA.k kstr x47))] (OpSpec.runG rfl rfl rfl rfl NL.h0 hb44 (op_call' rfl enters33 (smithyref03_Has.con _ _ _ _ h50) rfl (.cons (ArgP.k (.t (NL.hs NL.h0))) (.cons (ArgP.k (.t (NL.hs (NL.hs NL.h0)))) .nil))) rfl) (.cons (has rfl) (.cons (has rfl) (.cons (has rfl) .nil))) (by kernel_rfl) (.cons [(some 8, Ent.t 80 (VA.k kbool (!v42))), (some 18, Ent.t 90 (VA.k kbool v49))] (OpSpec.run rfl rfl (op_pick_f rfl hb44 (.t NL.h0) (.t (NL.hs NL.h0))) rfl) (.cons (has rfl) (.cons (has rfl) .nil)) (by kernel_rfl) (.nil _))))))))))))))))))))) ?_
              refine ends_sub [Ent.t 1 (VA.ptr 1 0), Ent.t 3 (VA.own 9 kstr s7), Ent.t 7 (VA.k (kint .i64) s33), Ent.t 81 (VA.ptr 1 1), Ent.t 82 (VA.k (kslice kstr) a0.Goals), Ent.t 83 (VA.k (kint .i64) s33), Ent.t 84 (VA.k (kslice kstr) x45), Ent.t 85 (VA.ptr 1 1), Ent.t 86 (VA.k (kslice kstr) a0.Goals), Ent.t 87 (VA.k (kint .i64) s33), Ent.t 88 (VA.pt kstr x47), Ent.t 89 (VA.k kstr x47), Ent.t 90 (VA.k kbool v49), Ent.t 91 (VA.k kbool v49), Ent.h 1 (HE.box 25 kPlan a0)] (.cons rfl (.cons rfl (.cons rfl (.cons rfl (.cons rfl (.cons rfl (.cons rfl (.cons rfl (.cons rfl (.cons rfl (.cons rfl (.cons rfl (.cons rfl (.cons rfl (.cons rfl .nil))))))))))))))) ?_
              obtain rfl := Option.some.inj H
              exact ends_cut (.cons rfl (.cons rfl (.cons rfl (.cons rfl (.cons rfl .nil)))))
          refine ends_then ?_
          refine goes_if (.t (has rfl)) H (fun hb51 H => ?_) (fun hb51 H => ?_)
          · skip
            refine goes_seq ?_
            refine goes_region ?_
            refine go1 (op_assign rfl (.int _ _)) rfl ?_
            refine goesO_nil ?_
            refine ends_then ?_
            obtain rfl := Option.some.inj H
            refine goes_ret (ends_block_ret (ends_then_ret (ends_then_ret (ends_block_ret (ends_cutR_ret rfl ?_)))))
            exact ends_ret' rfl rfl (.t rfl (.nil _))
          · skip
            refine goes_skip ?_
            refine ends_block ?_
            refine ends_then ?_
            refine goes_region ?_
            refine go1 (op_move rfl (.t (has rfl))) rfl ?_
            refine go1 (op_add rfl (.t (has rfl)) (.int _ _)) rfl ?_
            refine go1 (op_assign rfl (.t (has rfl))) rfl ?_
            refine goesO_nil ?_
            exact loop_next _ H (.cons rfl (.cons rfl (.cons rfl (.cons rfl .nil))))
        · skip
          refine goes_exit (ends_then_exit (ends_then_exit (ends_block_exit ?_)))
          obtain rfl := Option.some.inj H
          exact ends_cutR rfl .nil
      · rintro s34 rfl
        clear h35
        dsimp only at H
        refine ends_then ?_
        refine goes_seq ?_
        refine goes_region ?_
        refine go1 (op_assign rfl (.int _ _)) rfl ?_
        refine goesO_nil ?_
        refine ends_then ?_
        obtain rfl := Option.some.inj H
        exact goes_ret (ends_ret' rfl rfl (.t rfl (.nil _)))
      · rintro r' rfl a w hr
        obtain rfl := Option.some.inj H
        exact hr
    · rintro r' rfl a w hr
      obtain rfl := Option.some.inj H
      exact hr
/-! smithy/smithylaw14.four -/
def smithylaw14_four.f : Option Plan := some (⟨[(⟨(⟨#[100]⟩ : ByteArray), ([] : List ByteArray), ([] : List ByteArray), false, ByteArray.empty, ByteArray.empty, false, false, false, false⟩ : Node), (⟨(⟨#[98]⟩ : ByteArray), [(⟨#[100]⟩ : ByteArray)], ([] : List ByteArray), false, ByteArray.empty, ByteArray.empty, false, false, false, false⟩ : Node), (⟨(⟨#[99]⟩ : ByteArray), [(⟨#[100]⟩ : ByteArray)], ([] : List ByteArray), false, ByteArray.empty, ByteArray.empty, false, false, false, false⟩ : Node), (⟨(⟨#[97]⟩ : ByteArray), [(⟨#[98]⟩ : ByteArray), (⟨#[99]⟩ : ByteArray)], ([] : List ByteArray), false, ByteArray.empty, ByteArray.empty, false, false, false, false⟩ : Node)], [(⟨#[97]⟩ : ByteArray)]⟩ : Plan)
set_option maxRecDepth 100000 in
set_option maxHeartbeats 4000000 in
theorem smithylaw14_four.con (r : Plan) (H : smithylaw14_four.f  = some r) : Con Try.prog 43 [] [VA.k kPlan r] := by
  unfold smithylaw14_four.f at H
  refine con_enter Try.func43 rfl rfl rfl (fun w0 S0 θ => ?_)
  refine goes_seq ?_
  refine goes_region ?_
  refine go3 (op_alloc 0 rfl zk25) rfl ?_
  refine goesO_nil ?_
  refine ends_then ?_
  refine goes_seq ?_
  refine goes_region ?_
  refine go1 (op_build (pl := [(0, 1), (1, 1), (2, 1), (3, 1), (4, 1), (5, 1), (6, 1), (7, 1), (8, 1), (9, 1)]) rfl rfl Try.underlying48 (by kernel_rfl) zk48 (.cons rfl tk9 fldNode_Target (.str _) (.nil _))) rfl ?_
  refine go1 (op_buildSlice rfl at23 (fun h => by first | rfl | cases h) rfl rfl rfl (.cons (.str _) (.nil _))) rfl ?_
  refine goesO_settle 2 rfl rfl ?_
  refine go1 (op_build (pl := [(0, 1), (1, 1), (2, 1), (3, 1), (4, 1), (5, 1), (6, 1), (7, 1), (8, 1), (9, 1)]) rfl rfl Try.underlying48 (by kernel_rfl) zk48 (.cons rfl tk9 fldNode_Target (.str _) (.cons rfl tk23 fldNode_Needs (.t (has rfl)) (.nil _)))) rfl ?_
  refine go1 (op_buildSlice rfl at23 (fun h => by first | rfl | cases h) rfl rfl rfl (.cons (.str _) (.nil _))) rfl ?_
  refine goesO_settle 4 rfl rfl ?_
  refine go1 (op_build (pl := [(0, 1), (1, 1), (2, 1), (3, 1), (4, 1), (5, 1), (6, 1), (7, 1), (8, 1), (9, 1)]) rfl rfl Try.underlying48 (by kernel_rfl) zk48 (.cons rfl tk9 fldNode_Target (.str _) (.cons rfl tk23 fldNode_Needs (.t (has rfl)) (.nil _)))) rfl ?_
  refine go1 (op_buildSlice rfl at23 (fun h => by first | rfl | cases h) rfl rfl rfl (.cons (.str _) (.cons (.str _) (.nil _)))) rfl ?_
  refine goesO_settle 6 rfl rfl ?_
  refine go1 (op_build (pl := [(0, 1), (1, 1), (2, 1), (3, 1), (4, 1), (5, 1), (6, 1), (7, 1), (8, 1), (9, 1)]) rfl rfl Try.underlying48 (by kernel_rfl) zk48 (.cons rfl tk9 fldNode_Target (.str _) (.cons rfl tk23 fldNode_Needs (.t (has rfl)) (.nil _)))) rfl ?_
  refine go1 (op_buildSlice rfl at22 (fun h => by first | rfl | cases h) rfl rfl rfl (.cons (.t (has rfl)) (.cons (.t (has rfl)) (.cons (.t (has rfl)) (.cons (.t (has rfl)) (.nil _)))))) rfl ?_
  refine go1 (op_buildSlice rfl at23 (fun h => by first | rfl | cases h) rfl rfl rfl (.cons (.str _) (.nil _))) rfl ?_
  refine goesO_settle 8 rfl rfl ?_
  refine goesO_settle 9 rfl rfl ?_
  refine go1 (op_build (pl := [(0, 1), (1, 1)]) rfl rfl Try.underlying25 (by kernel_rfl) zk25 (.cons rfl tk22 fldPlan_Nodes (.t (has rfl)) (.cons rfl tk23 fldPlan_Goals (.t (has rfl)) (.nil _)))) rfl ?_
  refine go1 (op_store (Fld.whole kPlan) tk25 (.t (has rfl)) (has rfl) (.t (has rfl))) rfl ?_
  refine goesO_nil ?_
  refine ends_then ?_
  obtain rfl := Option.some.inj H
  exact goes_ret (ends_ret' rfl rfl (.c rfl rfl tk25 (.nil _)))
/-! strings.IndexByte -/
def strings_IndexByte.f (a0 : ByteArray) (a1 : Int) : Option Int := some (Lib.indexByte a0.data.toList a1.toNat.toUInt8)
theorem strings_IndexByte.con (a0 : ByteArray) (a1 : Int) (r : Int) (H : strings_IndexByte.f a0 a1 = some r) : Con Try.prog 68 [VA.k kstr a0, VA.k (kint .u8) a1] [VA.k (kint .i64) r] := by
  obtain rfl := Option.some.inj H
  refine con_plain fun θ S w vs h => ?_
  match vs, h with
  | [v0, v1], h =>
    obtain ⟨h0, h1, _⟩ := h
    obtain rfl := arg_str h0
    obtain rfl := arg_int h1
    exact ⟨_, Try.strings_IndexByte a0 a1 w, va_int _ _⟩
/-! smithy/names.letter -/
def names_letter.f (a0 : Int) : Option Bool := (bif icmp .geq a0 (97 : Int) then (bif icmp .leq a0 (122 : Int) then (some true) else (bif icmp .geq a0 (65 : Int) then (bif icmp .leq a0 (90 : Int) then (some true) else (bif icmp .geq a0 (48 : Int) then (bif icmp .leq a0 (57 : Int) then (some true) else ((strings_IndexByte.f (⟨#[95, 45, 46, 47, 43]⟩ : ByteArray) a0).bind fun v9 => some (icmp .geq v9 (0 : Int)))) else ((strings_IndexByte.f (⟨#[95, 45, 46, 47, 43]⟩ : ByteArray) a0).bind fun v11 => some (icmp .geq v11 (0 : Int))))) else (bif icmp .geq a0 (48 : Int) then (bif icmp .leq a0 (57 : Int) then (some true) else ((strings_IndexByte.f (⟨#[95, 45, 46, 47, 43]⟩ : ByteArray) a0).bind fun v15 => some (icmp .geq v15 (0 : Int)))) else ((strings_IndexByte.f (⟨#[95, 45, 46, 47, 43]⟩ : ByteArray) a0).bind fun v17 => some (icmp .geq v17 (0 : Int)))))) else (bif icmp .geq a0 (65 : Int) then (bif icmp .leq a0 (90 : Int) then (some true) else (bif icmp .geq a0 (48 : Int) then (bif icmp .leq a0 (57 : Int) then (some true) else ((strings_IndexByte.f (⟨#[95, 45, 46, 47, 43]⟩ : ByteArray) a0).bind fun v23 => some (icmp .geq v23 (0 : Int)))) else ((strings_IndexByte.f (⟨#[95, 45, 46, 47, 43]⟩ : ByteArray) a0).bind fun v25 => some (icmp .geq v25 (0 : Int))))) else (bif icmp .geq a0 (48 : Int) then (bif icmp .leq a0 (57 : Int) then (some true) else ((strings_IndexByte.f (⟨#[95, 45, 46, 47, 43]⟩ : ByteArray) a0).bind fun v29 => some (icmp .geq v29 (0 : Int)))) else ((strings_IndexByte.f (⟨#[95, 45, 46, 47, 43]⟩ : ByteArray) a0).bind fun v31 => some (icmp .geq v31 (0 : Int)))))).bind fun s1 => some s1
set_option maxRecDepth 100000 in
set_option maxHeartbeats 4000000 in
theorem names_letter.con (a0 : Int) (r : Bool) (H : names_letter.f a0 = some r) : Con Try.prog 64 [VA.k (kint .u8) a0] [VA.k kbool r] := by
  unfold names_letter.f at H
  refine con_enter Try.func64 rfl rfl rfl (fun w0 S0 θ => ?_)
  refine goes_seq ?_
  refine goes_region ?_
  refine go1 (op_assign rfl (.bool _)) rfl ?_
  refine goesO_nil ?_
  refine ends_then ?_
  refine goes_seq ?_
  obtain ⟨s1, h2, H⟩ := bind_some H
  refine goes_cut [Ent.t 2 (VA.k kbool s1)] ?_ ?_
  · replace H := h2; clear h2
    refine goes_region ?_
    refine go1 (op_move rfl (.t (has rfl))) rfl ?_
    refine go1 (op_icmp rfl rfl (.t (has rfl)) (.int _ _)) rfl ?_
    refine go1 (op_move rfl (.t (has rfl))) rfl ?_
    refine goesO_split H (fun hb3 H => ?_) (fun hb3 H => ?_)
    · skip
      refine goG (op_move rfl (.t (has rfl))) rfl rfl rfl rfl hb3 ?_
      refine goG (op_icmp rfl rfl (.t (has rfl)) (.int _ _)) rfl rfl rfl rfl hb3 ?_
      refine go1 (op_pick_t rfl hb3 (.t (has rfl)) (.t (has rfl))) rfl ?_
      refine go1 (op_move rfl (.t (has rfl))) rfl ?_
      refine goesO_split H (fun hb4 H => ?_) (fun hb4 H => ?_)
      · skip
        refine goS rfl rfl rfl rfl rfl rfl hb4 ?_
        refine goS rfl rfl rfl rfl rfl rfl hb4 ?_
        refine goS rfl rfl rfl rfl rfl rfl hb4 ?_
        refine goSU rfl rfl rfl rfl rfl rfl ?_
        refine goSU rfl rfl rfl rfl rfl rfl ?_
        refine goS rfl rfl rfl rfl rfl rfl hb4 ?_
        refine go1 (op_pick_t rfl hb4 (.t (has rfl)) (.bool _)) rfl ?_
        refine go1 (op_move rfl (.t (has rfl))) rfl ?_
        refine goS rfl rfl rfl rfl rfl rfl rfl ?_
        refine goS rfl rfl rfl rfl rfl rfl rfl ?_
        refine goS rfl rfl rfl rfl rfl rfl rfl ?_
        refine goSU rfl rfl rfl rfl rfl rfl ?_
        refine goSU rfl rfl rfl rfl rfl rfl ?_
        refine goS rfl rfl rfl rfl rfl rfl rfl ?_
        refine go1 (op_pick_t rfl rfl (.t (has rfl)) (.bool _)) rfl ?_
        refine go1 (op_move rfl (.t (has rfl))) rfl ?_
        refine goS rfl rfl rfl rfl rfl rfl rfl ?_
        refine goS rfl rfl rfl rfl rfl rfl rfl ?_
        refine goS rfl rfl rfl rfl rfl rfl rfl ?_
        refine go1 (op_pick_t rfl rfl (.t (has rfl)) (.bool _)) rfl ?_
        refine go1 (op_assign rfl (.t (has rfl))) rfl ?_
        refine goesO_nil ?_
        obtain rfl := Option.some.inj H
        exact ends_cut (.cons rfl .nil)
      · skip
        refine goG (op_move rfl (.t (has rfl))) rfl rfl rfl rfl hb4 ?_
        refine goG (op_icmp rfl rfl (.t (has rfl)) (.int _ _)) rfl rfl rfl rfl hb4 ?_
        refine goG (op_move rfl (.t (has rfl))) rfl rfl rfl rfl hb4 ?_
        refine goesO_split H (fun hb5 H => ?_) (fun hb5 H => ?_)
        · skip
          refine goG (op_move rfl (.t (has rfl))) rfl rfl rfl rfl hb5 ?_
          refine goG (op_icmp rfl rfl (.t (has rfl)) (.int _ _)) rfl rfl rfl rfl hb5 ?_
          refine goG (op_pick_t rfl hb5 (.t (has rfl)) (.t (has rfl))) rfl rfl rfl rfl hb4 ?_
          refine go1 (op_pick_f rfl hb4 (.t (has rfl)) (.t (has rfl))) rfl ?_
          refine go1 (op_move rfl (.t (has rfl))) rfl ?_
          refine goesO_split H (fun hb6 H => ?_) (fun hb6 H => ?_)
          · skip
            refine goS rfl rfl rfl rfl rfl rfl hb6 ?_
            refine goS rfl rfl rfl rfl rfl rfl hb6 ?_
            refine goS rfl rfl rfl rfl rfl rfl hb6 ?_
            refine goSU rfl rfl rfl rfl rfl rfl ?_
            refine goSU rfl rfl rfl rfl rfl rfl ?_
            refine goS rfl rfl rfl rfl rfl rfl hb6 ?_
            refine go1 (op_pick_t rfl hb6 (.t (has rfl)) (.bool _)) rfl ?_
            refine go1 (op_move rfl (.t (has rfl))) rfl ?_
            refine goS rfl rfl rfl rfl rfl rfl rfl ?_
            refine goS rfl rfl rfl rfl rfl rfl rfl ?_
            refine goS rfl rfl rfl rfl rfl rfl rfl ?_
            refine go1 (op_pick_t rfl rfl (.t (has rfl)) (.bool _)) rfl ?_
            refine go1 (op_assign rfl (.t (has rfl))) rfl ?_
            refine goesO_nil ?_
            obtain rfl := Option.some.inj H
            exact ends_cut (.cons rfl .nil)
          · skip
            refine goG (op_move rfl (.t (has rfl))) rfl rfl rfl rfl hb6 ?_
            refine goG (op_icmp rfl rfl (.t (has rfl)) (.int _ _)) rfl rfl rfl rfl hb6 ?_
            refine goG (op_move rfl (.t (has rfl))) rfl rfl rfl rfl hb6 ?_
            refine goesO_split H (fun hb7 H => ?_) (fun hb7 H => ?_)
            · skip
              refine goG (op_move rfl (.t (has rfl))) rfl rfl rfl rfl hb7 ?_
              refine goG (op_icmp rfl rfl (.t (has rfl)) (.int _ _)) rfl rfl rfl rfl hb7 ?_
              refine goG (op_pick_t rfl hb7 (.t (has rfl)) (.t (has rfl))) rfl rfl rfl rfl hb6 ?_
              refine go1 (op_pick_f rfl hb6 (.t (has rfl)) (.t (has rfl))) rfl ?_
              refine go1 (op_move rfl (.t (has rfl))) rfl ?_
              refine goesO_split H (fun hb8 H => ?_) (fun hb8 H => ?_)
              · skip
                refine goS rfl rfl rfl rfl rfl rfl hb8 ?_
                refine goS rfl rfl rfl rfl rfl rfl hb8 ?_
                refine goS rfl rfl rfl rfl rfl rfl hb8 ?_
                refine go1 (op_pick_t rfl hb8 (.t (has rfl)) (.bool _)) rfl ?_
                refine go1 (op_assign rfl (.t (has rfl))) rfl ?_
                refine goesO_nil ?_
                obtain rfl := Option.some.inj H
                exact ends_cut (.cons rfl .nil)
              · skip
                refine goG (op_move rfl (.t (has rfl))) rfl rfl rfl rfl hb8 ?_
                obtain ⟨v9, h10, H⟩ := bind_some H
                refine goG (op_call' rfl enters68 (strings_IndexByte.con _ _ _ h10) rfl (.cons (ArgP.k (.str _)) (.cons (ArgP.k (.t (has rfl))) .nil))) rfl rfl rfl rfl hb8 ?_
                refine goG (op_icmp rfl rfl (.t (has rfl)) (.int _ _)) rfl rfl rfl rfl hb8 ?_
                refine go1 (op_pick_f rfl hb8 (.t (has rfl)) (.t (has rfl))) rfl ?_
                refine go1 (op_assign rfl (.t (has rfl))) rfl ?_
                refine goesO_nil ?_
                obtain rfl := Option.some.inj H
                exact ends_cut (.cons rfl .nil)
            · skip
              refine goS rfl rfl rfl rfl rfl rfl hb7 ?_
              refine goS rfl rfl rfl rfl rfl rfl hb7 ?_
              refine goG (op_pick_f rfl hb7 (.t (has rfl)) (.bool _)) rfl rfl rfl rfl hb6 ?_
              refine go1 (op_pick_f rfl hb6 (.t (has rfl)) (.t (has rfl))) rfl ?_
              refine go1 (op_move rfl (.t (has rfl))) rfl ?_
              refine goG (op_move rfl (.t (has rfl))) rfl rfl rfl rfl rfl ?_
              obtain ⟨v11, h12, H⟩ := bind_some H
              refine goG (op_call' rfl enters68 (strings_IndexByte.con _ _ _ h12) rfl (.cons (ArgP.k (.str _)) (.cons (ArgP.k (.t (has rfl))) .nil))) rfl rfl rfl rfl rfl ?_
              refine goG (op_icmp rfl rfl (.t (has rfl)) (.int _ _)) rfl rfl rfl rfl rfl ?_
              refine go1 (op_pick_f rfl rfl (.t (has rfl)) (.t (has rfl))) rfl ?_
              refine go1 (op_assign rfl (.t (has rfl))) rfl ?_
              refine goesO_nil ?_
              obtain rfl := Option.some.inj H
              exact ends_cut (.cons rfl .nil)
        · skip
          refine goS rfl rfl rfl rfl rfl rfl hb5 ?_
          refine goS rfl rfl rfl rfl rfl rfl hb5 ?_
          refine goG (op_pick_f rfl hb5 (.t (has rfl)) (.bool _)) rfl rfl rfl rfl hb4 ?_
          refine go1 (op_pick_f rfl hb4 (.t (has rfl)) (.t (has rfl))) rfl ?_
          refine go1 (op_move rfl (.t (has rfl))) rfl ?_
          refine goG (op_move rfl (.t (has rfl))) rfl rfl rfl rfl rfl ?_
          refine goG (op_icmp rfl rfl (.t (has rfl)) (.int _ _)) rfl rfl rfl rfl rfl ?_
          refine goG (op_move rfl (.t (has rfl))) rfl rfl rfl rfl rfl ?_
          refine goesO_split H (fun hb13 H => ?_) (fun hb13 H => ?_)
          · skip
            refine goG (op_move rfl (.t (has rfl))) rfl rfl rfl rfl hb13 ?_
            refine goG (op_icmp rfl rfl (.t (has rfl)) (.int _ _)) rfl rfl rfl rfl hb13 ?_
            refine goG (op_pick_t rfl hb13 (.t (has rfl)) (.t (has rfl))) rfl rfl rfl rfl rfl ?_
            refine go1 (op_pick_f rfl rfl (.t (has rfl)) (.t (has rfl))) rfl ?_
            refine go1 (op_move rfl (.t (has rfl))) rfl ?_
            refine goesO_split H (fun hb14 H => ?_) (fun hb14 H => ?_)
            · skip
              refine goS rfl rfl rfl rfl rfl rfl hb14 ?_
              refine goS rfl rfl rfl rfl rfl rfl hb14 ?_
              refine goS rfl rfl rfl rfl rfl rfl hb14 ?_
              refine go1 (op_pick_t rfl hb14 (.t (has rfl)) (.bool _)) rfl ?_
              refine go1 (op_assign rfl (.t (has rfl))) rfl ?_
              refine goesO_nil ?_
              obtain rfl := Option.some.inj H
              exact ends_cut (.cons rfl .nil)
            · skip
              refine goG (op_move rfl (.t (has rfl))) rfl rfl rfl rfl hb14 ?_
              obtain ⟨v15, h16, H⟩ := bind_some H
              refine goG (op_call' rfl enters68 (strings_IndexByte.con _ _ _ h16) rfl (.cons (ArgP.k (.str _)) (.cons (ArgP.k (.t (has rfl))) .nil))) rfl rfl rfl rfl hb14 ?_
              refine goG (op_icmp rfl rfl (.t (has rfl)) (.int _ _)) rfl rfl rfl rfl hb14 ?_
              refine go1 (op_pick_f rfl hb14 (.t (has rfl)) (.t (has rfl))) rfl ?_
              refine go1 (op_assign rfl (.t (has rfl))) rfl ?_
              refine goesO_nil ?_
              obtain rfl := Option.some.inj H
              exact ends_cut (.cons rfl .nil)
          · skip
            refine goS rfl rfl rfl rfl rfl rfl hb13 ?_
            refine goS rfl rfl rfl rfl rfl rfl hb13 ?_
            refine goG (op_pick_f rfl hb13 (.t (has rfl)) (.bool _)) rfl rfl rfl rfl rfl ?_
            refine go1 (op_pick_f rfl rfl (.t (has rfl)) (.t (has rfl))) rfl ?_
            refine go1 (op_move rfl (.t (has rfl))) rfl ?_
            refine goG (op_move rfl (.t (has rfl))) rfl rfl rfl rfl rfl ?_
            obtain ⟨v17, h18, H⟩ := bind_some H
            refine goG (op_call' rfl enters68 (strings_IndexByte.con _ _ _ h18) rfl (.cons (ArgP.k (.str _)) (.cons (ArgP.k (.t (has rfl))) .nil))) rfl rfl rfl rfl rfl ?_
            refine goG (op_icmp rfl rfl (.t (has rfl)) (.int _ _)) rfl rfl rfl rfl rfl ?_
            refine go1 (op_pick_f rfl rfl (.t (has rfl)) (.t (has rfl))) rfl ?_
            refine go1 (op_assign rfl (.t (has rfl))) rfl ?_
            refine goesO_nil ?_
            obtain rfl := Option.some.inj H
            exact ends_cut (.cons rfl .nil)
    · skip
      refine goS rfl rfl rfl rfl rfl rfl hb3 ?_
      refine goS rfl rfl rfl rfl rfl rfl hb3 ?_
      refine go1 (op_pick_f rfl hb3 (.t (has rfl)) (.bool _)) rfl ?_
      refine go1 (op_move rfl (.t (has rfl))) rfl ?_
      refine goG (op_move rfl (.t (has rfl))) rfl rfl rfl rfl rfl ?_
      refine goG (op_icmp rfl rfl (.t (has rfl)) (.int _ _)) rfl rfl rfl rfl rfl ?_
      refine goG (op_move rfl (.t (has rfl))) rfl rfl rfl rfl rfl ?_
      refine goesO_split H (fun hb19 H => ?_) (fun hb19 H => ?_)
      · skip
        refine goG (op_move rfl (.t (has rfl))) rfl rfl rfl rfl hb19 ?_
        refine goG (op_icmp rfl rfl (.t (has rfl)) (.int _ _)) rfl rfl rfl rfl hb19 ?_
        refine goG (op_pick_t rfl hb19 (.t (has rfl)) (.t (has rfl))) rfl rfl rfl rfl rfl ?_
        refine go1 (op_pick_f rfl rfl (.t (has rfl)) (.t (has rfl))) rfl ?_
        refine go1 (op_move rfl (.t (has rfl))) rfl ?_
        refine goesO_split H (fun hb20 H => ?_) (fun hb20 H => ?_)
        · skip
          refine goS rfl rfl rfl rfl rfl rfl hb20 ?_
          refine goS rfl rfl rfl rfl rfl rfl hb20 ?_
          refine goS rfl rfl rfl rfl rfl rfl hb20 ?_
          refine goSU rfl rfl rfl rfl rfl rfl ?_
          refine goSU rfl rfl rfl rfl rfl rfl ?_
          refine goS rfl rfl rfl rfl rfl rfl hb20 ?_
          refine go1 (op_pick_t rfl hb20 (.t (has rfl)) (.bool _)) rfl ?_
          refine go1 (op_move rfl (.t (has rfl))) rfl ?_
          refine goS rfl rfl rfl rfl rfl rfl rfl ?_
          refine goS rfl rfl rfl rfl rfl rfl rfl ?_
          refine goS rfl rfl rfl rfl rfl rfl rfl ?_
          refine go1 (op_pick_t rfl rfl (.t (has rfl)) (.bool _)) rfl ?_
          refine go1 (op_assign rfl (.t (has rfl))) rfl ?_
          refine goesO_nil ?_
          obtain rfl := Option.some.inj H
          exact ends_cut (.cons rfl .nil)
        · skip
          refine goG (op_move rfl (.t (has rfl))) rfl rfl rfl rfl hb20 ?_
          refine goG (op_icmp rfl rfl (.t (has rfl)) (.int _ _)) rfl rfl rfl rfl hb20 ?_
          refine goG (op_move rfl (.t (has rfl))) rfl rfl rfl rfl hb20 ?_
          refine goesO_split H (fun hb21 H => ?_) (fun hb21 H => ?_)
          · skip
            refine goG (op_move rfl (.t (has rfl))) rfl rfl rfl rfl hb21 ?_
            refine goG (op_icmp rfl rfl (.t (has rfl)) (.int _ _)) rfl rfl rfl rfl hb21 ?_
            refine goG (op_pick_t rfl hb21 (.t (has rfl)) (.t (has rfl))) rfl rfl rfl rfl hb20 ?_
            refine go1 (op_pick_f rfl hb20 (.t (has rfl)) (.t (has rfl))) rfl ?_
            refine go1 (op_move rfl (.t (has rfl))) rfl ?_
            refine goesO_split H (fun hb22 H => ?_) (fun hb22 H => ?_)
            · skip
              refine goS rfl rfl rfl rfl rfl rfl hb22 ?_
              refine goS rfl rfl rfl rfl rfl rfl hb22 ?_
              refine goS rfl rfl rfl rfl rfl rfl hb22 ?_
              refine go1 (op_pick_t rfl hb22 (.t (has rfl)) (.bool _)) rfl ?_
              refine go1 (op_assign rfl (.t (has rfl))) rfl ?_
              refine goesO_nil ?_
              obtain rfl := Option.some.inj H
              exact ends_cut (.cons rfl .nil)
            · skip
              refine goG (op_move rfl (.t (has rfl))) rfl rfl rfl rfl hb22 ?_
              obtain ⟨v23, h24, H⟩ := bind_some H
              refine goG (op_call' rfl enters68 (strings_IndexByte.con _ _ _ h24) rfl (.cons (ArgP.k (.str _)) (.cons (ArgP.k (.t (has rfl))) .nil))) rfl rfl rfl rfl hb22 ?_
              refine goG (op_icmp rfl rfl (.t (has rfl)) (.int _ _)) rfl rfl rfl rfl hb22 ?_
              refine go1 (op_pick_f rfl hb22 (.t (has rfl)) (.t (has rfl))) rfl ?_
              refine go1 (op_assign rfl (.t (has rfl))) rfl ?_
              refine goesO_nil ?_
              obtain rfl := Option.some.inj H
              exact ends_cut (.cons rfl .nil)
          · skip
            refine goS rfl rfl rfl rfl rfl rfl hb21 ?_
            refine goS rfl rfl rfl rfl rfl rfl hb21 ?_
            refine goG (op_pick_f rfl hb21 (.t (has rfl)) (.bool _)) rfl rfl rfl rfl hb20 ?_
            refine go1 (op_pick_f rfl hb20 (.t (has rfl)) (.t (has rfl))) rfl ?_
            refine go1 (op_move rfl (.t (has rfl))) rfl ?_
            refine goG (op_move rfl (.t (has rfl))) rfl rfl rfl rfl rfl ?_
            obtain ⟨v25, h26, H⟩ := bind_some H
            refine goG (op_call' rfl enters68 (strings_IndexByte.con _ _ _ h26) rfl (.cons (ArgP.k (.str _)) (.cons (ArgP.k (.t (has rfl))) .nil))) rfl rfl rfl rfl rfl ?_
            refine goG (op_icmp rfl rfl (.t (has rfl)) (.int _ _)) rfl rfl rfl rfl rfl ?_
            refine go1 (op_pick_f rfl rfl (.t (has rfl)) (.t (has rfl))) rfl ?_
            refine go1 (op_assign rfl (.t (has rfl))) rfl ?_
            refine goesO_nil ?_
            obtain rfl := Option.some.inj H
            exact ends_cut (.cons rfl .nil)
      · skip
        refine goS rfl rfl rfl rfl rfl rfl hb19 ?_
        refine goS rfl rfl rfl rfl rfl rfl hb19 ?_
        refine goG (op_pick_f rfl hb19 (.t (has rfl)) (.bool _)) rfl rfl rfl rfl rfl ?_
        refine go1 (op_pick_f rfl rfl (.t (has rfl)) (.t (has rfl))) rfl ?_
        refine go1 (op_move rfl (.t (has rfl))) rfl ?_
        refine goG (op_move rfl (.t (has rfl))) rfl rfl rfl rfl rfl ?_
        refine goG (op_icmp rfl rfl (.t (has rfl)) (.int _ _)) rfl rfl rfl rfl rfl ?_
        refine goG (op_move rfl (.t (has rfl))) rfl rfl rfl rfl rfl ?_
        refine goesO_split H (fun hb27 H => ?_) (fun hb27 H => ?_)
        · skip
          refine goG (op_move rfl (.t (has rfl))) rfl rfl rfl rfl hb27 ?_
          refine goG (op_icmp rfl rfl (.t (has rfl)) (.int _ _)) rfl rfl rfl rfl hb27 ?_
          refine goG (op_pick_t rfl hb27 (.t (has rfl)) (.t (has rfl))) rfl rfl rfl rfl rfl ?_
          refine go1 (op_pick_f rfl rfl (.t (has rfl)) (.t (has rfl))) rfl ?_
          refine go1 (op_move rfl (.t (has rfl))) rfl ?_
          refine goesO_split H (fun hb28 H => ?_) (fun hb28 H => ?_)
          · skip
            refine goS rfl rfl rfl rfl rfl rfl hb28 ?_
            refine goS rfl rfl rfl rfl rfl rfl hb28 ?_
            refine goS rfl rfl rfl rfl rfl rfl hb28 ?_
            refine go1 (op_pick_t rfl hb28 (.t (has rfl)) (.bool _)) rfl ?_
            refine go1 (op_assign rfl (.t (has rfl))) rfl ?_
            refine goesO_nil ?_
            obtain rfl := Option.some.inj H
            exact ends_cut (.cons rfl .nil)
          · skip
            refine goG (op_move rfl (.t (has rfl))) rfl rfl rfl rfl hb28 ?_
            obtain ⟨v29, h30, H⟩ := bind_some H
            refine goG (op_call' rfl enters68 (strings_IndexByte.con _ _ _ h30) rfl (.cons (ArgP.k (.str _)) (.cons (ArgP.k (.t (has rfl))) .nil))) rfl rfl rfl rfl hb28 ?_
            refine goG (op_icmp rfl rfl (.t (has rfl)) (.int _ _)) rfl rfl rfl rfl hb28 ?_
            refine go1 (op_pick_f rfl hb28 (.t (has rfl)) (.t (has rfl))) rfl ?_
            refine go1 (op_assign rfl (.t (has rfl))) rfl ?_
            refine goesO_nil ?_
            obtain rfl := Option.some.inj H
            exact ends_cut (.cons rfl .nil)
        · skip
          refine goS rfl rfl rfl rfl rfl rfl hb27 ?_
          refine goS rfl rfl rfl rfl rfl rfl hb27 ?_
          refine goG (op_pick_f rfl hb27 (.t (has rfl)) (.bool _)) rfl rfl rfl rfl rfl ?_
          refine go1 (op_pick_f rfl rfl (.t (has rfl)) (.t (has rfl))) rfl ?_
          refine go1 (op_move rfl (.t (has rfl))) rfl ?_
          refine goG (op_move rfl (.t (has rfl))) rfl rfl rfl rfl rfl ?_
          obtain ⟨v31, h32, H⟩ := bind_some H
          refine goG (op_call' rfl enters68 (strings_IndexByte.con _ _ _ h32) rfl (.cons (ArgP.k (.str _)) (.cons (ArgP.k (.t (has rfl))) .nil))) rfl rfl rfl rfl rfl ?_
          refine goG (op_icmp rfl rfl (.t (has rfl)) (.int _ _)) rfl rfl rfl rfl rfl ?_
          refine go1 (op_pick_f rfl rfl (.t (has rfl)) (.t (has rfl))) rfl ?_
          refine go1 (op_assign rfl (.t (has rfl))) rfl ?_
          refine goesO_nil ?_
          obtain rfl := Option.some.inj H
          exact ends_cut (.cons rfl .nil)
  refine ends_then ?_
  obtain rfl := Option.some.inj H
  exact goes_ret (ends_ret' rfl rfl (.t rfl (.nil _)))
/-! smithy/names.Check -/
def names_Check.l0 (a0 : ByteArray) : Nat → Int → Option (Except Int Unit)
  | 0, _ => none
  | k + 1, s5 => bif icmp .lss s5 (a0.size : Int) then ((bidx a0 s5).bind fun x10 => (names_letter.f x10).bind fun v12 => bif !v12 then (some (Except.error (3 : Int))) else (names_Check.l0 a0 k (IntKind.i64.wrap (s5 + (1 : Int))))) else (some (Except.ok ()))
def names_Check.f (k : Nat) (a0 : ByteArray) : Option Int := (bif icmp .eql (a0.size : Int) (0 : Int) then (some true) else (some (icmp .gtr (a0.size : Int) (64 : Int)))).bind fun s1 => bif s1 then (some (3 : Int)) else ((names_Check.l0 a0 k (0 : Int)).bind fun o8 => match o8 with | .error r' => some r' | .ok s6 => (some (0 : Int)))
set_option maxRecDepth 100000 in
set_option maxHeartbeats 4000000 in
theorem names_Check.con (k : Nat) (a0 : ByteArray) (r : Int) (H : names_Check.f k a0 = some r) : Con Try.prog 55 [VA.k kstr a0] [VA.k (kint .i64) r] := by
  unfold names_Check.f at H
  refine con_enter Try.func55 rfl rfl rfl (fun w0 S0 θ => ?_)
  refine goes_seq ?_
  refine goes_region ?_
  refine go1 (op_assign rfl (.int _ _)) rfl ?_
  refine goesO_nil ?_
  refine ends_then ?_
  refine goes_seq ?_
  refine goes_seq ?_
  obtain ⟨s1, h2, H⟩ := bind_some H
  refine goes_cut [Ent.t 0 (VA.k kstr a0), Ent.t 11 (VA.k kbool s1)] ?_ ?_
  · replace H := h2; clear h2
    refine goes_region ?_
    refine go1 (op_move rfl (.t (has rfl))) rfl ?_
    refine go1 (op_len_str rfl rfl Try.underlying9 (.t (has rfl))) rfl ?_
    refine go1 (op_icmp rfl rfl (.t (has rfl)) (.int _ _)) rfl ?_
    refine go1 (op_move rfl (.t (has rfl))) rfl ?_
    refine goesO_split H (fun hb3 H => ?_) (fun hb3 H => ?_)
    · skip
      refine goS rfl rfl rfl rfl rfl rfl hb3 ?_
      refine goS rfl rfl rfl rfl rfl rfl hb3 ?_
      refine goS rfl rfl rfl rfl rfl rfl hb3 ?_
      refine go1 (op_pick_t rfl hb3 (.t (has rfl)) (.bool _)) rfl ?_
      refine goesO_nil ?_
      obtain rfl := Option.some.inj H
      exact ends_cut (.cons rfl (.cons rfl .nil))
    · skip
      refine goG (op_move rfl (.t (has rfl))) rfl rfl rfl rfl hb3 ?_
      refine goG (op_len_str rfl rfl Try.underlying9 (.t (has rfl))) rfl rfl rfl rfl hb3 ?_
      refine goG (op_icmp rfl rfl (.t (has rfl)) (.int _ _)) rfl rfl rfl rfl hb3 ?_
      refine go1 (op_pick_f rfl hb3 (.t (has rfl)) (.t (has rfl))) rfl ?_
      refine goesO_nil ?_
      obtain rfl := Option.some.inj H
      exact ends_cut (.cons rfl (.cons rfl .nil))
  refine ends_then ?_
  refine goes_if (.t (has rfl)) H (fun hb4 H => ?_) (fun hb4 H => ?_)
  · skip
    refine goes_seq ?_
    refine goes_region ?_
    refine go1 (op_assign rfl (.int _ _)) rfl ?_
    refine goesO_nil ?_
    refine ends_then ?_
    obtain rfl := Option.some.inj H
    exact goes_ret (ends_then_ret (ends_ret' rfl rfl (.t rfl (.nil _))))
  · skip
    refine goes_skip ?_
    refine ends_then ?_
    refine goes_seq ?_
    refine goes_seq ?_
    refine goes_region ?_
    refine go1 (op_move rfl (.t (has rfl))) rfl ?_
    refine go1 (op_len_str rfl rfl Try.underlying9 (.t (has rfl))) rfl ?_
    refine go1 (op_move rfl (.int _ _)) rfl ?_
    refine goesO_nil ?_
    refine ends_then ?_
    obtain ⟨o8, h7, H⟩ := bind_some H
    refine goes_cutR (o := o8) (fun s6 : Unit => []) (fun r a w => bodyPost Try.prog Try.f55 (CPost w0 S0 θ [VA.k (kint .i64) r]) .ret a w) ?_ ?_ ?_
    · replace H := h7; clear h7
      refine goes_block ?_
      refine goes_loop (fun s5 : Int => [Ent.t 0 (VA.k kstr a0), Ent.t 13 (VA.k (kint .i64) (a0.size : Int)), Ent.t 14 (VA.k (kint .i64) s5)]) (fun k s5 => names_Check.l0 a0 k s5) (fun _ => rfl) H (.cons rfl (.cons rfl (.cons rfl .nil))) ?_
      intro k s5 H
      simp only [names_Check.l0] at H
      refine goes_seq ?_
      refine goes_region ?_
      refine go1 (op_icmp rfl rfl (.t (has rfl)) (.t (has rfl))) rfl ?_
      refine goesO_nil ?_
      refine ends_then ?_
      refine goes_seq ?_
      refine goes_if (.t (has rfl)) H (fun hb9 H => ?_) (fun hb9 H => ?_)
      · skip
        refine goes_skip ?_
        refine ends_then ?_
        refine goes_seq ?_
        refine goes_block ?_
        refine goes_seq ?_
        refine goes_region ?_
        refine go1 (op_move rfl (.t (has rfl))) rfl ?_
        refine go1 (op_assign rfl (.t (has rfl))) rfl ?_
        refine goesO_nil ?_
        refine ends_then ?_
        refine goes_seq ?_
        refine goes_region ?_
        refine go1 (op_move rfl (.t (has rfl))) rfl ?_
        refine go1 (op_move rfl (.t (has rfl))) rfl ?_
        obtain ⟨x10, h11, H⟩ := bind_some H
        refine go1 (op_index_str rfl Try.underlying9 h11 (.t (has rfl)) (.t (has rfl))) rfl ?_
        obtain ⟨v12, h13, H⟩ := bind_some H
        refine go1 (op_call' rfl enters64 (names_letter.con _ _ h13) rfl (.cons (ArgP.k (.t (has rfl))) .nil)) rfl ?_
        refine go1 (op_not rfl (.t (has rfl))) rfl ?_
        refine goesO_nil ?_
        refine ends_then ?_
        refine goes_if (.t (has rfl)) H (fun hb14 H => ?_) (fun hb14 H => ?_)
        · skip
          refine goes_seq ?_
          refine goes_region ?_
          refine go1 (op_assign rfl (.int _ _)) rfl ?_
          refine goesO_nil ?_
          refine ends_then ?_
          obtain rfl := Option.some.inj H
          refine goes_ret (ends_block_ret (ends_then_ret (ends_then_ret (ends_block_ret (ends_cutR_ret rfl ?_)))))
          exact ends_ret' rfl rfl (.t rfl (.nil _))
        · skip
          refine goes_skip ?_
          refine ends_block ?_
          refine ends_then ?_
          refine goes_region ?_
          refine go1 (op_add rfl (.t (has rfl)) (.int _ _)) rfl ?_
          refine go1 (op_move rfl (.t (has rfl))) rfl ?_
          refine goesO_nil ?_
          exact loop_next _ H (.cons rfl (.cons rfl (.cons rfl .nil)))
      · skip
        refine goes_exit (ends_then_exit (ends_then_exit (ends_block_exit ?_)))
        obtain rfl := Option.some.inj H
        exact ends_cutR rfl .nil
    · rintro s6 rfl
      clear h7
      dsimp only at H
      refine ends_then ?_
      refine goes_seq ?_
      refine goes_region ?_
      refine go1 (op_assign rfl (.int _ _)) rfl ?_
      refine goesO_nil ?_
      refine ends_then ?_
      obtain rfl := Option.some.inj H
      exact goes_ret (ends_ret' rfl rfl (.t rfl (.nil _)))
    · rintro r' rfl a w hr
      obtain rfl := Option.some.inj H
      exact hr
/-! slices.Index[[]string,string] -/
def slices_Index_string_string.l0 (a0 : List ByteArray) (a1 : ByteArray) : Nat → Int → Option (Except Int Unit)
  | 0, _ => none
  | k + 1, s1 => bif icmp .lss s1 (a0.length : Int) then ((idx a0 s1).bind fun x6 => bif scmp .eql a1 x6 then (some (Except.error s1)) else (slices_Index_string_string.l0 a0 a1 k (IntKind.i64.wrap (s1 + (1 : Int))))) else (some (Except.ok ()))
def slices_Index_string_string.f (k : Nat) (a0 : List ByteArray) (a1 : ByteArray) : Option Int := (slices_Index_string_string.l0 a0 a1 k (0 : Int)).bind fun o4 => match o4 with | .error r' => some r' | .ok s2 => (some (-1 : Int))
set_option maxRecDepth 100000 in
set_option maxHeartbeats 4000000 in
theorem slices_Index_string_string.con (k : Nat) (a0 : List ByteArray) (a1 : ByteArray) (r : Int) (H : slices_Index_string_string.f k a0 a1 = some r) : Con Try.prog 67 [VA.k (kslice kstr) a0, VA.k kstr a1] [VA.k (kint .i64) r] := by
  unfold slices_Index_string_string.f at H
  refine con_enter Try.func67 rfl rfl rfl (fun w0 S0 θ => ?_)
  refine goes_seq ?_
  refine goes_region ?_
  refine go1 (op_assign rfl (.int _ _)) rfl ?_
  refine goesO_nil ?_
  refine ends_then ?_
  refine goes_seq ?_
  refine goes_seq ?_
  refine goes_region ?_
  refine go1 (op_move rfl (.t (has rfl))) rfl ?_
  refine go1 (op_len rfl rfl Try.underlying23 (.t (has rfl))) rfl ?_
  refine go1 (op_move rfl (.int _ _)) rfl ?_
  refine goesO_nil ?_
  refine ends_then ?_
  obtain ⟨o4, h3, H⟩ := bind_some H
  refine goes_cutR (o := o4) (fun s2 : Unit => []) (fun r a w => bodyPost Try.prog Try.f67 (CPost w0 S0 θ [VA.k (kint .i64) r]) .ret a w) ?_ ?_ ?_
  · replace H := h3; clear h3
    refine goes_block ?_
    refine goes_loop (fun s1 : Int => [Ent.t 0 (VA.k (kslice kstr) a0), Ent.t 1 (VA.k kstr a1), Ent.t 7 (VA.k (kint .i64) (a0.length : Int)), Ent.t 8 (VA.k (kint .i64) s1)]) (fun k s1 => slices_Index_string_string.l0 a0 a1 k s1) (fun _ => rfl) H (.cons rfl (.cons rfl (.cons rfl (.cons rfl .nil)))) ?_
    intro k s1 H
    simp only [slices_Index_string_string.l0] at H
    refine goes_seq ?_
    refine goes_region ?_
    refine go1 (op_icmp rfl rfl (.t (has rfl)) (.t (has rfl))) rfl ?_
    refine goesO_nil ?_
    refine ends_then ?_
    refine goes_seq ?_
    refine goes_if (.t (has rfl)) H (fun hb5 H => ?_) (fun hb5 H => ?_)
    · skip
      refine goes_skip ?_
      refine ends_then ?_
      refine goes_seq ?_
      refine goes_block ?_
      refine goes_seq ?_
      refine goes_region ?_
      refine go1 (op_move rfl (.t (has rfl))) rfl ?_
      refine go1 (op_assign rfl (.t (has rfl))) rfl ?_
      refine goesO_nil ?_
      refine ends_then ?_
      refine goes_seq ?_
      refine goes_region ?_
      refine go1 (op_move rfl (.t (has rfl))) rfl ?_
      refine go1 (op_move rfl (.t (has rfl))) rfl ?_
      refine go1 (op_move rfl (.t (has rfl))) rfl ?_
      obtain ⟨x6, h7, H⟩ := bind_some H
      refine go1 (op_indexAddr rfl Try.underlying23 tk9 h7 (.t (has rfl)) (.t (has rfl))) rfl ?_
      refine go1 (op_loadp rfl tk9 (.t (has rfl))) rfl ?_
      refine go1 (op_scmp rfl rfl (.t (has rfl)) (.t (has rfl))) rfl ?_
      refine goesO_nil ?_
      refine ends_then ?_
      refine goes_if (.t (has rfl)) H (fun hb8 H => ?_) (fun hb8 H => ?_)
      · skip
        refine goes_seq ?_
        refine goes_region ?_
        refine go1 (op_move rfl (.t (has rfl))) rfl ?_
        refine go1 (op_assign rfl (.t (has rfl))) rfl ?_
        refine goesO_nil ?_
        refine ends_then ?_
        obtain rfl := Option.some.inj H
        refine goes_ret (ends_block_ret (ends_then_ret (ends_then_ret (ends_block_ret (ends_cutR_ret rfl ?_)))))
        exact ends_ret' rfl rfl (.t rfl (.nil _))
      · skip
        refine goes_skip ?_
        refine ends_block ?_
        refine ends_then ?_
        refine goes_region ?_
        refine go1 (op_add rfl (.t (has rfl)) (.int _ _)) rfl ?_
        refine go1 (op_move rfl (.t (has rfl))) rfl ?_
        refine goesO_nil ?_
        exact loop_next _ H (.cons rfl (.cons rfl (.cons rfl (.cons rfl .nil))))
    · skip
      refine goes_exit (ends_then_exit (ends_then_exit (ends_block_exit ?_)))
      obtain rfl := Option.some.inj H
      exact ends_cutR rfl .nil
  · rintro s2 rfl
    clear h3
    dsimp only at H
    refine ends_then ?_
    refine goes_seq ?_
    refine goes_region ?_
    refine go1 (op_assign rfl (.int _ _)) rfl ?_
    refine goesO_nil ?_
    refine ends_then ?_
    obtain rfl := Option.some.inj H
    exact goes_ret (ends_ret' rfl rfl (.t rfl (.nil _)))
  · rintro r' rfl a w hr
    obtain rfl := Option.some.inj H
    exact hr
/-! slices.Contains[[]string,string] -/
def slices_Contains_string_string.f (k : Nat) (a0 : List ByteArray) (a1 : ByteArray) : Option Bool := (slices_Index_string_string.f k a0 a1).bind fun v1 => some (icmp .geq v1 (0 : Int))
set_option maxRecDepth 100000 in
set_option maxHeartbeats 4000000 in
theorem slices_Contains_string_string.con (k : Nat) (a0 : List ByteArray) (a1 : ByteArray) (r : Bool) (H : slices_Contains_string_string.f k a0 a1 = some r) : Con Try.prog 63 [VA.k (kslice kstr) a0, VA.k kstr a1] [VA.k kbool r] := by
  unfold slices_Contains_string_string.f at H
  refine con_enter Try.func63 rfl rfl rfl (fun w0 S0 θ => ?_)
  refine goes_seq ?_
  refine goes_region ?_
  refine go1 (op_assign rfl (.bool _)) rfl ?_
  refine goesO_nil ?_
  refine ends_then ?_
  refine goes_seq ?_
  refine goes_region ?_
  refine go1 (op_move rfl (.t (has rfl))) rfl ?_
  refine go1 (op_move rfl (.t (has rfl))) rfl ?_
  obtain ⟨v1, h2, H⟩ := bind_some H
  refine go1 (op_call' rfl enters67 (slices_Index_string_string.con _ _ _ _ h2) rfl (.cons (ArgP.k (.t (has rfl))) (.cons (ArgP.k (.t (has rfl))) .nil))) rfl ?_
  refine go1 (op_icmp rfl rfl (.t (has rfl)) (.int _ _)) rfl ?_
  refine go1 (op_assign rfl (.t (has rfl))) rfl ?_
  refine goesO_nil ?_
  refine ends_then ?_
  obtain rfl := Option.some.inj H
  exact goes_ret (ends_ret' rfl rfl (.t rfl (.nil _)))
/-! slices.IndexFunc[[]string,string] -/
def slices_IndexFunc_string_string.l0 (a0 : List ByteArray) (a1 : ByteArray → Option Bool) : Nat → Int → Option (Except Int Unit)
  | 0, _ => none
  | k + 1, s1 => bif icmp .lss s1 (a0.length : Int) then ((idx a0 s1).bind fun x6 => (a1 x6).bind fun v8 => bif v8 then (some (Except.error s1)) else (slices_IndexFunc_string_string.l0 a0 a1 k (IntKind.i64.wrap (s1 + (1 : Int))))) else (some (Except.ok ()))
def slices_IndexFunc_string_string.f (k : Nat) (a0 : List ByteArray) (a1 : ByteArray → Option Bool) : Option Int := (slices_IndexFunc_string_string.l0 a0 a1 k (0 : Int)).bind fun o4 => match o4 with | .error r' => some r' | .ok s2 => (some (-1 : Int))
set_option maxRecDepth 100000 in
set_option maxHeartbeats 4000000 in
theorem slices_IndexFunc_string_string.con (F1 : FuncId) (pre1 caps1 : List VA) (k : Nat) (a0 : List ByteArray) (a1 : ByteArray → Option Bool) (hE1 : Enters Try.prog F1) (hp1 : ∀ (z0 : ByteArray) r, a1 z0 = some r → Con Try.prog F1 (pre1 ++ ([VA.k kstr z0] ++ caps1)) [VA.k kbool r]) (r : Int) (H : slices_IndexFunc_string_string.f k a0 a1 = some r) : Con Try.prog 57 [VA.k (kslice kstr) a0, VA.clo F1 pre1 caps1] [VA.k (kint .i64) r] := by
  unfold slices_IndexFunc_string_string.f at H
  refine con_enter Try.func57 rfl rfl rfl (fun w0 S0 θ => ?_)
  refine goes_seq ?_
  refine goes_region ?_
  refine go1 (op_assign rfl (.int _ _)) rfl ?_
  refine goesO_nil ?_
  refine ends_then ?_
  refine goes_seq ?_
  refine goes_seq ?_
  refine goes_region ?_
  refine go1 (op_move rfl (.t (has rfl))) rfl ?_
  refine go1 (op_len rfl rfl Try.underlying23 (.t (has rfl))) rfl ?_
  refine go1 (op_move rfl (.int _ _)) rfl ?_
  refine goesO_nil ?_
  refine ends_then ?_
  obtain ⟨o4, h3, H⟩ := bind_some H
  refine goes_cutR (o := o4) (fun s2 : Unit => []) (fun r a w => bodyPost Try.prog Try.f57 (CPost w0 S0 θ [VA.k (kint .i64) r]) .ret a w) ?_ ?_ ?_
  · replace H := h3; clear h3
    refine goes_block ?_
    refine goes_loop (fun s1 : Int => [Ent.t 0 (VA.k (kslice kstr) a0), Ent.t 1 (VA.clo F1 pre1 caps1), Ent.t 7 (VA.k (kint .i64) (a0.length : Int)), Ent.t 8 (VA.k (kint .i64) s1)]) (fun k s1 => slices_IndexFunc_string_string.l0 a0 a1 k s1) (fun _ => rfl) H (.cons rfl (.cons rfl (.cons rfl (.cons rfl .nil)))) ?_
    intro k s1 H
    simp only [slices_IndexFunc_string_string.l0] at H
    refine goes_seq ?_
    refine goes_region ?_
    refine go1 (op_icmp rfl rfl (.t (has rfl)) (.t (has rfl))) rfl ?_
    refine goesO_nil ?_
    refine ends_then ?_
    refine goes_seq ?_
    refine goes_if (.t (has rfl)) H (fun hb5 H => ?_) (fun hb5 H => ?_)
    · skip
      refine goes_skip ?_
      refine ends_then ?_
      refine goes_seq ?_
      refine goes_block ?_
      refine goes_seq ?_
      refine goes_region ?_
      refine go1 (op_move rfl (.t (has rfl))) rfl ?_
      refine go1 (op_assign rfl (.t (has rfl))) rfl ?_
      refine goesO_nil ?_
      refine ends_then ?_
      refine goes_seq ?_
      refine goes_region ?_
      refine go1 (op_moveA rfl plain_clo (.t (has rfl))) rfl ?_
      refine go1 (op_move rfl (.t (has rfl))) rfl ?_
      refine go1 (op_move rfl (.t (has rfl))) rfl ?_
      obtain ⟨x6, h7, H⟩ := bind_some H
      refine go1 (op_indexAddr rfl Try.underlying23 tk9 h7 (.t (has rfl)) (.t (has rfl))) rfl ?_
      refine go1 (op_loadp rfl tk9 (.t (has rfl))) rfl ?_
      obtain ⟨v8, h9, H⟩ := bind_some H
      refine go1 (op_callv rfl (.t (has rfl)) hE1 (hp1 _ _ h9) rfl (.cons (ArgP.k (.t (has rfl))) .nil)) rfl ?_
      refine goesO_nil ?_
      refine ends_then ?_
      refine goes_if (.t (has rfl)) H (fun hb10 H => ?_) (fun hb10 H => ?_)
      · skip
        refine goes_seq ?_
        refine goes_region ?_
        refine go1 (op_move rfl (.t (has rfl))) rfl ?_
        refine go1 (op_assign rfl (.t (has rfl))) rfl ?_
        refine goesO_nil ?_
        refine ends_then ?_
        obtain rfl := Option.some.inj H
        refine goes_ret (ends_block_ret (ends_then_ret (ends_then_ret (ends_block_ret (ends_cutR_ret rfl ?_)))))
        exact ends_ret' rfl rfl (.t rfl (.nil _))
      · skip
        refine goes_skip ?_
        refine ends_block ?_
        refine ends_then ?_
        refine goes_region ?_
        refine go1 (op_add rfl (.t (has rfl)) (.int _ _)) rfl ?_
        refine go1 (op_move rfl (.t (has rfl))) rfl ?_
        refine goesO_nil ?_
        exact loop_next _ H (.cons rfl (.cons rfl (.cons rfl (.cons rfl .nil))))
    · skip
      refine goes_exit (ends_then_exit (ends_then_exit (ends_block_exit ?_)))
      obtain rfl := Option.some.inj H
      exact ends_cutR rfl .nil
  · rintro s2 rfl
    clear h3
    dsimp only at H
    refine ends_then ?_
    refine goes_seq ?_
    refine goes_region ?_
    refine go1 (op_assign rfl (.int _ _)) rfl ?_
    refine goesO_nil ?_
    refine ends_then ?_
    obtain rfl := Option.some.inj H
    exact goes_ret (ends_ret' rfl rfl (.t rfl (.nil _)))
  · rintro r' rfl a w hr
    obtain rfl := Option.some.inj H
    exact hr
/-! slices.ContainsFunc[[]string,string] -/
def slices_ContainsFunc_string_string.f (k : Nat) (a0 : List ByteArray) (a1 : ByteArray → Option Bool) : Option Bool := (slices_IndexFunc_string_string.f k a0 a1).bind fun v1 => some (icmp .geq v1 (0 : Int))
set_option maxRecDepth 100000 in
set_option maxHeartbeats 4000000 in
theorem slices_ContainsFunc_string_string.con (F1 : FuncId) (pre1 caps1 : List VA) (k : Nat) (a0 : List ByteArray) (a1 : ByteArray → Option Bool) (hE1 : Enters Try.prog F1) (hp1 : ∀ (z0 : ByteArray) r, a1 z0 = some r → Con Try.prog F1 (pre1 ++ ([VA.k kstr z0] ++ caps1)) [VA.k kbool r]) (r : Bool) (H : slices_ContainsFunc_string_string.f k a0 a1 = some r) : Con Try.prog 37 [VA.k (kslice kstr) a0, VA.clo F1 pre1 caps1] [VA.k kbool r] := by
  unfold slices_ContainsFunc_string_string.f at H
  refine con_enter Try.func37 rfl rfl rfl (fun w0 S0 θ => ?_)
  refine goes_seq ?_
  refine goes_region ?_
  refine go1 (op_assign rfl (.bool _)) rfl ?_
  refine goesO_nil ?_
  refine ends_then ?_
  refine goes_seq ?_
  refine goes_region ?_
  refine go1 (op_move rfl (.t (has rfl))) rfl ?_
  refine go1 (op_moveA rfl plain_clo (.t (has rfl))) rfl ?_
  obtain ⟨v1, h2, H⟩ := bind_some H
  refine go1 (op_call' rfl enters57 (slices_IndexFunc_string_string.con F1 pre1 caps1 _ _ a1 hE1 hp1 _ h2) rfl (.cons (ArgP.k (.t (has rfl))) (.cons (ArgP.clo (.t (has rfl))) .nil))) rfl ?_
  refine go1 (op_icmp rfl rfl (.t (has rfl)) (.int _ _)) rfl ?_
  refine go1 (op_assign rfl (.t (has rfl))) rfl ?_
  refine goesO_nil ?_
  refine ends_then ?_
  obtain rfl := Option.some.inj H
  exact goes_ret (ends_ret' rfl rfl (.t rfl (.nil _)))
theorem slices_ContainsFunc_string_string.conF (F1 : FuncId) (pre1 caps1 : List VA) (k : Nat) (a0 : List ByteArray) (a1 : ByteArray → Option Bool) (hE1 : Enters Try.prog F1) (hp1 : ∀ (z0 : ByteArray) r, a1 z0 = some r → Con Try.prog F1 (pre1 ++ ([VA.k kstr z0] ++ caps1)) [VA.k kbool r]) (r : Bool) (H : slices_ContainsFunc_string_string.f k a0 a1 = some r) : ConF Try.prog 37 [VA.k (kslice kstr) a0, VA.clo F1 pre1 caps1] [VA.k kbool r] := (slices_ContainsFunc_string_string.con F1 pre1 caps1 k a0 a1 hE1 hp1 r H).freeL (.cons (KFree.k KFree.bool _) .nil)
/-! smithy/resolve.right$1 -/
def resolve_right_1.f (a0 : ByteArray) : Option Bool := some (icmp .gtr (a0.size : Int) (65536 : Int))
set_option maxRecDepth 100000 in
set_option maxHeartbeats 4000000 in
theorem resolve_right_1.con (a0 : ByteArray) (r : Bool) (H : resolve_right_1.f a0 = some r) : Con Try.prog 66 [VA.k kstr a0] [VA.k kbool r] := by
  unfold resolve_right_1.f at H
  refine con_enter Try.func66 rfl rfl rfl (fun w0 S0 θ => ?_)
  refine goes_seq ?_
  refine goes_region ?_
  refine go1 (op_assign rfl (.bool _)) rfl ?_
  refine goesO_nil ?_
  refine ends_then ?_
  refine goes_seq ?_
  refine goes_region ?_
  refine go1 (op_move rfl (.t (has rfl))) rfl ?_
  refine go1 (op_len_str rfl rfl Try.underlying9 (.t (has rfl))) rfl ?_
  refine go1 (op_icmp rfl rfl (.t (has rfl)) (.int _ _)) rfl ?_
  refine go1 (op_assign rfl (.t (has rfl))) rfl ?_
  refine goesO_nil ?_
  refine ends_then ?_
  obtain rfl := Option.some.inj H
  exact goes_ret (ends_ret' rfl rfl (.t rfl (.nil _)))
end Go.Proofs.Ytedgkcdofiildaa.F
