import Derived.Test.YtedgkcdofiildaaFPx2
set_option linter.unusedVariables false
set_option linter.unusedSimpArgs false
set_option linter.unnecessarySimpa false
set_option linter.deprecated false
namespace Go.Proofs.Ytedgkcdofiildaa.F
open Go Go.RowKit Go.Proofs.Ytedgkcdofiildaa.Sl
/-! smithy/smithyref12.Check -/
def smithyref12_Check.l1 (s6 : (List ByteArray) × Int) (x11 : Node) : Nat → Int → Option (Except Int Unit)
  | 0, _ => none
  | k + 1, s21 => bif icmp .lss s21 (x11.Needs.length : Int) then ((idx x11.Needs s21).bind fun x26 => (smithyref03_Has.f k s6.1 x26).bind fun v28 => bif !v28 then (some (Except.error (7 : Int))) else (smithyref12_Check.l1 s6 x11 k (IntKind.i64.wrap (s21 + (1 : Int))))) else (some (Except.ok ()))
def smithyref12_Check.l0 (a0 : Plan) : Nat → ((List ByteArray) × Int) → Option (Except Int (List ByteArray))
  | 0, _ => none
  | k + 1, s6 => bif icmp .lss s6.2 (a0.Nodes.length : Int) then ((idx a0.Nodes s6.2).bind fun x11 => ((smithyref12_Node.f k x11).bind fun v15 => bif icmp .neq v15 (0 : Int) then (some true) else ((smithyref03_Has.f k s6.1 x11.Target).bind fun v18 => some v18)).bind fun s13 => bif s13 then (some (Except.error (7 : Int))) else ((smithyref12_Check.l1 s6 x11 k (0 : Int)).bind fun o24 => match o24 with | .error r' => some (Except.error r') | .ok s22 => ((app 16 s6.1 ([x11.Target])).bind fun x31 => smithyref12_Check.l0 a0 k (x31, IntKind.i64.wrap (s6.2 + (1 : Int)))))) else (some (Except.ok s6.1))
def smithyref12_Check.l2 (a0 : Plan) (s7 : (List ByteArray)) : Nat → Int → Option (Except Int Unit)
  | 0, _ => none
  | k + 1, s33 => bif icmp .lss s33 (a0.Goals.length : Int) then (((idx a0.Goals s33).bind fun x40 => (smithyref03_Has.f k s7 x40).bind fun v42 => bif !v42 then (some true) else ((sub a0.Goals (0 : Int) s33).bind fun x45 => (idx a0.Goals s33).bind fun x47 => (smithyref03_Has.f k x45 x47).bind fun v49 => some v49)).bind fun s38 => bif s38 then (some (Except.error (7 : Int))) else (smithyref12_Check.l2 a0 s7 k (IntKind.i64.wrap (s33 + (1 : Int))))) else (some (Except.ok ()))
def smithyref12_Check.f (k : Nat) (a0 : Plan) : Option Int := (bif icmp .gtr (a0.Nodes.length : Int) (256 : Int) then (some true) else (bif icmp .lss (a0.Goals.length : Int) (1 : Int) then (some true) else (some (icmp .gtr (a0.Goals.length : Int) (512 : Int))))).bind fun s1 => bif s1 then (some (7 : Int)) else ((smithyref12_Check.l0 a0 k (([] : List ByteArray), (0 : Int))).bind fun o9 => match o9 with | .error r' => some r' | .ok s7 => ((smithyref12_Check.l2 a0 s7 k (0 : Int)).bind fun o36 => match o36 with | .error r' => some r' | .ok s34 => (some (0 : Int))))
set_option maxRecDepth 100000 in
set_option maxHeartbeats 4000000 in
theorem smithyref12_Check.con (k : Nat) (a0 : Plan) (r : Int) (H : smithyref12_Check.f k a0 = some r) : Con Try.prog 17 [VA.k kPlan a0] [VA.k (kint .i64) r] := by
  unfold smithyref12_Check.f at H
  refine con_enter Try.func17 rfl rfl rfl (fun w0 S0 θ => ?_)
  refine goes_seq ?_
  refine goes_region ?_
  refine go3 (op_box 1 rfl (fun h => by first | rfl | cases h) (.t (has rfl))) rfl ?_
  refine go1 (op_assign rfl (.int _ _)) rfl ?_
  refine goesO_nil ?_
  refine ends_then ?_
  refine goes_seq ?_
  refine goes_seq ?_
  obtain ⟨s1, h2, H⟩ := bind_some H
  refine goes_cut [Ent.t 1 (VA.ptr 1 0), Ent.t 23 (VA.k kbool s1), Ent.h 1 (HE.box 25 kPlan a0)] ?_ ?_
  · replace H := h2; clear h2
    refine goes_region ?_
    refine go1 (op_fieldAddr rfl Try.underlying25 rfl tk22 (.t (has rfl))) rfl ?_
    refine go1 (op_load rfl fldPlan_Nodes tk22 (.t (has rfl)) (has rfl)) rfl ?_
    refine go1 (op_len rfl rfl Try.underlying22 (.t (has rfl))) rfl ?_
    refine go1 (op_icmp rfl rfl (.t (has rfl)) (.int _ _)) rfl ?_
    refine go1 (op_move rfl (.t (has rfl))) rfl ?_
    refine goesO_split H (fun hb3 H => ?_) (fun hb3 H => ?_)
    · skip
      refine goS rfl rfl rfl rfl rfl rfl hb3 ?_
      refine goS rfl rfl rfl rfl rfl rfl hb3 ?_
      refine goS rfl rfl rfl rfl rfl rfl hb3 ?_
      refine goS rfl rfl rfl rfl rfl rfl hb3 ?_
      refine go1 (op_pick_t rfl hb3 (.t (has rfl)) (.bool _)) rfl ?_
      refine go1 (op_move rfl (.t (has rfl))) rfl ?_
      refine goS rfl rfl rfl rfl rfl rfl rfl ?_
      refine goS rfl rfl rfl rfl rfl rfl rfl ?_
      refine goS rfl rfl rfl rfl rfl rfl rfl ?_
      refine goS rfl rfl rfl rfl rfl rfl rfl ?_
      refine go1 (op_pick_t rfl rfl (.t (has rfl)) (.bool _)) rfl ?_
      refine goesO_nil ?_
      obtain rfl := Option.some.inj H
      exact ends_cut (.cons rfl (.cons rfl (.cons rfl .nil)))
    · skip
      refine goG (op_fieldAddr rfl Try.underlying25 rfl tk23 (.t (has rfl))) rfl rfl rfl rfl hb3 ?_
      refine goG (op_load rfl fldPlan_Goals tk23 (.t (has rfl)) (has rfl)) rfl rfl rfl rfl hb3 ?_
      refine goG (op_len rfl rfl Try.underlying23 (.t (has rfl))) rfl rfl rfl rfl hb3 ?_
      refine goG (op_icmp rfl rfl (.t (has rfl)) (.int _ _)) rfl rfl rfl rfl hb3 ?_
      refine go1 (op_pick_f rfl hb3 (.t (has rfl)) (.t (has rfl))) rfl ?_
      refine go1 (op_move rfl (.t (has rfl))) rfl ?_
      refine goesO_split H (fun hb4 H => ?_) (fun hb4 H => ?_)
      · skip
        refine goS rfl rfl rfl rfl rfl rfl hb4 ?_
        refine goS rfl rfl rfl rfl rfl rfl hb4 ?_
        refine goS rfl rfl rfl rfl rfl rfl hb4 ?_
        refine goS rfl rfl rfl rfl rfl rfl hb4 ?_
        refine go1 (op_pick_t rfl hb4 (.t (has rfl)) (.bool _)) rfl ?_
        refine goesO_nil ?_
        obtain rfl := Option.some.inj H
        exact ends_cut (.cons rfl (.cons rfl (.cons rfl .nil)))
      · skip
        refine goG (op_fieldAddr rfl Try.underlying25 rfl tk23 (.t (has rfl))) rfl rfl rfl rfl hb4 ?_
        refine goG (op_load rfl fldPlan_Goals tk23 (.t (has rfl)) (has rfl)) rfl rfl rfl rfl hb4 ?_
        refine goG (op_len rfl rfl Try.underlying23 (.t (has rfl))) rfl rfl rfl rfl hb4 ?_
        refine goG (op_icmp rfl rfl (.t (has rfl)) (.int _ _)) rfl rfl rfl rfl hb4 ?_
        refine go1 (op_pick_f rfl hb4 (.t (has rfl)) (.t (has rfl))) rfl ?_
        refine goesO_nil ?_
        obtain rfl := Option.some.inj H
        exact ends_cut (.cons rfl (.cons rfl (.cons rfl .nil)))
  refine ends_then ?_
  refine goes_if (.t (has rfl)) H (fun hb5 H => ?_) (fun hb5 H => ?_)
  · skip
    refine goes_seq ?_
    refine goes_region ?_
    refine go1 (op_assign rfl (.int _ _)) rfl ?_
    refine goesO_nil ?_
    refine ends_then ?_
    obtain rfl := Option.some.inj H
    exact goes_ret (ends_then_ret (ends_ret' rfl rfl (.t rfl (.nil _))))
  · skip
    refine goes_skip ?_
    refine ends_then ?_
    refine goes_seq ?_
    refine goes_region ?_
    refine go1 (op_assign_nil 9 kstr (.inr rfl) rfl) rfl ?_
    refine goesO_nil ?_
    refine ends_then ?_
    refine goes_seq ?_
    refine goes_seq ?_
    refine goes_region ?_
    refine go1 (op_assign rfl (.int _ _)) rfl ?_
    refine goesO_nil ?_
    refine ends_then ?_
    obtain ⟨o9, h8, H⟩ := bind_some H
    refine goes_cutR (o := o9) (fun s7 : (List ByteArray) => [Ent.t 1 (VA.ptr 1 0), Ent.t 3 (VA.own 9 kstr s7), Ent.h 1 (HE.box 25 kPlan a0)]) (fun r a w => bodyPost Try.prog Try.f17 (CPost w0 S0 θ [VA.k (kint .i64) r]) .ret a w) ?_ ?_ ?_
    · replace H := h8; clear h8
      refine goes_block ?_
      refine goes_loop (fun s6 : (List ByteArray) × Int => [Ent.t 1 (VA.ptr 1 0), Ent.t 3 (VA.own 9 kstr s6.1), Ent.t 4 (VA.k (kint .i64) s6.2), Ent.h 1 (HE.box 25 kPlan a0)]) (fun k s6 => smithyref12_Check.l0 a0 k s6) (fun _ => rfl) H (.cons rfl (.cons rfl (.cons rfl (.cons rfl .nil)))) ?_
      intro k s6 H
      simp only [smithyref12_Check.l0] at H
      refine goes_seq ?_
      refine goes_seq ?_
      refine goes_region ?_
      refine go1 (op_move rfl (.t (has rfl))) rfl ?_
      refine go1 (op_fieldAddr rfl Try.underlying25 rfl tk22 (.t (has rfl))) rfl ?_
      refine go1 (op_load rfl fldPlan_Nodes tk22 (.t (has rfl)) (has rfl)) rfl ?_
      refine go1 (op_len rfl rfl Try.underlying22 (.t (has rfl))) rfl ?_
      refine go1 (op_icmp rfl rfl (.t (has rfl)) (.t (has rfl))) rfl ?_
      refine goesO_nil ?_
      refine ends_then ?_
      refine goes_if (.t (has rfl)) H (fun hb10 H => ?_) (fun hb10 H => ?_)
      · skip
        refine goes_skip ?_
        refine ends_then ?_
        refine goes_seq ?_
        refine goes_block ?_
        refine goes_seq ?_
        refine goes_region ?_
        refine go1 (op_fieldAddr rfl Try.underlying25 rfl tk22 (.t (has rfl))) rfl ?_
        refine go1 (op_load rfl fldPlan_Nodes tk22 (.t (has rfl)) (has rfl)) rfl ?_
        refine go1 (op_move rfl (.t (has rfl))) rfl ?_
        obtain ⟨x11, h12, H⟩ := bind_some H
        refine go1 (op_indexAddr rfl Try.underlying22 tk48 h12 (.t (has rfl)) (.t (has rfl))) rfl ?_
        refine go1 (op_loadp rfl tk48 (.t (has rfl))) rfl ?_
        refine go3 (op_alloc 5 rfl zk48) rfl ?_
        refine go1 (op_store (Fld.whole kNode) tk48 (.t (has rfl)) (has rfl) (.t (has rfl))) rfl ?_
        refine goesO_nil ?_
        refine ends_then ?_
        refine goes_seq ?_
        refine goes_seq ?_
        obtain ⟨s13, h14, H⟩ := bind_some H
        refine goes_cut [Ent.t 1 (VA.ptr 1 0), Ent.t 3 (VA.own 9 kstr s6.1), Ent.t 4 (VA.k (kint .i64) s6.2), Ent.t 5 (VA.ptr 5 0), Ent.t 44 (VA.k kbool s13), Ent.h 1 (HE.box 25 kPlan a0), Ent.h 5 (HE.box 48 kNode x11)] ?_ ?_
        · replace H := h14; clear h14
          refine goes_region ?_
          refine go1 (op_load rfl (Fld.whole kNode) tk48 (.t (has rfl)) (has rfl)) rfl ?_
          obtain ⟨v15, h16, H⟩ := bind_some H
          refine go1 (op_call' rfl enters45 (smithyref12_Node.con _ _ _ h16) rfl (.cons (ArgP.k (.t (has rfl))) .nil)) rfl ?_
          refine go1 (op_icmp rfl rfl (.t (has rfl)) (.int _ _)) rfl ?_
          refine go1 (op_move rfl (.t (has rfl))) rfl ?_
          refine goesO_split H (fun hb17 H => ?_) (fun hb17 H => ?_)
          · skip
            refine goS rfl rfl rfl rfl rfl rfl hb17 ?_
            refine goS rfl rfl rfl rfl rfl rfl hb17 ?_
            refine goS rfl rfl rfl rfl rfl rfl hb17 ?_
            refine goS rfl rfl rfl rfl rfl rfl hb17 ?_
            refine go1 (op_pick_t rfl hb17 (.t (has rfl)) (.bool _)) rfl ?_
            refine goesO_nil ?_
            obtain rfl := Option.some.inj H
            exact ends_cut (.cons rfl (.cons rfl (.cons rfl (.cons rfl (.cons rfl (.cons rfl (.cons rfl .nil)))))))
          · skip
            refine goG (op_same (.inl rfl) rfl rfl) rfl rfl rfl rfl hb17 ?_
            refine goG (op_fieldAddr rfl Try.underlying48 rfl tk9 (.t (has rfl))) rfl rfl rfl rfl hb17 ?_
            refine goG (op_load rfl fldNode_Target tk9 (.t (has rfl)) (has rfl)) rfl rfl rfl rfl hb17 ?_
            obtain ⟨v18, h19, H⟩ := bind_some H
            refine goG (op_callF' rfl enters33 (smithyref03_Has.conF _ _ _ _ h19) rfl (.cons (ArgB.owns rfl (has rfl) (has rfl)) (.cons (ArgB.k (.t (has rfl))) .nil))) rfl rfl rfl rfl hb17 ?_
            refine go1 (op_pick_f rfl hb17 (.t (has rfl)) (.t (has rfl))) rfl ?_
            refine goesO_nil ?_
            obtain rfl := Option.some.inj H
            exact ends_cut (.cons rfl (.cons rfl (.cons rfl (.cons rfl (.cons rfl (.cons rfl (.cons rfl .nil)))))))
        refine ends_then ?_
        refine goes_if (.t (has rfl)) H (fun hb20 H => ?_) (fun hb20 H => ?_)
        · skip
          refine goes_seq ?_
          refine goes_region ?_
          refine go1 (op_assign rfl (.int _ _)) rfl ?_
          refine goesO_nil ?_
          refine ends_then ?_
          obtain rfl := Option.some.inj H
          refine goes_ret (ends_then_ret (ends_block_ret (ends_then_ret (ends_then_ret (ends_block_ret (ends_cutR_ret rfl ?_))))))
          exact ends_ret' rfl rfl (.t rfl (.nil _))
        · skip
          refine goes_skip ?_
          refine ends_then ?_
          refine goes_seq ?_
          refine goes_seq ?_
          refine goes_region ?_
          refine go1 (op_assign rfl (.int _ _)) rfl ?_
          refine goesO_nil ?_
          refine ends_then ?_
          obtain ⟨o24, h23, H⟩ := bind_some H
          refine goes_cutR (o := o24) (fun s22 : Unit => [Ent.t 1 (VA.ptr 1 0), Ent.t 3 (VA.own 9 kstr s6.1), Ent.t 4 (VA.k (kint .i64) s6.2), Ent.t 5 (VA.ptr 5 0), Ent.h 1 (HE.box 25 kPlan a0), Ent.h 5 (HE.box 48 kNode x11)]) (fun r a w => bodyPost Try.prog Try.f17 (CPost w0 S0 θ [VA.k (kint .i64) r]) .ret a w) ?_ ?_ ?_
          · replace H := h23; clear h23
            refine goes_block ?_
            refine goes_loop (fun s21 : Int => [Ent.t 1 (VA.ptr 1 0), Ent.t 3 (VA.own 9 kstr s6.1), Ent.t 4 (VA.k (kint .i64) s6.2), Ent.t 5 (VA.ptr 5 0), Ent.t 6 (VA.k (kint .i64) s21), Ent.h 1 (HE.box 25 kPlan a0), Ent.h 5 (HE.box 48 kNode x11)]) (fun k s21 => smithyref12_Check.l1 s6 x11 k s21) (fun _ => rfl) H (.cons rfl (.cons rfl (.cons rfl (.cons rfl (.cons rfl (.cons rfl (.cons rfl .nil))))))) ?_
            intro k s21 H
            simp only [smithyref12_Check.l1] at H
            refine goes_seq ?_
            refine goes_seq ?_
            refine goes_region ?_
            refine go1 (op_move rfl (.t (has rfl))) rfl ?_
            refine go1 (op_fieldAddr rfl Try.underlying48 rfl tk23 (.t (has rfl))) rfl ?_
            refine go1 (op_load rfl fldNode_Needs tk23 (.t (has rfl)) (has rfl)) rfl ?_
            refine go1 (op_len rfl rfl Try.underlying23 (.t (has rfl))) rfl ?_
            refine go1 (op_icmp rfl rfl (.t (has rfl)) (.t (has rfl))) rfl ?_
            refine goesO_nil ?_
            refine ends_then ?_
            refine goes_if (.t (has rfl)) H (fun hb25 H => ?_) (fun hb25 H => ?_)
            · skip
              refine goes_skip ?_
              refine ends_then ?_
              refine goes_seq ?_
              refine goes_block ?_
              refine goes_seq ?_
              refine goes_region ?_
              refine go1 (op_same (.inl rfl) rfl rfl) rfl ?_
              refine go1 (op_fieldAddr rfl Try.underlying48 rfl tk23 (.t (has rfl))) rfl ?_
              refine go1 (op_load rfl fldNode_Needs tk23 (.t (has rfl)) (has rfl)) rfl ?_
              refine go1 (op_move rfl (.t (has rfl))) rfl ?_
              obtain ⟨x26, h27, H⟩ := bind_some H
              refine go1 (op_indexAddr rfl Try.underlying23 tk9 h27 (.t (has rfl)) (.t (has rfl))) rfl ?_
              refine go1 (op_loadp rfl tk9 (.t (has rfl))) rfl ?_
              obtain ⟨v28, h29, H⟩ := bind_some H
              refine go1 (op_callF' rfl enters33 (smithyref03_Has.conF _ _ _ _ h29) rfl (.cons (ArgB.owns rfl (has rfl) (has rfl)) (.cons (ArgB.k (.t (has rfl))) .nil))) rfl ?_
              refine go1 (op_not rfl (.t (has rfl))) rfl ?_
              refine goesO_nil ?_
              refine ends_then ?_
              refine goes_if (.t (has rfl)) H (fun hb30 H => ?_) (fun hb30 H => ?_)
              · skip
                refine goes_seq ?_
                refine goes_region ?_
                refine go1 (op_assign rfl (.int _ _)) rfl ?_
                refine goesO_nil ?_
                refine ends_then ?_
                obtain rfl := Option.some.inj H
                refine goes_ret (ends_block_ret (ends_then_ret (ends_then_ret (ends_block_ret (ends_cutR_ret rfl ?_)))))
                exact ends_ret' rfl rfl (.t rfl (.nil _))
              · skip
                refine goes_skip ?_
                refine ends_block ?_
                refine ends_then ?_
                refine goes_region ?_
                refine go1 (op_move rfl (.t (has rfl))) rfl ?_
                refine go1 (op_add rfl (.t (has rfl)) (.int _ _)) rfl ?_
                refine go1 (op_assign rfl (.t (has rfl))) rfl ?_
                refine goesO_nil ?_
                exact loop_next _ H (.cons rfl (.cons rfl (.cons rfl (.cons rfl (.cons rfl (.cons rfl (.cons rfl .nil)))))))
            · skip
              refine goes_exit (ends_then_exit (ends_then_exit (ends_block_exit ?_)))
              obtain rfl := Option.some.inj H
              exact ends_cutR rfl (.cons rfl (.cons rfl (.cons rfl (.cons rfl (.cons rfl (.cons rfl .nil))))))
          · rintro s22 rfl
            clear h23
            dsimp only at H
            refine ends_then ?_
            refine goes_region ?_
            refine go2 (op_mv (.inl rfl) rfl rfl (has rfl)) rfl ?_
            refine go1 (op_fieldAddr rfl Try.underlying48 rfl tk9 (.t (has rfl))) rfl ?_
            refine go1 (op_load rfl fldNode_Target tk9 (.t (has rfl)) (has rfl)) rfl ?_
            refine go1 (op_buildSlice rfl at23 (fun h => by first | rfl | cases h) rfl rfl rfl (.cons (.t (has rfl)) (.nil _))) rfl ?_
            obtain ⟨x31, h32, H⟩ := bind_some H
            refine go2 (op_append rfl rfl at23 h32 (has rfl) (ReadsArg.own (.t (has rfl)))) rfl ?_
            refine go2 (op_mv (.inr rfl) rfl rfl (has rfl)) rfl ?_
            refine goesO_nil ?_
            refine ends_block ?_
            refine ends_then ?_
            refine goes_region ?_
            refine go1 (op_move rfl (.t (has rfl))) rfl ?_
            refine go1 (op_add rfl (.t (has rfl)) (.int _ _)) rfl ?_
            refine go1 (op_assign rfl (.t (has rfl))) rfl ?_
            refine goesO_nil ?_
            exact loop_next _ H (.cons rfl (.cons rfl (.cons rfl (.cons rfl .nil))))
          · rintro r' rfl a w hr
            obtain rfl := Option.some.inj H
            exact ⟨_, rfl, hr⟩
      · skip
        refine goes_exit (ends_then_exit (ends_then_exit (ends_block_exit ?_)))
        obtain rfl := Option.some.inj H
        exact ends_cutR rfl (.cons rfl (.cons rfl (.cons rfl .nil)))
    · rintro s7 rfl
      clear h8
      dsimp only at H
      refine ends_then ?_
      refine goes_seq ?_
      refine goes_seq ?_
      refine goes_region ?_
      refine go1 (op_assign rfl (.int _ _)) rfl ?_
      refine goesO_nil ?_
      refine ends_then ?_
      obtain ⟨o36, h35, H⟩ := bind_some H
      refine goes_cutR (o := o36) (fun s34 : Unit => []) (fun r a w => bodyPost Try.prog Try.f17 (CPost w0 S0 θ [VA.k (kint .i64) r]) .ret a w) ?_ ?_ ?_
      · replace H := h35; clear h35
        refine goes_block ?_
        refine goes_loop (fun s33 : Int => [Ent.t 1 (VA.ptr 1 0), Ent.t 3 (VA.own 9 kstr s7), Ent.t 7 (VA.k (kint .i64) s33), Ent.h 1 (HE.box 25 kPlan a0)]) (fun k s33 => smithyref12_Check.l2 a0 s7 k s33) (fun _ => rfl) H (.cons rfl (.cons rfl (.cons rfl (.cons rfl .nil)))) ?_
        intro k s33 H
        simp only [smithyref12_Check.l2] at H
        refine goes_seq ?_
        refine goes_seq ?_
        refine goes_region ?_
        refine go1 (op_move rfl (.t (has rfl))) rfl ?_
        refine go1 (op_fieldAddr rfl Try.underlying25 rfl tk23 (.t (has rfl))) rfl ?_
        refine go1 (op_load rfl fldPlan_Goals tk23 (.t (has rfl)) (has rfl)) rfl ?_
        refine go1 (op_len rfl rfl Try.underlying23 (.t (has rfl))) rfl ?_
        refine go1 (op_icmp rfl rfl (.t (has rfl)) (.t (has rfl))) rfl ?_
        refine goesO_nil ?_
        refine ends_then ?_
        refine goes_if (.t (has rfl)) H (fun hb37 H => ?_) (fun hb37 H => ?_)
        · skip
          refine goes_skip ?_
          refine ends_then ?_
          refine goes_seq ?_
          refine goes_block ?_
          refine goes_seq ?_
          obtain ⟨s38, h39, H⟩ := bind_some H
          refine goes_cut [Ent.t 1 (VA.ptr 1 0), Ent.t 3 (VA.own 9 kstr s7), Ent.t 7 (VA.k (kint .i64) s33), Ent.t 91 (VA.k kbool s38), Ent.h 1 (HE.box 25 kPlan a0)] ?_ ?_
          · replace H := h39; clear h39
            obtain ⟨x40, h41, H⟩ := bind_some H
            obtain ⟨v42, h43, H⟩ := bind_some H
            refine goes_split H (fun hb44 H => ?_) (fun hb44 H => ?_)
            · skip
              refine goes_drawn [[Ent.same 72 3], [Ent.t 73 (VA.ptr 1 1)], [Ent.t 74 (VA.k (kslice kstr) a0.Goals)], [Ent.t 75 (VA.k (kint .i64) s33)], [Ent.t 76 (VA.pt kstr x40)], [Ent.t 77 (VA.k kstr x40)], [Ent.t 78 (VA.k kbool v42)], [Ent.t 79 (VA.k kbool (!v42))], [Ent.t 80 (VA.k kbool (!v42))], [Ent.t 81 (VA.v undef)], [Ent.t 82 (VA.v undef)], [Ent.t 83 (VA.v undef)], [Ent.t 84 (VA.v undef)], [Ent.t 85 (VA.v undef)], [Ent.t 86 (VA.v undef)], [Ent.t 87 (VA.v undef)], [Ent.t 88 (VA.v undef)], [Ent.t 89 (VA.v undef)], [Ent.t 90 (VA.v undef)], [Ent.t 91 (VA.k kbool true)]] mixed (by kernel_rfl) (by kernel_rfl) (.cons [] (OpSpec.run rfl rfl (op_same (.inl rfl) rfl rfl) rfl) .nil (by kernel_rfl) (.cons [(none, Ent.t 1 (VA.ptr 1 0))] (OpSpec.run rfl rfl (op_fieldAddr rfl Try.underlying25 rfl tk23 (.t NL.h0)) rfl) (.cons (has rfl) .nil) (by kernel_rfl) (.cons [(some 1, Ent.t 73 (VA.ptr 1 1)), (none, Ent.h 1 (HE.box 25 kPlan a0))] (OpSpec.run rfl rfl (op_load rfl fldPlan_Goals tk23 (.t NL.h0) (NL.hs NL.h0)) rfl) (.cons (has rfl) (.cons (has rfl) .nil)) (by kernel_rfl) (.cons [(none, Ent.t 7 (VA.k (kint .i64) s33))] (OpSpec.run rfl rfl (op_move rfl (.t NL.h0)) rfl) (.cons (has rfl) .nil) (by kernel_rfl) (.cons [(some 2, Ent.t 74 (VA.k (kslice kstr) a0.Goals)), (some 3, Ent.t 75 (VA.k (kint .i64) s33))] (OpSpec.run rfl rfl (op_indexAddr rfl Try.underlying23 tk9 h41 (.t NL.h0) (.t (NL.hs NL.h0))) rfl) (.cons (has rfl) (.cons (has rfl) .nil)) (by kernel_rfl) (.cons [(some 4, Ent.t 76 (VA.pt kstr x40))] (OpSpec.run rfl rfl (op_loadp rfl tk9 (.t NL.h0)) rfl) (.cons (has rfl) .nil) (by kernel_rfl) (.cons [(some 0, Ent.same 72 3), (none, Ent.t 3 (VA.own 9 kstr s7)), (some 5, Ent.t 77 (VA.k kstr x40))] (OpSpec.run rfl rfl (op_callF' rfl enters33 (smithyref03_Has.conF _ _ _ _ h43) rfl (.cons (ArgB.owns rfl NL.h0 (NL.hs NL.h0)) (.cons (ArgB.k (.t (NL.hs (NL.hs NL.h0)))) .nil))) rfl) (.cons (has rfl) (.cons (has rfl) (.cons (has rfl) .nil))) (by kernel_rfl) (.cons [(some 6, Ent.t 78 (VA.k kbool v42))] (OpSpec.run rfl rfl (op_not rfl (.t NL.h0)) rfl) (.cons (has rfl) .nil) (by kernel_rfl) (.cons [(some 7, Ent.t 79 (VA.k kbool (!v42)))] (OpSpec.run rfl rfl (op_move rfl (.t NL.h0)) rfl) (.cons (has rfl) .nil) (by kernel_rfl) (.cons [(some 8, Ent.t 80 (VA.k kbool (!v42)))] (run_skip rfl rfl rfl rfl rfl rfl NL.h0 hb44) (.cons (has rfl) .nil) (by kernel_rfl) (.cons [(some 8, Ent.t 80 (VA.k kbool (!v42)))] (run_skip rfl rfl rfl rfl rfl rfl NL.h0 hb44) (.cons (has rfl) .nil) (by kernel_rfl) (.cons [(some 8, Ent.t 80 (VA.k kbool (!v42)))] (run_skip rfl rfl rfl rfl rfl rfl NL.h0 hb44) (.cons (has rfl) .nil) (by kernel_rfl) (.cons [(some 8, Ent.t 80 (VA.k kbool (!v42)))] (run_skip rfl rfl rfl rfl rfl rfl NL.h0 hb44) (.cons (has rfl) .nil) (by kernel_rfl) (.cons [(some 8, Ent.t 80 (VA.k kbool (!v42)))] (run_skip rfl rfl rfl rfl rfl rfl NL.h0 hb44) (.cons (has rfl) .nil) (by kernel_rfl) (.cons [(some 8, Ent.t 80 (VA.k kbool (!v42)))] (run_skip rfl rfl rfl rfl rfl rfl NL.h0 hb44) (.cons (has rfl) .nil) (by kernel_rfl) (.cons [(some 8, Ent.t 80 (VA.k kbool (!v42)))] (run_skip rfl rfl rfl rfl rfl rfl NL.h0 hb44) (.cons (has rfl) .nil) (by kernel_rfl) (.cons [(some 8, Ent.t 80 (VA.k kbool (!v42)))] (run_skip rfl rfl rfl rfl rfl rfl NL.h0 hb44) (.cons (has rfl) .nil) (by kernel_rfl) (.cons [(some 8, Ent.t 80 (VA.k kbool (!v42)))] (run_skip rfl rfl rfl rfl rfl rfl NL.h0 hb44) (.cons (has rfl) .nil) (by kernel_rfl) (.cons [(some 8, Ent.t 80 (VA.k kbool (!v42)))] (run_skip rfl rfl rfl rfl rfl rfl NL.h0 hb44) (.cons (has rfl) .nil) (by kernel_rfl) (.cons [(some 8, Ent.t 80 (VA.k kbool (!v42)))] (OpSpec.run rfl rfl (op_pick_t rfl hb44 (.t NL.h0) (.bool _)) rfl) (.cons (has rfl) .nil) (by kernel_rfl) (.nil _))))))))))))))))))))) ?_
              refine ends_sub [Ent.t 1 (VA.ptr 1 0), Ent.t 3 (VA.own 9 kstr s7), Ent.t 7 (VA.k (kint .i64) s33), Ent.t 91 (VA.k kbool true), Ent.h 1 (HE.box 25 kPlan a0)] (.cons rfl (.cons rfl (.cons rfl (.cons rfl (.cons rfl .nil))))) ?_
              obtain rfl := Option.some.inj H
              exact ends_cut (.cons rfl (.cons rfl (.cons rfl (.cons rfl (.cons rfl .nil)))))
            · skip
              obtain ⟨x45, h46, H⟩ := bind_some H
              obtain ⟨x47, h48, H⟩ := bind_some H
              obtain ⟨v49, h50, H⟩ := bind_some H
              refine goes_drawn [[Ent.same 72 3], [Ent.t 73 (VA.ptr 1 1)], [Ent.t 74 (VA.k (kslice kstr) a0.Goals)], [Ent.t 75 (VA.k (kint .i64) s33)], [Ent.t 76 (VA.pt kstr x40)], [Ent.t 77 (VA.k kstr x40)], [Ent.t 78 (VA.k kbool v42)], [Ent.t 79 (VA.k kbool (!v42))], [Ent.t 80 (VA.k kbool (!v42))], [Ent.t 81 (VA.ptr 1 1)], [Ent.t 82 (VA.k (kslice kstr) a0.Goals)], [Ent.t 83 (VA.k (kint .i64) s33)], [Ent.t 84 (VA.k (kslice kstr) x45)], [Ent.t 85 (VA.ptr 1 1)], [Ent.t 86 (VA.k (kslice kstr) a0.Goals)], [Ent.t 87 (VA.k (kint .i64) s33)], [Ent.t 88 (VA.pt kstr x47)], [Ent.t 89 (VA.k kstr x47)], [Ent.t 90 (VA.k kbool v49)], [Ent.t 91 (VA.k kbool v49)]] mixed (by kernel_rfl) (by kernel_rfl) (.cons [] (OpSpec.run rfl rfl (op_same (.inl rfl) rfl rfl) rfl) .nil (by kernel_rfl) (.cons [(none, Ent.t 1 (VA.ptr 1 0))] (OpSpec.run rfl rfl (op_fieldAddr rfl Try.underlying25 rfl tk23 (.t NL.h0)) rfl) (.cons (has rfl) .nil) (by kernel_rfl) (.cons [(some 1, Ent.t 73 (VA.ptr 1 1)), (none, Ent.h 1 (HE.box 25 kPlan a0))] (OpSpec.run rfl rfl (op_load rfl fldPlan_Goals tk23 (.t NL.h0) (NL.hs NL.h0)) rfl) (.cons (has rfl) (.cons (has rfl) .nil)) (by kernel_rfl) (.cons [(none, Ent.t 7 (VA.k (kint .i64) s33))] (OpSpec.run rfl rfl (op_move rfl (.t NL.h0)) rfl) (.cons (has rfl) .nil) (by kernel_rfl) (.cons [(some 2, Ent.t 74 (VA.k (kslice kstr) a0.Goals)), (some 3, Ent.t 75 (VA.k (kint .i64) s33))] (OpSpec.run rfl rfl (op_indexAddr rfl Try.underlying23 tk9 h41 (.t NL.h0) (.t (NL.hs NL.h0))) rfl) (.cons (has rfl) (.cons (has rfl) .nil)) (by kernel_rfl) (.cons [(some 4, Ent.t 76 (VA.pt kstr x40))] (OpSpec.run rfl rfl (op_loadp rfl tk9 (.t NL.h0)) rfl) (.cons (has rfl) .nil) (by kernel_rfl) (.cons [(some 0, Ent.same 72 3), (none, Ent.t 3 (VA.own 9 kstr s7)), (some 5, Ent.t 77 (VA.k kstr x40))] (OpSpec.run rfl rfl (op_callF' rfl enters33 (smithyref03_Has.conF _ _ _ _ h43) rfl (.cons (ArgB.owns rfl NL.h0 (NL.hs NL.h0)) (.cons (ArgB.k (.t (NL.hs (NL.hs NL.h0)))) .nil))) rfl) (.cons (has rfl) (.cons (has rfl) (.cons (has rfl) .nil))) (by kernel_rfl) (.cons [(some 6, Ent.t 78 (VA.k kbool v42))] (OpSpec.run rfl rfl (op_not rfl (.t NL.h0)) rfl) (.cons (has rfl) .nil) (by kernel_rfl) (.cons [(some 7, Ent.t 79 (VA.k kbool (!v42)))] (OpSpec.run rfl rfl (op_move rfl (.t NL.h0)) rfl) (.cons (has rfl) .nil) (by kernel_rfl) (.cons [(some 8, Ent.t 80 (VA.k kbool (!v42))), (none, Ent.t 1 (VA.ptr 1 0))] (OpSpec.runG rfl rfl rfl rfl NL.h0 hb44 (op_fieldAddr rfl Try.underlying25 rfl tk23 (.t (NL.hs NL.h0))) rfl) (.cons (has rfl) (.cons (has rfl) .nil)) (by kernel_rfl) (.cons [(some 8, Ent.t 80 (VA.k kbool (!v42))), (some 9, Ent.t 81 (VA.ptr 1 1)), (none, Ent.h 1 (HE.box 25 kPlan a0))] (OpSpec.runG rfl rfl rfl rfl NL.h0 hb44 (op_load rfl fldPlan_Goals tk23 (.t (NL.hs NL.h0)) (NL.hs (NL.hs NL.h0))) rfl) (.cons (has rfl) (.cons (has rfl) (.cons (has rfl) .nil))) (by kernel_rfl) (.cons [(some 8, Ent.t 80 (VA.k kbool (!v42))), (none, Ent.t 7 (VA.k (kint .i64) s33))] (OpSpec.runG rfl rfl rfl rfl NL.h0 hb44 (op_move rfl (.t (NL.hs NL.h0))) rfl) (.cons (has rfl) (.cons (has rfl) .nil)) (by kernel_rfl) (.cons [(some 8, Ent.t 80 (VA.k kbool (!v42))), (some 10, Ent.t 82 (VA.k (kslice kstr) a0.Goals)), (some 11, Ent.t 83 (VA.k (kint .i64) s33))] (OpSpec.runG rfl rfl rfl rfl NL.h0 hb44 (op_slice (l := none) (h := some _) rfl Try.underlying23 tk9 h46 (.t (NL.hs NL.h0)) trivial (.t (NL.hs (NL.hs NL.h0)))) rfl) (.cons (has rfl) (.cons (has rfl) (.cons (has rfl) .nil))) (by kernel_rfl) (.cons [(some 8, Ent.t 80 (VA.k kbool (!v42))), (none, Ent.t 1 (VA.ptr 1 0))] (OpSpec.runG rfl rfl rfl rfl NL.h0 hb44 (op_fieldAddr rfl Try.underlying25 rfl tk23 (.t (NL.hs NL.h0))) rfl) (.cons (has rfl) (.cons (has rfl) .nil)) (by kernel_rfl) (.cons [(some 8, Ent.t 80 (VA.k kbool (!v42))), (some 13, Ent.t 85 (VA.ptr 1 1)), (none, Ent.h 1 (HE.box 25 kPlan a0))] (OpSpec.runG rfl rfl rfl rfl NL.h0 hb44 (op_load rfl fldPlan_Goals tk23 (.t (NL.hs NL.h0)) (NL.hs (NL.hs NL.h0))) rfl) (.cons (has rfl) (.cons (has rfl) (.cons (has rfl) .nil))) (by kernel_rfl) (.cons [(some 8, Ent.t 80 (VA.k kbool (!v42))), (none, Ent.t 7 (VA.k (kint .i64) s33))] (OpSpec.runG rfl rfl rfl rfl NL.h0 hb44 (op_move rfl (.t (NL.hs NL.h0))) rfl) (.cons (has rfl) (.cons (has rfl) .nil)) (by kernel_rfl) (.cons [(some 8, Ent.t 80 (VA.k kbool (!v42))), (some 14, Ent.t 86 (VA.k (kslice kstr) a0.Goals)), (some 15, Ent.t 87 (VA.k (kint .i64) s33))] (OpSpec.runG rfl rfl rfl rfl NL.h0 hb44 (op_indexAddr rfl Try.underlying23 tk9 h48 (.t (NL.hs NL.h0)) (.t (NL.hs (NL.hs NL.h0)))) rfl) (.cons (has rfl) (.cons (has rfl) (.cons (has rfl) .nil))) (by kernel_rfl) (.cons [(some 8, Ent.t 80 (VA.k kbool (!v42))), (some 16, Ent.t 88 (VA.pt kstr x47))] (OpSpec.runG rfl rfl rfl rfl NL.h0 hb44 (op_loadp rfl tk9 (.t (NL.hs NL.h0))) rfl) (.cons (has rfl) (.cons (has rfl) .nil)) (by kernel_rfl) (.cons [(some 8, Ent.t 80 (VA.k kbool (!v42))), (some 12, Ent.t 84 (VA.k (kslice kstr) x45)), (some 17, Ent.t 89 (VA.k kstr x47))] (OpSpec.runG rfl rfl rfl rfl NL.h0 hb44 (op_call' rfl enters33 (smithyref03_Has.con _ _ _ _ h50) rfl (.cons (ArgP.k (.t (NL.hs NL.h0))) (.cons (ArgP.k (.t (NL.hs (NL.hs NL.h0)))) .nil))) rfl) (.cons (has rfl) (.cons (has rfl) (.cons (has rfl) .nil))) (by kernel_rfl) (.cons [(some 8, Ent.t 80 (VA.k kbool (!v42))), (some 18, Ent.t 90 (VA.k kbool v49))] (OpSpec.run rfl rfl (op_pick_f rfl hb44 (.t NL.h0) (.t (NL.hs NL.h0))) rfl) (.cons (has rfl) (.cons (has rfl) .nil)) (by kernel_rfl) (.nil _))))))))))))))))))))) ?_
              refine ends_sub [Ent.t 1 (VA.ptr 1 0), Ent.t 3 (VA.own 9 kstr s7), Ent.t 7 (VA.k (kint .i64) s33), Ent.t 81 (VA.ptr 1 1), Ent.t 82 (VA.k (kslice kstr) a0.Goals), Ent.t 83 (VA.k (kint .i64) s33), Ent.t 84 (VA.k (kslice kstr) x45), Ent.t 85 (VA.ptr 1 1), Ent.t 86 (VA.k (kslice kstr) a0.Goals), Ent.t 87 (VA.k (kint .i64) s33), Ent.t 88 (VA.pt kstr x47), Ent.t 89 (VA.k kstr x47), Ent.t 90 (VA.k kbool v49), Ent.t 91 (VA.k kbool v49), Ent.h 1 (HE.box 25 kPlan a0)] (.cons rfl (.cons rfl (.cons rfl (.cons rfl (.cons rfl (.cons rfl (.cons rfl (.cons rfl (.cons rfl (.cons rfl (.cons rfl (.cons rfl (.cons rfl (.cons rfl (.cons rfl .nil))))))))))))))) ?_
              obtain rfl := Option.some.inj H
              exact ends_cut (.cons rfl (.cons rfl (.cons rfl (.cons rfl (.cons rfl .nil)))))
          refine ends_then ?_
          refine goes_if (.t (has rfl)) H (fun hb51 H => ?_) (fun hb51 H => ?_)
          · skip
            refine goes_seq ?_
            refine goes_region ?_
            refine go1 (op_assign rfl (.int _ _)) rfl ?_
            refine goesO_nil ?_
            refine ends_then ?_
            obtain rfl := Option.some.inj H
            refine goes_ret (ends_block_ret (ends_then_ret (ends_then_ret (ends_block_ret (ends_cutR_ret rfl ?_)))))
            exact ends_ret' rfl rfl (.t rfl (.nil _))
          · skip
            refine goes_skip ?_
            refine ends_block ?_
            refine ends_then ?_
            refine goes_region ?_
            refine go1 (op_move rfl (.t (has rfl))) rfl ?_
            refine go1 (op_add rfl (.t (has rfl)) (.int _ _)) rfl ?_
            refine go1 (op_assign rfl (.t (has rfl))) rfl ?_
            refine goesO_nil ?_
            exact loop_next _ H (.cons rfl (.cons rfl (.cons rfl (.cons rfl .nil))))
        · skip
          refine goes_exit (ends_then_exit (ends_then_exit (ends_block_exit ?_)))
          obtain rfl := Option.some.inj H
          exact ends_cutR rfl .nil
      · rintro s34 rfl
        clear h35
        dsimp only at H
        refine ends_then ?_
        refine goes_seq ?_
        refine goes_region ?_
        refine go1 (op_assign rfl (.int _ _)) rfl ?_
        refine goesO_nil ?_
        refine ends_then ?_
        obtain rfl := Option.some.inj H
        exact goes_ret (ends_ret' rfl rfl (.t rfl (.nil _)))
      · rintro r' rfl a w hr
        obtain rfl := Option.some.inj H
        exact hr
    · rintro r' rfl a w hr
      obtain rfl := Option.some.inj H
      exact hr
theorem smithyref12_Check.conF (k : Nat) (a0 : Plan) (r : Int) (H : smithyref12_Check.f k a0 = some r) : ConF Try.prog 17 [VA.k kPlan a0] [VA.k (kint .i64) r] := (smithyref12_Check.con k a0 r H).freeL (.cons (KFree.k (KFree.int .i64) _) .nil)
/-! smithy/smithyref02.List -/
def smithyref02_List.l0 (a0 : List ByteArray) : Nat → Int → Option (Except Int Unit)
  | 0, _ => none
  | k + 1, s2 => bif icmp .lss s2 (a0.length : Int) then ((idx a0 s2).bind fun x7 => (smithyref02_Name.f k x7).bind fun v9 => bif !v9 then (some (Except.error (3 : Int))) else (smithyref02_List.l0 a0 k (IntKind.i64.wrap (s2 + (1 : Int))))) else (some (Except.ok ()))
def smithyref02_List.f (k : Nat) (a0 : List ByteArray) : Option Int := bif icmp .gtr (a0.length : Int) (512 : Int) then (some (2 : Int)) else ((smithyref02_List.l0 a0 k (0 : Int)).bind fun o5 => match o5 with | .error r' => some r' | .ok s3 => (some (0 : Int)))
set_option maxRecDepth 100000 in
set_option maxHeartbeats 4000000 in
theorem smithyref02_List.con (k : Nat) (a0 : List ByteArray) (r : Int) (H : smithyref02_List.f k a0 = some r) : Con Try.prog 41 [VA.k (kslice kstr) a0] [VA.k (kint .i64) r] := by
  unfold smithyref02_List.f at H
  refine con_enter Try.func41 rfl rfl rfl (fun w0 S0 θ => ?_)
  refine goes_seq ?_
  refine goes_region ?_
  refine go1 (op_assign rfl (.int _ _)) rfl ?_
  refine goesO_nil ?_
  refine ends_then ?_
  refine goes_seq ?_
  refine goes_seq ?_
  refine goes_region ?_
  refine go1 (op_move rfl (.t (has rfl))) rfl ?_
  refine go1 (op_len rfl rfl Try.underlying23 (.t (has rfl))) rfl ?_
  refine go1 (op_icmp rfl rfl (.t (has rfl)) (.int _ _)) rfl ?_
  refine goesO_nil ?_
  refine ends_then ?_
  refine goes_if (.t (has rfl)) H (fun hb1 H => ?_) (fun hb1 H => ?_)
  · skip
    refine goes_seq ?_
    refine goes_region ?_
    refine go1 (op_assign rfl (.int _ _)) rfl ?_
    refine goesO_nil ?_
    refine ends_then ?_
    obtain rfl := Option.some.inj H
    exact goes_ret (ends_then_ret (ends_ret' rfl rfl (.t rfl (.nil _))))
  · skip
    refine goes_skip ?_
    refine ends_then ?_
    refine goes_seq ?_
    refine goes_seq ?_
    refine goes_region ?_
    refine go1 (op_assign rfl (.int _ _)) rfl ?_
    refine goesO_nil ?_
    refine ends_then ?_
    obtain ⟨o5, h4, H⟩ := bind_some H
    refine goes_cutR (o := o5) (fun s3 : Unit => []) (fun r a w => bodyPost Try.prog Try.f41 (CPost w0 S0 θ [VA.k (kint .i64) r]) .ret a w) ?_ ?_ ?_
    · replace H := h4; clear h4
      refine goes_block ?_
      refine goes_loop (fun s2 : Int => [Ent.t 0 (VA.k (kslice kstr) a0), Ent.t 3 (VA.k (kint .i64) s2)]) (fun k s2 => smithyref02_List.l0 a0 k s2) (fun _ => rfl) H (.cons rfl (.cons rfl .nil)) ?_
      intro k s2 H
      simp only [smithyref02_List.l0] at H
      refine goes_seq ?_
      refine goes_seq ?_
      refine goes_region ?_
      refine go1 (op_move rfl (.t (has rfl))) rfl ?_
      refine go1 (op_move rfl (.t (has rfl))) rfl ?_
      refine go1 (op_len rfl rfl Try.underlying23 (.t (has rfl))) rfl ?_
      refine go1 (op_icmp rfl rfl (.t (has rfl)) (.t (has rfl))) rfl ?_
      refine goesO_nil ?_
      refine ends_then ?_
      refine goes_if (.t (has rfl)) H (fun hb6 H => ?_) (fun hb6 H => ?_)
      · skip
        refine goes_skip ?_
        refine ends_then ?_
        refine goes_seq ?_
        refine goes_block ?_
        refine goes_seq ?_
        refine goes_region ?_
        refine go1 (op_move rfl (.t (has rfl))) rfl ?_
        refine go1 (op_move rfl (.t (has rfl))) rfl ?_
        obtain ⟨x7, h8, H⟩ := bind_some H
        refine go1 (op_indexAddr rfl Try.underlying23 tk9 h8 (.t (has rfl)) (.t (has rfl))) rfl ?_
        refine go1 (op_loadp rfl tk9 (.t (has rfl))) rfl ?_
        obtain ⟨v9, h10, H⟩ := bind_some H
        refine go1 (op_call' rfl enters29 (smithyref02_Name.con _ _ _ h10) rfl (.cons (ArgP.k (.t (has rfl))) .nil)) rfl ?_
        refine go1 (op_not rfl (.t (has rfl))) rfl ?_
        refine goesO_nil ?_
        refine ends_then ?_
        refine goes_if (.t (has rfl)) H (fun hb11 H => ?_) (fun hb11 H => ?_)
        · skip
          refine goes_seq ?_
          refine goes_region ?_
          refine go1 (op_assign rfl (.int _ _)) rfl ?_
          refine goesO_nil ?_
          refine ends_then ?_
          obtain rfl := Option.some.inj H
          refine goes_ret (ends_block_ret (ends_then_ret (ends_then_ret (ends_block_ret (ends_cutR_ret rfl ?_)))))
          exact ends_ret' rfl rfl (.t rfl (.nil _))
        · skip
          refine goes_skip ?_
          refine ends_block ?_
          refine ends_then ?_
          refine goes_region ?_
          refine go1 (op_move rfl (.t (has rfl))) rfl ?_
          refine go1 (op_add rfl (.t (has rfl)) (.int _ _)) rfl ?_
          refine go1 (op_assign rfl (.t (has rfl))) rfl ?_
          refine goesO_nil ?_
          exact loop_next _ H (.cons rfl (.cons rfl .nil))
      · skip
        refine goes_exit (ends_then_exit (ends_then_exit (ends_block_exit ?_)))
        obtain rfl := Option.some.inj H
        exact ends_cutR rfl .nil
    · rintro s3 rfl
      clear h4
      dsimp only at H
      refine ends_then ?_
      refine goes_seq ?_
      refine goes_region ?_
      refine go1 (op_assign rfl (.int _ _)) rfl ?_
      refine goesO_nil ?_
      refine ends_then ?_
      obtain rfl := Option.some.inj H
      exact goes_ret (ends_ret' rfl rfl (.t rfl (.nil _)))
    · rintro r' rfl a w hr
      obtain rfl := Option.some.inj H
      exact hr
theorem smithyref02_List.conF (k : Nat) (a0 : List ByteArray) (r : Int) (H : smithyref02_List.f k a0 = some r) : ConF Try.prog 41 [VA.k (kslice kstr) a0] [VA.k (kint .i64) r] := (smithyref02_List.con k a0 r H).freeL (.cons (KFree.k (KFree.int .i64) _) .nil)
/-! smithy/smithyref12.Place -/
def smithyref12_Place.l0 (a0 : Plan) (a1 : ByteArray) : Nat → Int → Option (Except Int Unit)
  | 0, _ => none
  | k + 1, s1 => bif icmp .lss s1 (a0.Nodes.length : Int) then ((idx a0.Nodes s1).bind fun x6 => bif scmp .eql x6.Target a1 then (some (Except.error s1)) else (smithyref12_Place.l0 a0 a1 k (IntKind.i64.wrap (s1 + (1 : Int))))) else (some (Except.ok ()))
def smithyref12_Place.f (k : Nat) (a0 : Plan) (a1 : ByteArray) : Option Int := (smithyref12_Place.l0 a0 a1 k (0 : Int)).bind fun o4 => match o4 with | .error r' => some r' | .ok s2 => (some (-1 : Int))
set_option maxRecDepth 100000 in
set_option maxHeartbeats 4000000 in
theorem smithyref12_Place.con (k : Nat) (a0 : Plan) (a1 : ByteArray) (r : Int) (H : smithyref12_Place.f k a0 a1 = some r) : Con Try.prog 42 [VA.k kPlan a0, VA.k kstr a1] [VA.k (kint .i64) r] := by
  unfold smithyref12_Place.f at H
  refine con_enter Try.func42 rfl rfl rfl (fun w0 S0 θ => ?_)
  refine goes_seq ?_
  refine goes_region ?_
  refine go3 (op_box 2 rfl (fun h => by first | rfl | cases h) (.t (has rfl))) rfl ?_
  refine go1 (op_assign rfl (.int _ _)) rfl ?_
  refine goesO_nil ?_
  refine ends_then ?_
  refine goes_seq ?_
  refine goes_seq ?_
  refine goes_region ?_
  refine go1 (op_assign rfl (.int _ _)) rfl ?_
  refine goesO_nil ?_
  refine ends_then ?_
  obtain ⟨o4, h3, H⟩ := bind_some H
  refine goes_cutR (o := o4) (fun s2 : Unit => []) (fun r a w => bodyPost Try.prog Try.f42 (CPost w0 S0 θ [VA.k (kint .i64) r]) .ret a w) ?_ ?_ ?_
  · replace H := h3; clear h3
    refine goes_block ?_
    refine goes_loop (fun s1 : Int => [Ent.t 1 (VA.k kstr a1), Ent.t 2 (VA.ptr 2 0), Ent.t 5 (VA.k (kint .i64) s1), Ent.h 2 (HE.box 25 kPlan a0)]) (fun k s1 => smithyref12_Place.l0 a0 a1 k s1) (fun _ => rfl) H (.cons rfl (.cons rfl (.cons rfl (.cons rfl .nil)))) ?_
    intro k s1 H
    simp only [smithyref12_Place.l0] at H
    refine goes_seq ?_
    refine goes_seq ?_
    refine goes_region ?_
    refine go1 (op_move rfl (.t (has rfl))) rfl ?_
    refine go1 (op_fieldAddr rfl Try.underlying25 rfl tk22 (.t (has rfl))) rfl ?_
    refine go1 (op_load rfl fldPlan_Nodes tk22 (.t (has rfl)) (has rfl)) rfl ?_
    refine go1 (op_len rfl rfl Try.underlying22 (.t (has rfl))) rfl ?_
    refine go1 (op_icmp rfl rfl (.t (has rfl)) (.t (has rfl))) rfl ?_
    refine goesO_nil ?_
    refine ends_then ?_
    refine goes_if (.t (has rfl)) H (fun hb5 H => ?_) (fun hb5 H => ?_)
    · skip
      refine goes_skip ?_
      refine ends_then ?_
      refine goes_seq ?_
      refine goes_block ?_
      refine goes_seq ?_
      refine goes_region ?_
      refine go1 (op_fieldAddr rfl Try.underlying25 rfl tk22 (.t (has rfl))) rfl ?_
      refine go1 (op_load rfl fldPlan_Nodes tk22 (.t (has rfl)) (has rfl)) rfl ?_
      refine go1 (op_move rfl (.t (has rfl))) rfl ?_
      obtain ⟨x6, h7, H⟩ := bind_some H
      refine go1 (op_indexAddr rfl Try.underlying22 tk48 h7 (.t (has rfl)) (.t (has rfl))) rfl ?_
      refine go1 (op_fieldAddrp rfl fldNode_Target Try.underlying48 rfl tk9 (.t (has rfl))) rfl ?_
      refine go1 (op_loadp rfl tk9 (.t (has rfl))) rfl ?_
      refine go1 (op_move rfl (.t (has rfl))) rfl ?_
      refine go1 (op_scmp rfl rfl (.t (has rfl)) (.t (has rfl))) rfl ?_
      refine goesO_nil ?_
      refine ends_then ?_
      refine goes_if (.t (has rfl)) H (fun hb8 H => ?_) (fun hb8 H => ?_)
      · skip
        refine goes_seq ?_
        refine goes_region ?_
        refine go1 (op_move rfl (.t (has rfl))) rfl ?_
        refine go1 (op_assign rfl (.t (has rfl))) rfl ?_
        refine goesO_nil ?_
        refine ends_then ?_
        obtain rfl := Option.some.inj H
        refine goes_ret (ends_block_ret (ends_then_ret (ends_then_ret (ends_block_ret (ends_cutR_ret rfl ?_)))))
        exact ends_ret' rfl rfl (.t rfl (.nil _))
      · skip
        refine goes_skip ?_
        refine ends_block ?_
        refine ends_then ?_
        refine goes_region ?_
        refine go1 (op_move rfl (.t (has rfl))) rfl ?_
        refine go1 (op_add rfl (.t (has rfl)) (.int _ _)) rfl ?_
        refine go1 (op_assign rfl (.t (has rfl))) rfl ?_
        refine goesO_nil ?_
        exact loop_next _ H (.cons rfl (.cons rfl (.cons rfl (.cons rfl .nil))))
    · skip
      refine goes_exit (ends_then_exit (ends_then_exit (ends_block_exit ?_)))
      obtain rfl := Option.some.inj H
      exact ends_cutR rfl .nil
  · rintro s2 rfl
    clear h3
    dsimp only at H
    refine ends_then ?_
    refine goes_seq ?_
    refine goes_region ?_
    refine go1 (op_assign rfl (.int _ _)) rfl ?_
    refine goesO_nil ?_
    refine ends_then ?_
    obtain rfl := Option.some.inj H
    exact goes_ret (ends_ret' rfl rfl (.t rfl (.nil _)))
  · rintro r' rfl a w hr
    obtain rfl := Option.some.inj H
    exact hr
theorem smithyref12_Place.conF (k : Nat) (a0 : Plan) (a1 : ByteArray) (r : Int) (H : smithyref12_Place.f k a0 a1 = some r) : ConF Try.prog 42 [VA.k kPlan a0, VA.k kstr a1] [VA.k (kint .i64) r] := (smithyref12_Place.con k a0 a1 r H).freeL (.cons (KFree.k (KFree.int .i64) _) .nil)
/-! smithy/smithyref14.Fit -/
def smithyref14_Fit.l0 (a0 : Plan) (a1 : List ByteArray) : Nat → Int → Option (Except Int Unit)
  | 0, _ => none
  | k + 1, s7 => bif icmp .lss s7 (a1.length : Int) then ((idx a1 s7).bind fun x12 => (smithyref12_Place.f k a0 x12).bind fun v14 => bif icmp .lss v14 (0 : Int) then (some (Except.error (9 : Int))) else (smithyref14_Fit.l0 a0 a1 k (IntKind.i64.wrap (s7 + (1 : Int))))) else (some (Except.ok ()))
def smithyref14_Fit.f (k : Nat) (a0 : Plan) (a1 : List ByteArray) : Option Int := (smithyref12_Check.f k a0).bind fun v1 => bif icmp .neq v1 (0 : Int) then (some (7 : Int)) else ((smithyref02_List.f k a1).bind fun v4 => bif icmp .neq v4 (0 : Int) then (some v4) else ((smithyref14_Fit.l0 a0 a1 k (0 : Int)).bind fun o10 => match o10 with | .error r' => some r' | .ok s8 => (some (0 : Int))))
set_option maxRecDepth 100000 in
set_option maxHeartbeats 4000000 in
theorem smithyref14_Fit.con (k : Nat) (a0 : Plan) (a1 : List ByteArray) (r : Int) (H : smithyref14_Fit.f k a0 a1 = some r) : Con Try.prog 12 [VA.k kPlan a0, VA.k (kslice kstr) a1] [VA.k (kint .i64) r] := by
  unfold smithyref14_Fit.f at H
  refine con_enter Try.func12 rfl rfl rfl (fun w0 S0 θ => ?_)
  refine goes_seq ?_
  refine goes_region ?_
  refine go3 (op_box 2 rfl (fun h => by first | rfl | cases h) (.t (has rfl))) rfl ?_
  refine go1 (op_assign rfl (.int _ _)) rfl ?_
  refine goesO_nil ?_
  refine ends_then ?_
  refine goes_seq ?_
  refine goes_seq ?_
  refine goes_region ?_
  refine go1 (op_load rfl (Fld.whole kPlan) tk25 (.t (has rfl)) (has rfl)) rfl ?_
  obtain ⟨v1, h2, H⟩ := bind_some H
  refine go1 (op_call' rfl enters17 (smithyref12_Check.con _ _ _ h2) rfl (.cons (ArgP.k (.t (has rfl))) .nil)) rfl ?_
  refine go1 (op_icmp rfl rfl (.t (has rfl)) (.int _ _)) rfl ?_
  refine goesO_nil ?_
  refine ends_then ?_
  refine goes_if (.t (has rfl)) H (fun hb3 H => ?_) (fun hb3 H => ?_)
  · skip
    refine goes_seq ?_
    refine goes_region ?_
    refine go1 (op_assign rfl (.int _ _)) rfl ?_
    refine goesO_nil ?_
    refine ends_then ?_
    obtain rfl := Option.some.inj H
    exact goes_ret (ends_then_ret (ends_ret' rfl rfl (.t rfl (.nil _))))
  · skip
    refine goes_skip ?_
    refine ends_then ?_
    refine goes_seq ?_
    refine goes_region ?_
    refine go1 (op_move rfl (.t (has rfl))) rfl ?_
    obtain ⟨v4, h5, H⟩ := bind_some H
    refine go1 (op_call' rfl enters41 (smithyref02_List.con _ _ _ h5) rfl (.cons (ArgP.k (.t (has rfl))) .nil)) rfl ?_
    refine go1 (op_assign rfl (.t (has rfl))) rfl ?_
    refine goesO_nil ?_
    refine ends_then ?_
    refine goes_seq ?_
    refine goes_seq ?_
    refine goes_region ?_
    refine go1 (op_move rfl (.t (has rfl))) rfl ?_
    refine go1 (op_icmp rfl rfl (.t (has rfl)) (.int _ _)) rfl ?_
    refine goesO_nil ?_
    refine ends_then ?_
    refine goes_if (.t (has rfl)) H (fun hb6 H => ?_) (fun hb6 H => ?_)
    · skip
      refine goes_seq ?_
      refine goes_region ?_
      refine go1 (op_move rfl (.t (has rfl))) rfl ?_
      refine go1 (op_assign rfl (.t (has rfl))) rfl ?_
      refine goesO_nil ?_
      refine ends_then ?_
      obtain rfl := Option.some.inj H
      exact goes_ret (ends_then_ret (ends_ret' rfl rfl (.t rfl (.nil _))))
    · skip
      refine goes_skip ?_
      refine ends_then ?_
      refine goes_seq ?_
      refine goes_seq ?_
      refine goes_region ?_
      refine go1 (op_assign rfl (.int _ _)) rfl ?_
      refine goesO_nil ?_
      refine ends_then ?_
      obtain ⟨o10, h9, H⟩ := bind_some H
      refine goes_cutR (o := o10) (fun s8 : Unit => []) (fun r a w => bodyPost Try.prog Try.f12 (CPost w0 S0 θ [VA.k (kint .i64) r]) .ret a w) ?_ ?_ ?_
      · replace H := h9; clear h9
        refine goes_block ?_
        refine goes_loop (fun s7 : Int => [Ent.t 1 (VA.k (kslice kstr) a1), Ent.t 2 (VA.ptr 2 0), Ent.t 6 (VA.k (kint .i64) s7), Ent.h 2 (HE.box 25 kPlan a0)]) (fun k s7 => smithyref14_Fit.l0 a0 a1 k s7) (fun _ => rfl) H (.cons rfl (.cons rfl (.cons rfl (.cons rfl .nil)))) ?_
        intro k s7 H
        simp only [smithyref14_Fit.l0] at H
        refine goes_seq ?_
        refine goes_seq ?_
        refine goes_region ?_
        refine go1 (op_move rfl (.t (has rfl))) rfl ?_
        refine go1 (op_move rfl (.t (has rfl))) rfl ?_
        refine go1 (op_len rfl rfl Try.underlying23 (.t (has rfl))) rfl ?_
        refine go1 (op_icmp rfl rfl (.t (has rfl)) (.t (has rfl))) rfl ?_
        refine goesO_nil ?_
        refine ends_then ?_
        refine goes_if (.t (has rfl)) H (fun hb11 H => ?_) (fun hb11 H => ?_)
        · skip
          refine goes_skip ?_
          refine ends_then ?_
          refine goes_seq ?_
          refine goes_block ?_
          refine goes_seq ?_
          obtain ⟨x12, h13, H⟩ := bind_some H
          obtain ⟨v14, h15, H⟩ := bind_some H
          refine goes_drawn [[Ent.t 21 (VA.k kPlan a0)], [Ent.t 22 (VA.k (kslice kstr) a1)], [Ent.t 23 (VA.k (kint .i64) s7)], [Ent.t 24 (VA.pt kstr x12)], [Ent.t 25 (VA.k kstr x12)], [Ent.t 26 (VA.k (kint .i64) v14)], [Ent.t 27 (VA.k kbool (icmp .lss v14 (0 : Int)))]] mixed (by kernel_rfl) (by kernel_rfl) (.cons [(none, Ent.t 2 (VA.ptr 2 0)), (none, Ent.h 2 (HE.box 25 kPlan a0))] (OpSpec.run rfl rfl (op_load rfl (Fld.whole kPlan) tk25 (.t NL.h0) (NL.hs NL.h0)) rfl) (.cons (has rfl) (.cons (has rfl) .nil)) (by kernel_rfl) (.cons [(none, Ent.t 1 (VA.k (kslice kstr) a1))] (OpSpec.run rfl rfl (op_move rfl (.t NL.h0)) rfl) (.cons (has rfl) .nil) (by kernel_rfl) (.cons [(none, Ent.t 6 (VA.k (kint .i64) s7))] (OpSpec.run rfl rfl (op_move rfl (.t NL.h0)) rfl) (.cons (has rfl) .nil) (by kernel_rfl) (.cons [(some 1, Ent.t 22 (VA.k (kslice kstr) a1)), (some 2, Ent.t 23 (VA.k (kint .i64) s7))] (OpSpec.run rfl rfl (op_indexAddr rfl Try.underlying23 tk9 h13 (.t NL.h0) (.t (NL.hs NL.h0))) rfl) (.cons (has rfl) (.cons (has rfl) .nil)) (by kernel_rfl) (.cons [(some 3, Ent.t 24 (VA.pt kstr x12))] (OpSpec.run rfl rfl (op_loadp rfl tk9 (.t NL.h0)) rfl) (.cons (has rfl) .nil) (by kernel_rfl) (.cons [(some 0, Ent.t 21 (VA.k kPlan a0)), (some 4, Ent.t 25 (VA.k kstr x12))] (OpSpec.run rfl rfl (op_call' rfl enters42 (smithyref12_Place.con _ _ _ _ h15) rfl (.cons (ArgP.k (.t NL.h0)) (.cons (ArgP.k (.t (NL.hs NL.h0))) .nil))) rfl) (.cons (has rfl) (.cons (has rfl) .nil)) (by kernel_rfl) (.cons [(some 5, Ent.t 26 (VA.k (kint .i64) v14))] (OpSpec.run rfl rfl (op_icmp rfl rfl (.t NL.h0) (.int _ _)) rfl) (.cons (has rfl) .nil) (by kernel_rfl) (.nil _)))))))) ?_
          refine ends_sub [Ent.t 1 (VA.k (kslice kstr) a1), Ent.t 2 (VA.ptr 2 0), Ent.t 6 (VA.k (kint .i64) s7), Ent.t 27 (VA.k kbool (icmp .lss v14 (0 : Int))), Ent.h 2 (HE.box 25 kPlan a0)] (.cons rfl (.cons rfl (.cons rfl (.cons rfl (.cons rfl .nil))))) ?_
          refine ends_then ?_
          refine goes_if (.t (has rfl)) H (fun hb16 H => ?_) (fun hb16 H => ?_)
          · skip
            refine goes_seq ?_
            refine goes_region ?_
            refine go1 (op_assign rfl (.int _ _)) rfl ?_
            refine goesO_nil ?_
            refine ends_then ?_
            obtain rfl := Option.some.inj H
            refine goes_ret (ends_block_ret (ends_then_ret (ends_then_ret (ends_block_ret (ends_cutR_ret rfl ?_)))))
            exact ends_ret' rfl rfl (.t rfl (.nil _))
          · skip
            refine goes_skip ?_
            refine ends_block ?_
            refine ends_then ?_
            refine goes_region ?_
            refine go1 (op_move rfl (.t (has rfl))) rfl ?_
            refine go1 (op_add rfl (.t (has rfl)) (.int _ _)) rfl ?_
            refine go1 (op_assign rfl (.t (has rfl))) rfl ?_
            refine goesO_nil ?_
            exact loop_next _ H (.cons rfl (.cons rfl (.cons rfl (.cons rfl .nil))))
        · skip
          refine goes_exit (ends_then_exit (ends_then_exit (ends_block_exit ?_)))
          obtain rfl := Option.some.inj H
          exact ends_cutR rfl .nil
      · rintro s8 rfl
        clear h9
        dsimp only at H
        refine ends_then ?_
        refine goes_seq ?_
        refine goes_region ?_
        refine go1 (op_assign rfl (.int _ _)) rfl ?_
        refine goesO_nil ?_
        refine ends_then ?_
        obtain rfl := Option.some.inj H
        exact goes_ret (ends_ret' rfl rfl (.t rfl (.nil _)))
      · rintro r' rfl a w hr
        obtain rfl := Option.some.inj H
        exact hr
theorem smithyref14_Fit.conF (k : Nat) (a0 : Plan) (a1 : List ByteArray) (r : Int) (H : smithyref14_Fit.f k a0 a1 = some r) : ConF Try.prog 12 [VA.k kPlan a0, VA.k (kslice kstr) a1] [VA.k (kint .i64) r] := (smithyref14_Fit.con k a0 a1 r H).freeL (.cons (KFree.k (KFree.int .i64) _) .nil)
/-! smithy/smithylaw14.four -/
def smithylaw14_four.f : Option Plan := some (⟨[(⟨(⟨#[100]⟩ : ByteArray), ([] : List ByteArray), ([] : List ByteArray), false, ByteArray.empty, ByteArray.empty, false, false, false, false⟩ : Node), (⟨(⟨#[98]⟩ : ByteArray), [(⟨#[100]⟩ : ByteArray)], ([] : List ByteArray), false, ByteArray.empty, ByteArray.empty, false, false, false, false⟩ : Node), (⟨(⟨#[99]⟩ : ByteArray), [(⟨#[100]⟩ : ByteArray)], ([] : List ByteArray), false, ByteArray.empty, ByteArray.empty, false, false, false, false⟩ : Node), (⟨(⟨#[97]⟩ : ByteArray), [(⟨#[98]⟩ : ByteArray), (⟨#[99]⟩ : ByteArray)], ([] : List ByteArray), false, ByteArray.empty, ByteArray.empty, false, false, false, false⟩ : Node)], [(⟨#[97]⟩ : ByteArray)]⟩ : Plan)
set_option maxRecDepth 100000 in
set_option maxHeartbeats 4000000 in
theorem smithylaw14_four.con (r : Plan) (H : smithylaw14_four.f  = some r) : Con Try.prog 43 [] [VA.k kPlan r] := by
  unfold smithylaw14_four.f at H
  refine con_enter Try.func43 rfl rfl rfl (fun w0 S0 θ => ?_)
  refine goes_seq ?_
  refine goes_region ?_
  refine go3 (op_alloc 0 rfl zk25) rfl ?_
  refine goesO_nil ?_
  refine ends_then ?_
  refine goes_seq ?_
  refine goes_region ?_
  refine go1 (op_build (pl := [(0, 1), (1, 1), (2, 1), (3, 1), (4, 1), (5, 1), (6, 1), (7, 1), (8, 1), (9, 1)]) rfl rfl Try.underlying48 (by kernel_rfl) zk48 (.cons rfl tk9 fldNode_Target (.str _) (.nil _))) rfl ?_
  refine go1 (op_buildSlice rfl at23 (fun h => by first | rfl | cases h) rfl rfl rfl (.cons (.str _) (.nil _))) rfl ?_
  refine goesO_settle 2 rfl rfl ?_
  refine go1 (op_build (pl := [(0, 1), (1, 1), (2, 1), (3, 1), (4, 1), (5, 1), (6, 1), (7, 1), (8, 1), (9, 1)]) rfl rfl Try.underlying48 (by kernel_rfl) zk48 (.cons rfl tk9 fldNode_Target (.str _) (.cons rfl tk23 fldNode_Needs (.t (has rfl)) (.nil _)))) rfl ?_
  refine go1 (op_buildSlice rfl at23 (fun h => by first | rfl | cases h) rfl rfl rfl (.cons (.str _) (.nil _))) rfl ?_
  refine goesO_settle 4 rfl rfl ?_
  refine go1 (op_build (pl := [(0, 1), (1, 1), (2, 1), (3, 1), (4, 1), (5, 1), (6, 1), (7, 1), (8, 1), (9, 1)]) rfl rfl Try.underlying48 (by kernel_rfl) zk48 (.cons rfl tk9 fldNode_Target (.str _) (.cons rfl tk23 fldNode_Needs (.t (has rfl)) (.nil _)))) rfl ?_
  refine go1 (op_buildSlice rfl at23 (fun h => by first | rfl | cases h) rfl rfl rfl (.cons (.str _) (.cons (.str _) (.nil _)))) rfl ?_
  refine goesO_settle 6 rfl rfl ?_
  refine go1 (op_build (pl := [(0, 1), (1, 1), (2, 1), (3, 1), (4, 1), (5, 1), (6, 1), (7, 1), (8, 1), (9, 1)]) rfl rfl Try.underlying48 (by kernel_rfl) zk48 (.cons rfl tk9 fldNode_Target (.str _) (.cons rfl tk23 fldNode_Needs (.t (has rfl)) (.nil _)))) rfl ?_
  refine go1 (op_buildSlice rfl at22 (fun h => by first | rfl | cases h) rfl rfl rfl (.cons (.t (has rfl)) (.cons (.t (has rfl)) (.cons (.t (has rfl)) (.cons (.t (has rfl)) (.nil _)))))) rfl ?_
  refine go1 (op_buildSlice rfl at23 (fun h => by first | rfl | cases h) rfl rfl rfl (.cons (.str _) (.nil _))) rfl ?_
  refine goesO_settle 8 rfl rfl ?_
  refine goesO_settle 9 rfl rfl ?_
  refine go1 (op_build (pl := [(0, 1), (1, 1)]) rfl rfl Try.underlying25 (by kernel_rfl) zk25 (.cons rfl tk22 fldPlan_Nodes (.t (has rfl)) (.cons rfl tk23 fldPlan_Goals (.t (has rfl)) (.nil _)))) rfl ?_
  refine go1 (op_store (Fld.whole kPlan) tk25 (.t (has rfl)) (has rfl) (.t (has rfl))) rfl ?_
  refine goesO_nil ?_
  refine ends_then ?_
  obtain rfl := Option.some.inj H
  exact goes_ret (ends_ret' rfl rfl (.c rfl rfl tk25 (.nil _)))
/-! smithy/walk.next$1 -/
def walk_next_1.f (a0 : ByteArray) (c0 : WalkSet_string_) : Option Bool := (walk_set_string_has.f c0 a0).bind fun v1 => some (!v1)
set_option maxRecDepth 100000 in
set_option maxHeartbeats 4000000 in
theorem walk_next_1.con (a0 : ByteArray) (c0 : WalkSet_string_) (r : Bool) (H : walk_next_1.f a0 c0 = some r) : Con Try.prog 58 [VA.k kstr a0, VA.pt kWalkSet_string_ c0] [VA.k kbool r] := by
  unfold walk_next_1.f at H
  refine con_enter Try.func58 rfl rfl rfl (fun w0 S0 θ => ?_)
  refine goes_seq ?_
  refine goes_region ?_
  refine go1 (op_assign rfl (.bool _)) rfl ?_
  refine goesO_nil ?_
  refine ends_then ?_
  refine goes_seq ?_
  refine goes_region ?_
  refine go1 (op_loadp rfl tk66 (.t (has rfl))) rfl ?_
  refine go1 (op_move rfl (.t (has rfl))) rfl ?_
  obtain ⟨v1, h2, H⟩ := bind_some H
  refine go1 (op_call' rfl enters36 (walk_set_string_has.con _ _ _ h2) rfl (.cons (ArgP.k (.t (has rfl))) (.cons (ArgP.k (.t (has rfl))) .nil))) rfl ?_
  refine go1 (op_not rfl (.t (has rfl))) rfl ?_
  refine go1 (op_assign rfl (.t (has rfl))) rfl ?_
  refine goesO_nil ?_
  refine ends_then ?_
  obtain rfl := Option.some.inj H
  exact goes_ret (ends_ret' rfl rfl (.t rfl (.nil _)))
theorem walk_next_1.conF (a0 : ByteArray) (c0 : WalkSet_string_) (r : Bool) (H : walk_next_1.f a0 c0 = some r) : ConF Try.prog 58 [VA.k kstr a0, VA.pt kWalkSet_string_ c0] [VA.k kbool r] := (walk_next_1.con a0 c0 r H).freeL (.cons (KFree.k KFree.bool _) .nil)
/-! smithy/walk.next -/
def walk_next.l0 (a0 : Plan) (a1 : WalkSet_string_) : Nat → ((List ByteArray) × Int) → Option (List ByteArray)
  | 0, _ => none
  | k + 1, s1 => bif icmp .lss s1.2 (a0.Nodes.length : Int) then (((idx a0.Nodes s1.2).bind fun x7 => ((walk_set_string_has.f a1 x7.Target).bind fun v11 => bif !v11 then ((slices_ContainsFunc_string_string.f k x7.Needs (fun (z0 : ByteArray) => walk_next_1.f z0 a1)).bind fun v14 => some (!v14)) else (some false)).bind fun s9 => bif s9 then ((app 16 s1.1 ([x7.Target])).bind fun x17 => some x17) else (some s1.1)).bind fun s5 => walk_next.l0 a0 a1 k (s5, IntKind.i64.wrap (s1.2 + (1 : Int)))) else (some s1.1)
def walk_next.f (k : Nat) (a0 : Plan) (a1 : WalkSet_string_) : Option (List ByteArray) := (walk_next.l0 a0 a1 k (([] : List ByteArray), (0 : Int))).bind fun s2 => some s2
set_option maxRecDepth 100000 in
set_option maxHeartbeats 4000000 in
theorem walk_next.con (k : Nat) (a0 : Plan) (a1 : WalkSet_string_) (r : List ByteArray) (H : walk_next.f k a0 a1 = some r) : Con Try.prog 40 [VA.k kPlan a0, VA.k kWalkSet_string_ a1] [VA.own 9 kstr r] := by
  unfold walk_next.f at H
  refine con_enter Try.func40 rfl rfl rfl (fun w0 S0 θ => ?_)
  refine goes_seq ?_
  refine goes_region ?_
  refine go3 (op_box 2 rfl (fun h => by first | rfl | cases h) (.t (has rfl))) rfl ?_
  refine go3 (op_box 3 rfl (fun h => by first | rfl | cases h) (.t (has rfl))) rfl ?_
  refine go1 (op_assign_nil 9 kstr (.inr rfl) rfl) rfl ?_
  refine goesO_nil ?_
  refine ends_then ?_
  refine goes_seq ?_
  refine goes_region ?_
  refine go1 (op_assign_nil 9 kstr (.inr rfl) rfl) rfl ?_
  refine goesO_nil ?_
  refine ends_then ?_
  refine goes_seq ?_
  refine goes_seq ?_
  refine goes_region ?_
  refine go1 (op_fieldAddr rfl Try.underlying25 rfl tk22 (.t (has rfl))) rfl ?_
  refine go1 (op_load rfl fldPlan_Nodes tk22 (.t (has rfl)) (has rfl)) rfl ?_
  refine go1 (op_len rfl rfl Try.underlying22 (.t (has rfl))) rfl ?_
  refine go1 (op_move rfl (.int _ _)) rfl ?_
  refine goesO_nil ?_
  refine ends_then ?_
  obtain ⟨s2, h3, H⟩ := bind_some H
  refine goes_cut [Ent.t 5 (VA.own 9 kstr s2)] ?_ ?_
  · replace H := h3; clear h3
    refine goes_block ?_
    refine goes_loop (fun s1 : (List ByteArray) × Int => [Ent.t 3 (VA.ptr 3 0), Ent.t 5 (VA.own 9 kstr s1.1), Ent.t 9 (VA.k (kslice kNode) a0.Nodes), Ent.t 10 (VA.k (kint .i64) (a0.Nodes.length : Int)), Ent.t 11 (VA.k (kint .i64) s1.2), Ent.h 3 (HE.box 66 kWalkSet_string_ a1)]) (fun k s1 => walk_next.l0 a0 a1 k s1) (fun _ => rfl) H (.cons rfl (.cons rfl (.cons rfl (.cons rfl (.cons rfl (.cons rfl .nil)))))) ?_
    intro k s1 H
    simp only [walk_next.l0] at H
    refine goes_seq ?_
    refine goes_region ?_
    refine go1 (op_icmp rfl rfl (.t (has rfl)) (.t (has rfl))) rfl ?_
    refine goesO_nil ?_
    refine ends_then ?_
    refine goes_seq ?_
    refine goes_if (.t (has rfl)) H (fun hb4 H => ?_) (fun hb4 H => ?_)
    · skip
      refine goes_skip ?_
      refine ends_then ?_
      refine goes_seq ?_
      obtain ⟨s5, h6, H⟩ := bind_some H
      refine goes_cut [Ent.t 3 (VA.ptr 3 0), Ent.t 5 (VA.own 9 kstr s5), Ent.t 9 (VA.k (kslice kNode) a0.Nodes), Ent.t 10 (VA.k (kint .i64) (a0.Nodes.length : Int)), Ent.t 11 (VA.k (kint .i64) s1.2), Ent.h 3 (HE.box 66 kWalkSet_string_ a1)] ?_ ?_
      · replace H := h6; clear h6
        refine goes_block ?_
        refine goes_seq ?_
        refine goes_region ?_
        obtain ⟨x7, h8, H⟩ := bind_some H
        refine go1 (op_indexAddr rfl Try.underlying22 tk48 h8 (.t (has rfl)) (.t (has rfl))) rfl ?_
        refine go1 (op_loadp rfl tk48 (.t (has rfl))) rfl ?_
        refine go3 (op_alloc 7 rfl zk48) rfl ?_
        refine go1 (op_store (Fld.whole kNode) tk48 (.t (has rfl)) (has rfl) (.t (has rfl))) rfl ?_
        refine goesO_nil ?_
        refine ends_then ?_
        refine goes_seq ?_
        obtain ⟨s9, h10, H⟩ := bind_some H
        refine goes_cut [Ent.t 3 (VA.ptr 3 0), Ent.t 5 (VA.own 9 kstr s1.1), Ent.t 7 (VA.ptr 7 0), Ent.t 9 (VA.k (kslice kNode) a0.Nodes), Ent.t 10 (VA.k (kint .i64) (a0.Nodes.length : Int)), Ent.t 11 (VA.k (kint .i64) s1.2), Ent.t 26 (VA.k kbool s9), Ent.h 3 (HE.box 66 kWalkSet_string_ a1), Ent.h 7 (HE.box 48 kNode x7)] ?_ ?_
        · replace H := h10; clear h10
          refine goes_region ?_
          refine go1 (op_load rfl (Fld.whole kWalkSet_string_) tk66 (.t (has rfl)) (has rfl)) rfl ?_
          refine go1 (op_fieldAddr rfl Try.underlying48 rfl tk9 (.t (has rfl))) rfl ?_
          refine go1 (op_load rfl fldNode_Target tk9 (.t (has rfl)) (has rfl)) rfl ?_
          obtain ⟨v11, h12, H⟩ := bind_some H
          refine go1 (op_call' rfl enters36 (walk_set_string_has.con _ _ _ h12) rfl (.cons (ArgP.k (.t (has rfl))) (.cons (ArgP.k (.t (has rfl))) .nil))) rfl ?_
          refine go1 (op_not rfl (.t (has rfl))) rfl ?_
          refine go1 (op_move rfl (.t (has rfl))) rfl ?_
          refine goesO_split H (fun hb13 H => ?_) (fun hb13 H => ?_)
          · skip
            refine goG (op_fieldAddr rfl Try.underlying48 rfl tk23 (.t (has rfl))) rfl rfl rfl rfl hb13 ?_
            refine goG (op_load rfl fldNode_Needs tk23 (.t (has rfl)) (has rfl)) rfl rfl rfl rfl hb13 ?_
            refine goG (op_makeFunc (ys := []) (xs := [3]) rfl rfl rfl rfl) rfl rfl rfl rfl hb13 ?_
            obtain ⟨v14, h15, H⟩ := bind_some H
            refine goG (op_callF' rfl enters37 (slices_ContainsFunc_string_string.conF 58 ([]) ([VA.pt kWalkSet_string_ a1]) _ _ (fun (z0 : ByteArray) => walk_next_1.f z0 a1) enters58 (fun z0 r h => walk_next_1.con z0 a1 r h) _ h15) rfl (.cons (ArgB.k (.t (has rfl))) (.cons (ArgB.mf rfl rfl (has rfl) .nil (.cons (ArgB.ptk (get := fun x => x) (y := a1) (Fld.whole kWalkSet_string_) (.t (has rfl)) (has rfl)) .nil)) .nil))) rfl rfl rfl rfl hb13 ?_
            refine goG (op_not rfl (.t (has rfl))) rfl rfl rfl rfl hb13 ?_
            refine go1 (op_pick_t rfl hb13 (.t (has rfl)) (.t (has rfl))) rfl ?_
            refine goesO_nil ?_
            obtain rfl := Option.some.inj H
            exact ends_cut (.cons rfl (.cons rfl (.cons rfl (.cons rfl (.cons rfl (.cons rfl (.cons rfl (.cons rfl (.cons rfl .nil)))))))))
          · skip
            refine goS rfl rfl rfl rfl rfl rfl hb13 ?_
            refine goS rfl rfl rfl rfl rfl rfl hb13 ?_
            refine goS rfl rfl rfl rfl rfl rfl hb13 ?_
            refine goS rfl rfl rfl rfl rfl rfl hb13 ?_
            refine goS rfl rfl rfl rfl rfl rfl hb13 ?_
            refine go1 (op_pick_f rfl hb13 (.t (has rfl)) (.bool _)) rfl ?_
            refine goesO_nil ?_
            obtain rfl := Option.some.inj H
            exact ends_cut (.cons rfl (.cons rfl (.cons rfl (.cons rfl (.cons rfl (.cons rfl (.cons rfl (.cons rfl (.cons rfl .nil)))))))))
        refine ends_then ?_
        refine goes_if (.t (has rfl)) H (fun hb16 H => ?_) (fun hb16 H => ?_)
        · skip
          refine goes_region ?_
          refine go2 (op_mv (.inl rfl) rfl rfl (has rfl)) rfl ?_
          refine go1 (op_fieldAddr rfl Try.underlying48 rfl tk9 (.t (has rfl))) rfl ?_
          refine go1 (op_load rfl fldNode_Target tk9 (.t (has rfl)) (has rfl)) rfl ?_
          refine go1 (op_buildSlice rfl at23 (fun h => by first | rfl | cases h) rfl rfl rfl (.cons (.t (has rfl)) (.nil _))) rfl ?_
          obtain ⟨x17, h18, H⟩ := bind_some H
          refine go2 (op_append rfl rfl at23 h18 (has rfl) (ReadsArg.own (.t (has rfl)))) rfl ?_
          refine go2 (op_mv (.inr rfl) rfl rfl (has rfl)) rfl ?_
          refine goesO_nil ?_
          refine ends_block ?_
          obtain rfl := Option.some.inj H
          exact ends_cut (.cons rfl (.cons rfl (.cons rfl (.cons rfl (.cons rfl (.cons rfl .nil))))))
        · skip
          refine goes_skip ?_
          refine ends_block ?_
          obtain rfl := Option.some.inj H
          exact ends_cut (.cons rfl (.cons rfl (.cons rfl (.cons rfl (.cons rfl (.cons rfl .nil))))))
      refine ends_then ?_
      refine goes_region ?_
      refine go1 (op_add rfl (.t (has rfl)) (.int _ _)) rfl ?_
      refine go1 (op_move rfl (.t (has rfl))) rfl ?_
      refine goesO_nil ?_
      exact loop_next _ H (.cons rfl (.cons rfl (.cons rfl (.cons rfl (.cons rfl (.cons rfl .nil))))))
    · skip
      refine goes_exit (ends_then_exit (ends_then_exit (ends_block_exit ?_)))
      obtain rfl := Option.some.inj H
      exact ends_cut (.cons rfl .nil)
  refine ends_then ?_
  refine goes_seq ?_
  refine goes_region ?_
  refine go2 (op_mv (.inl rfl) rfl rfl (has rfl)) rfl ?_
  refine go2 (op_mv (.inr rfl) rfl rfl (has rfl)) rfl ?_
  refine goesO_nil ?_
  refine ends_then ?_
  obtain rfl := Option.some.inj H
  exact goes_ret (ends_ret' rfl rfl (.t rfl (.nil _)))
theorem walk_next.conF (k : Nat) (a0 : Plan) (a1 : WalkSet_string_) (r : List ByteArray) (H : walk_next.f k a0 a1 = some r) : ConF Try.prog 40 [VA.k kPlan a0, VA.k kWalkSet_string_ a1] [VA.own 9 kstr r] := (walk_next.con k a0 a1 r H).freeL (.cons (KFree.own KFree.str _ _) .nil)
/-! smithy/walk.Count$1 -/
def walk_Count_1.l0 (most : Int) (self : Int → Int → GM Int → Option (Int × GM Int)) (a0 : Int) (v2 : (List ByteArray)) : Nat → (Int × (GM Int) × Int) → Option (Except (Int × GM Int) (Int × (GM Int)))
  | 0, _ => none
  | k + 1, s4 => bif icmp .lss s4.2.2 (v2.length : Int) then ((idx v2 s4.2.2).bind fun x9 => bif icmp .eql s4.1 most then (some (Except.error (s4.1, s4.2.1))) else ((walk_set_string_put.f s4.2.1 x9).bind fun x12 => (self (IntKind.i64.wrap (a0 - (1 : Int))) s4.1 x12).bind fun v14 => (gdel v14.2 x9).bind fun x16 => walk_Count_1.l0 most self a0 v2 k (v14.1, x16, IntKind.i64.wrap (s4.2.2 + (1 : Int))))) else (some (Except.ok (s4.1, s4.2.1)))
def walk_Count_1.g (self : Int → Int → GM Int → Option (Int × GM Int)) (k : Nat) (p : Plan) (most : Int) (a0 n : Int) (m : GM Int) : Option (Int × GM Int) := bif icmp .eql a0 (0 : Int) then (some (IntKind.i64.wrap (n + (1 : Int)), m)) else ((walk_next.f k p (⟨m⟩ : WalkSet_string_)).bind fun v2 => (walk_Count_1.l0 most self a0 v2 k (n, m, (0 : Int))).bind fun o7 => match o7 with | .error r' => some r' | .ok s5 => (some (s5.1, s5.2)))
set_option maxRecDepth 100000 in
set_option maxHeartbeats 4000000 in
theorem walk_Count_1.gcon (self : Int → Int → GM Int → Option (Int × GM Int)) (k : Nat) (p : Plan) (most : Int) (a0 n : Int) (m : GM Int) (hself : ∀ l n m r, self l n m = some r → ConCnt Try.prog 47 9 3 66 76 kPlan p most l n m r) (r : Int × GM Int) (H : walk_Count_1.g self k p most a0 n m = some r) : ConCnt Try.prog 47 9 3 66 76 kPlan p most a0 n m r := by
  unfold walk_Count_1.g at H
  refine con_enterCnt Try.func47 rfl rfl rfl (fun w0 S0 bn bd bm bo vP vM => ?_)
  refine goes_seq ?_
  refine goes_seq ?_
  refine goes_region ?_
  refine go1 (op_move rfl (.t (has rfl))) rfl ?_
  refine go1 (op_icmp rfl rfl (.t (has rfl)) (.int _ _)) rfl ?_
  refine goesO_nil ?_
  refine ends_then ?_
  refine goes_if (.t (has rfl)) H (fun hb1 H => ?_) (fun hb1 H => ?_)
  · skip
    refine goes_seq ?_
    refine goes_region ?_
    refine go1 (op_load rfl (Fld.whole (kint .i64)) tk3 (.t (has rfl)) (has rfl)) rfl ?_
    refine go1 (op_add rfl (.t (has rfl)) (.int _ _)) rfl ?_
    refine go1 (op_store (Fld.whole (kint .i64)) tk3 (.t (has rfl)) (has rfl) (.t (has rfl))) rfl ?_
    refine goesO_nil ?_
    refine ends_then ?_
    obtain rfl := Option.some.inj H
    exact goes_ret (ends_then_ret (ends_cnt rfl rfl rfl rfl rfl))
  · skip
    refine goes_skip ?_
    refine ends_then ?_
    refine goes_seq ?_
    refine goes_region ?_
    refine go1 (op_loadp rfl tk25 (.fx (.t (has rfl)))) rfl ?_
    refine go1 (op_load_rom (id := 999) rfl xmz66 (.t (has rfl)) (has rfl)) rfl ?_
    obtain ⟨v2, h3, H⟩ := bind_some H
    refine go1 (op_callF' rfl enters40 (walk_next.conF _ _ _ _ h3) rfl (.cons (ArgB.k (.t (has rfl))) (.cons (ArgB.mps (.t (has rfl)) (has rfl) rfl) .nil))) rfl ?_
    refine go1 (op_len_own rfl rfl Try.underlying23 (.t (has rfl))) rfl ?_
    refine go1 (op_move rfl (.int _ _)) rfl ?_
    refine goesO_nil ?_
    refine ends_then ?_
    refine goes_settle 15 rfl rfl ?_
    obtain ⟨o7, h6, H⟩ := bind_some H
    refine goes_cutR (o := o7) (fun s5 : Int × (GM Int) => [Ent.t 1 (VA.ptr 998 0), Ent.t 2 (VA.fx vP (VA.pt kPlan p)), Ent.t 3 (VA.ro 66 bd (.map (some bm))), Ent.t 4 (VA.fx vM (VA.pt (kint .i64) most)), Ent.t 5 (VA.ro 76 bo (selfv 47 bn bd bo vP vM)), Ent.h 998 (HE.box 3 (kint .i64) s5.1), Ent.h 999 (HE.map Try.prog 9 (kint .i64) s5.2), Ent.isb 998 bn, Ent.isb 999 bm]) (fun r a w => bodyPost Try.prog Try.f47 (CntPost Try.prog 9 3 w0 bn bm r) .ret a w) ?_ ?_ ?_
    · replace H := h6; clear h6
      refine goes_block ?_
      refine goes_loop (fun s4 : Int × (GM Int) × Int => [Ent.t 0 (VA.k (kint .i64) a0), Ent.t 1 (VA.ptr 998 0), Ent.t 2 (VA.fx vP (VA.pt kPlan p)), Ent.t 3 (VA.ro 66 bd (.map (some bm))), Ent.t 4 (VA.fx vM (VA.pt (kint .i64) most)), Ent.t 5 (VA.ro 76 bo (selfv 47 bn bd bo vP vM)), Ent.t 15 (VA.k (kslice kstr) v2), Ent.t 16 (VA.k (kint .i64) (v2.length : Int)), Ent.t 17 (VA.k (kint .i64) s4.2.2), Ent.h 998 (HE.box 3 (kint .i64) s4.1), Ent.h 999 (HE.map Try.prog 9 (kint .i64) s4.2.1), Ent.isb 998 bn, Ent.isb 999 bm]) (fun k s4 => walk_Count_1.l0 most self a0 v2 k s4) (fun _ => rfl) H (.cons rfl (.cons rfl (.cons rfl (.cons rfl (.cons rfl (.cons rfl (.cons rfl (.cons rfl (.cons rfl (.cons rfl (.cons rfl (.cons rfl (.cons rfl .nil))))))))))))) ?_
      intro k s4 H
      simp only [walk_Count_1.l0] at H
      refine goes_seq ?_
      refine goes_region ?_
      refine go1 (op_icmp rfl rfl (.t (has rfl)) (.t (has rfl))) rfl ?_
      refine goesO_nil ?_
      refine ends_then ?_
      refine goes_seq ?_
      refine goes_if (.t (has rfl)) H (fun hb8 H => ?_) (fun hb8 H => ?_)
      · skip
        refine goes_skip ?_
        refine ends_then ?_
        refine goes_seq ?_
        refine goes_block ?_
        refine goes_seq ?_
        refine goes_region ?_
        obtain ⟨x9, h10, H⟩ := bind_some H
        refine go1 (op_indexAddr rfl Try.underlying23 tk9 h10 (.t (has rfl)) (.t (has rfl))) rfl ?_
        refine go1 (op_loadp rfl tk9 (.t (has rfl))) rfl ?_
        refine go1 (op_assign rfl (.t (has rfl))) rfl ?_
        refine goesO_nil ?_
        refine ends_then ?_
        refine goes_seq ?_
        refine goes_seq ?_
        refine goes_region ?_
        refine go1 (op_load rfl (Fld.whole (kint .i64)) tk3 (.t (has rfl)) (has rfl)) rfl ?_
        refine go1 (op_loadp rfl tk3 (.fx (.t (has rfl)))) rfl ?_
        refine go1 (op_icmp rfl rfl (.t (has rfl)) (.t (has rfl))) rfl ?_
        refine goesO_nil ?_
        refine ends_then ?_
        refine goes_if (.t (has rfl)) H (fun hb11 H => ?_) (fun hb11 H => ?_)
        · skip
          obtain rfl := Option.some.inj H
          refine goes_ret (ends_then_ret (ends_block_ret (ends_then_ret (ends_then_ret (ends_block_ret (ends_cutR_ret rfl ?_))))))
          exact ends_cnt rfl rfl rfl rfl rfl
        · skip
          refine goes_skip ?_
          refine ends_then ?_
          refine goes_seq ?_
          refine goes_region ?_
          refine go1 (op_load_rom (id := 999) rfl xmz66 (.t (has rfl)) (has rfl)) rfl ?_
          refine go1 (op_move rfl (.t (has rfl))) rfl ?_
          obtain ⟨x12, h13, H⟩ := bind_some H
          refine go2 (op_callIO rfl enters39 (walk_set_string_put.con _ _ _ h13) (.t (has rfl)) (has rfl) (.cons (ArgP.k (.t (has rfl))) .nil)) rfl ?_
          refine goesO_nil ?_
          refine ends_then ?_
          refine goes_seq ?_
          refine goes_region ?_
          refine go1 (op_load_ro rfl (xmz76).agg (.t (has rfl))) rfl ?_
          refine go1 (op_move rfl (.t (has rfl))) rfl ?_
          refine go1 (op_sub rfl (.t (has rfl)) (.int _ _)) rfl ?_
          obtain ⟨v14, h15, H⟩ := bind_some H
          refine go3 (op_self rfl enters47 (hself _ _ _ _ h15) (has rfl) (has rfl) (has rfl) (has rfl) (has rfl) (has rfl) (has rfl) (has rfl) (has rfl) (.t (has rfl))) rfl ?_
          refine goesO_nil ?_
          refine ends_then ?_
          refine goes_region ?_
          refine go1 (op_fieldAddr_ro rfl Try.underlying66 rfl rfl xmz64 (.t (has rfl))) rfl ?_
          refine go1 (op_load_rom (id := 999) rfl xmz64 (.t (has rfl)) (has rfl)) rfl ?_
          refine go1 (op_move rfl (.t (has rfl))) rfl ?_
          obtain ⟨x16, h17, H⟩ := bind_some H
          refine go1 (op_delete xmt64 h17 (.t (has rfl)) (has rfl) (.t (has rfl))) rfl ?_
          refine goesO_nil ?_
          refine ends_block ?_
          refine ends_then ?_
          refine goes_region ?_
          refine go1 (op_add rfl (.t (has rfl)) (.int _ _)) rfl ?_
          refine go1 (op_move rfl (.t (has rfl))) rfl ?_
          refine goesO_nil ?_
          exact loop_next _ H (.cons rfl (.cons rfl (.cons rfl (.cons rfl (.cons rfl (.cons rfl (.cons rfl (.cons rfl (.cons rfl (.cons rfl (.cons rfl (.cons rfl (.cons rfl .nil)))))))))))))
      · skip
        refine goes_exit (ends_then_exit (ends_then_exit (ends_block_exit ?_)))
        obtain rfl := Option.some.inj H
        exact ends_cutR rfl (.cons rfl (.cons rfl (.cons rfl (.cons rfl (.cons rfl (.cons rfl (.cons rfl (.cons rfl (.cons rfl .nil)))))))))
    · rintro s5 rfl
      clear h6
      dsimp only at H
      obtain rfl := Option.some.inj H
      exact ends_fall (n := 0) (ends_cnt rfl rfl rfl rfl rfl)
    · rintro r' rfl a w hr
      obtain rfl := Option.some.inj H
      exact hr
def walk_Count_1.f : Nat → Plan → Int → Int → Int → GM Int → Option (Int × GM Int)
  | 0, _, _, _, _, _ => none
  | k + 1, p, most, a0, n, m => walk_Count_1.g (walk_Count_1.f k p most) k p most a0 n m
theorem walk_Count_1.con : ∀ (k : Nat) (p : Plan) (most : Int) (a0 n : Int) (m : GM Int) (r : Int × GM Int), walk_Count_1.f k p most a0 n m = some r → ConCnt Try.prog 47 9 3 66 76 kPlan p most a0 n m r
  | 0, _, _, _, _, _, _, H => by cases H
  | k + 1, p, most, a0, n, m, r, H => walk_Count_1.gcon (walk_Count_1.f k p most) k p most a0 n m (fun l n m r h => walk_Count_1.con k p most l n m r h) r H
/-! smithy/walk.Count -/
def walk_Count.f (k : Nat) (a0 : Plan) (a1 : Int) : Option (Int × Int) := (walk_asked.f k a0 ([] : List ByteArray)).bind fun v1 => bif icmp .neq v1 (0 : Int) then (some ((0 : Int), v1)) else ((bif icmp .lss a1 (1 : Int) then (some true) else (some (icmp .gtr a1 (10000 : Int)))).bind fun s4 => bif s4 then (some ((0 : Int), (1 : Int))) else ((walk_setOf_string.f k ([] : List ByteArray)).bind fun v8 => (walk_Count_1.f k a0 a1 (a0.Nodes.length : Int) (0 : Int) v8).bind fun v10 => some (v10.1, (0 : Int))))
set_option maxRecDepth 100000 in
set_option maxHeartbeats 4000000 in
theorem walk_Count.con (k : Nat) (a0 : Plan) (a1 : Int) (r : Int × Int) (H : walk_Count.f k a0 a1 = some r) : Con Try.prog 20 [VA.k kPlan a0, VA.k (kint .i64) a1] [VA.k (kint .i64) r.1, VA.k (kint .i64) r.2] := by
  unfold walk_Count.f at H
  refine con_enter Try.func20 rfl rfl rfl (fun w0 S0 θ => ?_)
  refine goes_seq ?_
  refine goes_region ?_
  refine go3 (op_box 2 rfl (fun h => by first | rfl | cases h) (.t (has rfl))) rfl ?_
  refine go3 (op_box 3 rfl (fun h => by first | rfl | cases h) (.t (has rfl))) rfl ?_
  refine go1 (op_assign rfl (.int _ _)) rfl ?_
  refine go1 (op_assign rfl (.int _ _)) rfl ?_
  refine goesO_nil ?_
  refine ends_then ?_
  refine goes_seq ?_
  refine goes_seq ?_
  refine goes_region ?_
  refine go1 (op_load rfl (Fld.whole kPlan) tk25 (.t (has rfl)) (has rfl)) rfl ?_
  obtain ⟨v1, h2, H⟩ := bind_some H
  refine go1 (op_call' rfl enters34 (walk_asked.con _ _ _ _ h2) rfl (.cons (ArgP.k (.t (has rfl))) (.cons (ArgP.k (.nil _)) .nil))) rfl ?_
  refine go1 (op_assign rfl (.t (has rfl))) rfl ?_
  refine goesO_nil ?_
  refine ends_then ?_
  refine goes_seq ?_
  refine goes_region ?_
  refine go1 (op_move rfl (.t (has rfl))) rfl ?_
  refine go1 (op_icmp rfl rfl (.t (has rfl)) (.int _ _)) rfl ?_
  refine goesO_nil ?_
  refine ends_then ?_
  refine goes_if (.t (has rfl)) H (fun hb3 H => ?_) (fun hb3 H => ?_)
  · skip
    refine goes_seq ?_
    refine goes_region ?_
    refine go1 (op_move rfl (.t (has rfl))) rfl ?_
    refine go1 (op_assign rfl (.int _ _)) rfl ?_
    refine go1 (op_assign rfl (.t (has rfl))) rfl ?_
    refine goesO_nil ?_
    refine ends_then ?_
    obtain rfl := Option.some.inj H
    exact goes_ret (ends_then_ret (ends_ret' rfl rfl (.t rfl (.t rfl (.nil _)))))
  · skip
    refine goes_skip ?_
    refine ends_then ?_
    refine goes_seq ?_
    refine goes_seq ?_
    obtain ⟨s4, h5, H⟩ := bind_some H
    refine goes_cut [Ent.t 2 (VA.ptr 2 0), Ent.t 3 (VA.ptr 3 0), Ent.t 20 (VA.k kbool s4), Ent.h 2 (HE.box 25 kPlan a0), Ent.h 3 (HE.box 3 (kint .i64) a1)] ?_ ?_
    · replace H := h5; clear h5
      refine goes_region ?_
      refine go1 (op_load rfl (Fld.whole (kint .i64)) tk3 (.t (has rfl)) (has rfl)) rfl ?_
      refine go1 (op_icmp rfl rfl (.t (has rfl)) (.int _ _)) rfl ?_
      refine go1 (op_move rfl (.t (has rfl))) rfl ?_
      refine goesO_split H (fun hb6 H => ?_) (fun hb6 H => ?_)
      · skip
        refine goS rfl rfl rfl rfl rfl rfl hb6 ?_
        refine goS rfl rfl rfl rfl rfl rfl hb6 ?_
        refine go1 (op_pick_t rfl hb6 (.t (has rfl)) (.bool _)) rfl ?_
        refine goesO_nil ?_
        obtain rfl := Option.some.inj H
        exact ends_cut (.cons rfl (.cons rfl (.cons rfl (.cons rfl (.cons rfl .nil)))))
      · skip
        refine goG (op_load rfl (Fld.whole (kint .i64)) tk3 (.t (has rfl)) (has rfl)) rfl rfl rfl rfl hb6 ?_
        refine goG (op_icmp rfl rfl (.t (has rfl)) (.int _ _)) rfl rfl rfl rfl hb6 ?_
        refine go1 (op_pick_f rfl hb6 (.t (has rfl)) (.t (has rfl))) rfl ?_
        refine goesO_nil ?_
        obtain rfl := Option.some.inj H
        exact ends_cut (.cons rfl (.cons rfl (.cons rfl (.cons rfl (.cons rfl .nil)))))
    refine ends_then ?_
    refine goes_if (.t (has rfl)) H (fun hb7 H => ?_) (fun hb7 H => ?_)
    · skip
      refine goes_seq ?_
      refine goes_region ?_
      refine go1 (op_assign rfl (.int _ _)) rfl ?_
      refine go1 (op_assign rfl (.int _ _)) rfl ?_
      refine goesO_nil ?_
      refine ends_then ?_
      obtain rfl := Option.some.inj H
      exact goes_ret (ends_then_ret (ends_ret' rfl rfl (.t rfl (.t rfl (.nil _)))))
    · skip
      refine goes_skip ?_
      refine ends_then ?_
      refine goes_seq ?_
      refine goes_region ?_
      obtain ⟨v8, h9, H⟩ := bind_some H
      refine go1 (op_call' rfl enters35 (walk_setOf_string.con _ _ _ h9) rfl (.cons (ArgP.k (.nil _)) .nil)) rfl ?_
      refine goesO_adopt 21 21 rfl rfl ?_
      refine go3 (op_alloc_raw 7 rfl xaz66 rfl) rfl ?_
      refine go1 (op_store_mp xmz66 (.inl rfl) (.t (has rfl)) (has rfl) (.t (has rfl))) rfl ?_
      refine goesO_nil ?_
      refine ends_then ?_
      refine goes_seq ?_
      refine goes_region ?_
      refine go3 (op_alloc 8 rfl zk3) rfl ?_
      refine go1 (op_store (Fld.whole (kint .i64)) tk3 (.t (has rfl)) (has rfl) (.int _ _)) rfl ?_
      refine goesO_nil ?_
      refine ends_then ?_
      refine goes_seq ?_
      refine goes_region ?_
      refine go3 (op_alloc_raw 9 rfl xaz76 rfl) rfl ?_
      refine goesO_nil ?_
      refine ends_then ?_
      refine goes_seq ?_
      refine goes_region ?_
      refine go1 (op_makeFunc (ys := []) (xs := [8, 2, 7, 3, 9]) rfl rfl rfl rfl) rfl ?_
      refine go1 (op_store_fn (xmz76).size (.t (has rfl)) (has rfl) (has rfl) (has rfl) (has rfl) (has rfl) (has rfl) (has rfl)) rfl ?_
      refine goesO_nil ?_
      refine ends_then ?_
      refine goes_seq ?_
      refine goes_region ?_
      refine go1 (op_load_fn rfl (xmz76).agg (.t (has rfl)) (has rfl)) rfl ?_
      refine go1 (op_fieldAddr rfl Try.underlying25 rfl tk22 (.t (has rfl))) rfl ?_
      refine go1 (op_load rfl fldPlan_Nodes tk22 (.t (has rfl)) (has rfl)) rfl ?_
      refine go1 (op_len rfl rfl Try.underlying22 (.t (has rfl))) rfl ?_
      obtain ⟨v10, h11, H⟩ := bind_some H
      refine go3 (op_callcnt rfl rfl (by decide) (by decide) enters47 (walk_Count_1.con _ _ _ _ _ _ _ h11) (has rfl) (has rfl) (has rfl) (has rfl) (has rfl) (has rfl) (has rfl) (.t (has rfl))) rfl ?_
      refine goesO_nil ?_
      refine ends_then ?_
      refine goes_seq ?_
      refine goes_region ?_
      refine go1 (op_load rfl (Fld.whole (kint .i64)) tk3 (.t (has rfl)) (has rfl)) rfl ?_
      refine go1 (op_assign rfl (.t (has rfl))) rfl ?_
      refine go1 (op_assign rfl (.int _ _)) rfl ?_
      refine goesO_nil ?_
      refine ends_then ?_
      obtain rfl := Option.some.inj H
      exact goes_ret (ends_ret' rfl rfl (.t rfl (.t rfl (.nil _))))
theorem walk_Count.conF (k : Nat) (a0 : Plan) (a1 : Int) (r : Int × Int) (H : walk_Count.f k a0 a1 = some r) : ConF Try.prog 20 [VA.k kPlan a0, VA.k (kint .i64) a1] [VA.k (kint .i64) r.1, VA.k (kint .i64) r.2] := (walk_Count.con k a0 a1 r H).freeL (.cons (KFree.k (KFree.int .i64) _) (.cons (KFree.k (KFree.int .i64) _) .nil))
/-! smithy/walk.Next -/
def walk_Next.f (k : Nat) (a0 : Plan) (a1 : List ByteArray) : Option ((List ByteArray) × Int) := (walk_asked.f k a0 a1).bind fun v1 => bif icmp .neq v1 (0 : Int) then (some (([] : List ByteArray), v1)) else ((walk_setOf_string.f k a1).bind fun v4 => (walk_next.f k a0 (⟨v4⟩ : WalkSet_string_)).bind fun v6 => some (v6, (0 : Int)))
set_option maxRecDepth 100000 in
set_option maxHeartbeats 4000000 in
theorem walk_Next.con (k : Nat) (a0 : Plan) (a1 : List ByteArray) (r : (List ByteArray) × Int) (H : walk_Next.f k a0 a1 = some r) : Con Try.prog 11 [VA.k kPlan a0, VA.k (kslice kstr) a1] [VA.own 9 kstr r.1, VA.k (kint .i64) r.2] := by
  unfold walk_Next.f at H
  refine con_enter Try.func11 rfl rfl rfl (fun w0 S0 θ => ?_)
  refine goes_seq ?_
  refine goes_region ?_
  refine go3 (op_box 2 rfl (fun h => by first | rfl | cases h) (.t (has rfl))) rfl ?_
  refine go1 (op_assign_nil 9 kstr (.inr rfl) rfl) rfl ?_
  refine go1 (op_assign rfl (.int _ _)) rfl ?_
  refine goesO_nil ?_
  refine ends_then ?_
  refine goes_seq ?_
  refine goes_seq ?_
  refine goes_region ?_
  refine go1 (op_load rfl (Fld.whole kPlan) tk25 (.t (has rfl)) (has rfl)) rfl ?_
  refine go1 (op_move rfl (.t (has rfl))) rfl ?_
  obtain ⟨v1, h2, H⟩ := bind_some H
  refine go1 (op_call' rfl enters34 (walk_asked.con _ _ _ _ h2) rfl (.cons (ArgP.k (.t (has rfl))) (.cons (ArgP.k (.t (has rfl))) .nil))) rfl ?_
  refine go1 (op_assign rfl (.t (has rfl))) rfl ?_
  refine goesO_nil ?_
  refine ends_then ?_
  refine goes_seq ?_
  refine goes_region ?_
  refine go1 (op_move rfl (.t (has rfl))) rfl ?_
  refine go1 (op_icmp rfl rfl (.t (has rfl)) (.int _ _)) rfl ?_
  refine goesO_nil ?_
  refine ends_then ?_
  refine goes_if (.t (has rfl)) H (fun hb3 H => ?_) (fun hb3 H => ?_)
  · skip
    refine goes_seq ?_
    refine goes_region ?_
    refine go1 (op_move rfl (.t (has rfl))) rfl ?_
    refine go1 (op_assign_nil 9 kstr (.inr rfl) rfl) rfl ?_
    refine go1 (op_assign rfl (.t (has rfl))) rfl ?_
    refine goesO_nil ?_
    refine ends_then ?_
    obtain rfl := Option.some.inj H
    exact goes_ret (ends_then_ret (ends_ret' rfl rfl (.t rfl (.t rfl (.nil _)))))
  · skip
    refine goes_skip ?_
    refine ends_then ?_
    refine goes_seq ?_
    obtain ⟨v4, h5, H⟩ := bind_some H
    obtain ⟨v6, h7, H⟩ := bind_some H
    refine goes_drawn [[Ent.t 13 (VA.k kPlan a0)], [Ent.t 14 (VA.k (kslice kstr) a1)], [Ent.t 15 (VA.om Try.prog 9 (kint .i64) true v4)], [Ent.t 16 (VA.own 9 kstr v6)], [Ent.t 4 (VA.own 9 kstr v6), Ent.t 16 (VA.any)], [Ent.t 5 (VA.k (kint .i64) (0 : Int))]] mixed (by kernel_rfl) (by kernel_rfl) (.cons [(none, Ent.t 2 (VA.ptr 2 0)), (none, Ent.h 2 (HE.box 25 kPlan a0))] (OpSpec.run rfl rfl (op_load rfl (Fld.whole kPlan) tk25 (.t NL.h0) (NL.hs NL.h0)) rfl) (.cons (has rfl) (.cons (has rfl) .nil)) (by kernel_rfl) (.cons [(none, Ent.t 1 (VA.k (kslice kstr) a1))] (OpSpec.run rfl rfl (op_move rfl (.t NL.h0)) rfl) (.cons (has rfl) .nil) (by kernel_rfl) (.cons [(some 1, Ent.t 14 (VA.k (kslice kstr) a1))] (OpSpec.run rfl rfl (op_call' rfl enters35 (walk_setOf_string.con _ _ _ h5) rfl (.cons (ArgP.k (.t NL.h0)) .nil)) rfl) (.cons (has rfl) .nil) (by kernel_rfl) (.cons [(some 0, Ent.t 13 (VA.k kPlan a0)), (some 2, Ent.t 15 (VA.om Try.prog 9 (kint .i64) true v4))] (OpSpec.run rfl rfl (op_callF' rfl enters40 (walk_next.conF _ _ _ _ h7) rfl (.cons (ArgB.k (.t NL.h0)) (.cons (ArgB.oms (NL.hs NL.h0) rfl) .nil))) rfl) (.cons (has rfl) (.cons (has rfl) .nil)) (by kernel_rfl) (.cons [(some 3, Ent.t 16 (VA.own 9 kstr v6))] (OpSpec.run rfl rfl (op_mv (.inr rfl) rfl rfl NL.h0) rfl) (.cons (has rfl) .nil) (by kernel_rfl) (.cons [] (OpSpec.run rfl rfl (op_assign rfl (.int _ _)) rfl) .nil (by kernel_rfl) (.nil _))))))) ?_
    refine ends_sub [Ent.t 4 (VA.own 9 kstr v6), Ent.t 5 (VA.k (kint .i64) (0 : Int))] (.cons rfl (.cons rfl .nil)) ?_
    refine ends_then ?_
    obtain rfl := Option.some.inj H
    exact goes_ret (ends_ret' rfl rfl (.t rfl (.t rfl (.nil _))))
theorem walk_Next.conF (k : Nat) (a0 : Plan) (a1 : List ByteArray) (r : (List ByteArray) × Int) (H : walk_Next.f k a0 a1 = some r) : ConF Try.prog 11 [VA.k kPlan a0, VA.k (kslice kstr) a1] [VA.own 9 kstr r.1, VA.k (kint .i64) r.2] := (walk_Next.con k a0 a1 r H).freeL (.cons (KFree.own KFree.str _ _) (.cons (KFree.k (KFree.int .i64) _) .nil))
/-! smithy/walk.Choose -/
def walk_Choose.l0 (a0 : Plan) (a1 : List Int) : Nat → ((GM Int) × (List ByteArray) × Int) → Option (List ByteArray)
  | 0, _ => none
  | k + 1, s7 => bif icmp .lss s7.2.2 (a1.length : Int) then ((idx a1 s7.2.2).bind fun x11 => (walk_next.f k a0 (⟨s7.1⟩ : WalkSet_string_)).bind fun v13 => bif icmp .eql (v13.length : Int) (0 : Int) then (some s7.2.1) else ((divok (v13.length : Int)).bind fun z16 => (bif icmp .lss (Int.tmod x11 (v13.length : Int)) (0 : Int) then (some (IntKind.i64.wrap (Int.tmod x11 (v13.length : Int) + (v13.length : Int)))) else (some (Int.tmod x11 (v13.length : Int)))).bind fun s18 => (idx v13 s18).bind fun x21 => (app 16 s7.2.1 ([x21])).bind fun x23 => (idx v13 s18).bind fun x25 => (walk_set_string_put.f s7.1 x25).bind fun x27 => walk_Choose.l0 a0 a1 k (x27, x23, IntKind.i64.wrap (s7.2.2 + (1 : Int))))) else (some s7.2.1)
def walk_Choose.f (k : Nat) (a0 : Plan) (a1 : List Int) : Option ((List ByteArray) × Int) := (walk_asked.f k a0 ([] : List ByteArray)).bind fun v1 => bif icmp .neq v1 (0 : Int) then (some (([] : List ByteArray), v1)) else (bif icmp .gtr (a1.length : Int) (256 : Int) then (some (([] : List ByteArray), (2 : Int))) else ((walk_setOf_string.f k ([] : List ByteArray)).bind fun v5 => (walk_Choose.l0 a0 a1 k (v5, ([] : List ByteArray), (0 : Int))).bind fun s8 => some (s8, (0 : Int))))
set_option maxRecDepth 100000 in
set_option maxHeartbeats 4000000 in
theorem walk_Choose.con (k : Nat) (a0 : Plan) (a1 : List Int) (r : (List ByteArray) × Int) (H : walk_Choose.f k a0 a1 = some r) : Con Try.prog 19 [VA.k kPlan a0, VA.k (kslice (kint .i64)) a1] [VA.own 9 kstr r.1, VA.k (kint .i64) r.2] := by
  unfold walk_Choose.f at H
  refine con_enter Try.func19 rfl rfl rfl (fun w0 S0 θ => ?_)
  refine goes_seq ?_
  refine goes_region ?_
  refine go3 (op_box 2 rfl (fun h => by first | rfl | cases h) (.t (has rfl))) rfl ?_
  refine go1 (op_assign_nil 9 kstr (.inr rfl) rfl) rfl ?_
  refine go1 (op_assign rfl (.int _ _)) rfl ?_
  refine goesO_nil ?_
  refine ends_then ?_
  refine goes_seq ?_
  refine goes_seq ?_
  refine goes_region ?_
  refine go1 (op_load rfl (Fld.whole kPlan) tk25 (.t (has rfl)) (has rfl)) rfl ?_
  obtain ⟨v1, h2, H⟩ := bind_some H
  refine go1 (op_call' rfl enters34 (walk_asked.con _ _ _ _ h2) rfl (.cons (ArgP.k (.t (has rfl))) (.cons (ArgP.k (.nil _)) .nil))) rfl ?_
  refine go1 (op_assign rfl (.t (has rfl))) rfl ?_
  refine goesO_nil ?_
  refine ends_then ?_
  refine goes_seq ?_
  refine goes_region ?_
  refine go1 (op_move rfl (.t (has rfl))) rfl ?_
  refine go1 (op_icmp rfl rfl (.t (has rfl)) (.int _ _)) rfl ?_
  refine goesO_nil ?_
  refine ends_then ?_
  refine goes_if (.t (has rfl)) H (fun hb3 H => ?_) (fun hb3 H => ?_)
  · skip
    refine goes_seq ?_
    refine goes_region ?_
    refine go1 (op_move rfl (.t (has rfl))) rfl ?_
    refine go1 (op_assign_nil 9 kstr (.inr rfl) rfl) rfl ?_
    refine go1 (op_assign rfl (.t (has rfl))) rfl ?_
    refine goesO_nil ?_
    refine ends_then ?_
    obtain rfl := Option.some.inj H
    exact goes_ret (ends_then_ret (ends_ret' rfl rfl (.t rfl (.t rfl (.nil _)))))
  · skip
    refine goes_skip ?_
    refine ends_then ?_
    refine goes_seq ?_
    refine goes_seq ?_
    refine goes_region ?_
    refine go1 (op_move rfl (.t (has rfl))) rfl ?_
    refine go1 (op_len rfl rfl Try.underlying38 (.t (has rfl))) rfl ?_
    refine go1 (op_icmp rfl rfl (.t (has rfl)) (.int _ _)) rfl ?_
    refine goesO_nil ?_
    refine ends_then ?_
    refine goes_if (.t (has rfl)) H (fun hb4 H => ?_) (fun hb4 H => ?_)
    · skip
      refine goes_seq ?_
      refine goes_region ?_
      refine go1 (op_assign_nil 9 kstr (.inr rfl) rfl) rfl ?_
      refine go1 (op_assign rfl (.int _ _)) rfl ?_
      refine goesO_nil ?_
      refine ends_then ?_
      obtain rfl := Option.some.inj H
      exact goes_ret (ends_then_ret (ends_ret' rfl rfl (.t rfl (.t rfl (.nil _)))))
    · skip
      refine goes_skip ?_
      refine ends_then ?_
      refine goes_seq ?_
      refine goes_region ?_
      obtain ⟨v5, h6, H⟩ := bind_some H
      refine go1 (op_call' rfl enters35 (walk_setOf_string.con _ _ _ h6) rfl (.cons (ArgP.k (.nil _)) .nil)) rfl ?_
      refine goesO_adopt 21 21 rfl rfl ?_
      refine go3 (op_alloc_raw 7 rfl xaz66 rfl) rfl ?_
      refine go1 (op_store_mp xmz66 (.inl rfl) (.t (has rfl)) (has rfl) (.t (has rfl))) rfl ?_
      refine goesO_nil ?_
      refine ends_then ?_
      refine goes_seq ?_
      refine goes_region ?_
      refine go1 (op_assign_nil 9 kstr (.inr rfl) rfl) rfl ?_
      refine goesO_nil ?_
      refine ends_then ?_
      refine goes_seq ?_
      refine goes_seq ?_
      refine goes_region ?_
      refine go1 (op_move rfl (.t (has rfl))) rfl ?_
      refine go1 (op_len rfl rfl Try.underlying38 (.t (has rfl))) rfl ?_
      refine go1 (op_move rfl (.int _ _)) rfl ?_
      refine goesO_nil ?_
      refine ends_then ?_
      obtain ⟨s8, h9, H⟩ := bind_some H
      refine goes_cut [Ent.t 8 (VA.own 9 kstr s8)] ?_ ?_
      · replace H := h9; clear h9
        refine goes_block ?_
        refine goes_loop (fun s7 : (GM Int) × (List ByteArray) × Int => [Ent.t 2 (VA.ptr 2 0), Ent.t 7 (VA.ptr 7 0), Ent.t 8 (VA.own 9 kstr s7.2.1), Ent.t 22 (VA.k (kslice (kint .i64)) a1), Ent.t 23 (VA.k (kint .i64) (a1.length : Int)), Ent.t 24 (VA.k (kint .i64) s7.2.2), Ent.h 2 (HE.box 25 kPlan a0), Ent.h 7 (HE.boxm 66 21), Ent.h 21 (HE.map Try.prog 9 (kint .i64) s7.1)]) (fun k s7 => walk_Choose.l0 a0 a1 k s7) (fun _ => rfl) H (.cons rfl (.cons rfl (.cons rfl (.cons rfl (.cons rfl (.cons rfl (.cons rfl (.cons rfl (.cons rfl .nil))))))))) ?_
        intro k s7 H
        simp only [walk_Choose.l0] at H
        refine goes_seq ?_
        refine goes_region ?_
        refine go1 (op_icmp rfl rfl (.t (has rfl)) (.t (has rfl))) rfl ?_
        refine goesO_nil ?_
        refine ends_then ?_
        refine goes_seq ?_
        refine goes_if (.t (has rfl)) H (fun hb10 H => ?_) (fun hb10 H => ?_)
        · skip
          refine goes_skip ?_
          refine ends_then ?_
          refine goes_seq ?_
          refine goes_block ?_
          refine goes_seq ?_
          refine goes_region ?_
          obtain ⟨x11, h12, H⟩ := bind_some H
          refine go1 (op_indexAddr rfl Try.underlying38 tk3 h12 (.t (has rfl)) (.t (has rfl))) rfl ?_
          refine go1 (op_loadp rfl tk3 (.t (has rfl))) rfl ?_
          refine go1 (op_assign rfl (.t (has rfl))) rfl ?_
          refine goesO_nil ?_
          refine ends_then ?_
          refine goes_seq ?_
          refine goes_region ?_
          refine go1 (op_load rfl (Fld.whole kPlan) tk25 (.t (has rfl)) (has rfl)) rfl ?_
          refine go1 (op_load_mp rfl xmz66 (.t (has rfl)) (has rfl)) rfl ?_
          obtain ⟨v13, h14, H⟩ := bind_some H
          refine go1 (op_callF' rfl enters40 (walk_next.conF _ _ _ _ h14) rfl (.cons (ArgB.k (.t (has rfl))) (.cons (ArgB.mps (.t (has rfl)) (has rfl) rfl) .nil))) rfl ?_
          refine go2 (op_mv (.inr rfl) rfl rfl (has rfl)) rfl ?_
          refine goesO_nil ?_
          refine ends_then ?_
          refine goes_seq ?_
          refine goes_seq ?_
          refine goes_region ?_
          refine goesO_settle 11 rfl rfl ?_
          refine go1 (op_move rfl (.t (has rfl))) rfl ?_
          refine go1 (op_len rfl rfl Try.underlying23 (.t (has rfl))) rfl ?_
          refine go1 (op_icmp rfl rfl (.t (has rfl)) (.int _ _)) rfl ?_
          refine goesO_nil ?_
          refine ends_then ?_
          refine goes_if (.t (has rfl)) H (fun hb15 H => ?_) (fun hb15 H => ?_)
          · skip
            refine goes_exit (ends_then_exit (ends_block_ne rfl (ends_then_exit (ends_then_exit (ends_block_exit ?_)))))
            obtain rfl := Option.some.inj H
            exact ends_cut (.cons rfl .nil)
          · skip
            refine goes_skip ?_
            refine ends_then ?_
            refine goes_seq ?_
            refine goes_region ?_
            refine go1 (op_move rfl (.t (has rfl))) rfl ?_
            refine go1 (op_move rfl (.t (has rfl))) rfl ?_
            refine go1 (op_len rfl rfl Try.underlying23 (.t (has rfl))) rfl ?_
            obtain ⟨z16, h17, H⟩ := bind_some H
            refine go1 (op_rem rfl (divok_spec h17) (.t (has rfl)) (.t (has rfl))) rfl ?_
            refine go1 (op_assign rfl (.t (has rfl))) rfl ?_
            refine goesO_nil ?_
            refine ends_then ?_
            refine goes_seq ?_
            refine goes_seq ?_
            refine goes_region ?_
            refine go1 (op_move rfl (.t (has rfl))) rfl ?_
            refine go1 (op_icmp rfl rfl (.t (has rfl)) (.int _ _)) rfl ?_
            refine goesO_nil ?_
            refine ends_then ?_
            obtain ⟨s18, h19, H⟩ := bind_some H
            refine goes_cut [Ent.t 2 (VA.ptr 2 0), Ent.t 7 (VA.ptr 7 0), Ent.t 8 (VA.own 9 kstr s7.2.1), Ent.t 11 (VA.k (kslice kstr) v13), Ent.t 12 (VA.k (kint .i64) s18), Ent.t 22 (VA.k (kslice (kint .i64)) a1), Ent.t 23 (VA.k (kint .i64) (a1.length : Int)), Ent.t 24 (VA.k (kint .i64) s7.2.2), Ent.h 2 (HE.box 25 kPlan a0), Ent.h 7 (HE.boxm 66 21), Ent.h 21 (HE.map Try.prog 9 (kint .i64) s7.1)] ?_ ?_
            · replace H := h19; clear h19
              refine goes_if (.t (has rfl)) H (fun hb20 H => ?_) (fun hb20 H => ?_)
              · skip
                refine goes_region ?_
                refine go1 (op_move rfl (.t (has rfl))) rfl ?_
                refine go1 (op_move rfl (.t (has rfl))) rfl ?_
                refine go1 (op_len rfl rfl Try.underlying23 (.t (has rfl))) rfl ?_
                refine go1 (op_add rfl (.t (has rfl)) (.t (has rfl))) rfl ?_
                refine go1 (op_assign rfl (.t (has rfl))) rfl ?_
                refine goesO_nil ?_
                obtain rfl := Option.some.inj H
                exact ends_cut (.cons rfl (.cons rfl (.cons rfl (.cons rfl (.cons rfl (.cons rfl (.cons rfl (.cons rfl (.cons rfl (.cons rfl (.cons rfl .nil)))))))))))
              · skip
                refine goes_skip ?_
                obtain rfl := Option.some.inj H
                exact ends_cut (.cons rfl (.cons rfl (.cons rfl (.cons rfl (.cons rfl (.cons rfl (.cons rfl (.cons rfl (.cons rfl (.cons rfl (.cons rfl .nil)))))))))))
            refine ends_then ?_
            refine goes_seq ?_
            refine goes_region ?_
            refine go2 (op_mv (.inl rfl) rfl rfl (has rfl)) rfl ?_
            refine go1 (op_move rfl (.t (has rfl))) rfl ?_
            refine go1 (op_move rfl (.t (has rfl))) rfl ?_
            obtain ⟨x21, h22, H⟩ := bind_some H
            refine go1 (op_indexAddr rfl Try.underlying23 tk9 h22 (.t (has rfl)) (.t (has rfl))) rfl ?_
            refine go1 (op_loadp rfl tk9 (.t (has rfl))) rfl ?_
            refine go1 (op_buildSlice rfl at23 (fun h => by first | rfl | cases h) rfl rfl rfl (.cons (.t (has rfl)) (.nil _))) rfl ?_
            obtain ⟨x23, h24, H⟩ := bind_some H
            refine go2 (op_append rfl rfl at23 h24 (has rfl) (ReadsArg.own (.t (has rfl)))) rfl ?_
            refine go2 (op_mv (.inr rfl) rfl rfl (has rfl)) rfl ?_
            refine goesO_nil ?_
            refine ends_then ?_
            obtain ⟨x25, h26, H⟩ := bind_some H
            obtain ⟨x27, h28, H⟩ := bind_some H
            refine goes_drawn [[Ent.t 51 (VA.mp true 21)], [Ent.t 52 (VA.k (kslice kstr) v13)], [Ent.t 53 (VA.k (kint .i64) s18)], [Ent.t 54 (VA.pt kstr x25)], [Ent.t 55 (VA.k kstr x25)], [Ent.t 56 (VA.any), Ent.h 21 (HE.map Try.prog 9 (kint .i64) x27)]] mixed (by kernel_rfl) (by kernel_rfl) (.cons [(none, Ent.t 7 (VA.ptr 7 0)), (none, Ent.h 7 (HE.boxm 66 21))] (OpSpec.run rfl rfl (op_load_mp rfl xmz66 (.t NL.h0) (NL.hs NL.h0)) rfl) (.cons (has rfl) (.cons (has rfl) .nil)) (by kernel_rfl) (.cons [(none, Ent.t 11 (VA.k (kslice kstr) v13))] (OpSpec.run rfl rfl (op_move rfl (.t NL.h0)) rfl) (.cons (has rfl) .nil) (by kernel_rfl) (.cons [(none, Ent.t 12 (VA.k (kint .i64) s18))] (OpSpec.run rfl rfl (op_move rfl (.t NL.h0)) rfl) (.cons (has rfl) .nil) (by kernel_rfl) (.cons [(some 1, Ent.t 52 (VA.k (kslice kstr) v13)), (some 2, Ent.t 53 (VA.k (kint .i64) s18))] (OpSpec.run rfl rfl (op_indexAddr rfl Try.underlying23 tk9 h26 (.t NL.h0) (.t (NL.hs NL.h0))) rfl) (.cons (has rfl) (.cons (has rfl) .nil)) (by kernel_rfl) (.cons [(some 3, Ent.t 54 (VA.pt kstr x25))] (OpSpec.run rfl rfl (op_loadp rfl tk9 (.t NL.h0)) rfl) (.cons (has rfl) .nil) (by kernel_rfl) (.cons [(some 0, Ent.t 51 (VA.mp true 21)), (some 4, Ent.t 55 (VA.k kstr x25)), (none, Ent.h 21 (HE.map Try.prog 9 (kint .i64) s7.1))] (OpSpec.run rfl rfl (op_callIO rfl enters39 (walk_set_string_put.con _ _ _ h28) (.t NL.h0) (NL.hs (NL.hs NL.h0)) (.cons (ArgP.k (.t (NL.hs NL.h0))) .nil)) rfl) (.cons (has rfl) (.cons (has rfl) (.cons (has rfl) .nil))) (by kernel_rfl) (.nil _))))))) ?_
            refine ends_sub [Ent.t 2 (VA.ptr 2 0), Ent.t 7 (VA.ptr 7 0), Ent.t 8 (VA.own 9 kstr x23), Ent.t 22 (VA.k (kslice (kint .i64)) a1), Ent.t 23 (VA.k (kint .i64) (a1.length : Int)), Ent.t 24 (VA.k (kint .i64) s7.2.2), Ent.h 2 (HE.box 25 kPlan a0), Ent.h 7 (HE.boxm 66 21), Ent.h 21 (HE.map Try.prog 9 (kint .i64) x27)] (.cons rfl (.cons rfl (.cons rfl (.cons rfl (.cons rfl (.cons rfl (.cons rfl (.cons rfl (.cons rfl .nil))))))))) ?_
            refine ends_block ?_
            refine ends_then ?_
            refine goes_region ?_
            refine go1 (op_add rfl (.t (has rfl)) (.int _ _)) rfl ?_
            refine go1 (op_move rfl (.t (has rfl))) rfl ?_
            refine goesO_nil ?_
            exact loop_next _ H (.cons rfl (.cons rfl (.cons rfl (.cons rfl (.cons rfl (.cons rfl (.cons rfl (.cons rfl (.cons rfl .nil)))))))))
        · skip
          refine goes_exit (ends_then_exit (ends_then_exit (ends_block_exit ?_)))
          obtain rfl := Option.some.inj H
          exact ends_cut (.cons rfl .nil)
      refine ends_then ?_
      refine goes_seq ?_
      refine goes_region ?_
      refine go2 (op_mv (.inl rfl) rfl rfl (has rfl)) rfl ?_
      refine go2 (op_mv (.inr rfl) rfl rfl (has rfl)) rfl ?_
      refine go1 (op_assign rfl (.int _ _)) rfl ?_
      refine goesO_nil ?_
      refine ends_then ?_
      obtain rfl := Option.some.inj H
      exact goes_ret (ends_ret' rfl rfl (.t rfl (.t rfl (.nil _))))
theorem walk_Choose.conF (k : Nat) (a0 : Plan) (a1 : List Int) (r : (List ByteArray) × Int) (H : walk_Choose.f k a0 a1 = some r) : ConF Try.prog 19 [VA.k kPlan a0, VA.k (kslice (kint .i64)) a1] [VA.own 9 kstr r.1, VA.k (kint .i64) r.2] := (walk_Choose.con k a0 a1 r H).freeL (.cons (KFree.own KFree.str _ _) (.cons (KFree.k (KFree.int .i64) _) .nil))
/-! smithy/smithyplain.Texts -/
def smithyplain_Texts.l0 (a0 : List ByteArray) (a1 : List ByteArray) : Nat → Int → Option (Except Bool Unit)
  | 0, _ => none
  | k + 1, s2 => bif icmp .lss s2 (a0.length : Int) then ((idx a0 s2).bind fun x7 => (idx a1 s2).bind fun x9 => bif scmp .neq x7 x9 then (some (Except.error false)) else (smithyplain_Texts.l0 a0 a1 k (IntKind.i64.wrap (s2 + (1 : Int))))) else (some (Except.ok ()))
def smithyplain_Texts.f (k : Nat) (a0 : List ByteArray) (a1 : List ByteArray) : Option Bool := bif icmp .neq (a0.length : Int) (a1.length : Int) then (some false) else ((smithyplain_Texts.l0 a0 a1 k (0 : Int)).bind fun o5 => match o5 with | .error r' => some r' | .ok s3 => (some true))
set_option maxRecDepth 100000 in
set_option maxHeartbeats 4000000 in
theorem smithyplain_Texts.con (k : Nat) (a0 : List ByteArray) (a1 : List ByteArray) (r : Bool) (H : smithyplain_Texts.f k a0 a1 = some r) : Con Try.prog 15 [VA.k (kslice kstr) a0, VA.k (kslice kstr) a1] [VA.k kbool r] := by
  unfold smithyplain_Texts.f at H
  refine con_enter Try.func15 rfl rfl rfl (fun w0 S0 θ => ?_)
  refine goes_seq ?_
  refine goes_region ?_
  refine go1 (op_assign rfl (.bool _)) rfl ?_
  refine goesO_nil ?_
  refine ends_then ?_
  refine goes_seq ?_
  refine goes_seq ?_
  refine goes_region ?_
  refine go1 (op_move rfl (.t (has rfl))) rfl ?_
  refine go1 (op_len rfl rfl Try.underlying23 (.t (has rfl))) rfl ?_
  refine go1 (op_move rfl (.t (has rfl))) rfl ?_
  refine go1 (op_len rfl rfl Try.underlying23 (.t (has rfl))) rfl ?_
  refine go1 (op_icmp rfl rfl (.t (has rfl)) (.t (has rfl))) rfl ?_
  refine goesO_nil ?_
  refine ends_then ?_
  refine goes_if (.t (has rfl)) H (fun hb1 H => ?_) (fun hb1 H => ?_)
  · skip
    refine goes_seq ?_
    refine goes_region ?_
    refine go1 (op_assign rfl (.bool _)) rfl ?_
    refine goesO_nil ?_
    refine ends_then ?_
    obtain rfl := Option.some.inj H
    exact goes_ret (ends_then_ret (ends_ret' rfl rfl (.t rfl (.nil _))))
  · skip
    refine goes_skip ?_
    refine ends_then ?_
    refine goes_seq ?_
    refine goes_seq ?_
    refine goes_region ?_
    refine go1 (op_move rfl (.t (has rfl))) rfl ?_
    refine go1 (op_len rfl rfl Try.underlying23 (.t (has rfl))) rfl ?_
    refine go1 (op_move rfl (.int _ _)) rfl ?_
    refine goesO_nil ?_
    refine ends_then ?_
    obtain ⟨o5, h4, H⟩ := bind_some H
    refine goes_cutR (o := o5) (fun s3 : Unit => []) (fun r a w => bodyPost Try.prog Try.f15 (CPost w0 S0 θ [VA.k kbool r]) .ret a w) ?_ ?_ ?_
    · replace H := h4; clear h4
      refine goes_block ?_
      refine goes_loop (fun s2 : Int => [Ent.t 0 (VA.k (kslice kstr) a0), Ent.t 1 (VA.k (kslice kstr) a1), Ent.t 12 (VA.k (kint .i64) (a0.length : Int)), Ent.t 13 (VA.k (kint .i64) s2)]) (fun k s2 => smithyplain_Texts.l0 a0 a1 k s2) (fun _ => rfl) H (.cons rfl (.cons rfl (.cons rfl (.cons rfl .nil)))) ?_
      intro k s2 H
      simp only [smithyplain_Texts.l0] at H
      refine goes_seq ?_
      refine goes_region ?_
      refine go1 (op_icmp rfl rfl (.t (has rfl)) (.t (has rfl))) rfl ?_
      refine goesO_nil ?_
      refine ends_then ?_
      refine goes_seq ?_
      refine goes_if (.t (has rfl)) H (fun hb6 H => ?_) (fun hb6 H => ?_)
      · skip
        refine goes_skip ?_
        refine ends_then ?_
        refine goes_seq ?_
        refine goes_block ?_
        refine goes_seq ?_
        refine goes_region ?_
        refine go1 (op_move rfl (.t (has rfl))) rfl ?_
        refine go1 (op_assign rfl (.t (has rfl))) rfl ?_
        refine goesO_nil ?_
        refine ends_then ?_
        refine goes_seq ?_
        obtain ⟨x7, h8, H⟩ := bind_some H
        obtain ⟨x9, h10, H⟩ := bind_some H
        refine goes_drawn [[Ent.t 16 (VA.k (kslice kstr) a0)], [Ent.t 17 (VA.k (kint .i64) s2)], [Ent.t 18 (VA.pt kstr x7)], [Ent.t 19 (VA.k kstr x7)], [Ent.t 20 (VA.k (kslice kstr) a1)], [Ent.t 21 (VA.k (kint .i64) s2)], [Ent.t 22 (VA.pt kstr x9)], [Ent.t 23 (VA.k kstr x9)], [Ent.t 24 (VA.k kbool (scmp .neq x7 x9))]] mixed (by kernel_rfl) (by kernel_rfl) (.cons [(none, Ent.t 0 (VA.k (kslice kstr) a0))] (OpSpec.run rfl rfl (op_move rfl (.t NL.h0)) rfl) (.cons (has rfl) .nil) (by kernel_rfl) (.cons [(none, Ent.t 5 (VA.k (kint .i64) s2))] (OpSpec.run rfl rfl (op_move rfl (.t NL.h0)) rfl) (.cons (has rfl) .nil) (by kernel_rfl) (.cons [(some 0, Ent.t 16 (VA.k (kslice kstr) a0)), (some 1, Ent.t 17 (VA.k (kint .i64) s2))] (OpSpec.run rfl rfl (op_indexAddr rfl Try.underlying23 tk9 h8 (.t NL.h0) (.t (NL.hs NL.h0))) rfl) (.cons (has rfl) (.cons (has rfl) .nil)) (by kernel_rfl) (.cons [(some 2, Ent.t 18 (VA.pt kstr x7))] (OpSpec.run rfl rfl (op_loadp rfl tk9 (.t NL.h0)) rfl) (.cons (has rfl) .nil) (by kernel_rfl) (.cons [(none, Ent.t 1 (VA.k (kslice kstr) a1))] (OpSpec.run rfl rfl (op_move rfl (.t NL.h0)) rfl) (.cons (has rfl) .nil) (by kernel_rfl) (.cons [(none, Ent.t 5 (VA.k (kint .i64) s2))] (OpSpec.run rfl rfl (op_move rfl (.t NL.h0)) rfl) (.cons (has rfl) .nil) (by kernel_rfl) (.cons [(some 4, Ent.t 20 (VA.k (kslice kstr) a1)), (some 5, Ent.t 21 (VA.k (kint .i64) s2))] (OpSpec.run rfl rfl (op_indexAddr rfl Try.underlying23 tk9 h10 (.t NL.h0) (.t (NL.hs NL.h0))) rfl) (.cons (has rfl) (.cons (has rfl) .nil)) (by kernel_rfl) (.cons [(some 6, Ent.t 22 (VA.pt kstr x9))] (OpSpec.run rfl rfl (op_loadp rfl tk9 (.t NL.h0)) rfl) (.cons (has rfl) .nil) (by kernel_rfl) (.cons [(some 3, Ent.t 19 (VA.k kstr x7)), (some 7, Ent.t 23 (VA.k kstr x9))] (OpSpec.run rfl rfl (op_scmp rfl rfl (.t NL.h0) (.t (NL.hs NL.h0))) rfl) (.cons (has rfl) (.cons (has rfl) .nil)) (by kernel_rfl) (.nil _)))))))))) ?_
        refine ends_sub [Ent.t 0 (VA.k (kslice kstr) a0), Ent.t 1 (VA.k (kslice kstr) a1), Ent.t 12 (VA.k (kint .i64) (a0.length : Int)), Ent.t 13 (VA.k (kint .i64) s2), Ent.t 24 (VA.k kbool (scmp .neq x7 x9))] (.cons rfl (.cons rfl (.cons rfl (.cons rfl (.cons rfl .nil))))) ?_
        refine ends_then ?_
        refine goes_if (.t (has rfl)) H (fun hb11 H => ?_) (fun hb11 H => ?_)
        · skip
          refine goes_seq ?_
          refine goes_region ?_
          refine go1 (op_assign rfl (.bool _)) rfl ?_
          refine goesO_nil ?_
          refine ends_then ?_
          obtain rfl := Option.some.inj H
          refine goes_ret (ends_block_ret (ends_then_ret (ends_then_ret (ends_block_ret (ends_cutR_ret rfl ?_)))))
          exact ends_ret' rfl rfl (.t rfl (.nil _))
        · skip
          refine goes_skip ?_
          refine ends_block ?_
          refine ends_then ?_
          refine goes_region ?_
          refine go1 (op_add rfl (.t (has rfl)) (.int _ _)) rfl ?_
          refine go1 (op_move rfl (.t (has rfl))) rfl ?_
          refine goesO_nil ?_
          exact loop_next _ H (.cons rfl (.cons rfl (.cons rfl (.cons rfl .nil))))
      · skip
        refine goes_exit (ends_then_exit (ends_then_exit (ends_block_exit ?_)))
        obtain rfl := Option.some.inj H
        exact ends_cutR rfl .nil
    · rintro s3 rfl
      clear h4
      dsimp only at H
      refine ends_then ?_
      refine goes_seq ?_
      refine goes_region ?_
      refine go1 (op_assign rfl (.bool _)) rfl ?_
      refine goesO_nil ?_
      refine ends_then ?_
      obtain rfl := Option.some.inj H
      exact goes_ret (ends_ret' rfl rfl (.t rfl (.nil _)))
    · rintro r' rfl a w hr
      obtain rfl := Option.some.inj H
      exact hr
theorem smithyplain_Texts.conF (k : Nat) (a0 : List ByteArray) (a1 : List ByteArray) (r : Bool) (H : smithyplain_Texts.f k a0 a1 = some r) : ConF Try.prog 15 [VA.k (kslice kstr) a0, VA.k (kslice kstr) a1] [VA.k kbool r] := (smithyplain_Texts.con k a0 a1 r H).freeL (.cons (KFree.k KFree.bool _) .nil)
end Go.Proofs.Ytedgkcdofiildaa.F
