import Derived.Test.YtoemgemfgaooeaaFIx5
set_option linter.unusedVariables false
set_option linter.unusedSimpArgs false
set_option linter.unnecessarySimpa false
set_option linter.deprecated false
namespace Go.Proofs.Ytoemgemfgaooeaa.F
open Go Go.RowKit Go.Proofs.Ytoemgemfgaooeaa.Sl
/-! smithy/smithyref12.Check -/
def smithyref12_Check.l1 (s6 : (List ByteArray) × Int) (x11 : Node) : Nat → Int → Option (Except Int Unit)
  | 0, _ => none
  | k + 1, s21 => bif icmp .lss s21 (x11.Needs.length : Int) then ((idx x11.Needs s21).bind fun x26 => (smithyref03_Has.f k s6.1 x26).bind fun v28 => bif !v28 then (some (Except.error (7 : Int))) else (smithyref12_Check.l1 s6 x11 k (IntKind.i64.wrap (s21 + (1 : Int))))) else (some (Except.ok ()))
def smithyref12_Check.l0 (a0 : Plan) : Nat → ((List ByteArray) × Int) → Option (Except Int (List ByteArray))
  | 0, _ => none
  | k + 1, s6 => bif icmp .lss s6.2 (a0.Nodes.length : Int) then ((idx a0.Nodes s6.2).bind fun x11 => ((smithyref12_Node.f k x11).bind fun v15 => bif icmp .neq v15 (0 : Int) then (some true) else ((smithyref03_Has.f k s6.1 x11.Target).bind fun v18 => some v18)).bind fun s13 => bif s13 then (some (Except.error (7 : Int))) else ((smithyref12_Check.l1 s6 x11 k (0 : Int)).bind fun o24 => match o24 with | .error r' => some (Except.error r') | .ok s22 => ((app 16 s6.1 ([x11.Target])).bind fun x31 => smithyref12_Check.l0 a0 k (x31, IntKind.i64.wrap (s6.2 + (1 : Int)))))) else (some (Except.ok s6.1))
def smithyref12_Check.l2 (a0 : Plan) (s7 : (List ByteArray)) : Nat → Int → Option (Except Int Unit)
  | 0, _ => none
  | k + 1, s33 => bif icmp .lss s33 (a0.Goals.length : Int) then (((idx a0.Goals s33).bind fun x40 => (smithyref03_Has.f k s7 x40).bind fun v42 => bif !v42 then (some true) else ((sub a0.Goals (0 : Int) s33).bind fun x45 => (idx a0.Goals s33).bind fun x47 => (smithyref03_Has.f k x45 x47).bind fun v49 => some v49)).bind fun s38 => bif s38 then (some (Except.error (7 : Int))) else (smithyref12_Check.l2 a0 s7 k (IntKind.i64.wrap (s33 + (1 : Int))))) else (some (Except.ok ()))
def smithyref12_Check.f (k : Nat) (a0 : Plan) : Option Int := (bif icmp .gtr (a0.Nodes.length : Int) (256 : Int) then (some true) else (bif icmp .lss (a0.Goals.length : Int) (1 : Int) then (some true) else (some (icmp .gtr (a0.Goals.length : Int) (512 : Int))))).bind fun s1 => bif s1 then (some (7 : Int)) else ((smithyref12_Check.l0 a0 k (([] : List ByteArray), (0 : Int))).bind fun o9 => match o9 with | .error r' => some r' | .ok s7 => ((smithyref12_Check.l2 a0 s7 k (0 : Int)).bind fun o36 => match o36 with | .error r' => some r' | .ok s34 => (some (0 : Int))))
set_option maxRecDepth 100000 in
set_option maxHeartbeats 4000000 in
theorem smithyref12_Check.con (k : Nat) (a0 : Plan) (r : Int) (H : smithyref12_Check.f k a0 = some r) : Con Try.prog 36 [VA.k kPlan a0] [VA.k (kint .i64) r] := by
  unfold smithyref12_Check.f at H
  refine con_enter Try.func36 rfl rfl rfl (fun w0 S0 θ => ?_)
  refine goes_seq ?_
  refine goes_region ?_
  refine go3 (op_box 1 rfl (fun h => by first | rfl | cases h) (.t (has rfl))) rfl ?_
  refine go1 (op_assign rfl (.int _ _)) rfl ?_
  refine goesO_nil ?_
  refine ends_then ?_
  refine goes_seq ?_
  refine goes_seq ?_
  obtain ⟨s1, h2, H⟩ := bind_some H
  refine goes_cut [Ent.t 1 (VA.ptr 1 0), Ent.t 23 (VA.k kbool s1), Ent.h 1 (HE.box 57 kPlan a0)] ?_ ?_
  · replace H := h2; clear h2
    refine goes_region ?_
    refine go1 (op_fieldAddr rfl Try.underlying57 rfl tk55 (.t (has rfl))) rfl ?_
    refine go1 (op_load rfl fldPlan_Nodes tk55 (.t (has rfl)) (has rfl)) rfl ?_
    refine go1 (op_len rfl rfl Try.underlying55 (.t (has rfl))) rfl ?_
    refine go1 (op_icmp rfl rfl (.t (has rfl)) (.int _ _)) rfl ?_
    refine go1 (op_move rfl (.t (has rfl))) rfl ?_
    refine goesO_split H (fun hb3 H => ?_) (fun hb3 H => ?_)
    · skip
      refine goS rfl rfl rfl rfl rfl rfl hb3 ?_
      refine goS rfl rfl rfl rfl rfl rfl hb3 ?_
      refine goS rfl rfl rfl rfl rfl rfl hb3 ?_
      refine goS rfl rfl rfl rfl rfl rfl hb3 ?_
      refine go1 (op_pick_t rfl hb3 (.t (has rfl)) (.bool _)) rfl ?_
      refine go1 (op_move rfl (.t (has rfl))) rfl ?_
      refine goS rfl rfl rfl rfl rfl rfl rfl ?_
      refine goS rfl rfl rfl rfl rfl rfl rfl ?_
      refine goS rfl rfl rfl rfl rfl rfl rfl ?_
      refine goS rfl rfl rfl rfl rfl rfl rfl ?_
      refine go1 (op_pick_t rfl rfl (.t (has rfl)) (.bool _)) rfl ?_
      refine goesO_nil ?_
      obtain rfl := Option.some.inj H
      exact ends_cut (.cons rfl (.cons rfl (.cons rfl .nil)))
    · skip
      refine goG (op_fieldAddr rfl Try.underlying57 rfl tk22 (.t (has rfl))) rfl rfl rfl rfl hb3 ?_
      refine goG (op_load rfl fldPlan_Goals tk22 (.t (has rfl)) (has rfl)) rfl rfl rfl rfl hb3 ?_
      refine goG (op_len rfl rfl Try.underlying22 (.t (has rfl))) rfl rfl rfl rfl hb3 ?_
      refine goG (op_icmp rfl rfl (.t (has rfl)) (.int _ _)) rfl rfl rfl rfl hb3 ?_
      refine go1 (op_pick_f rfl hb3 (.t (has rfl)) (.t (has rfl))) rfl ?_
      refine go1 (op_move rfl (.t (has rfl))) rfl ?_
      refine goesO_split H (fun hb4 H => ?_) (fun hb4 H => ?_)
      · skip
        refine goS rfl rfl rfl rfl rfl rfl hb4 ?_
        refine goS rfl rfl rfl rfl rfl rfl hb4 ?_
        refine goS rfl rfl rfl rfl rfl rfl hb4 ?_
        refine goS rfl rfl rfl rfl rfl rfl hb4 ?_
        refine go1 (op_pick_t rfl hb4 (.t (has rfl)) (.bool _)) rfl ?_
        refine goesO_nil ?_
        obtain rfl := Option.some.inj H
        exact ends_cut (.cons rfl (.cons rfl (.cons rfl .nil)))
      · skip
        refine goG (op_fieldAddr rfl Try.underlying57 rfl tk22 (.t (has rfl))) rfl rfl rfl rfl hb4 ?_
        refine goG (op_load rfl fldPlan_Goals tk22 (.t (has rfl)) (has rfl)) rfl rfl rfl rfl hb4 ?_
        refine goG (op_len rfl rfl Try.underlying22 (.t (has rfl))) rfl rfl rfl rfl hb4 ?_
        refine goG (op_icmp rfl rfl (.t (has rfl)) (.int _ _)) rfl rfl rfl rfl hb4 ?_
        refine go1 (op_pick_f rfl hb4 (.t (has rfl)) (.t (has rfl))) rfl ?_
        refine goesO_nil ?_
        obtain rfl := Option.some.inj H
        exact ends_cut (.cons rfl (.cons rfl (.cons rfl .nil)))
  refine ends_then ?_
  refine goes_if (.t (has rfl)) H (fun hb5 H => ?_) (fun hb5 H => ?_)
  · skip
    refine goes_seq ?_
    refine goes_region ?_
    refine go1 (op_assign rfl (.int _ _)) rfl ?_
    refine goesO_nil ?_
    refine ends_then ?_
    obtain rfl := Option.some.inj H
    exact goes_ret (ends_then_ret (ends_ret' rfl rfl (.t rfl (.nil _))))
  · skip
    refine goes_skip ?_
    refine ends_then ?_
    refine goes_seq ?_
    refine goes_region ?_
    refine go1 (op_assign_nil 9 kstr (.inr rfl) rfl) rfl ?_
    refine goesO_nil ?_
    refine ends_then ?_
    refine goes_seq ?_
    refine goes_seq ?_
    refine goes_region ?_
    refine go1 (op_assign rfl (.int _ _)) rfl ?_
    refine goesO_nil ?_
    refine ends_then ?_
    obtain ⟨o9, h8, H⟩ := bind_some H
    refine goes_cutR (o := o9) (fun s7 : (List ByteArray) => [Ent.t 1 (VA.ptr 1 0), Ent.t 3 (VA.own 9 kstr s7), Ent.h 1 (HE.box 57 kPlan a0)]) (fun r a w => bodyPost Try.prog Try.f36 (CPost w0 S0 θ [VA.k (kint .i64) r]) .ret a w) ?_ ?_ ?_
    · replace H := h8; clear h8
      refine goes_block ?_
      refine goes_loop (fun s6 : (List ByteArray) × Int => [Ent.t 1 (VA.ptr 1 0), Ent.t 3 (VA.own 9 kstr s6.1), Ent.t 4 (VA.k (kint .i64) s6.2), Ent.h 1 (HE.box 57 kPlan a0)]) (fun k s6 => smithyref12_Check.l0 a0 k s6) (fun _ => rfl) H (.cons rfl (.cons rfl (.cons rfl (.cons rfl .nil)))) ?_
      intro k s6 H
      simp only [smithyref12_Check.l0] at H
      refine goes_seq ?_
      refine goes_seq ?_
      refine goes_region ?_
      refine go1 (op_move rfl (.t (has rfl))) rfl ?_
      refine go1 (op_fieldAddr rfl Try.underlying57 rfl tk55 (.t (has rfl))) rfl ?_
      refine go1 (op_load rfl fldPlan_Nodes tk55 (.t (has rfl)) (has rfl)) rfl ?_
      refine go1 (op_len rfl rfl Try.underlying55 (.t (has rfl))) rfl ?_
      refine go1 (op_icmp rfl rfl (.t (has rfl)) (.t (has rfl))) rfl ?_
      refine goesO_nil ?_
      refine ends_then ?_
      refine goes_if (.t (has rfl)) H (fun hb10 H => ?_) (fun hb10 H => ?_)
      · skip
        refine goes_skip ?_
        refine ends_then ?_
        refine goes_seq ?_
        refine goes_block ?_
        refine goes_seq ?_
        refine goes_region ?_
        refine go1 (op_fieldAddr rfl Try.underlying57 rfl tk55 (.t (has rfl))) rfl ?_
        refine go1 (op_load rfl fldPlan_Nodes tk55 (.t (has rfl)) (has rfl)) rfl ?_
        refine go1 (op_move rfl (.t (has rfl))) rfl ?_
        obtain ⟨x11, h12, H⟩ := bind_some H
        refine go1 (op_indexAddr rfl Try.underlying55 tk24 h12 (.t (has rfl)) (.t (has rfl))) rfl ?_
        refine go1 (op_loadp rfl tk24 (.t (has rfl))) rfl ?_
        refine go3 (op_alloc 5 rfl zk24) rfl ?_
        refine go1 (op_store (Fld.whole kNode) tk24 (.t (has rfl)) (has rfl) (.t (has rfl))) rfl ?_
        refine goesO_nil ?_
        refine ends_then ?_
        refine goes_seq ?_
        refine goes_seq ?_
        obtain ⟨s13, h14, H⟩ := bind_some H
        refine goes_cut [Ent.t 1 (VA.ptr 1 0), Ent.t 3 (VA.own 9 kstr s6.1), Ent.t 4 (VA.k (kint .i64) s6.2), Ent.t 5 (VA.ptr 5 0), Ent.t 44 (VA.k kbool s13), Ent.h 1 (HE.box 57 kPlan a0), Ent.h 5 (HE.box 24 kNode x11)] ?_ ?_
        · replace H := h14; clear h14
          refine goes_region ?_
          refine go1 (op_load rfl (Fld.whole kNode) tk24 (.t (has rfl)) (has rfl)) rfl ?_
          obtain ⟨v15, h16, H⟩ := bind_some H
          refine go1 (op_call' rfl enters18 (smithyref12_Node.con _ _ _ h16) rfl (.cons (ArgP.k (.t (has rfl))) .nil)) rfl ?_
          refine go1 (op_icmp rfl rfl (.t (has rfl)) (.int _ _)) rfl ?_
          refine go1 (op_move rfl (.t (has rfl))) rfl ?_
          refine goesO_split H (fun hb17 H => ?_) (fun hb17 H => ?_)
          · skip
            refine goS rfl rfl rfl rfl rfl rfl hb17 ?_
            refine goS rfl rfl rfl rfl rfl rfl hb17 ?_
            refine goS rfl rfl rfl rfl rfl rfl hb17 ?_
            refine goS rfl rfl rfl rfl rfl rfl hb17 ?_
            refine go1 (op_pick_t rfl hb17 (.t (has rfl)) (.bool _)) rfl ?_
            refine goesO_nil ?_
            obtain rfl := Option.some.inj H
            exact ends_cut (.cons rfl (.cons rfl (.cons rfl (.cons rfl (.cons rfl (.cons rfl (.cons rfl .nil)))))))
          · skip
            refine goG (op_same (.inl rfl) rfl rfl) rfl rfl rfl rfl hb17 ?_
            refine goG (op_fieldAddr rfl Try.underlying24 rfl tk9 (.t (has rfl))) rfl rfl rfl rfl hb17 ?_
            refine goG (op_load rfl fldNode_Target tk9 (.t (has rfl)) (has rfl)) rfl rfl rfl rfl hb17 ?_
            obtain ⟨v18, h19, H⟩ := bind_some H
            refine goG (op_callF' rfl enters17 (smithyref03_Has.conF _ _ _ _ h19) rfl (.cons (ArgB.owns rfl (has rfl) (has rfl)) (.cons (ArgB.k (.t (has rfl))) .nil))) rfl rfl rfl rfl hb17 ?_
            refine go1 (op_pick_f rfl hb17 (.t (has rfl)) (.t (has rfl))) rfl ?_
            refine goesO_nil ?_
            obtain rfl := Option.some.inj H
            exact ends_cut (.cons rfl (.cons rfl (.cons rfl (.cons rfl (.cons rfl (.cons rfl (.cons rfl .nil)))))))
        refine ends_then ?_
        refine goes_if (.t (has rfl)) H (fun hb20 H => ?_) (fun hb20 H => ?_)
        · skip
          refine goes_seq ?_
          refine goes_region ?_
          refine go1 (op_assign rfl (.int _ _)) rfl ?_
          refine goesO_nil ?_
          refine ends_then ?_
          obtain rfl := Option.some.inj H
          refine goes_ret (ends_then_ret (ends_block_ret (ends_then_ret (ends_then_ret (ends_block_ret (ends_cutR_ret rfl ?_))))))
          exact ends_ret' rfl rfl (.t rfl (.nil _))
        · skip
          refine goes_skip ?_
          refine ends_then ?_
          refine goes_seq ?_
          refine goes_seq ?_
          refine goes_region ?_
          refine go1 (op_assign rfl (.int _ _)) rfl ?_
          refine goesO_nil ?_
          refine ends_then ?_
          obtain ⟨o24, h23, H⟩ := bind_some H
          refine goes_cutR (o := o24) (fun s22 : Unit => [Ent.t 1 (VA.ptr 1 0), Ent.t 3 (VA.own 9 kstr s6.1), Ent.t 4 (VA.k (kint .i64) s6.2), Ent.t 5 (VA.ptr 5 0), Ent.h 1 (HE.box 57 kPlan a0), Ent.h 5 (HE.box 24 kNode x11)]) (fun r a w => bodyPost Try.prog Try.f36 (CPost w0 S0 θ [VA.k (kint .i64) r]) .ret a w) ?_ ?_ ?_
          · replace H := h23; clear h23
            refine goes_block ?_
            refine goes_loop (fun s21 : Int => [Ent.t 1 (VA.ptr 1 0), Ent.t 3 (VA.own 9 kstr s6.1), Ent.t 4 (VA.k (kint .i64) s6.2), Ent.t 5 (VA.ptr 5 0), Ent.t 6 (VA.k (kint .i64) s21), Ent.h 1 (HE.box 57 kPlan a0), Ent.h 5 (HE.box 24 kNode x11)]) (fun k s21 => smithyref12_Check.l1 s6 x11 k s21) (fun _ => rfl) H (.cons rfl (.cons rfl (.cons rfl (.cons rfl (.cons rfl (.cons rfl (.cons rfl .nil))))))) ?_
            intro k s21 H
            simp only [smithyref12_Check.l1] at H
            refine goes_seq ?_
            refine goes_seq ?_
            refine goes_region ?_
            refine go1 (op_move rfl (.t (has rfl))) rfl ?_
            refine go1 (op_fieldAddr rfl Try.underlying24 rfl tk22 (.t (has rfl))) rfl ?_
            refine go1 (op_load rfl fldNode_Needs tk22 (.t (has rfl)) (has rfl)) rfl ?_
            refine go1 (op_len rfl rfl Try.underlying22 (.t (has rfl))) rfl ?_
            refine go1 (op_icmp rfl rfl (.t (has rfl)) (.t (has rfl))) rfl ?_
            refine goesO_nil ?_
            refine ends_then ?_
            refine goes_if (.t (has rfl)) H (fun hb25 H => ?_) (fun hb25 H => ?_)
            · skip
              refine goes_skip ?_
              refine ends_then ?_
              refine goes_seq ?_
              refine goes_block ?_
              refine goes_seq ?_
              refine goes_region ?_
              refine go1 (op_same (.inl rfl) rfl rfl) rfl ?_
              refine go1 (op_fieldAddr rfl Try.underlying24 rfl tk22 (.t (has rfl))) rfl ?_
              refine go1 (op_load rfl fldNode_Needs tk22 (.t (has rfl)) (has rfl)) rfl ?_
              refine go1 (op_move rfl (.t (has rfl))) rfl ?_
              obtain ⟨x26, h27, H⟩ := bind_some H
              refine go1 (op_indexAddr rfl Try.underlying22 tk9 h27 (.t (has rfl)) (.t (has rfl))) rfl ?_
              refine go1 (op_loadp rfl tk9 (.t (has rfl))) rfl ?_
              obtain ⟨v28, h29, H⟩ := bind_some H
              refine go1 (op_callF' rfl enters17 (smithyref03_Has.conF _ _ _ _ h29) rfl (.cons (ArgB.owns rfl (has rfl) (has rfl)) (.cons (ArgB.k (.t (has rfl))) .nil))) rfl ?_
              refine go1 (op_not rfl (.t (has rfl))) rfl ?_
              refine goesO_nil ?_
              refine ends_then ?_
              refine goes_if (.t (has rfl)) H (fun hb30 H => ?_) (fun hb30 H => ?_)
              · skip
                refine goes_seq ?_
                refine goes_region ?_
                refine go1 (op_assign rfl (.int _ _)) rfl ?_
                refine goesO_nil ?_
                refine ends_then ?_
                obtain rfl := Option.some.inj H
                refine goes_ret (ends_block_ret (ends_then_ret (ends_then_ret (ends_block_ret (ends_cutR_ret rfl ?_)))))
                exact ends_ret' rfl rfl (.t rfl (.nil _))
              · skip
                refine goes_skip ?_
                refine ends_block ?_
                refine ends_then ?_
                refine goes_region ?_
                refine go1 (op_move rfl (.t (has rfl))) rfl ?_
                refine go1 (op_add rfl (.t (has rfl)) (.int _ _)) rfl ?_
                refine go1 (op_assign rfl (.t (has rfl))) rfl ?_
                refine goesO_nil ?_
                exact loop_next _ H (.cons rfl (.cons rfl (.cons rfl (.cons rfl (.cons rfl (.cons rfl (.cons rfl .nil)))))))
            · skip
              refine goes_exit (ends_then_exit (ends_then_exit (ends_block_exit ?_)))
              obtain rfl := Option.some.inj H
              exact ends_cutR rfl (.cons rfl (.cons rfl (.cons rfl (.cons rfl (.cons rfl (.cons rfl .nil))))))
          · rintro s22 rfl
            clear h23
            dsimp only at H
            refine ends_then ?_
            refine goes_region ?_
            refine go2 (op_mv (.inl rfl) rfl rfl (has rfl)) rfl ?_
            refine go1 (op_fieldAddr rfl Try.underlying24 rfl tk9 (.t (has rfl))) rfl ?_
            refine go1 (op_load rfl fldNode_Target tk9 (.t (has rfl)) (has rfl)) rfl ?_
            refine go1 (op_buildSlice rfl at22 (fun h => by first | rfl | cases h) rfl rfl rfl (.cons (.t (has rfl)) (.nil _))) rfl ?_
            obtain ⟨x31, h32, H⟩ := bind_some H
            refine go2 (op_append rfl rfl at22 h32 (has rfl) (ReadsArg.own (.t (has rfl)))) rfl ?_
            refine go2 (op_mv (.inr rfl) rfl rfl (has rfl)) rfl ?_
            refine goesO_nil ?_
            refine ends_block ?_
            refine ends_then ?_
            refine goes_region ?_
            refine go1 (op_move rfl (.t (has rfl))) rfl ?_
            refine go1 (op_add rfl (.t (has rfl)) (.int _ _)) rfl ?_
            refine go1 (op_assign rfl (.t (has rfl))) rfl ?_
            refine goesO_nil ?_
            exact loop_next _ H (.cons rfl (.cons rfl (.cons rfl (.cons rfl .nil))))
          · rintro r' rfl a w hr
            obtain rfl := Option.some.inj H
            exact ⟨_, rfl, hr⟩
      · skip
        refine goes_exit (ends_then_exit (ends_then_exit (ends_block_exit ?_)))
        obtain rfl := Option.some.inj H
        exact ends_cutR rfl (.cons rfl (.cons rfl (.cons rfl .nil)))
    · rintro s7 rfl
      clear h8
      dsimp only at H
      refine ends_then ?_
      refine goes_seq ?_
      refine goes_seq ?_
      refine goes_region ?_
      refine go1 (op_assign rfl (.int _ _)) rfl ?_
      refine goesO_nil ?_
      refine ends_then ?_
      obtain ⟨o36, h35, H⟩ := bind_some H
      refine goes_cutR (o := o36) (fun s34 : Unit => []) (fun r a w => bodyPost Try.prog Try.f36 (CPost w0 S0 θ [VA.k (kint .i64) r]) .ret a w) ?_ ?_ ?_
      · replace H := h35; clear h35
        refine goes_block ?_
        refine goes_loop (fun s33 : Int => [Ent.t 1 (VA.ptr 1 0), Ent.t 3 (VA.own 9 kstr s7), Ent.t 7 (VA.k (kint .i64) s33), Ent.h 1 (HE.box 57 kPlan a0)]) (fun k s33 => smithyref12_Check.l2 a0 s7 k s33) (fun _ => rfl) H (.cons rfl (.cons rfl (.cons rfl (.cons rfl .nil)))) ?_
        intro k s33 H
        simp only [smithyref12_Check.l2] at H
        refine goes_seq ?_
        refine goes_seq ?_
        refine goes_region ?_
        refine go1 (op_move rfl (.t (has rfl))) rfl ?_
        refine go1 (op_fieldAddr rfl Try.underlying57 rfl tk22 (.t (has rfl))) rfl ?_
        refine go1 (op_load rfl fldPlan_Goals tk22 (.t (has rfl)) (has rfl)) rfl ?_
        refine go1 (op_len rfl rfl Try.underlying22 (.t (has rfl))) rfl ?_
        refine go1 (op_icmp rfl rfl (.t (has rfl)) (.t (has rfl))) rfl ?_
        refine goesO_nil ?_
        refine ends_then ?_
        refine goes_if (.t (has rfl)) H (fun hb37 H => ?_) (fun hb37 H => ?_)
        · skip
          refine goes_skip ?_
          refine ends_then ?_
          refine goes_seq ?_
          refine goes_block ?_
          refine goes_seq ?_
          obtain ⟨s38, h39, H⟩ := bind_some H
          refine goes_cut [Ent.t 1 (VA.ptr 1 0), Ent.t 3 (VA.own 9 kstr s7), Ent.t 7 (VA.k (kint .i64) s33), Ent.t 91 (VA.k kbool s38), Ent.h 1 (HE.box 57 kPlan a0)] ?_ ?_
          · replace H := h39; clear h39
            obtain ⟨x40, h41, H⟩ := bind_some H
            obtain ⟨v42, h43, H⟩ := bind_some H
            refine goes_split H (fun hb44 H => ?_) (fun hb44 H => ?_)
            · skip
              refine goes_drawn [[Ent.same 72 3], [Ent.t 73 (VA.ptr 1 1)], [Ent.t 74 (VA.k (kslice kstr) a0.Goals)], [Ent.t 75 (VA.k (kint .i64) s33)], [Ent.t 76 (VA.pt kstr x40)], [Ent.t 77 (VA.k kstr x40)], [Ent.t 78 (VA.k kbool v42)], [Ent.t 79 (VA.k kbool (!v42))], [Ent.t 80 (VA.k kbool (!v42))], [Ent.t 81 (VA.v undef)], [Ent.t 82 (VA.v undef)], [Ent.t 83 (VA.v undef)], [Ent.t 84 (VA.v undef)], [Ent.t 85 (VA.v undef)], [Ent.t 86 (VA.v undef)], [Ent.t 87 (VA.v undef)], [Ent.t 88 (VA.v undef)], [Ent.t 89 (VA.v undef)], [Ent.t 90 (VA.v undef)], [Ent.t 91 (VA.k kbool true)]] mixed (by kernel_rfl) (by kernel_rfl) (.cons [] (OpSpec.run rfl rfl (op_same (.inl rfl) rfl rfl) rfl) .nil (by kernel_rfl) (.cons [(none, Ent.t 1 (VA.ptr 1 0))] (OpSpec.run rfl rfl (op_fieldAddr rfl Try.underlying57 rfl tk22 (.t NL.h0)) rfl) (.cons (has rfl) .nil) (by kernel_rfl) (.cons [(some 1, Ent.t 73 (VA.ptr 1 1)), (none, Ent.h 1 (HE.box 57 kPlan a0))] (OpSpec.run rfl rfl (op_load rfl fldPlan_Goals tk22 (.t NL.h0) (NL.hs NL.h0)) rfl) (.cons (has rfl) (.cons (has rfl) .nil)) (by kernel_rfl) (.cons [(none, Ent.t 7 (VA.k (kint .i64) s33))] (OpSpec.run rfl rfl (op_move rfl (.t NL.h0)) rfl) (.cons (has rfl) .nil) (by kernel_rfl) (.cons [(some 2, Ent.t 74 (VA.k (kslice kstr) a0.Goals)), (some 3, Ent.t 75 (VA.k (kint .i64) s33))] (OpSpec.run rfl rfl (op_indexAddr rfl Try.underlying22 tk9 h41 (.t NL.h0) (.t (NL.hs NL.h0))) rfl) (.cons (has rfl) (.cons (has rfl) .nil)) (by kernel_rfl) (.cons [(some 4, Ent.t 76 (VA.pt kstr x40))] (OpSpec.run rfl rfl (op_loadp rfl tk9 (.t NL.h0)) rfl) (.cons (has rfl) .nil) (by kernel_rfl) (.cons [(some 0, Ent.same 72 3), (none, Ent.t 3 (VA.own 9 kstr s7)), (some 5, Ent.t 77 (VA.k kstr x40))] (OpSpec.run rfl rfl (op_callF' rfl enters17 (smithyref03_Has.conF _ _ _ _ h43) rfl (.cons (ArgB.owns rfl NL.h0 (NL.hs NL.h0)) (.cons (ArgB.k (.t (NL.hs (NL.hs NL.h0)))) .nil))) rfl) (.cons (has rfl) (.cons (has rfl) (.cons (has rfl) .nil))) (by kernel_rfl) (.cons [(some 6, Ent.t 78 (VA.k kbool v42))] (OpSpec.run rfl rfl (op_not rfl (.t NL.h0)) rfl) (.cons (has rfl) .nil) (by kernel_rfl) (.cons [(some 7, Ent.t 79 (VA.k kbool (!v42)))] (OpSpec.run rfl rfl (op_move rfl (.t NL.h0)) rfl) (.cons (has rfl) .nil) (by kernel_rfl) (.cons [(some 8, Ent.t 80 (VA.k kbool (!v42)))] (run_skip rfl rfl rfl rfl rfl rfl NL.h0 hb44) (.cons (has rfl) .nil) (by kernel_rfl) (.cons [(some 8, Ent.t 80 (VA.k kbool (!v42)))] (run_skip rfl rfl rfl rfl rfl rfl NL.h0 hb44) (.cons (has rfl) .nil) (by kernel_rfl) (.cons [(some 8, Ent.t 80 (VA.k kbool (!v42)))] (run_skip rfl rfl rfl rfl rfl rfl NL.h0 hb44) (.cons (has rfl) .nil) (by kernel_rfl) (.cons [(some 8, Ent.t 80 (VA.k kbool (!v42)))] (run_skip rfl rfl rfl rfl rfl rfl NL.h0 hb44) (.cons (has rfl) .nil) (by kernel_rfl) (.cons [(some 8, Ent.t 80 (VA.k kbool (!v42)))] (run_skip rfl rfl rfl rfl rfl rfl NL.h0 hb44) (.cons (has rfl) .nil) (by kernel_rfl) (.cons [(some 8, Ent.t 80 (VA.k kbool (!v42)))] (run_skip rfl rfl rfl rfl rfl rfl NL.h0 hb44) (.cons (has rfl) .nil) (by kernel_rfl) (.cons [(some 8, Ent.t 80 (VA.k kbool (!v42)))] (run_skip rfl rfl rfl rfl rfl rfl NL.h0 hb44) (.cons (has rfl) .nil) (by kernel_rfl) (.cons [(some 8, Ent.t 80 (VA.k kbool (!v42)))] (run_skip rfl rfl rfl rfl rfl rfl NL.h0 hb44) (.cons (has rfl) .nil) (by kernel_rfl) (.cons [(some 8, Ent.t 80 (VA.k kbool (!v42)))] (run_skip rfl rfl rfl rfl rfl rfl NL.h0 hb44) (.cons (has rfl) .nil) (by kernel_rfl) (.cons [(some 8, Ent.t 80 (VA.k kbool (!v42)))] (run_skip rfl rfl rfl rfl rfl rfl NL.h0 hb44) (.cons (has rfl) .nil) (by kernel_rfl) (.cons [(some 8, Ent.t 80 (VA.k kbool (!v42)))] (OpSpec.run rfl rfl (op_pick_t rfl hb44 (.t NL.h0) (.bool _)) rfl) (.cons (has rfl) .nil) (by kernel_rfl) (.nil _))))))))))))))))))))) ?_
              refine ends_sub [Ent.t 1 (VA.ptr 1 0), Ent.t 3 (VA.own 9 kstr s7), Ent.t 7 (VA.k (kint .i64) s33), Ent.t 91 (VA.k kbool true), Ent.h 1 (HE.box 57 kPlan a0)] (.cons rfl (.cons rfl (.cons rfl (.cons rfl (.cons rfl .nil))))) ?_
              obtain rfl := Option.some.inj H
              exact ends_cut (.cons rfl (.cons rfl (.cons rfl (.cons rfl (.cons rfl .nil)))))
            · skip
              obtain ⟨x45, h46, H⟩ := bind_some H
              obtain ⟨x47, h48, H⟩ := bind_some H
              obtain ⟨v49, h50, H⟩ := bind_some H
              refine goes_drawn [[Ent.same 72 3], [Ent.t 73 (VA.ptr 1 1)], [Ent.t 74 (VA.k (kslice kstr) a0.Goals)], [Ent.t 75 (VA.k (kint .i64) s33)], [Ent.t 76 (VA.pt kstr x40)], [Ent.t 77 (VA.k kstr x40)], [Ent.t 78 (VA.k kbool v42)], [Ent.t 79 (VA.k kbool (!v42))], [Ent.t 80 (VA.k kbool (!v42))], [Ent.t 81 (VA.ptr 1 1)], [Ent.t 82 (VA.k (kslice kstr) a0.Goals)], [Ent.t 83 (VA.k (kint .i64) s33)], [Ent.t 84 (VA.k (kslice kstr) x45)], [Ent.t 85 (VA.ptr 1 1)], [Ent.t 86 (VA.k (kslice kstr) a0.Goals)], [Ent.t 87 (VA.k (kint .i64) s33)], [Ent.t 88 (VA.pt kstr x47)], [Ent.t 89 (VA.k kstr x47)], [Ent.t 90 (VA.k kbool v49)], [Ent.t 91 (VA.k kbool v49)]] mixed (by kernel_rfl) (by kernel_rfl) (.cons [] (OpSpec.run rfl rfl (op_same (.inl rfl) rfl rfl) rfl) .nil (by kernel_rfl) (.cons [(none, Ent.t 1 (VA.ptr 1 0))] (OpSpec.run rfl rfl (op_fieldAddr rfl Try.underlying57 rfl tk22 (.t NL.h0)) rfl) (.cons (has rfl) .nil) (by kernel_rfl) (.cons [(some 1, Ent.t 73 (VA.ptr 1 1)), (none, Ent.h 1 (HE.box 57 kPlan a0))] (OpSpec.run rfl rfl (op_load rfl fldPlan_Goals tk22 (.t NL.h0) (NL.hs NL.h0)) rfl) (.cons (has rfl) (.cons (has rfl) .nil)) (by kernel_rfl) (.cons [(none, Ent.t 7 (VA.k (kint .i64) s33))] (OpSpec.run rfl rfl (op_move rfl (.t NL.h0)) rfl) (.cons (has rfl) .nil) (by kernel_rfl) (.cons [(some 2, Ent.t 74 (VA.k (kslice kstr) a0.Goals)), (some 3, Ent.t 75 (VA.k (kint .i64) s33))] (OpSpec.run rfl rfl (op_indexAddr rfl Try.underlying22 tk9 h41 (.t NL.h0) (.t (NL.hs NL.h0))) rfl) (.cons (has rfl) (.cons (has rfl) .nil)) (by kernel_rfl) (.cons [(some 4, Ent.t 76 (VA.pt kstr x40))] (OpSpec.run rfl rfl (op_loadp rfl tk9 (.t NL.h0)) rfl) (.cons (has rfl) .nil) (by kernel_rfl) (.cons [(some 0, Ent.same 72 3), (none, Ent.t 3 (VA.own 9 kstr s7)), (some 5, Ent.t 77 (VA.k kstr x40))] (OpSpec.run rfl rfl (op_callF' rfl enters17 (smithyref03_Has.conF _ _ _ _ h43) rfl (.cons (ArgB.owns rfl NL.h0 (NL.hs NL.h0)) (.cons (ArgB.k (.t (NL.hs (NL.hs NL.h0)))) .nil))) rfl) (.cons (has rfl) (.cons (has rfl) (.cons (has rfl) .nil))) (by kernel_rfl) (.cons [(some 6, Ent.t 78 (VA.k kbool v42))] (OpSpec.run rfl rfl (op_not rfl (.t NL.h0)) rfl) (.cons (has rfl) .nil) (by kernel_rfl) (.cons [(some 7, Ent.t 79 (VA.k kbool (!v42)))] (OpSpec.run rfl rfl (op_move rfl (.t NL.h0)) rfl) (.cons (has rfl) .nil) (by kernel_rfl) (.cons [(some 8, Ent.t 80 (VA.k kbool (!v42))), (none, Ent.t 1 (VA.ptr 1 0))] (OpSpec.runG rfl rfl rfl rfl NL.h0 hb44 (op_fieldAddr rfl Try.underlying57 rfl tk22 (.t (NL.hs NL.h0))) rfl) (.cons (has rfl) (.cons (has rfl) .nil)) (by kernel_rfl) (.cons [(some 8, Ent.t 80 (VA.k kbool (!v42))), (some 9, Ent.t 81 (VA.ptr 1 1)), (none, Ent.h 1 (HE.box 57 kPlan a0))] (OpSpec.runG rfl rfl rfl rfl NL.h0 hb44 (op_load rfl fldPlan_Goals tk22 (.t (NL.hs NL.h0)) (NL.hs (NL.hs NL.h0))) rfl) (.cons (has rfl) (.cons (has rfl) (.cons (has rfl) .nil))) (by kernel_rfl) (.cons [(some 8, Ent.t 80 (VA.k kbool (!v42))), (none, Ent.t 7 (VA.k (kint .i64) s33))] (OpSpec.runG rfl rfl rfl rfl NL.h0 hb44 (op_move rfl (.t (NL.hs NL.h0))) rfl) (.cons (has rfl) (.cons (has rfl) .nil)) (by kernel_rfl) (.cons [(some 8, Ent.t 80 (VA.k kbool (!v42))), (some 10, Ent.t 82 (VA.k (kslice kstr) a0.Goals)), (some 11, Ent.t 83 (VA.k (kint .i64) s33))] (OpSpec.runG rfl rfl rfl rfl NL.h0 hb44 (op_slice (l := none) (h := some _) rfl Try.underlying22 tk9 h46 (.t (NL.hs NL.h0)) trivial (.t (NL.hs (NL.hs NL.h0)))) rfl) (.cons (has rfl) (.cons (has rfl) (.cons (has rfl) .nil))) (by kernel_rfl) (.cons [(some 8, Ent.t 80 (VA.k kbool (!v42))), (none, Ent.t 1 (VA.ptr 1 0))] (OpSpec.runG rfl rfl rfl rfl NL.h0 hb44 (op_fieldAddr rfl Try.underlying57 rfl tk22 (.t (NL.hs NL.h0))) rfl) (.cons (has rfl) (.cons (has rfl) .nil)) (by kernel_rfl) (.cons [(some 8, Ent.t 80 (VA.k kbool (!v42))), (some 13, Ent.t 85 (VA.ptr 1 1)), (none, Ent.h 1 (HE.box 57 kPlan a0))] (OpSpec.runG rfl rfl rfl rfl NL.h0 hb44 (op_load rfl fldPlan_Goals tk22 (.t (NL.hs NL.h0)) (NL.hs (NL.hs NL.h0))) rfl) (.cons (has rfl) (.cons (has rfl) (.cons (has rfl) .nil))) (by kernel_rfl) (.cons [(some 8, Ent.t 80 (VA.k kbool (!v42))), (none, Ent.t 7 (VA.k (kint .i64) s33))] (OpSpec.runG rfl rfl rfl rfl NL.h0 hb44 (op_move rfl (.t (NL.hs NL.h0))) rfl) (.cons (has rfl) (.cons (has rfl) .nil)) (by kernel_rfl) (.cons [(some 8, Ent.t 80 (VA.k kbool (!v42))), (some 14, Ent.t 86 (VA.k (kslice kstr) a0.Goals)), (some 15, Ent.t 87 (VA.k (kint .i64) s33))] (OpSpec.runG rfl rfl rfl rfl NL.h0 hb44 (op_indexAddr rfl Try.underlying22 tk9 h48 (.t (NL.hs NL.h0)) (.t (NL.hs (NL.hs NL.h0)))) rfl) (.cons (has rfl) (.cons (has rfl) (.cons (has rfl) .nil))) (by kernel_rfl) (.cons [(some 8, Ent.t 80 (VA.k kbool (!v42))), (some 16, Ent.t 88 (VA.pt kstr x47))] (OpSpec.runG rfl rfl rfl rfl NL.h0 hb44 (op_loadp rfl tk9 (.t (NL.hs NL.h0))) rfl) (.cons (has rfl) (.cons (has rfl) .nil)) (by kernel_rfl) (.cons [(some 8, Ent.t 80 (VA.k kbool (!v42))), (some 12, Ent.t 84 (VA.k (kslice kstr) x45)), (some 17, Ent.t 89 (VA.k kstr x47))] (OpSpec.runG rfl rfl rfl rfl NL.h0 hb44 (op_call' rfl enters17 (smithyref03_Has.con _ _ _ _ h50) rfl (.cons (ArgP.k (.t (NL.hs NL.h0))) (.cons (ArgP.k (.t (NL.hs (NL.hs NL.h0)))) .nil))) rfl) (.cons (has rfl) (.cons (has rfl) (.cons (has rfl) .nil))) (by kernel_rfl) (.cons [(some 8, Ent.t 80 (VA.k kbool (!v42))), (some 18, Ent.t 90 (VA.k kbool v49))] (OpSpec.run rfl rfl (op_pick_f rfl hb44 (.t NL.h0) (.t (NL.hs NL.h0))) rfl) (.cons (has rfl) (.cons (has rfl) .nil)) (by kernel_rfl) (.nil _))))))))))))))))))))) ?_
              refine ends_sub [Ent.t 1 (VA.ptr 1 0), Ent.t 3 (VA.own 9 kstr s7), Ent.t 7 (VA.k (kint .i64) s33), Ent.t 81 (VA.ptr 1 1), Ent.t 82 (VA.k (kslice kstr) a0.Goals), Ent.t 83 (VA.k (kint .i64) s33), Ent.t 84 (VA.k (kslice kstr) x45), Ent.t 85 (VA.ptr 1 1), Ent.t 86 (VA.k (kslice kstr) a0.Goals), Ent.t 87 (VA.k (kint .i64) s33), Ent.t 88 (VA.pt kstr x47), Ent.t 89 (VA.k kstr x47), Ent.t 90 (VA.k kbool v49), Ent.t 91 (VA.k kbool v49), Ent.h 1 (HE.box 57 kPlan a0)] (.cons rfl (.cons rfl (.cons rfl (.cons rfl (.cons rfl (.cons rfl (.cons rfl (.cons rfl (.cons rfl (.cons rfl (.cons rfl (.cons rfl (.cons rfl (.cons rfl (.cons rfl .nil))))))))))))))) ?_
              obtain rfl := Option.some.inj H
              exact ends_cut (.cons rfl (.cons rfl (.cons rfl (.cons rfl (.cons rfl .nil)))))
          refine ends_then ?_
          refine goes_if (.t (has rfl)) H (fun hb51 H => ?_) (fun hb51 H => ?_)
          · skip
            refine goes_seq ?_
            refine goes_region ?_
            refine go1 (op_assign rfl (.int _ _)) rfl ?_
            refine goesO_nil ?_
            refine ends_then ?_
            obtain rfl := Option.some.inj H
            refine goes_ret (ends_block_ret (ends_then_ret (ends_then_ret (ends_block_ret (ends_cutR_ret rfl ?_)))))
            exact ends_ret' rfl rfl (.t rfl (.nil _))
          · skip
            refine goes_skip ?_
            refine ends_block ?_
            refine ends_then ?_
            refine goes_region ?_
            refine go1 (op_move rfl (.t (has rfl))) rfl ?_
            refine go1 (op_add rfl (.t (has rfl)) (.int _ _)) rfl ?_
            refine go1 (op_assign rfl (.t (has rfl))) rfl ?_
            refine goesO_nil ?_
            exact loop_next _ H (.cons rfl (.cons rfl (.cons rfl (.cons rfl .nil))))
        · skip
          refine goes_exit (ends_then_exit (ends_then_exit (ends_block_exit ?_)))
          obtain rfl := Option.some.inj H
          exact ends_cutR rfl .nil
      · rintro s34 rfl
        clear h35
        dsimp only at H
        refine ends_then ?_
        refine goes_seq ?_
        refine goes_region ?_
        refine go1 (op_assign rfl (.int _ _)) rfl ?_
        refine goesO_nil ?_
        refine ends_then ?_
        obtain rfl := Option.some.inj H
        exact goes_ret (ends_ret' rfl rfl (.t rfl (.nil _)))
      · rintro r' rfl a w hr
        obtain rfl := Option.some.inj H
        exact hr
    · rintro r' rfl a w hr
      obtain rfl := Option.some.inj H
      exact hr
theorem smithyref12_Check.conF (k : Nat) (a0 : Plan) (r : Int) (H : smithyref12_Check.f k a0 = some r) : ConF Try.prog 36 [VA.k kPlan a0] [VA.k (kint .i64) r] := (smithyref12_Check.con k a0 r H).freeL (.cons (KFree.k (KFree.int .i64) _) .nil)
/-! smithy/smithyref13.newer -/
def smithyref13_newer.f (k : Nat) (a0 : Node) (a1 : Disk) (a2 : List ByteArray) (a3 : ByteArray) : Option Bool := (smithyref13_File.f k a1 a0.Target).bind fun v1 => (smithyref13_File.f k a1 a3).bind fun v3 => (bif !v1.2 then (some true) else ((smithyref03_Has.f k a2 a3).bind fun v8 => bif v8 then (some true) else (bif !v3.2 then (some true) else (some (icmp .gtr v3.1.Stamp v1.1.Stamp))))).bind fun s5 => some s5
set_option maxRecDepth 100000 in
set_option maxHeartbeats 4000000 in
theorem smithyref13_newer.con (k : Nat) (a0 : Node) (a1 : Disk) (a2 : List ByteArray) (a3 : ByteArray) (r : Bool) (H : smithyref13_newer.f k a0 a1 a2 a3 = some r) : Con Try.prog 44 [VA.k kNode a0, VA.k kDisk a1, VA.k (kslice kstr) a2, VA.k kstr a3] [VA.k kbool r] := by
  unfold smithyref13_newer.f at H
  refine con_enter Try.func44 rfl rfl rfl (fun w0 S0 θ => ?_)
  refine goes_seq ?_
  refine goes_region ?_
  refine go3 (op_box 4 rfl (fun h => by first | rfl | cases h) (.t (has rfl))) rfl ?_
  refine go3 (op_box 5 rfl (fun h => by first | rfl | cases h) (.t (has rfl))) rfl ?_
  refine go1 (op_assign rfl (.bool _)) rfl ?_
  refine goesO_nil ?_
  refine ends_then ?_
  refine goes_seq ?_
  refine goes_region ?_
  refine go1 (op_load rfl (Fld.whole kDisk) tk27 (.t (has rfl)) (has rfl)) rfl ?_
  refine go1 (op_fieldAddr rfl Try.underlying24 rfl tk9 (.t (has rfl))) rfl ?_
  refine go1 (op_load rfl fldNode_Target tk9 (.t (has rfl)) (has rfl)) rfl ?_
  obtain ⟨v1, h2, H⟩ := bind_some H
  refine goN (op_calls' rfl enters16 (smithyref13_File.con _ _ _ _ h2) rfl rfl (.cons (ArgP.k (.t (has rfl))) (.cons (ArgP.k (.t (has rfl))) .nil))) rfl ?_
  refine go1 (op_same (.inl rfl) rfl rfl) rfl ?_
  refine go1 (op_extract_same rfl plain_k (has rfl) (has rfl)) rfl ?_
  refine go1 (op_extract_same rfl plain_k (has rfl) (has rfl)) rfl ?_
  refine go3 (op_alloc 9 rfl zk47) rfl ?_
  refine go1 (op_store (Fld.whole kFile) tk47 (.t (has rfl)) (has rfl) (.t (has rfl))) rfl ?_
  refine go1 (op_assign rfl (.t (has rfl))) rfl ?_
  refine goesO_nil ?_
  refine ends_then ?_
  refine goes_seq ?_
  refine goes_region ?_
  refine go1 (op_load rfl (Fld.whole kDisk) tk27 (.t (has rfl)) (has rfl)) rfl ?_
  refine go1 (op_move rfl (.t (has rfl))) rfl ?_
  obtain ⟨v3, h4, H⟩ := bind_some H
  refine goN (op_calls' rfl enters16 (smithyref13_File.con _ _ _ _ h4) rfl rfl (.cons (ArgP.k (.t (has rfl))) (.cons (ArgP.k (.t (has rfl))) .nil))) rfl ?_
  refine go1 (op_same (.inl rfl) rfl rfl) rfl ?_
  refine go1 (op_extract_same rfl plain_k (has rfl) (has rfl)) rfl ?_
  refine go1 (op_extract_same rfl plain_k (has rfl) (has rfl)) rfl ?_
  refine go3 (op_alloc 11 rfl zk47) rfl ?_
  refine go1 (op_store (Fld.whole kFile) tk47 (.t (has rfl)) (has rfl) (.t (has rfl))) rfl ?_
  refine go1 (op_assign rfl (.t (has rfl))) rfl ?_
  refine goesO_nil ?_
  refine ends_then ?_
  refine goes_seq ?_
  obtain ⟨s5, h6, H⟩ := bind_some H
  refine goes_cut [Ent.t 8 (VA.k kbool s5)] ?_ ?_
  · replace H := h6; clear h6
    refine goes_region ?_
    refine go1 (op_move rfl (.t (has rfl))) rfl ?_
    refine go1 (op_not rfl (.t (has rfl))) rfl ?_
    refine go1 (op_move rfl (.t (has rfl))) rfl ?_
    refine goesO_split H (fun hb7 H => ?_) (fun hb7 H => ?_)
    · skip
      refine goS rfl rfl rfl rfl rfl rfl hb7 ?_
      refine goS rfl rfl rfl rfl rfl rfl hb7 ?_
      refine goS rfl rfl rfl rfl rfl rfl hb7 ?_
      refine go1 (op_pick_t rfl hb7 (.t (has rfl)) (.bool _)) rfl ?_
      refine go1 (op_move rfl (.t (has rfl))) rfl ?_
      refine goS rfl rfl rfl rfl rfl rfl rfl ?_
      refine goS rfl rfl rfl rfl rfl rfl rfl ?_
      refine go1 (op_pick_t rfl rfl (.t (has rfl)) (.bool _)) rfl ?_
      refine go1 (op_move rfl (.t (has rfl))) rfl ?_
      refine goS rfl rfl rfl rfl rfl rfl rfl ?_
      refine goS rfl rfl rfl rfl rfl rfl rfl ?_
      refine goS rfl rfl rfl rfl rfl rfl rfl ?_
      refine goS rfl rfl rfl rfl rfl rfl rfl ?_
      refine goS rfl rfl rfl rfl rfl rfl rfl ?_
      refine go1 (op_pick_t rfl rfl (.t (has rfl)) (.bool _)) rfl ?_
      refine go1 (op_assign rfl (.t (has rfl))) rfl ?_
      refine goesO_nil ?_
      obtain rfl := Option.some.inj H
      exact ends_cut (.cons rfl .nil)
    · skip
      refine goG (op_move rfl (.t (has rfl))) rfl rfl rfl rfl hb7 ?_
      refine goG (op_move rfl (.t (has rfl))) rfl rfl rfl rfl hb7 ?_
      obtain ⟨v8, h9, H⟩ := bind_some H
      refine goG (op_call' rfl enters17 (smithyref03_Has.con _ _ _ _ h9) rfl (.cons (ArgP.k (.t (has rfl))) (.cons (ArgP.k (.t (has rfl))) .nil))) rfl rfl rfl rfl hb7 ?_
      refine go1 (op_pick_f rfl hb7 (.t (has rfl)) (.t (has rfl))) rfl ?_
      refine go1 (op_move rfl (.t (has rfl))) rfl ?_
      refine goesO_split H (fun hb10 H => ?_) (fun hb10 H => ?_)
      · skip
        refine goS rfl rfl rfl rfl rfl rfl hb10 ?_
        refine goS rfl rfl rfl rfl rfl rfl hb10 ?_
        refine go1 (op_pick_t rfl hb10 (.t (has rfl)) (.bool _)) rfl ?_
        refine go1 (op_move rfl (.t (has rfl))) rfl ?_
        refine goS rfl rfl rfl rfl rfl rfl rfl ?_
        refine goS rfl rfl rfl rfl rfl rfl rfl ?_
        refine goS rfl rfl rfl rfl rfl rfl rfl ?_
        refine goS rfl rfl rfl rfl rfl rfl rfl ?_
        refine goS rfl rfl rfl rfl rfl rfl rfl ?_
        refine go1 (op_pick_t rfl rfl (.t (has rfl)) (.bool _)) rfl ?_
        refine go1 (op_assign rfl (.t (has rfl))) rfl ?_
        refine goesO_nil ?_
        obtain rfl := Option.some.inj H
        exact ends_cut (.cons rfl .nil)
      · skip
        refine goG (op_move rfl (.t (has rfl))) rfl rfl rfl rfl hb10 ?_
        refine goG (op_not rfl (.t (has rfl))) rfl rfl rfl rfl hb10 ?_
        refine go1 (op_pick_f rfl hb10 (.t (has rfl)) (.t (has rfl))) rfl ?_
        refine go1 (op_move rfl (.t (has rfl))) rfl ?_
        refine goesO_split H (fun hb11 H => ?_) (fun hb11 H => ?_)
        · skip
          refine goS rfl rfl rfl rfl rfl rfl hb11 ?_
          refine goS rfl rfl rfl rfl rfl rfl hb11 ?_
          refine goS rfl rfl rfl rfl rfl rfl hb11 ?_
          refine goS rfl rfl rfl rfl rfl rfl hb11 ?_
          refine goS rfl rfl rfl rfl rfl rfl hb11 ?_
          refine go1 (op_pick_t rfl hb11 (.t (has rfl)) (.bool _)) rfl ?_
          refine go1 (op_assign rfl (.t (has rfl))) rfl ?_
          refine goesO_nil ?_
          obtain rfl := Option.some.inj H
          exact ends_cut (.cons rfl .nil)
        · skip
          refine goG (op_fieldAddr rfl Try.underlying47 rfl tk3 (.t (has rfl))) rfl rfl rfl rfl hb11 ?_
          refine goG (op_load rfl fldFile_Stamp tk3 (.t (has rfl)) (has rfl)) rfl rfl rfl rfl hb11 ?_
          refine goG (op_fieldAddr rfl Try.underlying47 rfl tk3 (.t (has rfl))) rfl rfl rfl rfl hb11 ?_
          refine goG (op_load rfl fldFile_Stamp tk3 (.t (has rfl)) (has rfl)) rfl rfl rfl rfl hb11 ?_
          refine goG (op_icmp rfl rfl (.t (has rfl)) (.t (has rfl))) rfl rfl rfl rfl hb11 ?_
          refine go1 (op_pick_f rfl hb11 (.t (has rfl)) (.t (has rfl))) rfl ?_
          refine go1 (op_assign rfl (.t (has rfl))) rfl ?_
          refine goesO_nil ?_
          obtain rfl := Option.some.inj H
          exact ends_cut (.cons rfl .nil)
  refine ends_then ?_
  obtain rfl := Option.some.inj H
  exact goes_ret (ends_ret' rfl rfl (.t rfl (.nil _)))
theorem smithyref13_newer.conF (k : Nat) (a0 : Node) (a1 : Disk) (a2 : List ByteArray) (a3 : ByteArray) (r : Bool) (H : smithyref13_newer.f k a0 a1 a2 a3 = some r) : ConF Try.prog 44 [VA.k kNode a0, VA.k kDisk a1, VA.k (kslice kstr) a2, VA.k kstr a3] [VA.k kbool r] := (smithyref13_newer.con k a0 a1 a2 a3 r H).freeL (.cons (KFree.k KFree.bool _) .nil)
/-! smithy/smithyref13.List -/
def smithyref13_List.l0 (a0 : Node) (a1 : Disk) (a2 : List ByteArray) : Nat → ((List ByteArray) × Int) → Option (List ByteArray)
  | 0, _ => none
  | k + 1, s1 => bif icmp .lss s1.2 (a0.Needs.length : Int) then (((idx a0.Needs s1.2).bind fun x7 => (smithyref13_newer.f k a0 a1 a2 x7).bind fun v9 => bif v9 then ((app 16 s1.1 ([x7])).bind fun x12 => some x12) else (some s1.1)).bind fun s5 => smithyref13_List.l0 a0 a1 a2 k (s5, IntKind.i64.wrap (s1.2 + (1 : Int)))) else (some s1.1)
def smithyref13_List.f (k : Nat) (a0 : Node) (a1 : Disk) (a2 : List ByteArray) : Option (List ByteArray) := (smithyref13_List.l0 a0 a1 a2 k (([] : List ByteArray), (0 : Int))).bind fun s2 => some s2
set_option maxRecDepth 100000 in
set_option maxHeartbeats 4000000 in
theorem smithyref13_List.con (k : Nat) (a0 : Node) (a1 : Disk) (a2 : List ByteArray) (r : List ByteArray) (H : smithyref13_List.f k a0 a1 a2 = some r) : Con Try.prog 25 [VA.k kNode a0, VA.k kDisk a1, VA.k (kslice kstr) a2] [VA.own 9 kstr r] := by
  unfold smithyref13_List.f at H
  refine con_enter Try.func25 rfl rfl rfl (fun w0 S0 θ => ?_)
  refine goes_seq ?_
  refine goes_region ?_
  refine go3 (op_box 3 rfl (fun h => by first | rfl | cases h) (.t (has rfl))) rfl ?_
  refine go3 (op_box 4 rfl (fun h => by first | rfl | cases h) (.t (has rfl))) rfl ?_
  refine go1 (op_assign_nil 9 kstr (.inr rfl) rfl) rfl ?_
  refine goesO_nil ?_
  refine ends_then ?_
  refine goes_seq ?_
  refine goes_region ?_
  refine go1 (op_assign_nil 9 kstr (.inr rfl) rfl) rfl ?_
  refine goesO_nil ?_
  refine ends_then ?_
  refine goes_seq ?_
  refine goes_seq ?_
  refine goes_region ?_
  refine go1 (op_fieldAddr rfl Try.underlying24 rfl tk22 (.t (has rfl))) rfl ?_
  refine go1 (op_load rfl fldNode_Needs tk22 (.t (has rfl)) (has rfl)) rfl ?_
  refine go1 (op_len rfl rfl Try.underlying22 (.t (has rfl))) rfl ?_
  refine go1 (op_move rfl (.int _ _)) rfl ?_
  refine goesO_nil ?_
  refine ends_then ?_
  obtain ⟨s2, h3, H⟩ := bind_some H
  refine goes_cut [Ent.t 7 (VA.own 9 kstr s2)] ?_ ?_
  · replace H := h3; clear h3
    refine goes_block ?_
    refine goes_loop (fun s1 : (List ByteArray) × Int => [Ent.t 2 (VA.k (kslice kstr) a2), Ent.t 3 (VA.ptr 3 0), Ent.t 4 (VA.ptr 4 0), Ent.t 7 (VA.own 9 kstr s1.1), Ent.t 11 (VA.k (kslice kstr) a0.Needs), Ent.t 12 (VA.k (kint .i64) (a0.Needs.length : Int)), Ent.t 13 (VA.k (kint .i64) s1.2), Ent.h 3 (HE.box 24 kNode a0), Ent.h 4 (HE.box 27 kDisk a1)]) (fun k s1 => smithyref13_List.l0 a0 a1 a2 k s1) (fun _ => rfl) H (.cons rfl (.cons rfl (.cons rfl (.cons rfl (.cons rfl (.cons rfl (.cons rfl (.cons rfl (.cons rfl .nil))))))))) ?_
    intro k s1 H
    simp only [smithyref13_List.l0] at H
    refine goes_seq ?_
    refine goes_region ?_
    refine go1 (op_icmp rfl rfl (.t (has rfl)) (.t (has rfl))) rfl ?_
    refine goesO_nil ?_
    refine ends_then ?_
    refine goes_seq ?_
    refine goes_if (.t (has rfl)) H (fun hb4 H => ?_) (fun hb4 H => ?_)
    · skip
      refine goes_skip ?_
      refine ends_then ?_
      refine goes_seq ?_
      obtain ⟨s5, h6, H⟩ := bind_some H
      refine goes_cut [Ent.t 2 (VA.k (kslice kstr) a2), Ent.t 3 (VA.ptr 3 0), Ent.t 4 (VA.ptr 4 0), Ent.t 7 (VA.own 9 kstr s5), Ent.t 11 (VA.k (kslice kstr) a0.Needs), Ent.t 12 (VA.k (kint .i64) (a0.Needs.length : Int)), Ent.t 13 (VA.k (kint .i64) s1.2), Ent.h 3 (HE.box 24 kNode a0), Ent.h 4 (HE.box 27 kDisk a1)] ?_ ?_
      · replace H := h6; clear h6
        refine goes_block ?_
        refine goes_seq ?_
        refine goes_region ?_
        obtain ⟨x7, h8, H⟩ := bind_some H
        refine go1 (op_indexAddr rfl Try.underlying22 tk9 h8 (.t (has rfl)) (.t (has rfl))) rfl ?_
        refine go1 (op_loadp rfl tk9 (.t (has rfl))) rfl ?_
        refine go1 (op_assign rfl (.t (has rfl))) rfl ?_
        refine goesO_nil ?_
        refine ends_then ?_
        refine goes_seq ?_
        refine goes_region ?_
        refine go1 (op_load rfl (Fld.whole kNode) tk24 (.t (has rfl)) (has rfl)) rfl ?_
        refine go1 (op_load rfl (Fld.whole kDisk) tk27 (.t (has rfl)) (has rfl)) rfl ?_
        refine go1 (op_move rfl (.t (has rfl))) rfl ?_
        refine go1 (op_move rfl (.t (has rfl))) rfl ?_
        obtain ⟨v9, h10, H⟩ := bind_some H
        refine go1 (op_call' rfl enters44 (smithyref13_newer.con _ _ _ _ _ _ h10) rfl (.cons (ArgP.k (.t (has rfl))) (.cons (ArgP.k (.t (has rfl))) (.cons (ArgP.k (.t (has rfl))) (.cons (ArgP.k (.t (has rfl))) .nil))))) rfl ?_
        refine goesO_nil ?_
        refine ends_then ?_
        refine goes_if (.t (has rfl)) H (fun hb11 H => ?_) (fun hb11 H => ?_)
        · skip
          refine goes_region ?_
          refine go2 (op_mv (.inl rfl) rfl rfl (has rfl)) rfl ?_
          refine go1 (op_move rfl (.t (has rfl))) rfl ?_
          refine go1 (op_buildSlice rfl at22 (fun h => by first | rfl | cases h) rfl rfl rfl (.cons (.t (has rfl)) (.nil _))) rfl ?_
          obtain ⟨x12, h13, H⟩ := bind_some H
          refine go2 (op_append rfl rfl at22 h13 (has rfl) (ReadsArg.own (.t (has rfl)))) rfl ?_
          refine go2 (op_mv (.inr rfl) rfl rfl (has rfl)) rfl ?_
          refine goesO_nil ?_
          refine ends_block ?_
          obtain rfl := Option.some.inj H
          exact ends_cut (.cons rfl (.cons rfl (.cons rfl (.cons rfl (.cons rfl (.cons rfl (.cons rfl (.cons rfl (.cons rfl .nil)))))))))
        · skip
          refine goes_skip ?_
          refine ends_block ?_
          obtain rfl := Option.some.inj H
          exact ends_cut (.cons rfl (.cons rfl (.cons rfl (.cons rfl (.cons rfl (.cons rfl (.cons rfl (.cons rfl (.cons rfl .nil)))))))))
      refine ends_then ?_
      refine goes_region ?_
      refine go1 (op_add rfl (.t (has rfl)) (.int _ _)) rfl ?_
      refine go1 (op_move rfl (.t (has rfl))) rfl ?_
      refine goesO_nil ?_
      exact loop_next _ H (.cons rfl (.cons rfl (.cons rfl (.cons rfl (.cons rfl (.cons rfl (.cons rfl (.cons rfl (.cons rfl .nil)))))))))
    · skip
      refine goes_exit (ends_then_exit (ends_then_exit (ends_block_exit ?_)))
      obtain rfl := Option.some.inj H
      exact ends_cut (.cons rfl .nil)
  refine ends_then ?_
  refine goes_seq ?_
  refine goes_region ?_
  refine go2 (op_mv (.inl rfl) rfl rfl (has rfl)) rfl ?_
  refine go2 (op_mv (.inr rfl) rfl rfl (has rfl)) rfl ?_
  refine goesO_nil ?_
  refine ends_then ?_
  obtain rfl := Option.some.inj H
  exact goes_ret (ends_ret' rfl rfl (.t rfl (.nil _)))
theorem smithyref13_List.conF (k : Nat) (a0 : Node) (a1 : Disk) (a2 : List ByteArray) (r : List ByteArray) (H : smithyref13_List.f k a0 a1 a2 = some r) : ConF Try.prog 25 [VA.k kNode a0, VA.k kDisk a1, VA.k (kslice kstr) a2] [VA.own 9 kstr r] := (smithyref13_List.con k a0 a1 a2 r H).freeL (.cons (KFree.own KFree.str _ _) .nil)
/-! smithy/smithyref13.Stale -/
def smithyref13_Stale.f (k : Nat) (a0 : Node) (a1 : Disk) (a2 : List ByteArray) : Option Bool := (smithyref13_File.f k a1 a0.Target).bind fun v1 => (bif a0.Phony then (some true) else (bif !v1.2 then (some true) else ((smithyref13_List.f k a0 a1 a2).bind fun v7 => some (icmp .gtr (v7.length : Int) (0 : Int))))).bind fun s3 => some s3
set_option maxRecDepth 100000 in
set_option maxHeartbeats 4000000 in
theorem smithyref13_Stale.con (k : Nat) (a0 : Node) (a1 : Disk) (a2 : List ByteArray) (r : Bool) (H : smithyref13_Stale.f k a0 a1 a2 = some r) : Con Try.prog 26 [VA.k kNode a0, VA.k kDisk a1, VA.k (kslice kstr) a2] [VA.k kbool r] := by
  unfold smithyref13_Stale.f at H
  refine con_enter Try.func26 rfl rfl rfl (fun w0 S0 θ => ?_)
  refine goes_seq ?_
  refine goes_region ?_
  refine go3 (op_box 3 rfl (fun h => by first | rfl | cases h) (.t (has rfl))) rfl ?_
  refine go3 (op_box 4 rfl (fun h => by first | rfl | cases h) (.t (has rfl))) rfl ?_
  refine go1 (op_assign rfl (.bool _)) rfl ?_
  refine goesO_nil ?_
  refine ends_then ?_
  refine goes_seq ?_
  refine goes_region ?_
  refine go1 (op_load rfl (Fld.whole kDisk) tk27 (.t (has rfl)) (has rfl)) rfl ?_
  refine go1 (op_fieldAddr rfl Try.underlying24 rfl tk9 (.t (has rfl))) rfl ?_
  refine go1 (op_load rfl fldNode_Target tk9 (.t (has rfl)) (has rfl)) rfl ?_
  obtain ⟨v1, h2, H⟩ := bind_some H
  refine goN (op_calls' rfl enters16 (smithyref13_File.con _ _ _ _ h2) rfl rfl (.cons (ArgP.k (.t (has rfl))) (.cons (ArgP.k (.t (has rfl))) .nil))) rfl ?_
  refine go1 (op_same (.inl rfl) rfl rfl) rfl ?_
  refine go1 (op_extract_same rfl plain_k (has rfl) (has rfl)) rfl ?_
  refine go1 (op_extract_same rfl plain_k (has rfl) (has rfl)) rfl ?_
  refine go3 (op_alloc 7 rfl zk47) rfl ?_
  refine go1 (op_store (Fld.whole kFile) tk47 (.t (has rfl)) (has rfl) (.t (has rfl))) rfl ?_
  refine go1 (op_assign rfl (.t (has rfl))) rfl ?_
  refine goesO_nil ?_
  refine ends_then ?_
  refine goes_seq ?_
  obtain ⟨s3, h4, H⟩ := bind_some H
  refine goes_cut [Ent.t 6 (VA.k kbool s3)] ?_ ?_
  · replace H := h4; clear h4
    refine goes_region ?_
    refine go1 (op_fieldAddr rfl Try.underlying24 rfl tk4 (.t (has rfl))) rfl ?_
    refine go1 (op_load rfl fldNode_Phony tk4 (.t (has rfl)) (has rfl)) rfl ?_
    refine go1 (op_move rfl (.t (has rfl))) rfl ?_
    refine goesO_split H (fun hb5 H => ?_) (fun hb5 H => ?_)
    · skip
      refine goS rfl rfl rfl rfl rfl rfl hb5 ?_
      refine goS rfl rfl rfl rfl rfl rfl hb5 ?_
      refine go1 (op_pick_t rfl hb5 (.t (has rfl)) (.bool _)) rfl ?_
      refine go1 (op_move rfl (.t (has rfl))) rfl ?_
      refine goS rfl rfl rfl rfl rfl rfl rfl ?_
      refine goS rfl rfl rfl rfl rfl rfl rfl ?_
      refine goS rfl rfl rfl rfl rfl rfl rfl ?_
      refine goS rfl rfl rfl rfl rfl rfl rfl ?_
      refine goS rfl rfl rfl rfl rfl rfl rfl ?_
      refine goS rfl rfl rfl rfl rfl rfl rfl ?_
      refine go1 (op_pick_t rfl rfl (.t (has rfl)) (.bool _)) rfl ?_
      refine go1 (op_assign rfl (.t (has rfl))) rfl ?_
      refine goesO_nil ?_
      obtain rfl := Option.some.inj H
      exact ends_cut (.cons rfl .nil)
    · skip
      refine goG (op_move rfl (.t (has rfl))) rfl rfl rfl rfl hb5 ?_
      refine goG (op_not rfl (.t (has rfl))) rfl rfl rfl rfl hb5 ?_
      refine go1 (op_pick_f rfl hb5 (.t (has rfl)) (.t (has rfl))) rfl ?_
      refine go1 (op_move rfl (.t (has rfl))) rfl ?_
      refine goesO_split H (fun hb6 H => ?_) (fun hb6 H => ?_)
      · skip
        refine goS rfl rfl rfl rfl rfl rfl hb6 ?_
        refine goS rfl rfl rfl rfl rfl rfl hb6 ?_
        refine goS rfl rfl rfl rfl rfl rfl hb6 ?_
        refine goS rfl rfl rfl rfl rfl rfl hb6 ?_
        refine goS rfl rfl rfl rfl rfl rfl hb6 ?_
        refine goS rfl rfl rfl rfl rfl rfl hb6 ?_
        refine go1 (op_pick_t rfl hb6 (.t (has rfl)) (.bool _)) rfl ?_
        refine go1 (op_assign rfl (.t (has rfl))) rfl ?_
        refine goesO_nil ?_
        obtain rfl := Option.some.inj H
        exact ends_cut (.cons rfl .nil)
      · skip
        refine goG (op_load rfl (Fld.whole kNode) tk24 (.t (has rfl)) (has rfl)) rfl rfl rfl rfl hb6 ?_
        refine goG (op_load rfl (Fld.whole kDisk) tk27 (.t (has rfl)) (has rfl)) rfl rfl rfl rfl hb6 ?_
        refine goG (op_move rfl (.t (has rfl))) rfl rfl rfl rfl hb6 ?_
        obtain ⟨v7, h8, H⟩ := bind_some H
        refine goG (op_call' rfl enters25 (smithyref13_List.con _ _ _ _ _ h8) rfl (.cons (ArgP.k (.t (has rfl))) (.cons (ArgP.k (.t (has rfl))) (.cons (ArgP.k (.t (has rfl))) .nil)))) rfl rfl rfl rfl hb6 ?_
        refine goG (op_len_own rfl rfl Try.underlying22 (.t (has rfl))) rfl rfl rfl rfl hb6 ?_
        refine goG (op_icmp rfl rfl (.t (has rfl)) (.int _ _)) rfl rfl rfl rfl hb6 ?_
        refine go1 (op_pick_f rfl hb6 (.t (has rfl)) (.t (has rfl))) rfl ?_
        refine go1 (op_assign rfl (.t (has rfl))) rfl ?_
        refine goesO_nil ?_
        obtain rfl := Option.some.inj H
        exact ends_cut (.cons rfl .nil)
  refine ends_then ?_
  obtain rfl := Option.some.inj H
  exact goes_ret (ends_ret' rfl rfl (.t rfl (.nil _)))
theorem smithyref13_Stale.conF (k : Nat) (a0 : Node) (a1 : Disk) (a2 : List ByteArray) (r : Bool) (H : smithyref13_Stale.f k a0 a1 a2 = some r) : ConF Try.prog 26 [VA.k kNode a0, VA.k kDisk a1, VA.k (kslice kstr) a2] [VA.k kbool r] := (smithyref13_Stale.con k a0 a1 a2 r H).freeL (.cons (KFree.k KFree.bool _) .nil)
/-! smithy/smithyref13.Would -/
def smithyref13_Would.l0 (a0 : Plan) : Nat → ((List ByteArray) × Int) → Option (List ByteArray)
  | 0, _ => none
  | k + 1, s9 => bif icmp .lss s9.2 (a0.Nodes.length : Int) then (((idx a0.Nodes s9.2).bind fun x15 => bif x15.Phony then ((app 16 s9.1 ([x15.Target])).bind fun x18 => some x18) else (some s9.1)).bind fun s13 => smithyref13_Would.l0 a0 k (s13, IntKind.i64.wrap (s9.2 + (1 : Int)))) else (some s9.1)
def smithyref13_Would.l1 (a0 : Plan) (a1 : Disk) (s10 : (List ByteArray)) : Nat → ((List ByteArray) × Int) → Option (List ByteArray)
  | 0, _ => none
  | k + 1, s20 => bif icmp .lss s20.2 (a0.Nodes.length : Int) then (((idx a0.Nodes s20.2).bind fun x26 => (app 16 ([] : List ByteArray) s10).bind fun x28 => (app 16 x28 s20.1).bind fun x30 => (bif x26.Has then (bif icmp .gtr (x26.Recipe.length : Int) (0 : Int) then ((smithyref13_Stale.f k x26 a1 x30).bind fun v36 => some v36) else (some false)) else (some false)).bind fun s32 => bif s32 then ((app 16 s20.1 ([x26.Target])).bind fun x39 => some x39) else (some s20.1)).bind fun s24 => smithyref13_Would.l1 a0 a1 s10 k (s24, IntKind.i64.wrap (s20.2 + (1 : Int)))) else (some s20.1)
def smithyref13_Would.f (k : Nat) (a0 : Plan) (a1 : Disk) : Option ((List ByteArray) × Int) := (smithyref12_Check.f k a0).bind fun v1 => (bif icmp .eql v1 (0 : Int) then ((smithyref02_Check.f k a1).bind fun v6 => some v6) else (some v1)).bind fun s3 => bif icmp .neq s3 (0 : Int) then (some (([] : List ByteArray), s3)) else ((smithyref13_Would.l0 a0 k (([] : List ByteArray), (0 : Int))).bind fun s10 => (smithyref13_Would.l1 a0 a1 s10 k (([] : List ByteArray), (0 : Int))).bind fun s21 => some (s21, (0 : Int)))
set_option maxRecDepth 100000 in
set_option maxHeartbeats 4000000 in
theorem smithyref13_Would.con (k : Nat) (a0 : Plan) (a1 : Disk) (r : (List ByteArray) × Int) (H : smithyref13_Would.f k a0 a1 = some r) : Con Try.prog 21 [VA.k kPlan a0, VA.k kDisk a1] [VA.own 9 kstr r.1, VA.k (kint .i64) r.2] := by
  unfold smithyref13_Would.f at H
  refine con_enter Try.func21 rfl rfl rfl (fun w0 S0 θ => ?_)
  refine goes_seq ?_
  refine goes_region ?_
  refine go3 (op_box 2 rfl (fun h => by first | rfl | cases h) (.t (has rfl))) rfl ?_
  refine go3 (op_box 3 rfl (fun h => by first | rfl | cases h) (.t (has rfl))) rfl ?_
  refine go1 (op_assign_nil 9 kstr (.inr rfl) rfl) rfl ?_
  refine go1 (op_assign rfl (.int _ _)) rfl ?_
  refine goesO_nil ?_
  refine ends_then ?_
  refine goes_seq ?_
  refine goes_region ?_
  refine go1 (op_load rfl (Fld.whole kPlan) tk57 (.t (has rfl)) (has rfl)) rfl ?_
  obtain ⟨v1, h2, H⟩ := bind_some H
  refine go1 (op_call' rfl enters36 (smithyref12_Check.con _ _ _ h2) rfl (.cons (ArgP.k (.t (has rfl))) .nil)) rfl ?_
  refine go1 (op_assign rfl (.t (has rfl))) rfl ?_
  refine goesO_nil ?_
  refine ends_then ?_
  refine goes_seq ?_
  refine goes_seq ?_
  refine goes_region ?_
  refine go1 (op_move rfl (.t (has rfl))) rfl ?_
  refine go1 (op_icmp rfl rfl (.t (has rfl)) (.int _ _)) rfl ?_
  refine goesO_nil ?_
  refine ends_then ?_
  obtain ⟨s3, h4, H⟩ := bind_some H
  refine goes_cut [Ent.t 2 (VA.ptr 2 0), Ent.t 3 (VA.ptr 3 0), Ent.t 6 (VA.k (kint .i64) s3), Ent.h 2 (HE.box 57 kPlan a0), Ent.h 3 (HE.box 27 kDisk a1)] ?_ ?_
  · replace H := h4; clear h4
    refine goes_if (.t (has rfl)) H (fun hb5 H => ?_) (fun hb5 H => ?_)
    · skip
      refine goes_region ?_
      refine go1 (op_load rfl (Fld.whole kDisk) tk27 (.t (has rfl)) (has rfl)) rfl ?_
      obtain ⟨v6, h7, H⟩ := bind_some H
      refine go1 (op_call' rfl enters37 (smithyref02_Check.con _ _ _ h7) rfl (.cons (ArgP.k (.t (has rfl))) .nil)) rfl ?_
      refine go1 (op_assign rfl (.t (has rfl))) rfl ?_
      refine goesO_nil ?_
      obtain rfl := Option.some.inj H
      exact ends_cut (.cons rfl (.cons rfl (.cons rfl (.cons rfl (.cons rfl .nil)))))
    · skip
      refine goes_skip ?_
      obtain rfl := Option.some.inj H
      exact ends_cut (.cons rfl (.cons rfl (.cons rfl (.cons rfl (.cons rfl .nil)))))
  refine ends_then ?_
  refine goes_seq ?_
  refine goes_seq ?_
  refine goes_region ?_
  refine go1 (op_move rfl (.t (has rfl))) rfl ?_
  refine go1 (op_icmp rfl rfl (.t (has rfl)) (.int _ _)) rfl ?_
  refine goesO_nil ?_
  refine ends_then ?_
  refine goes_if (.t (has rfl)) H (fun hb8 H => ?_) (fun hb8 H => ?_)
  · skip
    refine goes_seq ?_
    refine goes_region ?_
    refine go1 (op_move rfl (.t (has rfl))) rfl ?_
    refine go1 (op_assign_nil 9 kstr (.inr rfl) rfl) rfl ?_
    refine go1 (op_assign rfl (.t (has rfl))) rfl ?_
    refine goesO_nil ?_
    refine ends_then ?_
    obtain rfl := Option.some.inj H
    exact goes_ret (ends_then_ret (ends_ret' rfl rfl (.t rfl (.t rfl (.nil _)))))
  · skip
    refine goes_skip ?_
    refine ends_then ?_
    refine goes_seq ?_
    refine goes_region ?_
    refine go1 (op_assign_nil 9 kstr (.inr rfl) rfl) rfl ?_
    refine go1 (op_assign_nil 9 kstr (.inr rfl) rfl) rfl ?_
    refine goesO_nil ?_
    refine ends_then ?_
    refine goes_seq ?_
    refine goes_seq ?_
    refine goes_region ?_
    refine go1 (op_fieldAddr rfl Try.underlying57 rfl tk55 (.t (has rfl))) rfl ?_
    refine go1 (op_load rfl fldPlan_Nodes tk55 (.t (has rfl)) (has rfl)) rfl ?_
    refine go1 (op_len rfl rfl Try.underlying55 (.t (has rfl))) rfl ?_
    refine go1 (op_move rfl (.int _ _)) rfl ?_
    refine goesO_nil ?_
    refine ends_then ?_
    obtain ⟨s10, h11, H⟩ := bind_some H
    refine goes_cut [Ent.t 2 (VA.ptr 2 0), Ent.t 3 (VA.ptr 3 0), Ent.t 7 (VA.own 9 kstr s10), Ent.t 8 (VA.own 9 kstr ([] : List ByteArray)), Ent.h 2 (HE.box 57 kPlan a0), Ent.h 3 (HE.box 27 kDisk a1)] ?_ ?_
    · replace H := h11; clear h11
      refine goes_block ?_
      refine goes_loop (fun s9 : (List ByteArray) × Int => [Ent.t 2 (VA.ptr 2 0), Ent.t 3 (VA.ptr 3 0), Ent.t 7 (VA.own 9 kstr s9.1), Ent.t 8 (VA.own 9 kstr ([] : List ByteArray)), Ent.t 24 (VA.k (kslice kNode) a0.Nodes), Ent.t 25 (VA.k (kint .i64) (a0.Nodes.length : Int)), Ent.t 26 (VA.k (kint .i64) s9.2), Ent.h 2 (HE.box 57 kPlan a0), Ent.h 3 (HE.box 27 kDisk a1)]) (fun k s9 => smithyref13_Would.l0 a0 k s9) (fun _ => rfl) H (.cons rfl (.cons rfl (.cons rfl (.cons rfl (.cons rfl (.cons rfl (.cons rfl (.cons rfl (.cons rfl .nil))))))))) ?_
      intro k s9 H
      simp only [smithyref13_Would.l0] at H
      refine goes_seq ?_
      refine goes_region ?_
      refine go1 (op_icmp rfl rfl (.t (has rfl)) (.t (has rfl))) rfl ?_
      refine goesO_nil ?_
      refine ends_then ?_
      refine goes_seq ?_
      refine goes_if (.t (has rfl)) H (fun hb12 H => ?_) (fun hb12 H => ?_)
      · skip
        refine goes_skip ?_
        refine ends_then ?_
        refine goes_seq ?_
        obtain ⟨s13, h14, H⟩ := bind_some H
        refine goes_cut [Ent.t 2 (VA.ptr 2 0), Ent.t 3 (VA.ptr 3 0), Ent.t 7 (VA.own 9 kstr s13), Ent.t 8 (VA.own 9 kstr ([] : List ByteArray)), Ent.t 24 (VA.k (kslice kNode) a0.Nodes), Ent.t 25 (VA.k (kint .i64) (a0.Nodes.length : Int)), Ent.t 26 (VA.k (kint .i64) s9.2), Ent.h 2 (HE.box 57 kPlan a0), Ent.h 3 (HE.box 27 kDisk a1)] ?_ ?_
        · replace H := h14; clear h14
          refine goes_block ?_
          refine goes_seq ?_
          refine goes_region ?_
          obtain ⟨x15, h16, H⟩ := bind_some H
          refine go1 (op_indexAddr rfl Try.underlying55 tk24 h16 (.t (has rfl)) (.t (has rfl))) rfl ?_
          refine go1 (op_loadp rfl tk24 (.t (has rfl))) rfl ?_
          refine go3 (op_alloc 10 rfl zk24) rfl ?_
          refine go1 (op_store (Fld.whole kNode) tk24 (.t (has rfl)) (has rfl) (.t (has rfl))) rfl ?_
          refine goesO_nil ?_
          refine ends_then ?_
          refine goes_seq ?_
          refine goes_region ?_
          refine go1 (op_fieldAddr rfl Try.underlying24 rfl tk4 (.t (has rfl))) rfl ?_
          refine go1 (op_load rfl fldNode_Phony tk4 (.t (has rfl)) (has rfl)) rfl ?_
          refine goesO_nil ?_
          refine ends_then ?_
          refine goes_if (.t (has rfl)) H (fun hb17 H => ?_) (fun hb17 H => ?_)
          · skip
            refine goes_region ?_
            refine go2 (op_mv (.inl rfl) rfl rfl (has rfl)) rfl ?_
            refine go1 (op_fieldAddr rfl Try.underlying24 rfl tk9 (.t (has rfl))) rfl ?_
            refine go1 (op_load rfl fldNode_Target tk9 (.t (has rfl)) (has rfl)) rfl ?_
            refine go1 (op_buildSlice rfl at22 (fun h => by first | rfl | cases h) rfl rfl rfl (.cons (.t (has rfl)) (.nil _))) rfl ?_
            obtain ⟨x18, h19, H⟩ := bind_some H
            refine go2 (op_append rfl rfl at22 h19 (has rfl) (ReadsArg.own (.t (has rfl)))) rfl ?_
            refine go2 (op_mv (.inr rfl) rfl rfl (has rfl)) rfl ?_
            refine goesO_nil ?_
            refine ends_block ?_
            obtain rfl := Option.some.inj H
            exact ends_cut (.cons rfl (.cons rfl (.cons rfl (.cons rfl (.cons rfl (.cons rfl (.cons rfl (.cons rfl (.cons rfl .nil)))))))))
          · skip
            refine goes_skip ?_
            refine ends_block ?_
            obtain rfl := Option.some.inj H
            exact ends_cut (.cons rfl (.cons rfl (.cons rfl (.cons rfl (.cons rfl (.cons rfl (.cons rfl (.cons rfl (.cons rfl .nil)))))))))
        refine ends_then ?_
        refine goes_region ?_
        refine go1 (op_add rfl (.t (has rfl)) (.int _ _)) rfl ?_
        refine go1 (op_move rfl (.t (has rfl))) rfl ?_
        refine goesO_nil ?_
        exact loop_next _ H (.cons rfl (.cons rfl (.cons rfl (.cons rfl (.cons rfl (.cons rfl (.cons rfl (.cons rfl (.cons rfl .nil)))))))))
      · skip
        refine goes_exit (ends_then_exit (ends_then_exit (ends_block_exit ?_)))
        obtain rfl := Option.some.inj H
        exact ends_cut (.cons rfl (.cons rfl (.cons rfl (.cons rfl (.cons rfl (.cons rfl .nil))))))
    refine ends_then ?_
    refine goes_seq ?_
    refine goes_seq ?_
    refine goes_region ?_
    refine go1 (op_fieldAddr rfl Try.underlying57 rfl tk55 (.t (has rfl))) rfl ?_
    refine go1 (op_load rfl fldPlan_Nodes tk55 (.t (has rfl)) (has rfl)) rfl ?_
    refine go1 (op_len rfl rfl Try.underlying55 (.t (has rfl))) rfl ?_
    refine go1 (op_move rfl (.int _ _)) rfl ?_
    refine goesO_nil ?_
    refine ends_then ?_
    obtain ⟨s21, h22, H⟩ := bind_some H
    refine goes_cut [Ent.t 8 (VA.own 9 kstr s21)] ?_ ?_
    · replace H := h22; clear h22
      refine goes_block ?_
      refine goes_loop (fun s20 : (List ByteArray) × Int => [Ent.t 3 (VA.ptr 3 0), Ent.t 7 (VA.own 9 kstr s10), Ent.t 8 (VA.own 9 kstr s20.1), Ent.t 39 (VA.k (kslice kNode) a0.Nodes), Ent.t 40 (VA.k (kint .i64) (a0.Nodes.length : Int)), Ent.t 41 (VA.k (kint .i64) s20.2), Ent.h 3 (HE.box 27 kDisk a1)]) (fun k s20 => smithyref13_Would.l1 a0 a1 s10 k s20) (fun _ => rfl) H (.cons rfl (.cons rfl (.cons rfl (.cons rfl (.cons rfl (.cons rfl (.cons rfl .nil))))))) ?_
      intro k s20 H
      simp only [smithyref13_Would.l1] at H
      refine goes_seq ?_
      refine goes_region ?_
      refine go1 (op_icmp rfl rfl (.t (has rfl)) (.t (has rfl))) rfl ?_
      refine goesO_nil ?_
      refine ends_then ?_
      refine goes_seq ?_
      refine goes_if (.t (has rfl)) H (fun hb23 H => ?_) (fun hb23 H => ?_)
      · skip
        refine goes_skip ?_
        refine ends_then ?_
        refine goes_seq ?_
        obtain ⟨s24, h25, H⟩ := bind_some H
        refine goes_cut [Ent.t 3 (VA.ptr 3 0), Ent.t 7 (VA.own 9 kstr s10), Ent.t 8 (VA.own 9 kstr s24), Ent.t 39 (VA.k (kslice kNode) a0.Nodes), Ent.t 40 (VA.k (kint .i64) (a0.Nodes.length : Int)), Ent.t 41 (VA.k (kint .i64) s20.2), Ent.h 3 (HE.box 27 kDisk a1)] ?_ ?_
        · replace H := h25; clear h25
          refine goes_block ?_
          refine goes_seq ?_
          refine goes_region ?_
          obtain ⟨x26, h27, H⟩ := bind_some H
          refine go1 (op_indexAddr rfl Try.underlying55 tk24 h27 (.t (has rfl)) (.t (has rfl))) rfl ?_
          refine go1 (op_loadp rfl tk24 (.t (has rfl))) rfl ?_
          refine go3 (op_alloc 12 rfl zk24) rfl ?_
          refine go1 (op_store (Fld.whole kNode) tk24 (.t (has rfl)) (has rfl) (.t (has rfl))) rfl ?_
          refine goesO_nil ?_
          refine ends_then ?_
          refine goes_seq ?_
          refine goes_region ?_
          refine go1 (op_assign_nil 9 kstr (.inr rfl) rfl) rfl ?_
          refine goesO_nil ?_
          refine ends_then ?_
          refine goes_seq ?_
          refine goes_region ?_
          refine go2 (op_mv (.inl rfl) rfl rfl (has rfl)) rfl ?_
          refine go1 (op_same (.inl rfl) rfl rfl) rfl ?_
          obtain ⟨x28, h29, H⟩ := bind_some H
          refine go2 (op_append rfl rfl at22 h29 (has rfl) (ReadsArg.own (.same (has rfl) (has rfl)))) rfl ?_
          refine go2 (op_mv (.inr rfl) rfl rfl (has rfl)) rfl ?_
          refine goesO_nil ?_
          refine ends_then ?_
          refine goes_seq ?_
          refine goes_region ?_
          refine go2 (op_mv (.inl rfl) rfl rfl (has rfl)) rfl ?_
          refine go1 (op_same (.inl rfl) rfl rfl) rfl ?_
          obtain ⟨x30, h31, H⟩ := bind_some H
          refine go2 (op_append rfl rfl at22 h31 (has rfl) (ReadsArg.own (.same (has rfl) (has rfl)))) rfl ?_
          refine go2 (op_mv (.inr rfl) rfl rfl (has rfl)) rfl ?_
          refine goesO_nil ?_
          refine ends_then ?_
          refine goes_seq ?_
          obtain ⟨s32, h33, H⟩ := bind_some H
          refine goes_cut [Ent.t 3 (VA.ptr 3 0), Ent.t 7 (VA.own 9 kstr s10), Ent.t 8 (VA.own 9 kstr s20.1), Ent.t 12 (VA.ptr 12 0), Ent.t 39 (VA.k (kslice kNode) a0.Nodes), Ent.t 40 (VA.k (kint .i64) (a0.Nodes.length : Int)), Ent.t 41 (VA.k (kint .i64) s20.2), Ent.t 64 (VA.k kbool s32), Ent.h 3 (HE.box 27 kDisk a1), Ent.h 12 (HE.box 24 kNode x26)] ?_ ?_
          · replace H := h33; clear h33
            refine goes_region ?_
            refine go1 (op_fieldAddr rfl Try.underlying24 rfl tk4 (.t (has rfl))) rfl ?_
            refine go1 (op_load rfl fldNode_Has tk4 (.t (has rfl)) (has rfl)) rfl ?_
            refine go1 (op_move rfl (.t (has rfl))) rfl ?_
            refine goesO_split H (fun hb34 H => ?_) (fun hb34 H => ?_)
            · skip
              refine goG (op_fieldAddr rfl Try.underlying24 rfl tk22 (.t (has rfl))) rfl rfl rfl rfl hb34 ?_
              refine goG (op_load rfl fldNode_Recipe tk22 (.t (has rfl)) (has rfl)) rfl rfl rfl rfl hb34 ?_
              refine goG (op_len rfl rfl Try.underlying22 (.t (has rfl))) rfl rfl rfl rfl hb34 ?_
              refine goG (op_icmp rfl rfl (.t (has rfl)) (.int _ _)) rfl rfl rfl rfl hb34 ?_
              refine go1 (op_pick_t rfl hb34 (.t (has rfl)) (.t (has rfl))) rfl ?_
              refine go1 (op_move rfl (.t (has rfl))) rfl ?_
              refine goesO_split H (fun hb35 H => ?_) (fun hb35 H => ?_)
              · skip
                refine goG (op_load rfl (Fld.whole kNode) tk24 (.t (has rfl)) (has rfl)) rfl rfl rfl rfl hb35 ?_
                refine goG (op_load rfl (Fld.whole kDisk) tk27 (.t (has rfl)) (has rfl)) rfl rfl rfl rfl hb35 ?_
                refine goG (op_same (.inl rfl) rfl rfl) rfl rfl rfl rfl hb35 ?_
                obtain ⟨v36, h37, H⟩ := bind_some H
                refine goG (op_callF' rfl enters26 (smithyref13_Stale.conF _ _ _ _ _ h37) rfl (.cons (ArgB.k (.t (has rfl))) (.cons (ArgB.k (.t (has rfl))) (.cons (ArgB.owns rfl (has rfl) (has rfl)) .nil)))) rfl rfl rfl rfl hb35 ?_
                refine go1 (op_pick_t rfl hb35 (.t (has rfl)) (.t (has rfl))) rfl ?_
                refine goesO_nil ?_
                obtain rfl := Option.some.inj H
                exact ends_cut (.cons rfl (.cons rfl (.cons rfl (.cons rfl (.cons rfl (.cons rfl (.cons rfl (.cons rfl (.cons rfl (.cons rfl .nil))))))))))
              · skip
                refine goS rfl rfl rfl rfl rfl rfl hb35 ?_
                refine goS rfl rfl rfl rfl rfl rfl hb35 ?_
                refine goS rfl rfl rfl rfl rfl rfl hb35 ?_
                refine goS rfl rfl rfl rfl rfl rfl hb35 ?_
                refine go1 (op_pick_f rfl hb35 (.t (has rfl)) (.bool _)) rfl ?_
                refine goesO_nil ?_
                obtain rfl := Option.some.inj H
                exact ends_cut (.cons rfl (.cons rfl (.cons rfl (.cons rfl (.cons rfl (.cons rfl (.cons rfl (.cons rfl (.cons rfl (.cons rfl .nil))))))))))
            · skip
              refine goS rfl rfl rfl rfl rfl rfl hb34 ?_
              refine goS rfl rfl rfl rfl rfl rfl hb34 ?_
              refine goS rfl rfl rfl rfl rfl rfl hb34 ?_
              refine goS rfl rfl rfl rfl rfl rfl hb34 ?_
              refine go1 (op_pick_f rfl hb34 (.t (has rfl)) (.bool _)) rfl ?_
              refine go1 (op_move rfl (.t (has rfl))) rfl ?_
              refine goS rfl rfl rfl rfl rfl rfl rfl ?_
              refine goS rfl rfl rfl rfl rfl rfl rfl ?_
              refine goS rfl rfl rfl rfl rfl rfl rfl ?_
              refine goS rfl rfl rfl rfl rfl rfl rfl ?_
              refine go1 (op_pick_f rfl rfl (.t (has rfl)) (.bool _)) rfl ?_
              refine goesO_nil ?_
              obtain rfl := Option.some.inj H
              exact ends_cut (.cons rfl (.cons rfl (.cons rfl (.cons rfl (.cons rfl (.cons rfl (.cons rfl (.cons rfl (.cons rfl (.cons rfl .nil))))))))))
          refine ends_then ?_
          refine goes_if (.t (has rfl)) H (fun hb38 H => ?_) (fun hb38 H => ?_)
          · skip
            refine goes_region ?_
            refine go2 (op_mv (.inl rfl) rfl rfl (has rfl)) rfl ?_
            refine go1 (op_fieldAddr rfl Try.underlying24 rfl tk9 (.t (has rfl))) rfl ?_
            refine go1 (op_load rfl fldNode_Target tk9 (.t (has rfl)) (has rfl)) rfl ?_
            refine go1 (op_buildSlice rfl at22 (fun h => by first | rfl | cases h) rfl rfl rfl (.cons (.t (has rfl)) (.nil _))) rfl ?_
            obtain ⟨x39, h40, H⟩ := bind_some H
            refine go2 (op_append rfl rfl at22 h40 (has rfl) (ReadsArg.own (.t (has rfl)))) rfl ?_
            refine go2 (op_mv (.inr rfl) rfl rfl (has rfl)) rfl ?_
            refine goesO_nil ?_
            refine ends_block ?_
            obtain rfl := Option.some.inj H
            exact ends_cut (.cons rfl (.cons rfl (.cons rfl (.cons rfl (.cons rfl (.cons rfl (.cons rfl .nil)))))))
          · skip
            refine goes_skip ?_
            refine ends_block ?_
            obtain rfl := Option.some.inj H
            exact ends_cut (.cons rfl (.cons rfl (.cons rfl (.cons rfl (.cons rfl (.cons rfl (.cons rfl .nil)))))))
        refine ends_then ?_
        refine goes_region ?_
        refine go1 (op_add rfl (.t (has rfl)) (.int _ _)) rfl ?_
        refine go1 (op_move rfl (.t (has rfl))) rfl ?_
        refine goesO_nil ?_
        exact loop_next _ H (.cons rfl (.cons rfl (.cons rfl (.cons rfl (.cons rfl (.cons rfl (.cons rfl .nil)))))))
      · skip
        refine goes_exit (ends_then_exit (ends_then_exit (ends_block_exit ?_)))
        obtain rfl := Option.some.inj H
        exact ends_cut (.cons rfl .nil)
    refine ends_then ?_
    refine goes_seq ?_
    refine goes_region ?_
    refine go2 (op_mv (.inl rfl) rfl rfl (has rfl)) rfl ?_
    refine go2 (op_mv (.inr rfl) rfl rfl (has rfl)) rfl ?_
    refine go1 (op_assign rfl (.int _ _)) rfl ?_
    refine goesO_nil ?_
    refine ends_then ?_
    obtain rfl := Option.some.inj H
    exact goes_ret (ends_ret' rfl rfl (.t rfl (.t rfl (.nil _))))
theorem smithyref13_Would.conF (k : Nat) (a0 : Plan) (a1 : Disk) (r : (List ByteArray) × Int) (H : smithyref13_Would.f k a0 a1 = some r) : ConF Try.prog 21 [VA.k kPlan a0, VA.k kDisk a1] [VA.own 9 kstr r.1, VA.k (kint .i64) r.2] := (smithyref13_Would.con k a0 a1 r H).freeL (.cons (KFree.own KFree.str _ _) (.cons (KFree.k (KFree.int .i64) _) .nil))
/-! smithy/smithylaw13.StaleWoulds -/
def smithylaw13_StaleWoulds.f (k : Nat) (a0 : Plan) (a1 : Disk) : Option Bool := (stale_Would.f k a0 a1).bind fun v1 => (smithyref13_Would.f k a0 a1).bind fun v3 => ((smithyplain_Texts.f k v1.1 v3.1).bind fun v7 => bif v7 then (bif icmp .eql v1.2 v3.2 then ((smithylaw13_small.f k).bind fun v11 => some v11) else (some false)) else (some false)).bind fun s5 => some s5
set_option maxRecDepth 100000 in
set_option maxHeartbeats 4000000 in
theorem smithylaw13_StaleWoulds.con (k : Nat) (a0 : Plan) (a1 : Disk) (r : Bool) (H : smithylaw13_StaleWoulds.f k a0 a1 = some r) : Con Try.prog 6 [VA.k kPlan a0, VA.k kDisk a1] [VA.k kbool r] := by
  unfold smithylaw13_StaleWoulds.f at H
  refine con_enter Try.func6 rfl rfl rfl (fun w0 S0 θ => ?_)
  refine goes_seq ?_
  refine goes_region ?_
  refine go3 (op_box 2 rfl (fun h => by first | rfl | cases h) (.t (has rfl))) rfl ?_
  refine go3 (op_box 3 rfl (fun h => by first | rfl | cases h) (.t (has rfl))) rfl ?_
  refine go1 (op_assign rfl (.bool _)) rfl ?_
  refine goesO_nil ?_
  refine ends_then ?_
  refine goes_seq ?_
  refine goes_region ?_
  refine go1 (op_load rfl (Fld.whole kPlan) tk57 (.t (has rfl)) (has rfl)) rfl ?_
  refine go1 (op_load rfl (Fld.whole kDisk) tk27 (.t (has rfl)) (has rfl)) rfl ?_
  obtain ⟨v1, h2, H⟩ := bind_some H
  refine goN (op_calls' rfl enters20 (stale_Would.con _ _ _ _ h2) rfl rfl (.cons (ArgP.k (.t (has rfl))) (.cons (ArgP.k (.t (has rfl))) .nil))) rfl ?_
  refine go1 (op_same (.inl rfl) rfl rfl) rfl ?_
  refine go2 (op_extract_own_same rfl rfl rfl (has rfl) (has rfl)) rfl ?_
  refine go1 (op_extract_same rfl plain_k (has rfl) (has rfl)) rfl ?_
  refine go2 (op_mv (.inr rfl) rfl rfl (has rfl)) rfl ?_
  refine go1 (op_assign rfl (.t (has rfl))) rfl ?_
  refine goesO_nil ?_
  refine ends_then ?_
  refine goes_seq ?_
  refine goes_region ?_
  refine go1 (op_load rfl (Fld.whole kPlan) tk57 (.t (has rfl)) (has rfl)) rfl ?_
  refine go1 (op_load rfl (Fld.whole kDisk) tk27 (.t (has rfl)) (has rfl)) rfl ?_
  obtain ⟨v3, h4, H⟩ := bind_some H
  refine goN (op_calls' rfl enters21 (smithyref13_Would.con _ _ _ _ h4) rfl rfl (.cons (ArgP.k (.t (has rfl))) (.cons (ArgP.k (.t (has rfl))) .nil))) rfl ?_
  refine go1 (op_same (.inl rfl) rfl rfl) rfl ?_
  refine go2 (op_extract_own_same rfl rfl rfl (has rfl) (has rfl)) rfl ?_
  refine go1 (op_extract_same rfl plain_k (has rfl) (has rfl)) rfl ?_
  refine go2 (op_mv (.inr rfl) rfl rfl (has rfl)) rfl ?_
  refine go1 (op_assign rfl (.t (has rfl))) rfl ?_
  refine goesO_nil ?_
  refine ends_then ?_
  refine goes_seq ?_
  obtain ⟨s5, h6, H⟩ := bind_some H
  refine goes_cut [Ent.t 4 (VA.k kbool s5)] ?_ ?_
  · replace H := h6; clear h6
    refine goes_region ?_
    refine goesO_settle 5 rfl rfl ?_
    refine go1 (op_move rfl (.t (has rfl))) rfl ?_
    refine goesO_settle 7 rfl rfl ?_
    refine go1 (op_move rfl (.t (has rfl))) rfl ?_
    obtain ⟨v7, h8, H⟩ := bind_some H
    refine go1 (op_call' rfl enters14 (smithyplain_Texts.con _ _ _ _ h8) rfl (.cons (ArgP.k (.t (has rfl))) (.cons (ArgP.k (.t (has rfl))) .nil))) rfl ?_
    refine go1 (op_move rfl (.t (has rfl))) rfl ?_
    refine goesO_split H (fun hb9 H => ?_) (fun hb9 H => ?_)
    · skip
      refine goG (op_move rfl (.t (has rfl))) rfl rfl rfl rfl hb9 ?_
      refine goG (op_move rfl (.t (has rfl))) rfl rfl rfl rfl hb9 ?_
      refine goG (op_icmp rfl rfl (.t (has rfl)) (.t (has rfl))) rfl rfl rfl rfl hb9 ?_
      refine go1 (op_pick_t rfl hb9 (.t (has rfl)) (.t (has rfl))) rfl ?_
      refine go1 (op_move rfl (.t (has rfl))) rfl ?_
      refine goesO_split H (fun hb10 H => ?_) (fun hb10 H => ?_)
      · skip
        obtain ⟨v11, h12, H⟩ := bind_some H
        refine goG (op_call' rfl enters15 (smithylaw13_small.con _  _ h12) rfl .nil) rfl rfl rfl rfl hb10 ?_
        refine go1 (op_pick_t rfl hb10 (.t (has rfl)) (.t (has rfl))) rfl ?_
        refine go1 (op_assign rfl (.t (has rfl))) rfl ?_
        refine goesO_nil ?_
        obtain rfl := Option.some.inj H
        exact ends_cut (.cons rfl .nil)
      · skip
        refine goS rfl rfl rfl rfl rfl rfl hb10 ?_
        refine go1 (op_pick_f rfl hb10 (.t (has rfl)) (.bool _)) rfl ?_
        refine go1 (op_assign rfl (.t (has rfl))) rfl ?_
        refine goesO_nil ?_
        obtain rfl := Option.some.inj H
        exact ends_cut (.cons rfl .nil)
    · skip
      refine goS rfl rfl rfl rfl rfl rfl hb9 ?_
      refine goS rfl rfl rfl rfl rfl rfl hb9 ?_
      refine goS rfl rfl rfl rfl rfl rfl hb9 ?_
      refine go1 (op_pick_f rfl hb9 (.t (has rfl)) (.bool _)) rfl ?_
      refine go1 (op_move rfl (.t (has rfl))) rfl ?_
      refine goS rfl rfl rfl rfl rfl rfl rfl ?_
      refine go1 (op_pick_f rfl rfl (.t (has rfl)) (.bool _)) rfl ?_
      refine go1 (op_assign rfl (.t (has rfl))) rfl ?_
      refine goesO_nil ?_
      obtain rfl := Option.some.inj H
      exact ends_cut (.cons rfl .nil)
  refine ends_then ?_
  obtain rfl := Option.some.inj H
  exact goes_ret (ends_ret' rfl rfl (.t rfl (.nil _)))
theorem smithylaw13_StaleWoulds.conF (k : Nat) (a0 : Plan) (a1 : Disk) (r : Bool) (H : smithylaw13_StaleWoulds.f k a0 a1 = some r) : ConF Try.prog 6 [VA.k kPlan a0, VA.k kDisk a1] [VA.k kbool r] := (smithylaw13_StaleWoulds.con k a0 a1 r H).freeL (.cons (KFree.k KFree.bool _) .nil)
end Go.Proofs.Ytoemgemfgaooeaa.F
