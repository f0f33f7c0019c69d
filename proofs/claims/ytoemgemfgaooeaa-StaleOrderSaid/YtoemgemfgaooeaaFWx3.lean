import Derived.Test.YtoemgemfgaooeaaFWx2
set_option linter.unusedVariables false
set_option linter.unusedSimpArgs false
set_option linter.unnecessarySimpa false
set_option linter.deprecated false
namespace Go.Proofs.Ytoemgemfgaooeaa.F
open Go Go.RowKit Go.Proofs.Ytoemgemfgaooeaa.Sl
/-! smithy/smithyref12.Check -/
def smithyref12_Check.l1 (s6 : (List ByteArray) × Int) (x11 : Node) : Nat → Int → Option (Except Int Unit)
  | 0, _ => none
  | k + 1, s21 => bif icmp .lss s21 (x11.Needs.length : Int) then ((idx x11.Needs s21).bind fun x26 => (smithyref03_Has.f k s6.1 x26).bind fun v28 => bif !v28 then (some (Except.error (7 : Int))) else (smithyref12_Check.l1 s6 x11 k (IntKind.i64.wrap (s21 + (1 : Int))))) else (some (Except.ok ()))
def smithyref12_Check.l0 (a0 : Plan) : Nat → ((List ByteArray) × Int) → Option (Except Int (List ByteArray))
  | 0, _ => none
  | k + 1, s6 => bif icmp .lss s6.2 (a0.Nodes.length : Int) then ((idx a0.Nodes s6.2).bind fun x11 => ((smithyref12_Node.f k x11).bind fun v15 => bif icmp .neq v15 (0 : Int) then (some true) else ((smithyref03_Has.f k s6.1 x11.Target).bind fun v18 => some v18)).bind fun s13 => bif s13 then (some (Except.error (7 : Int))) else ((smithyref12_Check.l1 s6 x11 k (0 : Int)).bind fun o24 => match o24 with | .error r' => some (Except.error r') | .ok s22 => ((app 16 s6.1 ([x11.Target])).bind fun x31 => smithyref12_Check.l0 a0 k (x31, IntKind.i64.wrap (s6.2 + (1 : Int)))))) else (some (Except.ok s6.1))
def smithyref12_Check.l2 (a0 : Plan) (s7 : (List ByteArray)) : Nat → Int → Option (Except Int Unit)
  | 0, _ => none
  | k + 1, s33 => bif icmp .lss s33 (a0.Goals.length : Int) then (((idx a0.Goals s33).bind fun x40 => (smithyref03_Has.f k s7 x40).bind fun v42 => bif !v42 then (some true) else ((sub a0.Goals (0 : Int) s33).bind fun x45 => (idx a0.Goals s33).bind fun x47 => (smithyref03_Has.f k x45 x47).bind fun v49 => some v49)).bind fun s38 => bif s38 then (some (Except.error (7 : Int))) else (smithyref12_Check.l2 a0 s7 k (IntKind.i64.wrap (s33 + (1 : Int))))) else (some (Except.ok ()))
def smithyref12_Check.f (k : Nat) (a0 : Plan) : Option Int := (bif icmp .gtr (a0.Nodes.length : Int) (256 : Int) then (some true) else (bif icmp .lss (a0.Goals.length : Int) (1 : Int) then (some true) else (some (icmp .gtr (a0.Goals.length : Int) (512 : Int))))).bind fun s1 => bif s1 then (some (7 : Int)) else ((smithyref12_Check.l0 a0 k (([] : List ByteArray), (0 : Int))).bind fun o9 => match o9 with | .error r' => some r' | .ok s7 => ((smithyref12_Check.l2 a0 s7 k (0 : Int)).bind fun o36 => match o36 with | .error r' => some r' | .ok s34 => (some (0 : Int))))
set_option maxRecDepth 100000 in
set_option maxHeartbeats 4000000 in
theorem smithyref12_Check.con (k : Nat) (a0 : Plan) (r : Int) (H : smithyref12_Check.f k a0 = some r) : Con Try.prog 36 [VA.k kPlan a0] [VA.k (kint .i64) r] := by
  unfold smithyref12_Check.f at H
  refine con_enter Try.func36 rfl rfl rfl (fun w0 S0 θ => ?_)
  refine goes_seq ?_
  refine goes_region ?_
  refine go3 (op_box 1 rfl (fun h => by first | rfl | cases h) (.t (has rfl))) rfl ?_
  refine go1 (op_assign rfl (.int _ _)) rfl ?_
  refine goesO_nil ?_
  refine ends_then ?_
  refine goes_seq ?_
  refine goes_seq ?_
  obtain ⟨s1, h2, H⟩ := bind_some H
  refine goes_cut [Ent.t 1 (VA.ptr 1 0), Ent.t 23 (VA.k kbool s1), Ent.h 1 (HE.box 57 kPlan a0)] ?_ ?_
  · replace H := h2; clear h2
    refine goes_region ?_
    refine go1 (op_fieldAddr rfl Try.underlying57 rfl tk55 (.t (has rfl))) rfl ?_
    refine go1 (op_load rfl fldPlan_Nodes tk55 (.t (has rfl)) (has rfl)) rfl ?_
    refine go1 (op_len rfl rfl Try.underlying55 (.t (has rfl))) rfl ?_
    refine go1 (op_icmp rfl rfl (.t (has rfl)) (.int _ _)) rfl ?_
    refine go1 (op_move rfl (.t (has rfl))) rfl ?_
    refine goesO_split H (fun hb3 H => ?_) (fun hb3 H => ?_)
    · skip
      refine goS rfl rfl rfl rfl rfl rfl hb3 ?_
      refine goS rfl rfl rfl rfl rfl rfl hb3 ?_
      refine goS rfl rfl rfl rfl rfl rfl hb3 ?_
      refine goS rfl rfl rfl rfl rfl rfl hb3 ?_
      refine go1 (op_pick_t rfl hb3 (.t (has rfl)) (.bool _)) rfl ?_
      refine go1 (op_move rfl (.t (has rfl))) rfl ?_
      refine goS rfl rfl rfl rfl rfl rfl rfl ?_
      refine goS rfl rfl rfl rfl rfl rfl rfl ?_
      refine goS rfl rfl rfl rfl rfl rfl rfl ?_
      refine goS rfl rfl rfl rfl rfl rfl rfl ?_
      refine go1 (op_pick_t rfl rfl (.t (has rfl)) (.bool _)) rfl ?_
      refine goesO_nil ?_
      obtain rfl := Option.some.inj H
      exact ends_cut (.cons rfl (.cons rfl (.cons rfl .nil)))
    · skip
      refine goG (op_fieldAddr rfl Try.underlying57 rfl tk22 (.t (has rfl))) rfl rfl rfl rfl hb3 ?_
      refine goG (op_load rfl fldPlan_Goals tk22 (.t (has rfl)) (has rfl)) rfl rfl rfl rfl hb3 ?_
      refine goG (op_len rfl rfl Try.underlying22 (.t (has rfl))) rfl rfl rfl rfl hb3 ?_
      refine goG (op_icmp rfl rfl (.t (has rfl)) (.int _ _)) rfl rfl rfl rfl hb3 ?_
      refine go1 (op_pick_f rfl hb3 (.t (has rfl)) (.t (has rfl))) rfl ?_
      refine go1 (op_move rfl (.t (has rfl))) rfl ?_
      refine goesO_split H (fun hb4 H => ?_) (fun hb4 H => ?_)
      · skip
        refine goS rfl rfl rfl rfl rfl rfl hb4 ?_
        refine goS rfl rfl rfl rfl rfl rfl hb4 ?_
        refine goS rfl rfl rfl rfl rfl rfl hb4 ?_
        refine goS rfl rfl rfl rfl rfl rfl hb4 ?_
        refine go1 (op_pick_t rfl hb4 (.t (has rfl)) (.bool _)) rfl ?_
        refine goesO_nil ?_
        obtain rfl := Option.some.inj H
        exact ends_cut (.cons rfl (.cons rfl (.cons rfl .nil)))
      · skip
        refine goG (op_fieldAddr rfl Try.underlying57 rfl tk22 (.t (has rfl))) rfl rfl rfl rfl hb4 ?_
        refine goG (op_load rfl fldPlan_Goals tk22 (.t (has rfl)) (has rfl)) rfl rfl rfl rfl hb4 ?_
        refine goG (op_len rfl rfl Try.underlying22 (.t (has rfl))) rfl rfl rfl rfl hb4 ?_
        refine goG (op_icmp rfl rfl (.t (has rfl)) (.int _ _)) rfl rfl rfl rfl hb4 ?_
        refine go1 (op_pick_f rfl hb4 (.t (has rfl)) (.t (has rfl))) rfl ?_
        refine goesO_nil ?_
        obtain rfl := Option.some.inj H
        exact ends_cut (.cons rfl (.cons rfl (.cons rfl .nil)))
  refine ends_then ?_
  refine goes_if (.t (has rfl)) H (fun hb5 H => ?_) (fun hb5 H => ?_)
  · skip
    refine goes_seq ?_
    refine goes_region ?_
    refine go1 (op_assign rfl (.int _ _)) rfl ?_
    refine goesO_nil ?_
    refine ends_then ?_
    obtain rfl := Option.some.inj H
    exact goes_ret (ends_then_ret (ends_ret' rfl rfl (.t rfl (.nil _))))
  · skip
    refine goes_skip ?_
    refine ends_then ?_
    refine goes_seq ?_
    refine goes_region ?_
    refine go1 (op_assign_nil 9 kstr (.inr rfl) rfl) rfl ?_
    refine goesO_nil ?_
    refine ends_then ?_
    refine goes_seq ?_
    refine goes_seq ?_
    refine goes_region ?_
    refine go1 (op_assign rfl (.int _ _)) rfl ?_
    refine goesO_nil ?_
    refine ends_then ?_
    obtain ⟨o9, h8, H⟩ := bind_some H
    refine goes_cutR (o := o9) (fun s7 : (List ByteArray) => [Ent.t 1 (VA.ptr 1 0), Ent.t 3 (VA.own 9 kstr s7), Ent.h 1 (HE.box 57 kPlan a0)]) (fun r a w => bodyPost Try.prog Try.f36 (CPost w0 S0 θ [VA.k (kint .i64) r]) .ret a w) ?_ ?_ ?_
    · replace H := h8; clear h8
      refine goes_block ?_
      refine goes_loop (fun s6 : (List ByteArray) × Int => [Ent.t 1 (VA.ptr 1 0), Ent.t 3 (VA.own 9 kstr s6.1), Ent.t 4 (VA.k (kint .i64) s6.2), Ent.h 1 (HE.box 57 kPlan a0)]) (fun k s6 => smithyref12_Check.l0 a0 k s6) (fun _ => rfl) H (.cons rfl (.cons rfl (.cons rfl (.cons rfl .nil)))) ?_
      intro k s6 H
      simp only [smithyref12_Check.l0] at H
      refine goes_seq ?_
      refine goes_seq ?_
      refine goes_region ?_
      refine go1 (op_move rfl (.t (has rfl))) rfl ?_
      refine go1 (op_fieldAddr rfl Try.underlying57 rfl tk55 (.t (has rfl))) rfl ?_
      refine go1 (op_load rfl fldPlan_Nodes tk55 (.t (has rfl)) (has rfl)) rfl ?_
      refine go1 (op_len rfl rfl Try.underlying55 (.t (has rfl))) rfl ?_
      refine go1 (op_icmp rfl rfl (.t (has rfl)) (.t (has rfl))) rfl ?_
      refine goesO_nil ?_
      refine ends_then ?_
      refine goes_if (.t (has rfl)) H (fun hb10 H => ?_) (fun hb10 H => ?_)
      · skip
        refine goes_skip ?_
        refine ends_then ?_
        refine goes_seq ?_
        refine goes_block ?_
        refine goes_seq ?_
        refine goes_region ?_
        refine go1 (op_fieldAddr rfl Try.underlying57 rfl tk55 (.t (has rfl))) rfl ?_
        refine go1 (op_load rfl fldPlan_Nodes tk55 (.t (has rfl)) (has rfl)) rfl ?_
        refine go1 (op_move rfl (.t (has rfl))) rfl ?_
        obtain ⟨x11, h12, H⟩ := bind_some H
        refine go1 (op_indexAddr rfl Try.underlying55 tk24 h12 (.t (has rfl)) (.t (has rfl))) rfl ?_
        refine go1 (op_loadp rfl tk24 (.t (has rfl))) rfl ?_
        refine go3 (op_alloc 5 rfl zk24) rfl ?_
        refine go1 (op_store (Fld.whole kNode) tk24 (.t (has rfl)) (has rfl) (.t (has rfl))) rfl ?_
        refine goesO_nil ?_
        refine ends_then ?_
        refine goes_seq ?_
        refine goes_seq ?_
        obtain ⟨s13, h14, H⟩ := bind_some H
        refine goes_cut [Ent.t 1 (VA.ptr 1 0), Ent.t 3 (VA.own 9 kstr s6.1), Ent.t 4 (VA.k (kint .i64) s6.2), Ent.t 5 (VA.ptr 5 0), Ent.t 44 (VA.k kbool s13), Ent.h 1 (HE.box 57 kPlan a0), Ent.h 5 (HE.box 24 kNode x11)] ?_ ?_
        · replace H := h14; clear h14
          refine goes_region ?_
          refine go1 (op_load rfl (Fld.whole kNode) tk24 (.t (has rfl)) (has rfl)) rfl ?_
          obtain ⟨v15, h16, H⟩ := bind_some H
          refine go1 (op_call' rfl enters18 (smithyref12_Node.con _ _ _ h16) rfl (.cons (ArgP.k (.t (has rfl))) .nil)) rfl ?_
          refine go1 (op_icmp rfl rfl (.t (has rfl)) (.int _ _)) rfl ?_
          refine go1 (op_move rfl (.t (has rfl))) rfl ?_
          refine goesO_split H (fun hb17 H => ?_) (fun hb17 H => ?_)
          · skip
            refine goS rfl rfl rfl rfl rfl rfl hb17 ?_
            refine goS rfl rfl rfl rfl rfl rfl hb17 ?_
            refine goS rfl rfl rfl rfl rfl rfl hb17 ?_
            refine goS rfl rfl rfl rfl rfl rfl hb17 ?_
            refine go1 (op_pick_t rfl hb17 (.t (has rfl)) (.bool _)) rfl ?_
            refine goesO_nil ?_
            obtain rfl := Option.some.inj H
            exact ends_cut (.cons rfl (.cons rfl (.cons rfl (.cons rfl (.cons rfl (.cons rfl (.cons rfl .nil)))))))
          · skip
            refine goG (op_same (.inl rfl) rfl rfl) rfl rfl rfl rfl hb17 ?_
            refine goG (op_fieldAddr rfl Try.underlying24 rfl tk9 (.t (has rfl))) rfl rfl rfl rfl hb17 ?_
            refine goG (op_load rfl fldNode_Target tk9 (.t (has rfl)) (has rfl)) rfl rfl rfl rfl hb17 ?_
            obtain ⟨v18, h19, H⟩ := bind_some H
            refine goG (op_callF' rfl enters17 (smithyref03_Has.conF _ _ _ _ h19) rfl (.cons (ArgB.owns rfl (has rfl) (has rfl)) (.cons (ArgB.k (.t (has rfl))) .nil))) rfl rfl rfl rfl hb17 ?_
            refine go1 (op_pick_f rfl hb17 (.t (has rfl)) (.t (has rfl))) rfl ?_
            refine goesO_nil ?_
            obtain rfl := Option.some.inj H
            exact ends_cut (.cons rfl (.cons rfl (.cons rfl (.cons rfl (.cons rfl (.cons rfl (.cons rfl .nil)))))))
        refine ends_then ?_
        refine goes_if (.t (has rfl)) H (fun hb20 H => ?_) (fun hb20 H => ?_)
        · skip
          refine goes_seq ?_
          refine goes_region ?_
          refine go1 (op_assign rfl (.int _ _)) rfl ?_
          refine goesO_nil ?_
          refine ends_then ?_
          obtain rfl := Option.some.inj H
          refine goes_ret (ends_then_ret (ends_block_ret (ends_then_ret (ends_then_ret (ends_block_ret (ends_cutR_ret rfl ?_))))))
          exact ends_ret' rfl rfl (.t rfl (.nil _))
        · skip
          refine goes_skip ?_
          refine ends_then ?_
          refine goes_seq ?_
          refine goes_seq ?_
          refine goes_region ?_
          refine go1 (op_assign rfl (.int _ _)) rfl ?_
          refine goesO_nil ?_
          refine ends_then ?_
          obtain ⟨o24, h23, H⟩ := bind_some H
          refine goes_cutR (o := o24) (fun s22 : Unit => [Ent.t 1 (VA.ptr 1 0), Ent.t 3 (VA.own 9 kstr s6.1), Ent.t 4 (VA.k (kint .i64) s6.2), Ent.t 5 (VA.ptr 5 0), Ent.h 1 (HE.box 57 kPlan a0), Ent.h 5 (HE.box 24 kNode x11)]) (fun r a w => bodyPost Try.prog Try.f36 (CPost w0 S0 θ [VA.k (kint .i64) r]) .ret a w) ?_ ?_ ?_
          · replace H := h23; clear h23
            refine goes_block ?_
            refine goes_loop (fun s21 : Int => [Ent.t 1 (VA.ptr 1 0), Ent.t 3 (VA.own 9 kstr s6.1), Ent.t 4 (VA.k (kint .i64) s6.2), Ent.t 5 (VA.ptr 5 0), Ent.t 6 (VA.k (kint .i64) s21), Ent.h 1 (HE.box 57 kPlan a0), Ent.h 5 (HE.box 24 kNode x11)]) (fun k s21 => smithyref12_Check.l1 s6 x11 k s21) (fun _ => rfl) H (.cons rfl (.cons rfl (.cons rfl (.cons rfl (.cons rfl (.cons rfl (.cons rfl .nil))))))) ?_
            intro k s21 H
            simp only [smithyref12_Check.l1] at H
            refine goes_seq ?_
            refine goes_seq ?_
            refine goes_region ?_
            refine go1 (op_move rfl (.t (has rfl))) rfl ?_
            refine go1 (op_fieldAddr rfl Try.underlying24 rfl tk22 (.t (has rfl))) rfl ?_
            refine go1 (op_load rfl fldNode_Needs tk22 (.t (has rfl)) (has rfl)) rfl ?_
            refine go1 (op_len rfl rfl Try.underlying22 (.t (has rfl))) rfl ?_
            refine go1 (op_icmp rfl rfl (.t (has rfl)) (.t (has rfl))) rfl ?_
            refine goesO_nil ?_
            refine ends_then ?_
            refine goes_if (.t (has rfl)) H (fun hb25 H => ?_) (fun hb25 H => ?_)
            · skip
              refine goes_skip ?_
              refine ends_then ?_
              refine goes_seq ?_
              refine goes_block ?_
              refine goes_seq ?_
              refine goes_region ?_
              refine go1 (op_same (.inl rfl) rfl rfl) rfl ?_
              refine go1 (op_fieldAddr rfl Try.underlying24 rfl tk22 (.t (has rfl))) rfl ?_
              refine go1 (op_load rfl fldNode_Needs tk22 (.t (has rfl)) (has rfl)) rfl ?_
              refine go1 (op_move rfl (.t (has rfl))) rfl ?_
              obtain ⟨x26, h27, H⟩ := bind_some H
              refine go1 (op_indexAddr rfl Try.underlying22 tk9 h27 (.t (has rfl)) (.t (has rfl))) rfl ?_
              refine go1 (op_loadp rfl tk9 (.t (has rfl))) rfl ?_
              obtain ⟨v28, h29, H⟩ := bind_some H
              refine go1 (op_callF' rfl enters17 (smithyref03_Has.conF _ _ _ _ h29) rfl (.cons (ArgB.owns rfl (has rfl) (has rfl)) (.cons (ArgB.k (.t (has rfl))) .nil))) rfl ?_
              refine go1 (op_not rfl (.t (has rfl))) rfl ?_
              refine goesO_nil ?_
              refine ends_then ?_
              refine goes_if (.t (has rfl)) H (fun hb30 H => ?_) (fun hb30 H => ?_)
              · skip
                refine goes_seq ?_
                refine goes_region ?_
                refine go1 (op_assign rfl (.int _ _)) rfl ?_
                refine goesO_nil ?_
                refine ends_then ?_
                obtain rfl := Option.some.inj H
                refine goes_ret (ends_block_ret (ends_then_ret (ends_then_ret (ends_block_ret (ends_cutR_ret rfl ?_)))))
                exact ends_ret' rfl rfl (.t rfl (.nil _))
              · skip
                refine goes_skip ?_
                refine ends_block ?_
                refine ends_then ?_
                refine goes_region ?_
                refine go1 (op_move rfl (.t (has rfl))) rfl ?_
                refine go1 (op_add rfl (.t (has rfl)) (.int _ _)) rfl ?_
                refine go1 (op_assign rfl (.t (has rfl))) rfl ?_
                refine goesO_nil ?_
                exact loop_next _ H (.cons rfl (.cons rfl (.cons rfl (.cons rfl (.cons rfl (.cons rfl (.cons rfl .nil)))))))
            · skip
              refine goes_exit (ends_then_exit (ends_then_exit (ends_block_exit ?_)))
              obtain rfl := Option.some.inj H
              exact ends_cutR rfl (.cons rfl (.cons rfl (.cons rfl (.cons rfl (.cons rfl (.cons rfl .nil))))))
          · rintro s22 rfl
            clear h23
            dsimp only at H
            refine ends_then ?_
            refine goes_region ?_
            refine go2 (op_mv (.inl rfl) rfl rfl (has rfl)) rfl ?_
            refine go1 (op_fieldAddr rfl Try.underlying24 rfl tk9 (.t (has rfl))) rfl ?_
            refine go1 (op_load rfl fldNode_Target tk9 (.t (has rfl)) (has rfl)) rfl ?_
            refine go1 (op_buildSlice rfl at22 (fun h => by first | rfl | cases h) rfl rfl rfl (.cons (.t (has rfl)) (.nil _))) rfl ?_
            obtain ⟨x31, h32, H⟩ := bind_some H
            refine go2 (op_append rfl rfl at22 h32 (has rfl) (ReadsArg.own (.t (has rfl)))) rfl ?_
            refine go2 (op_mv (.inr rfl) rfl rfl (has rfl)) rfl ?_
            refine goesO_nil ?_
            refine ends_block ?_
            refine ends_then ?_
            refine goes_region ?_
            refine go1 (op_move rfl (.t (has rfl))) rfl ?_
            refine go1 (op_add rfl (.t (has rfl)) (.int _ _)) rfl ?_
            refine go1 (op_assign rfl (.t (has rfl))) rfl ?_
            refine goesO_nil ?_
            exact loop_next _ H (.cons rfl (.cons rfl (.cons rfl (.cons rfl .nil))))
          · rintro r' rfl a w hr
            obtain rfl := Option.some.inj H
            exact ⟨_, rfl, hr⟩
      · skip
        refine goes_exit (ends_then_exit (ends_then_exit (ends_block_exit ?_)))
        obtain rfl := Option.some.inj H
        exact ends_cutR rfl (.cons rfl (.cons rfl (.cons rfl .nil)))
    · rintro s7 rfl
      clear h8
      dsimp only at H
      refine ends_then ?_
      refine goes_seq ?_
      refine goes_seq ?_
      refine goes_region ?_
      refine go1 (op_assign rfl (.int _ _)) rfl ?_
      refine goesO_nil ?_
      refine ends_then ?_
      obtain ⟨o36, h35, H⟩ := bind_some H
      refine goes_cutR (o := o36) (fun s34 : Unit => []) (fun r a w => bodyPost Try.prog Try.f36 (CPost w0 S0 θ [VA.k (kint .i64) r]) .ret a w) ?_ ?_ ?_
      · replace H := h35; clear h35
        refine goes_block ?_
        refine goes_loop (fun s33 : Int => [Ent.t 1 (VA.ptr 1 0), Ent.t 3 (VA.own 9 kstr s7), Ent.t 7 (VA.k (kint .i64) s33), Ent.h 1 (HE.box 57 kPlan a0)]) (fun k s33 => smithyref12_Check.l2 a0 s7 k s33) (fun _ => rfl) H (.cons rfl (.cons rfl (.cons rfl (.cons rfl .nil)))) ?_
        intro k s33 H
        simp only [smithyref12_Check.l2] at H
        refine goes_seq ?_
        refine goes_seq ?_
        refine goes_region ?_
        refine go1 (op_move rfl (.t (has rfl))) rfl ?_
        refine go1 (op_fieldAddr rfl Try.underlying57 rfl tk22 (.t (has rfl))) rfl ?_
        refine go1 (op_load rfl fldPlan_Goals tk22 (.t (has rfl)) (has rfl)) rfl ?_
        refine go1 (op_len rfl rfl Try.underlying22 (.t (has rfl))) rfl ?_
        refine go1 (op_icmp rfl rfl (.t (has rfl)) (.t (has rfl))) rfl ?_
        refine goesO_nil ?_
        refine ends_then ?_
        refine goes_if (.t (has rfl)) H (fun hb37 H => ?_) (fun hb37 H => ?_)
        · skip
          refine goes_skip ?_
          refine ends_then ?_
          refine goes_seq ?_
          refine goes_block ?_
          refine goes_seq ?_
          obtain ⟨s38, h39, H⟩ := bind_some H
          refine goes_cut [Ent.t 1 (VA.ptr 1 0), Ent.t 3 (VA.own 9 kstr s7), Ent.t 7 (VA.k (kint .i64) s33), Ent.t 91 (VA.k kbool s38), Ent.h 1 (HE.box 57 kPlan a0)] ?_ ?_
          · replace H := h39; clear h39
            obtain ⟨x40, h41, H⟩ := bind_some H
            obtain ⟨v42, h43, H⟩ := bind_some H
            refine goes_split H (fun hb44 H => ?_) (fun hb44 H => ?_)
            · skip
              refine goes_drawn [[Ent.same 72 3], [Ent.t 73 (VA.ptr 1 1)], [Ent.t 74 (VA.k (kslice kstr) a0.Goals)], [Ent.t 75 (VA.k (kint .i64) s33)], [Ent.t 76 (VA.pt kstr x40)], [Ent.t 77 (VA.k kstr x40)], [Ent.t 78 (VA.k kbool v42)], [Ent.t 79 (VA.k kbool (!v42))], [Ent.t 80 (VA.k kbool (!v42))], [Ent.t 81 (VA.v undef)], [Ent.t 82 (VA.v undef)], [Ent.t 83 (VA.v undef)], [Ent.t 84 (VA.v undef)], [Ent.t 85 (VA.v undef)], [Ent.t 86 (VA.v undef)], [Ent.t 87 (VA.v undef)], [Ent.t 88 (VA.v undef)], [Ent.t 89 (VA.v undef)], [Ent.t 90 (VA.v undef)], [Ent.t 91 (VA.k kbool true)]] mixed (by kernel_rfl) (by kernel_rfl) (.cons [] (OpSpec.run rfl rfl (op_same (.inl rfl) rfl rfl) rfl) .nil (by kernel_rfl) (.cons [(none, Ent.t 1 (VA.ptr 1 0))] (OpSpec.run rfl rfl (op_fieldAddr rfl Try.underlying57 rfl tk22 (.t NL.h0)) rfl) (.cons (has rfl) .nil) (by kernel_rfl) (.cons [(some 1, Ent.t 73 (VA.ptr 1 1)), (none, Ent.h 1 (HE.box 57 kPlan a0))] (OpSpec.run rfl rfl (op_load rfl fldPlan_Goals tk22 (.t NL.h0) (NL.hs NL.h0)) rfl) (.cons (has rfl) (.cons (has rfl) .nil)) (by kernel_rfl) (.cons [(none, Ent.t 7 (VA.k (kint .i64) s33))] (OpSpec.run rfl rfl (op_move rfl (.t NL.h0)) rfl) (.cons (has rfl) .nil) (by kernel_rfl) (.cons [(some 2, Ent.t 74 (VA.k (kslice kstr) a0.Goals)), (some 3, Ent.t 75 (VA.k (kint .i64) s33))] (OpSpec.run rfl rfl (op_indexAddr rfl Try.underlying22 tk9 h41 (.t NL.h0) (.t (NL.hs NL.h0))) rfl) (.cons (has rfl) (.cons (has rfl) .nil)) (by kernel_rfl) (.cons [(some 4, Ent.t 76 (VA.pt kstr x40))] (OpSpec.run rfl rfl (op_loadp rfl tk9 (.t NL.h0)) rfl) (.cons (has rfl) .nil) (by kernel_rfl) (.cons [(some 0, Ent.same 72 3), (none, Ent.t 3 (VA.own 9 kstr s7)), (some 5, Ent.t 77 (VA.k kstr x40))] (OpSpec.run rfl rfl (op_callF' rfl enters17 (smithyref03_Has.conF _ _ _ _ h43) rfl (.cons (ArgB.owns rfl NL.h0 (NL.hs NL.h0)) (.cons (ArgB.k (.t (NL.hs (NL.hs NL.h0)))) .nil))) rfl) (.cons (has rfl) (.cons (has rfl) (.cons (has rfl) .nil))) (by kernel_rfl) (.cons [(some 6, Ent.t 78 (VA.k kbool v42))] (OpSpec.run rfl rfl (op_not rfl (.t NL.h0)) rfl) (.cons (has rfl) .nil) (by kernel_rfl) (.cons [(some 7, Ent.t 79 (VA.k kbool (!v42)))] (OpSpec.run rfl rfl (op_move rfl (.t NL.h0)) rfl) (.cons (has rfl) .nil) (by kernel_rfl) (.cons [(some 8, Ent.t 80 (VA.k kbool (!v42)))] (run_skip rfl rfl rfl rfl rfl rfl NL.h0 hb44) (.cons (has rfl) .nil) (by kernel_rfl) (.cons [(some 8, Ent.t 80 (VA.k kbool (!v42)))] (run_skip rfl rfl rfl rfl rfl rfl NL.h0 hb44) (.cons (has rfl) .nil) (by kernel_rfl) (.cons [(some 8, Ent.t 80 (VA.k kbool (!v42)))] (run_skip rfl rfl rfl rfl rfl rfl NL.h0 hb44) (.cons (has rfl) .nil) (by kernel_rfl) (.cons [(some 8, Ent.t 80 (VA.k kbool (!v42)))] (run_skip rfl rfl rfl rfl rfl rfl NL.h0 hb44) (.cons (has rfl) .nil) (by kernel_rfl) (.cons [(some 8, Ent.t 80 (VA.k kbool (!v42)))] (run_skip rfl rfl rfl rfl rfl rfl NL.h0 hb44) (.cons (has rfl) .nil) (by kernel_rfl) (.cons [(some 8, Ent.t 80 (VA.k kbool (!v42)))] (run_skip rfl rfl rfl rfl rfl rfl NL.h0 hb44) (.cons (has rfl) .nil) (by kernel_rfl) (.cons [(some 8, Ent.t 80 (VA.k kbool (!v42)))] (run_skip rfl rfl rfl rfl rfl rfl NL.h0 hb44) (.cons (has rfl) .nil) (by kernel_rfl) (.cons [(some 8, Ent.t 80 (VA.k kbool (!v42)))] (run_skip rfl rfl rfl rfl rfl rfl NL.h0 hb44) (.cons (has rfl) .nil) (by kernel_rfl) (.cons [(some 8, Ent.t 80 (VA.k kbool (!v42)))] (run_skip rfl rfl rfl rfl rfl rfl NL.h0 hb44) (.cons (has rfl) .nil) (by kernel_rfl) (.cons [(some 8, Ent.t 80 (VA.k kbool (!v42)))] (run_skip rfl rfl rfl rfl rfl rfl NL.h0 hb44) (.cons (has rfl) .nil) (by kernel_rfl) (.cons [(some 8, Ent.t 80 (VA.k kbool (!v42)))] (OpSpec.run rfl rfl (op_pick_t rfl hb44 (.t NL.h0) (.bool _)) rfl) (.cons (has rfl) .nil) (by kernel_rfl) (.nil _))))))))))))))))))))) ?_
              refine ends_sub [Ent.t 1 (VA.ptr 1 0), Ent.t 3 (VA.own 9 kstr s7), Ent.t 7 (VA.k (kint .i64) s33), Ent.t 91 (VA.k kbool true), Ent.h 1 (HE.box 57 kPlan a0)] (.cons rfl (.cons rfl (.cons rfl (.cons rfl (.cons rfl .nil))))) ?_
              obtain rfl := Option.some.inj H
              exact ends_cut (.cons rfl (.cons rfl (.cons rfl (.cons rfl (.cons rfl .nil)))))
            · skip
              obtain ⟨x45, h46, H⟩ := bind_some H
              obtain ⟨x47, h48, H⟩ := bind_some H
              obtain ⟨v49, h50, H⟩ := bind_some H
              refine goes_drawn [[Ent.same 72 3], [Ent.t 73 (VA.ptr 1 1)], [Ent.t 74 (VA.k (kslice kstr) a0.Goals)], [Ent.t 75 (VA.k (kint .i64) s33)], [Ent.t 76 (VA.pt kstr x40)], [Ent.t 77 (VA.k kstr x40)], [Ent.t 78 (VA.k kbool v42)], [Ent.t 79 (VA.k kbool (!v42))], [Ent.t 80 (VA.k kbool (!v42))], [Ent.t 81 (VA.ptr 1 1)], [Ent.t 82 (VA.k (kslice kstr) a0.Goals)], [Ent.t 83 (VA.k (kint .i64) s33)], [Ent.t 84 (VA.k (kslice kstr) x45)], [Ent.t 85 (VA.ptr 1 1)], [Ent.t 86 (VA.k (kslice kstr) a0.Goals)], [Ent.t 87 (VA.k (kint .i64) s33)], [Ent.t 88 (VA.pt kstr x47)], [Ent.t 89 (VA.k kstr x47)], [Ent.t 90 (VA.k kbool v49)], [Ent.t 91 (VA.k kbool v49)]] mixed (by kernel_rfl) (by kernel_rfl) (.cons [] (OpSpec.run rfl rfl (op_same (.inl rfl) rfl rfl) rfl) .nil (by kernel_rfl) (.cons [(none, Ent.t 1 (VA.ptr 1 0))] (OpSpec.run rfl rfl (op_fieldAddr rfl Try.underlying57 rfl tk22 (.t NL.h0)) rfl) (.cons (has rfl) .nil) (by kernel_rfl) (.cons [(some 1, Ent.t 73 (VA.ptr 1 1)), (none, Ent.h 1 (HE.box 57 kPlan a0))] (OpSpec.run rfl rfl (op_load rfl fldPlan_Goals tk22 (.t NL.h0) (NL.hs NL.h0)) rfl) (.cons (has rfl) (.cons (has rfl) .nil)) (by kernel_rfl) (.cons [(none, Ent.t 7 (VA.k (kint .i64) s33))] (OpSpec.run rfl rfl (op_move rfl (.t NL.h0)) rfl) (.cons (has rfl) .nil) (by kernel_rfl) (.cons [(some 2, Ent.t 74 (VA.k (kslice kstr) a0.Goals)), (some 3, Ent.t 75 (VA.k (kint .i64) s33))] (OpSpec.run rfl rfl (op_indexAddr rfl Try.underlying22 tk9 h41 (.t NL.h0) (.t (NL.hs NL.h0))) rfl) (.cons (has rfl) (.cons (has rfl) .nil)) (by kernel_rfl) (.cons [(some 4, Ent.t 76 (VA.pt kstr x40))] (OpSpec.run rfl rfl (op_loadp rfl tk9 (.t NL.h0)) rfl) (.cons (has rfl) .nil) (by kernel_rfl) (.cons [(some 0, Ent.same 72 3), (none, Ent.t 3 (VA.own 9 kstr s7)), (some 5, Ent.t 77 (VA.k kstr x40))] (OpSpec.run rfl rfl (op_callF' rfl enters17 (smithyref03_Has.conF _ _ _ _ h43) rfl (.cons (ArgB.owns rfl NL.h0 (NL.hs NL.h0)) (.cons (ArgB.k (.t (NL.hs (NL.hs NL.h0)))) .nil))) rfl) (.cons (has rfl) (.cons (has rfl) (.cons (has rfl) .nil))) (by kernel_rfl) (.cons [(some 6, Ent.t 78 (VA.k kbool v42))] (OpSpec.run rfl rfl (op_not rfl (.t NL.h0)) rfl) (.cons (has rfl) .nil) (by kernel_rfl) (.cons [(some 7, Ent.t 79 (VA.k kbool (!v42)))] (OpSpec.run rfl rfl (op_move rfl (.t NL.h0)) rfl) (.cons (has rfl) .nil) (by kernel_rfl) (.cons [(some 8, Ent.t 80 (VA.k kbool (!v42))), (none, Ent.t 1 (VA.ptr 1 0))] (OpSpec.runG rfl rfl rfl rfl NL.h0 hb44 (op_fieldAddr rfl Try.underlying57 rfl tk22 (.t (NL.hs NL.h0))) rfl) (.cons (has rfl) (.cons (has rfl) .nil)) (by kernel_rfl) (.cons [(some 8, Ent.t 80 (VA.k kbool (!v42))), (some 9, Ent.t 81 (VA.ptr 1 1)), (none, Ent.h 1 (HE.box 57 kPlan a0))] (OpSpec.runG rfl rfl rfl rfl NL.h0 hb44 (op_load rfl fldPlan_Goals tk22 (.t (NL.hs NL.h0)) (NL.hs (NL.hs NL.h0))) rfl) (.cons (has rfl) (.cons (has rfl) (.cons (has rfl) .nil))) (by kernel_rfl) (.cons [(some 8, Ent.t 80 (VA.k kbool (!v42))), (none, Ent.t 7 (VA.k (kint .i64) s33))] (OpSpec.runG rfl rfl rfl rfl NL.h0 hb44 (op_move rfl (.t (NL.hs NL.h0))) rfl) (.cons (has rfl) (.cons (has rfl) .nil)) (by kernel_rfl) (.cons [(some 8, Ent.t 80 (VA.k kbool (!v42))), (some 10, Ent.t 82 (VA.k (kslice kstr) a0.Goals)), (some 11, Ent.t 83 (VA.k (kint .i64) s33))] (OpSpec.runG rfl rfl rfl rfl NL.h0 hb44 (op_slice (l := none) (h := some _) rfl Try.underlying22 tk9 h46 (.t (NL.hs NL.h0)) trivial (.t (NL.hs (NL.hs NL.h0)))) rfl) (.cons (has rfl) (.cons (has rfl) (.cons (has rfl) .nil))) (by kernel_rfl) (.cons [(some 8, Ent.t 80 (VA.k kbool (!v42))), (none, Ent.t 1 (VA.ptr 1 0))] (OpSpec.runG rfl rfl rfl rfl NL.h0 hb44 (op_fieldAddr rfl Try.underlying57 rfl tk22 (.t (NL.hs NL.h0))) rfl) (.cons (has rfl) (.cons (has rfl) .nil)) (by kernel_rfl) (.cons [(some 8, Ent.t 80 (VA.k kbool (!v42))), (some 13, Ent.t 85 (VA.ptr 1 1)), (none, Ent.h 1 (HE.box 57 kPlan a0))] (OpSpec.runG rfl rfl rfl rfl NL.h0 hb44 (op_load rfl fldPlan_Goals tk22 (.t (NL.hs NL.h0)) (NL.hs (NL.hs NL.h0))) rfl) (.cons (has rfl) (.cons (has rfl) (.cons (has rfl) .nil))) (by kernel_rfl) (.cons [(some 8, Ent.t 80 (VA.k kbool (!v42))), (none, Ent.t 7 (VA.k (kint .i64) s33))] (OpSpec.runG rfl rfl rfl rfl NL.h0 hb44 (op_move rfl (.t (NL.hs NL.h0))) rfl) (.cons (has rfl) (.cons (has rfl) .nil)) (by kernel_rfl) (.cons [(some 8, Ent.t 80 (VA.k kbool (!v42))), (some 14, Ent.t 86 (VA.k (kslice kstr) a0.Goals)), (some 15, Ent.t 87 (VA.k (kint .i64) s33))] (OpSpec.runG rfl rfl rfl rfl NL.h0 hb44 (op_indexAddr rfl Try.underlying22 tk9 h48 (.t (NL.hs NL.h0)) (.t (NL.hs (NL.hs NL.h0)))) rfl) (.cons (has rfl) (.cons (has rfl) (.cons (has rfl) .nil))) (by kernel_rfl) (.cons [(some 8, Ent.t 80 (VA.k kbool (!v42))), (some 16, Ent.t 88 (VA.pt kstr x47))] (OpSpec.runG rfl rfl rfl rfl NL.h0 hb44 (op_loadp rfl tk9 (.t (NL.hs NL.h0))) rfl) (.cons (has rfl) (.cons (has rfl) .nil)) (by kernel_rfl) (.cons [(some 8, Ent.t 80 (VA.k kbool (!v42))), (some 12, Ent.t 84 (VA.k (kslice kstr) x45)), (some 17, Ent.t 89 (VA.k kstr x47))] (OpSpec.runG rfl rfl rfl rfl NL.h0 hb44 (op_call' rfl enters17 (smithyref03_Has.con _ _ _ _ h50) rfl (.cons (ArgP.k (.t (NL.hs NL.h0))) (.cons (ArgP.k (.t (NL.hs (NL.hs NL.h0)))) .nil))) rfl) (.cons (has rfl) (.cons (has rfl) (.cons (has rfl) .nil))) (by kernel_rfl) (.cons [(some 8, Ent.t 80 (VA.k kbool (!v42))), (some 18, Ent.t 90 (VA.k kbool v49))] (OpSpec.run rfl rfl (op_pick_f rfl hb44 (.t NL.h0) (.t (NL.hs NL.h0))) rfl) (.cons (has rfl) (.cons (has rfl) .nil)) (by kernel_rfl) (.nil _))))))))))))))))))))) ?_
              refine ends_sub [Ent.t 1 (VA.ptr 1 0), Ent.t 3 (VA.own 9 kstr s7), Ent.t 7 (VA.k (kint .i64) s33), Ent.t 81 (VA.ptr 1 1), Ent.t 82 (VA.k (kslice kstr) a0.Goals), Ent.t 83 (VA.k (kint .i64) s33), Ent.t 84 (VA.k (kslice kstr) x45), Ent.t 85 (VA.ptr 1 1), Ent.t 86 (VA.k (kslice kstr) a0.Goals), Ent.t 87 (VA.k (kint .i64) s33), Ent.t 88 (VA.pt kstr x47), Ent.t 89 (VA.k kstr x47), Ent.t 90 (VA.k kbool v49), Ent.t 91 (VA.k kbool v49), Ent.h 1 (HE.box 57 kPlan a0)] (.cons rfl (.cons rfl (.cons rfl (.cons rfl (.cons rfl (.cons rfl (.cons rfl (.cons rfl (.cons rfl (.cons rfl (.cons rfl (.cons rfl (.cons rfl (.cons rfl (.cons rfl .nil))))))))))))))) ?_
              obtain rfl := Option.some.inj H
              exact ends_cut (.cons rfl (.cons rfl (.cons rfl (.cons rfl (.cons rfl .nil)))))
          refine ends_then ?_
          refine goes_if (.t (has rfl)) H (fun hb51 H => ?_) (fun hb51 H => ?_)
          · skip
            refine goes_seq ?_
            refine goes_region ?_
            refine go1 (op_assign rfl (.int _ _)) rfl ?_
            refine goesO_nil ?_
            refine ends_then ?_
            obtain rfl := Option.some.inj H
            refine goes_ret (ends_block_ret (ends_then_ret (ends_then_ret (ends_block_ret (ends_cutR_ret rfl ?_)))))
            exact ends_ret' rfl rfl (.t rfl (.nil _))
          · skip
            refine goes_skip ?_
            refine ends_block ?_
            refine ends_then ?_
            refine goes_region ?_
            refine go1 (op_move rfl (.t (has rfl))) rfl ?_
            refine go1 (op_add rfl (.t (has rfl)) (.int _ _)) rfl ?_
            refine go1 (op_assign rfl (.t (has rfl))) rfl ?_
            refine goesO_nil ?_
            exact loop_next _ H (.cons rfl (.cons rfl (.cons rfl (.cons rfl .nil))))
        · skip
          refine goes_exit (ends_then_exit (ends_then_exit (ends_block_exit ?_)))
          obtain rfl := Option.some.inj H
          exact ends_cutR rfl .nil
      · rintro s34 rfl
        clear h35
        dsimp only at H
        refine ends_then ?_
        refine goes_seq ?_
        refine goes_region ?_
        refine go1 (op_assign rfl (.int _ _)) rfl ?_
        refine goesO_nil ?_
        refine ends_then ?_
        obtain rfl := Option.some.inj H
        exact goes_ret (ends_ret' rfl rfl (.t rfl (.nil _)))
      · rintro r' rfl a w hr
        obtain rfl := Option.some.inj H
        exact hr
    · rintro r' rfl a w hr
      obtain rfl := Option.some.inj H
      exact hr
theorem smithyref12_Check.conF (k : Nat) (a0 : Plan) (r : Int) (H : smithyref12_Check.f k a0 = some r) : ConF Try.prog 36 [VA.k kPlan a0] [VA.k (kint .i64) r] := (smithyref12_Check.con k a0 r H).freeL (.cons (KFree.k (KFree.int .i64) _) .nil)
/-! smithy/smithyref02.Check -/
def smithyref02_Check.l0 (a0 : Disk) : Nat → Int → Option (Except Int Unit)
  | 0, _ => none
  | k + 1, s6 => bif icmp .lss s6 (a0.Files.length : Int) then ((idx a0.Files s6).bind fun x11 => ((smithyref02_Name.f k x11.Name).bind fun v15 => bif !v15 then (some true) else (bif icmp .gtr (x11.Text.size : Int) (4096 : Int) then (some true) else (bif icmp .lss x11.Stamp (0 : Int) then (some true) else (some (icmp .gtr x11.Stamp a0.Clock))))).bind fun s13 => bif s13 then (some (Except.error (4 : Int))) else ((bif icmp .gtr s6 (0 : Int) then ((idx a0.Files (IntKind.i64.wrap (s6 - (1 : Int)))).bind fun x24 => some (scmp .geq x24.Name x11.Name)) else (some false)).bind fun s21 => bif s21 then (some (Except.error (4 : Int))) else (smithyref02_Check.l0 a0 k (IntKind.i64.wrap (s6 + (1 : Int)))))) else (some (Except.ok ()))
def smithyref02_Check.f (k : Nat) (a0 : Disk) : Option Int := (bif icmp .lss a0.Clock (0 : Int) then (some true) else (bif icmp .gtr a0.Clock (1099511627776 : Int) then (some true) else (some (icmp .gtr (a0.Files.length : Int) (256 : Int))))).bind fun s1 => bif s1 then (some (4 : Int)) else ((smithyref02_Check.l0 a0 k (0 : Int)).bind fun o9 => match o9 with | .error r' => some r' | .ok s7 => (some (0 : Int)))
set_option maxRecDepth 100000 in
set_option maxHeartbeats 4000000 in
theorem smithyref02_Check.con (k : Nat) (a0 : Disk) (r : Int) (H : smithyref02_Check.f k a0 = some r) : Con Try.prog 37 [VA.k kDisk a0] [VA.k (kint .i64) r] := by
  unfold smithyref02_Check.f at H
  refine con_enter Try.func37 rfl rfl rfl (fun w0 S0 θ => ?_)
  refine goes_seq ?_
  refine goes_region ?_
  refine go3 (op_box 1 rfl (fun h => by first | rfl | cases h) (.t (has rfl))) rfl ?_
  refine go1 (op_assign rfl (.int _ _)) rfl ?_
  refine goesO_nil ?_
  refine ends_then ?_
  refine goes_seq ?_
  refine goes_seq ?_
  obtain ⟨s1, h2, H⟩ := bind_some H
  refine goes_cut [Ent.t 1 (VA.ptr 1 0), Ent.t 18 (VA.k kbool s1), Ent.h 1 (HE.box 27 kDisk a0)] ?_ ?_
  · replace H := h2; clear h2
    refine goes_region ?_
    refine go1 (op_fieldAddr rfl Try.underlying27 rfl tk3 (.t (has rfl))) rfl ?_
    refine go1 (op_load rfl fldDisk_Clock tk3 (.t (has rfl)) (has rfl)) rfl ?_
    refine go1 (op_icmp rfl rfl (.t (has rfl)) (.int _ _)) rfl ?_
    refine go1 (op_move rfl (.t (has rfl))) rfl ?_
    refine goesO_split H (fun hb3 H => ?_) (fun hb3 H => ?_)
    · skip
      refine goS rfl rfl rfl rfl rfl rfl hb3 ?_
      refine goS rfl rfl rfl rfl rfl rfl hb3 ?_
      refine goS rfl rfl rfl rfl rfl rfl hb3 ?_
      refine go1 (op_pick_t rfl hb3 (.t (has rfl)) (.bool _)) rfl ?_
      refine go1 (op_move rfl (.t (has rfl))) rfl ?_
      refine goS rfl rfl rfl rfl rfl rfl rfl ?_
      refine goS rfl rfl rfl rfl rfl rfl rfl ?_
      refine goS rfl rfl rfl rfl rfl rfl rfl ?_
      refine goS rfl rfl rfl rfl rfl rfl rfl ?_
      refine go1 (op_pick_t rfl rfl (.t (has rfl)) (.bool _)) rfl ?_
      refine goesO_nil ?_
      obtain rfl := Option.some.inj H
      exact ends_cut (.cons rfl (.cons rfl (.cons rfl .nil)))
    · skip
      refine goG (op_fieldAddr rfl Try.underlying27 rfl tk3 (.t (has rfl))) rfl rfl rfl rfl hb3 ?_
      refine goG (op_load rfl fldDisk_Clock tk3 (.t (has rfl)) (has rfl)) rfl rfl rfl rfl hb3 ?_
      refine goG (op_icmp rfl rfl (.t (has rfl)) (.int _ _)) rfl rfl rfl rfl hb3 ?_
      refine go1 (op_pick_f rfl hb3 (.t (has rfl)) (.t (has rfl))) rfl ?_
      refine go1 (op_move rfl (.t (has rfl))) rfl ?_
      refine goesO_split H (fun hb4 H => ?_) (fun hb4 H => ?_)
      · skip
        refine goS rfl rfl rfl rfl rfl rfl hb4 ?_
        refine goS rfl rfl rfl rfl rfl rfl hb4 ?_
        refine goS rfl rfl rfl rfl rfl rfl hb4 ?_
        refine goS rfl rfl rfl rfl rfl rfl hb4 ?_
        refine go1 (op_pick_t rfl hb4 (.t (has rfl)) (.bool _)) rfl ?_
        refine goesO_nil ?_
        obtain rfl := Option.some.inj H
        exact ends_cut (.cons rfl (.cons rfl (.cons rfl .nil)))
      · skip
        refine goG (op_fieldAddr rfl Try.underlying27 rfl tk25 (.t (has rfl))) rfl rfl rfl rfl hb4 ?_
        refine goG (op_load rfl fldDisk_Files tk25 (.t (has rfl)) (has rfl)) rfl rfl rfl rfl hb4 ?_
        refine goG (op_len rfl rfl Try.underlying25 (.t (has rfl))) rfl rfl rfl rfl hb4 ?_
        refine goG (op_icmp rfl rfl (.t (has rfl)) (.int _ _)) rfl rfl rfl rfl hb4 ?_
        refine go1 (op_pick_f rfl hb4 (.t (has rfl)) (.t (has rfl))) rfl ?_
        refine goesO_nil ?_
        obtain rfl := Option.some.inj H
        exact ends_cut (.cons rfl (.cons rfl (.cons rfl .nil)))
  refine ends_then ?_
  refine goes_if (.t (has rfl)) H (fun hb5 H => ?_) (fun hb5 H => ?_)
  · skip
    refine goes_seq ?_
    refine goes_region ?_
    refine go1 (op_assign rfl (.int _ _)) rfl ?_
    refine goesO_nil ?_
    refine ends_then ?_
    obtain rfl := Option.some.inj H
    exact goes_ret (ends_then_ret (ends_ret' rfl rfl (.t rfl (.nil _))))
  · skip
    refine goes_skip ?_
    refine ends_then ?_
    refine goes_seq ?_
    refine goes_seq ?_
    refine goes_region ?_
    refine go1 (op_assign rfl (.int _ _)) rfl ?_
    refine goesO_nil ?_
    refine ends_then ?_
    obtain ⟨o9, h8, H⟩ := bind_some H
    refine goes_cutR (o := o9) (fun s7 : Unit => []) (fun r a w => bodyPost Try.prog Try.f37 (CPost w0 S0 θ [VA.k (kint .i64) r]) .ret a w) ?_ ?_ ?_
    · replace H := h8; clear h8
      refine goes_block ?_
      refine goes_loop (fun s6 : Int => [Ent.t 1 (VA.ptr 1 0), Ent.t 3 (VA.k (kint .i64) s6), Ent.h 1 (HE.box 27 kDisk a0)]) (fun k s6 => smithyref02_Check.l0 a0 k s6) (fun _ => rfl) H (.cons rfl (.cons rfl (.cons rfl .nil))) ?_
      intro k s6 H
      simp only [smithyref02_Check.l0] at H
      refine goes_seq ?_
      refine goes_seq ?_
      refine goes_region ?_
      refine go1 (op_move rfl (.t (has rfl))) rfl ?_
      refine go1 (op_fieldAddr rfl Try.underlying27 rfl tk25 (.t (has rfl))) rfl ?_
      refine go1 (op_load rfl fldDisk_Files tk25 (.t (has rfl)) (has rfl)) rfl ?_
      refine go1 (op_len rfl rfl Try.underlying25 (.t (has rfl))) rfl ?_
      refine go1 (op_icmp rfl rfl (.t (has rfl)) (.t (has rfl))) rfl ?_
      refine goesO_nil ?_
      refine ends_then ?_
      refine goes_if (.t (has rfl)) H (fun hb10 H => ?_) (fun hb10 H => ?_)
      · skip
        refine goes_skip ?_
        refine ends_then ?_
        refine goes_seq ?_
        refine goes_block ?_
        refine goes_seq ?_
        refine goes_region ?_
        refine go1 (op_fieldAddr rfl Try.underlying27 rfl tk25 (.t (has rfl))) rfl ?_
        refine go1 (op_load rfl fldDisk_Files tk25 (.t (has rfl)) (has rfl)) rfl ?_
        refine go1 (op_move rfl (.t (has rfl))) rfl ?_
        obtain ⟨x11, h12, H⟩ := bind_some H
        refine go1 (op_indexAddr rfl Try.underlying25 tk47 h12 (.t (has rfl)) (.t (has rfl))) rfl ?_
        refine go1 (op_loadp rfl tk47 (.t (has rfl))) rfl ?_
        refine go3 (op_alloc 4 rfl zk47) rfl ?_
        refine go1 (op_store (Fld.whole kFile) tk47 (.t (has rfl)) (has rfl) (.t (has rfl))) rfl ?_
        refine goesO_nil ?_
        refine ends_then ?_
        refine goes_seq ?_
        refine goes_seq ?_
        obtain ⟨s13, h14, H⟩ := bind_some H
        refine goes_cut [Ent.t 1 (VA.ptr 1 0), Ent.t 3 (VA.k (kint .i64) s6), Ent.t 4 (VA.ptr 4 0), Ent.t 52 (VA.k kbool s13), Ent.h 1 (HE.box 27 kDisk a0), Ent.h 4 (HE.box 47 kFile x11)] ?_ ?_
        · replace H := h14; clear h14
          refine goes_region ?_
          refine go1 (op_fieldAddr rfl Try.underlying47 rfl tk9 (.t (has rfl))) rfl ?_
          refine go1 (op_load rfl fldFile_Name tk9 (.t (has rfl)) (has rfl)) rfl ?_
          obtain ⟨v15, h16, H⟩ := bind_some H
          refine go1 (op_call' rfl enters28 (smithyref02_Name.con _ _ _ h16) rfl (.cons (ArgP.k (.t (has rfl))) .nil)) rfl ?_
          refine go1 (op_not rfl (.t (has rfl))) rfl ?_
          refine go1 (op_move rfl (.t (has rfl))) rfl ?_
          refine goesO_split H (fun hb17 H => ?_) (fun hb17 H => ?_)
          · skip
            refine goS rfl rfl rfl rfl rfl rfl hb17 ?_
            refine goS rfl rfl rfl rfl rfl rfl hb17 ?_
            refine goS rfl rfl rfl rfl rfl rfl hb17 ?_
            refine goS rfl rfl rfl rfl rfl rfl hb17 ?_
            refine go1 (op_pick_t rfl hb17 (.t (has rfl)) (.bool _)) rfl ?_
            refine go1 (op_move rfl (.t (has rfl))) rfl ?_
            refine goS rfl rfl rfl rfl rfl rfl rfl ?_
            refine goS rfl rfl rfl rfl rfl rfl rfl ?_
            refine goS rfl rfl rfl rfl rfl rfl rfl ?_
            refine go1 (op_pick_t rfl rfl (.t (has rfl)) (.bool _)) rfl ?_
            refine go1 (op_move rfl (.t (has rfl))) rfl ?_
            refine goS rfl rfl rfl rfl rfl rfl rfl ?_
            refine goS rfl rfl rfl rfl rfl rfl rfl ?_
            refine goS rfl rfl rfl rfl rfl rfl rfl ?_
            refine goS rfl rfl rfl rfl rfl rfl rfl ?_
            refine goS rfl rfl rfl rfl rfl rfl rfl ?_
            refine go1 (op_pick_t rfl rfl (.t (has rfl)) (.bool _)) rfl ?_
            refine goesO_nil ?_
            obtain rfl := Option.some.inj H
            exact ends_cut (.cons rfl (.cons rfl (.cons rfl (.cons rfl (.cons rfl (.cons rfl .nil))))))
          · skip
            refine goG (op_fieldAddr rfl Try.underlying47 rfl tk9 (.t (has rfl))) rfl rfl rfl rfl hb17 ?_
            refine goG (op_load rfl fldFile_Text tk9 (.t (has rfl)) (has rfl)) rfl rfl rfl rfl hb17 ?_
            refine goG (op_len_str rfl rfl Try.underlying9 (.t (has rfl))) rfl rfl rfl rfl hb17 ?_
            refine goG (op_icmp rfl rfl (.t (has rfl)) (.int _ _)) rfl rfl rfl rfl hb17 ?_
            refine go1 (op_pick_f rfl hb17 (.t (has rfl)) (.t (has rfl))) rfl ?_
            refine go1 (op_move rfl (.t (has rfl))) rfl ?_
            refine goesO_split H (fun hb18 H => ?_) (fun hb18 H => ?_)
            · skip
              refine goS rfl rfl rfl rfl rfl rfl hb18 ?_
              refine goS rfl rfl rfl rfl rfl rfl hb18 ?_
              refine goS rfl rfl rfl rfl rfl rfl hb18 ?_
              refine go1 (op_pick_t rfl hb18 (.t (has rfl)) (.bool _)) rfl ?_
              refine go1 (op_move rfl (.t (has rfl))) rfl ?_
              refine goS rfl rfl rfl rfl rfl rfl rfl ?_
              refine goS rfl rfl rfl rfl rfl rfl rfl ?_
              refine goS rfl rfl rfl rfl rfl rfl rfl ?_
              refine goS rfl rfl rfl rfl rfl rfl rfl ?_
              refine goS rfl rfl rfl rfl rfl rfl rfl ?_
              refine go1 (op_pick_t rfl rfl (.t (has rfl)) (.bool _)) rfl ?_
              refine goesO_nil ?_
              obtain rfl := Option.some.inj H
              exact ends_cut (.cons rfl (.cons rfl (.cons rfl (.cons rfl (.cons rfl (.cons rfl .nil))))))
            · skip
              refine goG (op_fieldAddr rfl Try.underlying47 rfl tk3 (.t (has rfl))) rfl rfl rfl rfl hb18 ?_
              refine goG (op_load rfl fldFile_Stamp tk3 (.t (has rfl)) (has rfl)) rfl rfl rfl rfl hb18 ?_
              refine goG (op_icmp rfl rfl (.t (has rfl)) (.int _ _)) rfl rfl rfl rfl hb18 ?_
              refine go1 (op_pick_f rfl hb18 (.t (has rfl)) (.t (has rfl))) rfl ?_
              refine go1 (op_move rfl (.t (has rfl))) rfl ?_
              refine goesO_split H (fun hb19 H => ?_) (fun hb19 H => ?_)
              · skip
                refine goS rfl rfl rfl rfl rfl rfl hb19 ?_
                refine goS rfl rfl rfl rfl rfl rfl hb19 ?_
                refine goS rfl rfl rfl rfl rfl rfl hb19 ?_
                refine goS rfl rfl rfl rfl rfl rfl hb19 ?_
                refine goS rfl rfl rfl rfl rfl rfl hb19 ?_
                refine go1 (op_pick_t rfl hb19 (.t (has rfl)) (.bool _)) rfl ?_
                refine goesO_nil ?_
                obtain rfl := Option.some.inj H
                exact ends_cut (.cons rfl (.cons rfl (.cons rfl (.cons rfl (.cons rfl (.cons rfl .nil))))))
              · skip
                refine goG (op_fieldAddr rfl Try.underlying47 rfl tk3 (.t (has rfl))) rfl rfl rfl rfl hb19 ?_
                refine goG (op_load rfl fldFile_Stamp tk3 (.t (has rfl)) (has rfl)) rfl rfl rfl rfl hb19 ?_
                refine goG (op_fieldAddr rfl Try.underlying27 rfl tk3 (.t (has rfl))) rfl rfl rfl rfl hb19 ?_
                refine goG (op_load rfl fldDisk_Clock tk3 (.t (has rfl)) (has rfl)) rfl rfl rfl rfl hb19 ?_
                refine goG (op_icmp rfl rfl (.t (has rfl)) (.t (has rfl))) rfl rfl rfl rfl hb19 ?_
                refine go1 (op_pick_f rfl hb19 (.t (has rfl)) (.t (has rfl))) rfl ?_
                refine goesO_nil ?_
                obtain rfl := Option.some.inj H
                exact ends_cut (.cons rfl (.cons rfl (.cons rfl (.cons rfl (.cons rfl (.cons rfl .nil))))))
        refine ends_then ?_
        refine goes_if (.t (has rfl)) H (fun hb20 H => ?_) (fun hb20 H => ?_)
        · skip
          refine goes_seq ?_
          refine goes_region ?_
          refine go1 (op_assign rfl (.int _ _)) rfl ?_
          refine goesO_nil ?_
          refine ends_then ?_
          obtain rfl := Option.some.inj H
          refine goes_ret (ends_then_ret (ends_block_ret (ends_then_ret (ends_then_ret (ends_block_ret (ends_cutR_ret rfl ?_))))))
          exact ends_ret' rfl rfl (.t rfl (.nil _))
        · skip
          refine goes_skip ?_
          refine ends_then ?_
          refine goes_seq ?_
          obtain ⟨s21, h22, H⟩ := bind_some H
          refine goes_cut [Ent.t 1 (VA.ptr 1 0), Ent.t 3 (VA.k (kint .i64) s6), Ent.t 66 (VA.k kbool s21), Ent.h 1 (HE.box 27 kDisk a0)] ?_ ?_
          · replace H := h22; clear h22
            refine goes_split H (fun hb23 H => ?_) (fun hb23 H => ?_)
            · skip
              obtain ⟨x24, h25, H⟩ := bind_some H
              refine goes_drawn [[Ent.t 53 (VA.k (kint .i64) s6)], [Ent.t 54 (VA.k kbool (icmp .gtr s6 (0 : Int)))], [Ent.t 55 (VA.k kbool (icmp .gtr s6 (0 : Int)))], [Ent.t 56 (VA.ptr 1 1)], [Ent.t 57 (VA.k (kslice kFile) a0.Files)], [Ent.t 58 (VA.k (kint .i64) s6)], [Ent.t 59 (VA.k (kint .i64) (IntKind.i64.wrap (s6 - (1 : Int))))], [Ent.t 60 (VA.pt kFile x24)], [Ent.t 61 (VA.pt kstr x24.Name)], [Ent.t 62 (VA.k kstr x24.Name)], [Ent.t 63 (VA.ptr 4 0)], [Ent.t 64 (VA.k kstr x11.Name)], [Ent.t 65 (VA.k kbool (scmp .geq x24.Name x11.Name))], [Ent.t 66 (VA.k kbool (scmp .geq x24.Name x11.Name))]] mixed (by kernel_rfl) (by kernel_rfl) (.cons [(none, Ent.t 3 (VA.k (kint .i64) s6))] (OpSpec.run rfl rfl (op_move rfl (.t NL.h0)) rfl) (.cons (has rfl) .nil) (by kernel_rfl) (.cons [(some 0, Ent.t 53 (VA.k (kint .i64) s6))] (OpSpec.run rfl rfl (op_icmp rfl rfl (.t NL.h0) (.int _ _)) rfl) (.cons (has rfl) .nil) (by kernel_rfl) (.cons [(some 1, Ent.t 54 (VA.k kbool (icmp .gtr s6 (0 : Int))))] (OpSpec.run rfl rfl (op_move rfl (.t NL.h0)) rfl) (.cons (has rfl) .nil) (by kernel_rfl) (.cons [(some 2, Ent.t 55 (VA.k kbool (icmp .gtr s6 (0 : Int)))), (none, Ent.t 1 (VA.ptr 1 0))] (OpSpec.runG rfl rfl rfl rfl NL.h0 hb23 (op_fieldAddr rfl Try.underlying27 rfl tk25 (.t (NL.hs NL.h0))) rfl) (.cons (has rfl) (.cons (has rfl) .nil)) (by kernel_rfl) (.cons [(some 2, Ent.t 55 (VA.k kbool (icmp .gtr s6 (0 : Int)))), (some 3, Ent.t 56 (VA.ptr 1 1)), (none, Ent.h 1 (HE.box 27 kDisk a0))] (OpSpec.runG rfl rfl rfl rfl NL.h0 hb23 (op_load rfl fldDisk_Files tk25 (.t (NL.hs NL.h0)) (NL.hs (NL.hs NL.h0))) rfl) (.cons (has rfl) (.cons (has rfl) (.cons (has rfl) .nil))) (by kernel_rfl) (.cons [(some 2, Ent.t 55 (VA.k kbool (icmp .gtr s6 (0 : Int)))), (none, Ent.t 3 (VA.k (kint .i64) s6))] (OpSpec.runG rfl rfl rfl rfl NL.h0 hb23 (op_move rfl (.t (NL.hs NL.h0))) rfl) (.cons (has rfl) (.cons (has rfl) .nil)) (by kernel_rfl) (.cons [(some 2, Ent.t 55 (VA.k kbool (icmp .gtr s6 (0 : Int)))), (some 5, Ent.t 58 (VA.k (kint .i64) s6))] (OpSpec.runG rfl rfl rfl rfl NL.h0 hb23 (op_sub rfl (.t (NL.hs NL.h0)) (.int _ _)) rfl) (.cons (has rfl) (.cons (has rfl) .nil)) (by kernel_rfl) (.cons [(some 2, Ent.t 55 (VA.k kbool (icmp .gtr s6 (0 : Int)))), (some 4, Ent.t 57 (VA.k (kslice kFile) a0.Files)), (some 6, Ent.t 59 (VA.k (kint .i64) (IntKind.i64.wrap (s6 - (1 : Int)))))] (OpSpec.runG rfl rfl rfl rfl NL.h0 hb23 (op_indexAddr rfl Try.underlying25 tk47 h25 (.t (NL.hs NL.h0)) (.t (NL.hs (NL.hs NL.h0)))) rfl) (.cons (has rfl) (.cons (has rfl) (.cons (has rfl) .nil))) (by kernel_rfl) (.cons [(some 2, Ent.t 55 (VA.k kbool (icmp .gtr s6 (0 : Int)))), (some 7, Ent.t 60 (VA.pt kFile x24))] (OpSpec.runG rfl rfl rfl rfl NL.h0 hb23 (op_fieldAddrp rfl fldFile_Name Try.underlying47 rfl tk9 (.t (NL.hs NL.h0))) rfl) (.cons (has rfl) (.cons (has rfl) .nil)) (by kernel_rfl) (.cons [(some 2, Ent.t 55 (VA.k kbool (icmp .gtr s6 (0 : Int)))), (some 8, Ent.t 61 (VA.pt kstr x24.Name))] (OpSpec.runG rfl rfl rfl rfl NL.h0 hb23 (op_loadp rfl tk9 (.t (NL.hs NL.h0))) rfl) (.cons (has rfl) (.cons (has rfl) .nil)) (by kernel_rfl) (.cons [(some 2, Ent.t 55 (VA.k kbool (icmp .gtr s6 (0 : Int)))), (none, Ent.t 4 (VA.ptr 4 0))] (OpSpec.runG rfl rfl rfl rfl NL.h0 hb23 (op_fieldAddr rfl Try.underlying47 rfl tk9 (.t (NL.hs NL.h0))) rfl) (.cons (has rfl) (.cons (has rfl) .nil)) (by kernel_rfl) (.cons [(some 2, Ent.t 55 (VA.k kbool (icmp .gtr s6 (0 : Int)))), (some 10, Ent.t 63 (VA.ptr 4 0)), (none, Ent.h 4 (HE.box 47 kFile x11))] (OpSpec.runG rfl rfl rfl rfl NL.h0 hb23 (op_load rfl fldFile_Name tk9 (.t (NL.hs NL.h0)) (NL.hs (NL.hs NL.h0))) rfl) (.cons (has rfl) (.cons (has rfl) (.cons (has rfl) .nil))) (by kernel_rfl) (.cons [(some 2, Ent.t 55 (VA.k kbool (icmp .gtr s6 (0 : Int)))), (some 9, Ent.t 62 (VA.k kstr x24.Name)), (some 11, Ent.t 64 (VA.k kstr x11.Name))] (OpSpec.runG rfl rfl rfl rfl NL.h0 hb23 (op_scmp rfl rfl (.t (NL.hs NL.h0)) (.t (NL.hs (NL.hs NL.h0)))) rfl) (.cons (has rfl) (.cons (has rfl) (.cons (has rfl) .nil))) (by kernel_rfl) (.cons [(some 2, Ent.t 55 (VA.k kbool (icmp .gtr s6 (0 : Int)))), (some 12, Ent.t 65 (VA.k kbool (scmp .geq x24.Name x11.Name)))] (OpSpec.run rfl rfl (op_pick_t rfl hb23 (.t NL.h0) (.t (NL.hs NL.h0))) rfl) (.cons (has rfl) (.cons (has rfl) .nil)) (by kernel_rfl) (.nil _))))))))))))))) ?_
              refine ends_sub [Ent.t 1 (VA.ptr 1 0), Ent.t 3 (VA.k (kint .i64) s6), Ent.t 56 (VA.ptr 1 1), Ent.t 57 (VA.k (kslice kFile) a0.Files), Ent.t 58 (VA.k (kint .i64) s6), Ent.t 59 (VA.k (kint .i64) (IntKind.i64.wrap (s6 - (1 : Int)))), Ent.t 60 (VA.pt kFile x24), Ent.t 61 (VA.pt kstr x24.Name), Ent.t 62 (VA.k kstr x24.Name), Ent.t 63 (VA.ptr 4 0), Ent.t 64 (VA.k kstr x11.Name), Ent.t 65 (VA.k kbool (scmp .geq x24.Name x11.Name)), Ent.t 66 (VA.k kbool (scmp .geq x24.Name x11.Name)), Ent.h 1 (HE.box 27 kDisk a0), Ent.h 4 (HE.box 47 kFile x11)] (.cons rfl (.cons rfl (.cons rfl (.cons rfl (.cons rfl (.cons rfl (.cons rfl (.cons rfl (.cons rfl (.cons rfl (.cons rfl (.cons rfl (.cons rfl (.cons rfl (.cons rfl .nil))))))))))))))) ?_
              obtain rfl := Option.some.inj H
              exact ends_cut (.cons rfl (.cons rfl (.cons rfl (.cons rfl .nil))))
            · skip
              refine goes_drawn [[Ent.t 53 (VA.k (kint .i64) s6)], [Ent.t 54 (VA.k kbool (icmp .gtr s6 (0 : Int)))], [Ent.t 55 (VA.k kbool (icmp .gtr s6 (0 : Int)))], [Ent.t 56 (VA.v undef)], [Ent.t 57 (VA.v undef)], [Ent.t 58 (VA.v undef)], [Ent.t 59 (VA.v undef)], [Ent.t 60 (VA.v undef)], [Ent.t 61 (VA.v undef)], [Ent.t 62 (VA.v undef)], [Ent.t 63 (VA.v undef)], [Ent.t 64 (VA.v undef)], [Ent.t 65 (VA.v undef)], [Ent.t 66 (VA.k kbool false)]] mixed (by kernel_rfl) (by kernel_rfl) (.cons [(none, Ent.t 3 (VA.k (kint .i64) s6))] (OpSpec.run rfl rfl (op_move rfl (.t NL.h0)) rfl) (.cons (has rfl) .nil) (by kernel_rfl) (.cons [(some 0, Ent.t 53 (VA.k (kint .i64) s6))] (OpSpec.run rfl rfl (op_icmp rfl rfl (.t NL.h0) (.int _ _)) rfl) (.cons (has rfl) .nil) (by kernel_rfl) (.cons [(some 1, Ent.t 54 (VA.k kbool (icmp .gtr s6 (0 : Int))))] (OpSpec.run rfl rfl (op_move rfl (.t NL.h0)) rfl) (.cons (has rfl) .nil) (by kernel_rfl) (.cons [(some 2, Ent.t 55 (VA.k kbool (icmp .gtr s6 (0 : Int))))] (run_skip rfl rfl rfl rfl rfl rfl NL.h0 hb23) (.cons (has rfl) .nil) (by kernel_rfl) (.cons [(some 2, Ent.t 55 (VA.k kbool (icmp .gtr s6 (0 : Int))))] (run_skip rfl rfl rfl rfl rfl rfl NL.h0 hb23) (.cons (has rfl) .nil) (by kernel_rfl) (.cons [(some 2, Ent.t 55 (VA.k kbool (icmp .gtr s6 (0 : Int))))] (run_skip rfl rfl rfl rfl rfl rfl NL.h0 hb23) (.cons (has rfl) .nil) (by kernel_rfl) (.cons [(some 2, Ent.t 55 (VA.k kbool (icmp .gtr s6 (0 : Int))))] (run_skip rfl rfl rfl rfl rfl rfl NL.h0 hb23) (.cons (has rfl) .nil) (by kernel_rfl) (.cons [(some 2, Ent.t 55 (VA.k kbool (icmp .gtr s6 (0 : Int))))] (run_skip rfl rfl rfl rfl rfl rfl NL.h0 hb23) (.cons (has rfl) .nil) (by kernel_rfl) (.cons [(some 2, Ent.t 55 (VA.k kbool (icmp .gtr s6 (0 : Int))))] (run_skip rfl rfl rfl rfl rfl rfl NL.h0 hb23) (.cons (has rfl) .nil) (by kernel_rfl) (.cons [(some 2, Ent.t 55 (VA.k kbool (icmp .gtr s6 (0 : Int))))] (run_skip rfl rfl rfl rfl rfl rfl NL.h0 hb23) (.cons (has rfl) .nil) (by kernel_rfl) (.cons [(some 2, Ent.t 55 (VA.k kbool (icmp .gtr s6 (0 : Int))))] (run_skip rfl rfl rfl rfl rfl rfl NL.h0 hb23) (.cons (has rfl) .nil) (by kernel_rfl) (.cons [(some 2, Ent.t 55 (VA.k kbool (icmp .gtr s6 (0 : Int))))] (run_skip rfl rfl rfl rfl rfl rfl NL.h0 hb23) (.cons (has rfl) .nil) (by kernel_rfl) (.cons [(some 2, Ent.t 55 (VA.k kbool (icmp .gtr s6 (0 : Int))))] (run_skip rfl rfl rfl rfl rfl rfl NL.h0 hb23) (.cons (has rfl) .nil) (by kernel_rfl) (.cons [(some 2, Ent.t 55 (VA.k kbool (icmp .gtr s6 (0 : Int))))] (OpSpec.run rfl rfl (op_pick_f rfl hb23 (.t NL.h0) (.bool _)) rfl) (.cons (has rfl) .nil) (by kernel_rfl) (.nil _))))))))))))))) ?_
              refine ends_sub [Ent.t 1 (VA.ptr 1 0), Ent.t 3 (VA.k (kint .i64) s6), Ent.t 66 (VA.k kbool false), Ent.h 1 (HE.box 27 kDisk a0)] (.cons rfl (.cons rfl (.cons rfl (.cons rfl .nil)))) ?_
              obtain rfl := Option.some.inj H
              exact ends_cut (.cons rfl (.cons rfl (.cons rfl (.cons rfl .nil))))
          refine ends_then ?_
          refine goes_if (.t (has rfl)) H (fun hb26 H => ?_) (fun hb26 H => ?_)
          · skip
            refine goes_seq ?_
            refine goes_region ?_
            refine go1 (op_assign rfl (.int _ _)) rfl ?_
            refine goesO_nil ?_
            refine ends_then ?_
            obtain rfl := Option.some.inj H
            refine goes_ret (ends_block_ret (ends_then_ret (ends_then_ret (ends_block_ret (ends_cutR_ret rfl ?_)))))
            exact ends_ret' rfl rfl (.t rfl (.nil _))
          · skip
            refine goes_skip ?_
            refine ends_block ?_
            refine ends_then ?_
            refine goes_region ?_
            refine go1 (op_move rfl (.t (has rfl))) rfl ?_
            refine go1 (op_add rfl (.t (has rfl)) (.int _ _)) rfl ?_
            refine go1 (op_assign rfl (.t (has rfl))) rfl ?_
            refine goesO_nil ?_
            exact loop_next _ H (.cons rfl (.cons rfl (.cons rfl .nil)))
      · skip
        refine goes_exit (ends_then_exit (ends_then_exit (ends_block_exit ?_)))
        obtain rfl := Option.some.inj H
        exact ends_cutR rfl .nil
    · rintro s7 rfl
      clear h8
      dsimp only at H
      refine ends_then ?_
      refine goes_seq ?_
      refine goes_region ?_
      refine go1 (op_assign rfl (.int _ _)) rfl ?_
      refine goesO_nil ?_
      refine ends_then ?_
      obtain rfl := Option.some.inj H
      exact goes_ret (ends_ret' rfl rfl (.t rfl (.nil _)))
    · rintro r' rfl a w hr
      obtain rfl := Option.some.inj H
      exact hr
theorem smithyref02_Check.conF (k : Nat) (a0 : Disk) (r : Int) (H : smithyref02_Check.f k a0 = some r) : ConF Try.prog 37 [VA.k kDisk a0] [VA.k (kint .i64) r] := (smithyref02_Check.con k a0 r H).freeL (.cons (KFree.k (KFree.int .i64) _) .nil)
/-! smithy/smithyref13.File -/
def smithyref13_File.l0 (a0 : Disk) (a1 : ByteArray) : Nat → Int → Option (Except (File × Bool) Unit)
  | 0, _ => none
  | k + 1, s1 => bif icmp .lss s1 (a0.Files.length : Int) then ((idx a0.Files s1).bind fun x6 => bif scmp .eql x6.Name a1 then (some (Except.error (x6, true))) else (smithyref13_File.l0 a0 a1 k (IntKind.i64.wrap (s1 + (1 : Int))))) else (some (Except.ok ()))
def smithyref13_File.f (k : Nat) (a0 : Disk) (a1 : ByteArray) : Option (File × Bool) := (smithyref13_File.l0 a0 a1 k (0 : Int)).bind fun o4 => match o4 with | .error r' => some r' | .ok s2 => (some ((⟨ByteArray.empty, ByteArray.empty, (0 : Int)⟩ : File), false))
set_option maxRecDepth 100000 in
set_option maxHeartbeats 4000000 in
theorem smithyref13_File.con (k : Nat) (a0 : Disk) (a1 : ByteArray) (r : File × Bool) (H : smithyref13_File.f k a0 a1 = some r) : Con Try.prog 16 [VA.k kDisk a0, VA.k kstr a1] [VA.k kFile r.1, VA.k kbool r.2] := by
  unfold smithyref13_File.f at H
  refine con_enter Try.func16 rfl rfl rfl (fun w0 S0 θ => ?_)
  refine goes_seq ?_
  refine goes_region ?_
  refine go3 (op_box 2 rfl (fun h => by first | rfl | cases h) (.t (has rfl))) rfl ?_
  refine go3 (op_alloc 4 rfl zk47) rfl ?_
  refine go1 (op_assign rfl (.bool _)) rfl ?_
  refine goesO_nil ?_
  refine ends_then ?_
  refine goes_seq ?_
  refine goes_seq ?_
  refine goes_region ?_
  refine go1 (op_fieldAddr rfl Try.underlying27 rfl tk25 (.t (has rfl))) rfl ?_
  refine go1 (op_load rfl fldDisk_Files tk25 (.t (has rfl)) (has rfl)) rfl ?_
  refine go1 (op_len rfl rfl Try.underlying25 (.t (has rfl))) rfl ?_
  refine go1 (op_move rfl (.int _ _)) rfl ?_
  refine goesO_nil ?_
  refine ends_then ?_
  obtain ⟨o4, h3, H⟩ := bind_some H
  refine goes_cutR (o := o4) (fun s2 : Unit => [Ent.t 4 (VA.ptr 4 0), Ent.h 4 (HE.box 47 kFile zeroFile)]) (fun r a w => bodyPost Try.prog Try.f16 (CPost w0 S0 θ [VA.k kFile r.1, VA.k kbool r.2]) .ret a w) ?_ ?_ ?_
  · replace H := h3; clear h3
    refine goes_block ?_
    refine goes_loop (fun s1 : Int => [Ent.t 1 (VA.k kstr a1), Ent.t 4 (VA.ptr 4 0), Ent.t 9 (VA.k (kslice kFile) a0.Files), Ent.t 10 (VA.k (kint .i64) (a0.Files.length : Int)), Ent.t 11 (VA.k (kint .i64) s1), Ent.h 4 (HE.box 47 kFile zeroFile)]) (fun k s1 => smithyref13_File.l0 a0 a1 k s1) (fun _ => rfl) H (.cons rfl (.cons rfl (.cons rfl (.cons rfl (.cons rfl (.cons rfl .nil)))))) ?_
    intro k s1 H
    simp only [smithyref13_File.l0] at H
    refine goes_seq ?_
    refine goes_region ?_
    refine go1 (op_icmp rfl rfl (.t (has rfl)) (.t (has rfl))) rfl ?_
    refine goesO_nil ?_
    refine ends_then ?_
    refine goes_seq ?_
    refine goes_if (.t (has rfl)) H (fun hb5 H => ?_) (fun hb5 H => ?_)
    · skip
      refine goes_skip ?_
      refine ends_then ?_
      refine goes_seq ?_
      refine goes_block ?_
      refine goes_seq ?_
      refine goes_region ?_
      obtain ⟨x6, h7, H⟩ := bind_some H
      refine go1 (op_indexAddr rfl Try.underlying25 tk47 h7 (.t (has rfl)) (.t (has rfl))) rfl ?_
      refine go1 (op_loadp rfl tk47 (.t (has rfl))) rfl ?_
      refine go3 (op_alloc 7 rfl zk47) rfl ?_
      refine go1 (op_store (Fld.whole kFile) tk47 (.t (has rfl)) (has rfl) (.t (has rfl))) rfl ?_
      refine goesO_nil ?_
      refine ends_then ?_
      refine goes_seq ?_
      refine goes_region ?_
      refine go1 (op_fieldAddr rfl Try.underlying47 rfl tk9 (.t (has rfl))) rfl ?_
      refine go1 (op_load rfl fldFile_Name tk9 (.t (has rfl)) (has rfl)) rfl ?_
      refine go1 (op_move rfl (.t (has rfl))) rfl ?_
      refine go1 (op_scmp rfl rfl (.t (has rfl)) (.t (has rfl))) rfl ?_
      refine goesO_nil ?_
      refine ends_then ?_
      refine goes_if (.t (has rfl)) H (fun hb8 H => ?_) (fun hb8 H => ?_)
      · skip
        refine goes_seq ?_
        refine goes_region ?_
        refine go1 (op_load rfl (Fld.whole kFile) tk47 (.t (has rfl)) (has rfl)) rfl ?_
        refine go1 (op_store (Fld.whole kFile) tk47 (.t (has rfl)) (has rfl) (.t (has rfl))) rfl ?_
        refine go1 (op_assign rfl (.bool _)) rfl ?_
        refine goesO_nil ?_
        refine ends_then ?_
        obtain rfl := Option.some.inj H
        refine goes_ret (ends_block_ret (ends_then_ret (ends_then_ret (ends_block_ret (ends_cutR_ret rfl ?_)))))
        exact ends_ret' rfl rfl (.c rfl rfl tk47 (.t rfl (.nil _)))
      · skip
        refine goes_skip ?_
        refine ends_block ?_
        refine ends_then ?_
        refine goes_region ?_
        refine go1 (op_add rfl (.t (has rfl)) (.int _ _)) rfl ?_
        refine go1 (op_move rfl (.t (has rfl))) rfl ?_
        refine goesO_nil ?_
        exact loop_next _ H (.cons rfl (.cons rfl (.cons rfl (.cons rfl (.cons rfl (.cons rfl .nil))))))
    · skip
      refine goes_exit (ends_then_exit (ends_then_exit (ends_block_exit ?_)))
      obtain rfl := Option.some.inj H
      exact ends_cutR rfl (.cons rfl (.cons rfl .nil))
  · rintro s2 rfl
    clear h3
    dsimp only at H
    refine ends_then ?_
    refine goes_seq ?_
    refine goes_region ?_
    refine go1 (op_build (pl := [(0, 1), (1, 1), (2, 1)]) rfl rfl Try.underlying47 (by kernel_rfl) zk47 (.nil _)) rfl ?_
    refine go1 (op_store (Fld.whole kFile) tk47 (.t (has rfl)) (has rfl) (.t (has rfl))) rfl ?_
    refine go1 (op_assign rfl (.bool _)) rfl ?_
    refine goesO_nil ?_
    refine ends_then ?_
    obtain rfl := Option.some.inj H
    exact goes_ret (ends_ret' rfl rfl (.c rfl rfl tk47 (.t rfl (.nil _))))
  · rintro r' rfl a w hr
    obtain rfl := Option.some.inj H
    exact hr
theorem smithyref13_File.conF (k : Nat) (a0 : Disk) (a1 : ByteArray) (r : File × Bool) (H : smithyref13_File.f k a0 a1 = some r) : ConF Try.prog 16 [VA.k kDisk a0, VA.k kstr a1] [VA.k kFile r.1, VA.k kbool r.2] := (smithyref13_File.con k a0 a1 r H).freeL (.cons (KFree.k kfreeFile _) (.cons (KFree.k KFree.bool _) .nil))
/-! smithy/smithyref13.newer -/
def smithyref13_newer.f (k : Nat) (a0 : Node) (a1 : Disk) (a2 : List ByteArray) (a3 : ByteArray) : Option Bool := (smithyref13_File.f k a1 a0.Target).bind fun v1 => (smithyref13_File.f k a1 a3).bind fun v3 => (bif !v1.2 then (some true) else ((smithyref03_Has.f k a2 a3).bind fun v8 => bif v8 then (some true) else (bif !v3.2 then (some true) else (some (icmp .gtr v3.1.Stamp v1.1.Stamp))))).bind fun s5 => some s5
set_option maxRecDepth 100000 in
set_option maxHeartbeats 4000000 in
theorem smithyref13_newer.con (k : Nat) (a0 : Node) (a1 : Disk) (a2 : List ByteArray) (a3 : ByteArray) (r : Bool) (H : smithyref13_newer.f k a0 a1 a2 a3 = some r) : Con Try.prog 44 [VA.k kNode a0, VA.k kDisk a1, VA.k (kslice kstr) a2, VA.k kstr a3] [VA.k kbool r] := by
  unfold smithyref13_newer.f at H
  refine con_enter Try.func44 rfl rfl rfl (fun w0 S0 θ => ?_)
  refine goes_seq ?_
  refine goes_region ?_
  refine go3 (op_box 4 rfl (fun h => by first | rfl | cases h) (.t (has rfl))) rfl ?_
  refine go3 (op_box 5 rfl (fun h => by first | rfl | cases h) (.t (has rfl))) rfl ?_
  refine go1 (op_assign rfl (.bool _)) rfl ?_
  refine goesO_nil ?_
  refine ends_then ?_
  refine goes_seq ?_
  refine goes_region ?_
  refine go1 (op_load rfl (Fld.whole kDisk) tk27 (.t (has rfl)) (has rfl)) rfl ?_
  refine go1 (op_fieldAddr rfl Try.underlying24 rfl tk9 (.t (has rfl))) rfl ?_
  refine go1 (op_load rfl fldNode_Target tk9 (.t (has rfl)) (has rfl)) rfl ?_
  obtain ⟨v1, h2, H⟩ := bind_some H
  refine goN (op_calls' rfl enters16 (smithyref13_File.con _ _ _ _ h2) rfl rfl (.cons (ArgP.k (.t (has rfl))) (.cons (ArgP.k (.t (has rfl))) .nil))) rfl ?_
  refine go1 (op_same (.inl rfl) rfl rfl) rfl ?_
  refine go1 (op_extract_same rfl plain_k (has rfl) (has rfl)) rfl ?_
  refine go1 (op_extract_same rfl plain_k (has rfl) (has rfl)) rfl ?_
  refine go3 (op_alloc 9 rfl zk47) rfl ?_
  refine go1 (op_store (Fld.whole kFile) tk47 (.t (has rfl)) (has rfl) (.t (has rfl))) rfl ?_
  refine go1 (op_assign rfl (.t (has rfl))) rfl ?_
  refine goesO_nil ?_
  refine ends_then ?_
  refine goes_seq ?_
  refine goes_region ?_
  refine go1 (op_load rfl (Fld.whole kDisk) tk27 (.t (has rfl)) (has rfl)) rfl ?_
  refine go1 (op_move rfl (.t (has rfl))) rfl ?_
  obtain ⟨v3, h4, H⟩ := bind_some H
  refine goN (op_calls' rfl enters16 (smithyref13_File.con _ _ _ _ h4) rfl rfl (.cons (ArgP.k (.t (has rfl))) (.cons (ArgP.k (.t (has rfl))) .nil))) rfl ?_
  refine go1 (op_same (.inl rfl) rfl rfl) rfl ?_
  refine go1 (op_extract_same rfl plain_k (has rfl) (has rfl)) rfl ?_
  refine go1 (op_extract_same rfl plain_k (has rfl) (has rfl)) rfl ?_
  refine go3 (op_alloc 11 rfl zk47) rfl ?_
  refine go1 (op_store (Fld.whole kFile) tk47 (.t (has rfl)) (has rfl) (.t (has rfl))) rfl ?_
  refine go1 (op_assign rfl (.t (has rfl))) rfl ?_
  refine goesO_nil ?_
  refine ends_then ?_
  refine goes_seq ?_
  obtain ⟨s5, h6, H⟩ := bind_some H
  refine goes_cut [Ent.t 8 (VA.k kbool s5)] ?_ ?_
  · replace H := h6; clear h6
    refine goes_region ?_
    refine go1 (op_move rfl (.t (has rfl))) rfl ?_
    refine go1 (op_not rfl (.t (has rfl))) rfl ?_
    refine go1 (op_move rfl (.t (has rfl))) rfl ?_
    refine goesO_split H (fun hb7 H => ?_) (fun hb7 H => ?_)
    · skip
      refine goS rfl rfl rfl rfl rfl rfl hb7 ?_
      refine goS rfl rfl rfl rfl rfl rfl hb7 ?_
      refine goS rfl rfl rfl rfl rfl rfl hb7 ?_
      refine go1 (op_pick_t rfl hb7 (.t (has rfl)) (.bool _)) rfl ?_
      refine go1 (op_move rfl (.t (has rfl))) rfl ?_
      refine goS rfl rfl rfl rfl rfl rfl rfl ?_
      refine goS rfl rfl rfl rfl rfl rfl rfl ?_
      refine go1 (op_pick_t rfl rfl (.t (has rfl)) (.bool _)) rfl ?_
      refine go1 (op_move rfl (.t (has rfl))) rfl ?_
      refine goS rfl rfl rfl rfl rfl rfl rfl ?_
      refine goS rfl rfl rfl rfl rfl rfl rfl ?_
      refine goS rfl rfl rfl rfl rfl rfl rfl ?_
      refine goS rfl rfl rfl rfl rfl rfl rfl ?_
      refine goS rfl rfl rfl rfl rfl rfl rfl ?_
      refine go1 (op_pick_t rfl rfl (.t (has rfl)) (.bool _)) rfl ?_
      refine go1 (op_assign rfl (.t (has rfl))) rfl ?_
      refine goesO_nil ?_
      obtain rfl := Option.some.inj H
      exact ends_cut (.cons rfl .nil)
    · skip
      refine goG (op_move rfl (.t (has rfl))) rfl rfl rfl rfl hb7 ?_
      refine goG (op_move rfl (.t (has rfl))) rfl rfl rfl rfl hb7 ?_
      obtain ⟨v8, h9, H⟩ := bind_some H
      refine goG (op_call' rfl enters17 (smithyref03_Has.con _ _ _ _ h9) rfl (.cons (ArgP.k (.t (has rfl))) (.cons (ArgP.k (.t (has rfl))) .nil))) rfl rfl rfl rfl hb7 ?_
      refine go1 (op_pick_f rfl hb7 (.t (has rfl)) (.t (has rfl))) rfl ?_
      refine go1 (op_move rfl (.t (has rfl))) rfl ?_
      refine goesO_split H (fun hb10 H => ?_) (fun hb10 H => ?_)
      · skip
        refine goS rfl rfl rfl rfl rfl rfl hb10 ?_
        refine goS rfl rfl rfl rfl rfl rfl hb10 ?_
        refine go1 (op_pick_t rfl hb10 (.t (has rfl)) (.bool _)) rfl ?_
        refine go1 (op_move rfl (.t (has rfl))) rfl ?_
        refine goS rfl rfl rfl rfl rfl rfl rfl ?_
        refine goS rfl rfl rfl rfl rfl rfl rfl ?_
        refine goS rfl rfl rfl rfl rfl rfl rfl ?_
        refine goS rfl rfl rfl rfl rfl rfl rfl ?_
        refine goS rfl rfl rfl rfl rfl rfl rfl ?_
        refine go1 (op_pick_t rfl rfl (.t (has rfl)) (.bool _)) rfl ?_
        refine go1 (op_assign rfl (.t (has rfl))) rfl ?_
        refine goesO_nil ?_
        obtain rfl := Option.some.inj H
        exact ends_cut (.cons rfl .nil)
      · skip
        refine goG (op_move rfl (.t (has rfl))) rfl rfl rfl rfl hb10 ?_
        refine goG (op_not rfl (.t (has rfl))) rfl rfl rfl rfl hb10 ?_
        refine go1 (op_pick_f rfl hb10 (.t (has rfl)) (.t (has rfl))) rfl ?_
        refine go1 (op_move rfl (.t (has rfl))) rfl ?_
        refine goesO_split H (fun hb11 H => ?_) (fun hb11 H => ?_)
        · skip
          refine goS rfl rfl rfl rfl rfl rfl hb11 ?_
          refine goS rfl rfl rfl rfl rfl rfl hb11 ?_
          refine goS rfl rfl rfl rfl rfl rfl hb11 ?_
          refine goS rfl rfl rfl rfl rfl rfl hb11 ?_
          refine goS rfl rfl rfl rfl rfl rfl hb11 ?_
          refine go1 (op_pick_t rfl hb11 (.t (has rfl)) (.bool _)) rfl ?_
          refine go1 (op_assign rfl (.t (has rfl))) rfl ?_
          refine goesO_nil ?_
          obtain rfl := Option.some.inj H
          exact ends_cut (.cons rfl .nil)
        · skip
          refine goG (op_fieldAddr rfl Try.underlying47 rfl tk3 (.t (has rfl))) rfl rfl rfl rfl hb11 ?_
          refine goG (op_load rfl fldFile_Stamp tk3 (.t (has rfl)) (has rfl)) rfl rfl rfl rfl hb11 ?_
          refine goG (op_fieldAddr rfl Try.underlying47 rfl tk3 (.t (has rfl))) rfl rfl rfl rfl hb11 ?_
          refine goG (op_load rfl fldFile_Stamp tk3 (.t (has rfl)) (has rfl)) rfl rfl rfl rfl hb11 ?_
          refine goG (op_icmp rfl rfl (.t (has rfl)) (.t (has rfl))) rfl rfl rfl rfl hb11 ?_
          refine go1 (op_pick_f rfl hb11 (.t (has rfl)) (.t (has rfl))) rfl ?_
          refine go1 (op_assign rfl (.t (has rfl))) rfl ?_
          refine goesO_nil ?_
          obtain rfl := Option.some.inj H
          exact ends_cut (.cons rfl .nil)
  refine ends_then ?_
  obtain rfl := Option.some.inj H
  exact goes_ret (ends_ret' rfl rfl (.t rfl (.nil _)))
theorem smithyref13_newer.conF (k : Nat) (a0 : Node) (a1 : Disk) (a2 : List ByteArray) (a3 : ByteArray) (r : Bool) (H : smithyref13_newer.f k a0 a1 a2 a3 = some r) : ConF Try.prog 44 [VA.k kNode a0, VA.k kDisk a1, VA.k (kslice kstr) a2, VA.k kstr a3] [VA.k kbool r] := (smithyref13_newer.con k a0 a1 a2 a3 r H).freeL (.cons (KFree.k KFree.bool _) .nil)
/-! smithy/smithyref13.List -/
def smithyref13_List.l0 (a0 : Node) (a1 : Disk) (a2 : List ByteArray) : Nat → ((List ByteArray) × Int) → Option (List ByteArray)
  | 0, _ => none
  | k + 1, s1 => bif icmp .lss s1.2 (a0.Needs.length : Int) then (((idx a0.Needs s1.2).bind fun x7 => (smithyref13_newer.f k a0 a1 a2 x7).bind fun v9 => bif v9 then ((app 16 s1.1 ([x7])).bind fun x12 => some x12) else (some s1.1)).bind fun s5 => smithyref13_List.l0 a0 a1 a2 k (s5, IntKind.i64.wrap (s1.2 + (1 : Int)))) else (some s1.1)
def smithyref13_List.f (k : Nat) (a0 : Node) (a1 : Disk) (a2 : List ByteArray) : Option (List ByteArray) := (smithyref13_List.l0 a0 a1 a2 k (([] : List ByteArray), (0 : Int))).bind fun s2 => some s2
set_option maxRecDepth 100000 in
set_option maxHeartbeats 4000000 in
theorem smithyref13_List.con (k : Nat) (a0 : Node) (a1 : Disk) (a2 : List ByteArray) (r : List ByteArray) (H : smithyref13_List.f k a0 a1 a2 = some r) : Con Try.prog 25 [VA.k kNode a0, VA.k kDisk a1, VA.k (kslice kstr) a2] [VA.own 9 kstr r] := by
  unfold smithyref13_List.f at H
  refine con_enter Try.func25 rfl rfl rfl (fun w0 S0 θ => ?_)
  refine goes_seq ?_
  refine goes_region ?_
  refine go3 (op_box 3 rfl (fun h => by first | rfl | cases h) (.t (has rfl))) rfl ?_
  refine go3 (op_box 4 rfl (fun h => by first | rfl | cases h) (.t (has rfl))) rfl ?_
  refine go1 (op_assign_nil 9 kstr (.inr rfl) rfl) rfl ?_
  refine goesO_nil ?_
  refine ends_then ?_
  refine goes_seq ?_
  refine goes_region ?_
  refine go1 (op_assign_nil 9 kstr (.inr rfl) rfl) rfl ?_
  refine goesO_nil ?_
  refine ends_then ?_
  refine goes_seq ?_
  refine goes_seq ?_
  refine goes_region ?_
  refine go1 (op_fieldAddr rfl Try.underlying24 rfl tk22 (.t (has rfl))) rfl ?_
  refine go1 (op_load rfl fldNode_Needs tk22 (.t (has rfl)) (has rfl)) rfl ?_
  refine go1 (op_len rfl rfl Try.underlying22 (.t (has rfl))) rfl ?_
  refine go1 (op_move rfl (.int _ _)) rfl ?_
  refine goesO_nil ?_
  refine ends_then ?_
  obtain ⟨s2, h3, H⟩ := bind_some H
  refine goes_cut [Ent.t 7 (VA.own 9 kstr s2)] ?_ ?_
  · replace H := h3; clear h3
    refine goes_block ?_
    refine goes_loop (fun s1 : (List ByteArray) × Int => [Ent.t 2 (VA.k (kslice kstr) a2), Ent.t 3 (VA.ptr 3 0), Ent.t 4 (VA.ptr 4 0), Ent.t 7 (VA.own 9 kstr s1.1), Ent.t 11 (VA.k (kslice kstr) a0.Needs), Ent.t 12 (VA.k (kint .i64) (a0.Needs.length : Int)), Ent.t 13 (VA.k (kint .i64) s1.2), Ent.h 3 (HE.box 24 kNode a0), Ent.h 4 (HE.box 27 kDisk a1)]) (fun k s1 => smithyref13_List.l0 a0 a1 a2 k s1) (fun _ => rfl) H (.cons rfl (.cons rfl (.cons rfl (.cons rfl (.cons rfl (.cons rfl (.cons rfl (.cons rfl (.cons rfl .nil))))))))) ?_
    intro k s1 H
    simp only [smithyref13_List.l0] at H
    refine goes_seq ?_
    refine goes_region ?_
    refine go1 (op_icmp rfl rfl (.t (has rfl)) (.t (has rfl))) rfl ?_
    refine goesO_nil ?_
    refine ends_then ?_
    refine goes_seq ?_
    refine goes_if (.t (has rfl)) H (fun hb4 H => ?_) (fun hb4 H => ?_)
    · skip
      refine goes_skip ?_
      refine ends_then ?_
      refine goes_seq ?_
      obtain ⟨s5, h6, H⟩ := bind_some H
      refine goes_cut [Ent.t 2 (VA.k (kslice kstr) a2), Ent.t 3 (VA.ptr 3 0), Ent.t 4 (VA.ptr 4 0), Ent.t 7 (VA.own 9 kstr s5), Ent.t 11 (VA.k (kslice kstr) a0.Needs), Ent.t 12 (VA.k (kint .i64) (a0.Needs.length : Int)), Ent.t 13 (VA.k (kint .i64) s1.2), Ent.h 3 (HE.box 24 kNode a0), Ent.h 4 (HE.box 27 kDisk a1)] ?_ ?_
      · replace H := h6; clear h6
        refine goes_block ?_
        refine goes_seq ?_
        refine goes_region ?_
        obtain ⟨x7, h8, H⟩ := bind_some H
        refine go1 (op_indexAddr rfl Try.underlying22 tk9 h8 (.t (has rfl)) (.t (has rfl))) rfl ?_
        refine go1 (op_loadp rfl tk9 (.t (has rfl))) rfl ?_
        refine go1 (op_assign rfl (.t (has rfl))) rfl ?_
        refine goesO_nil ?_
        refine ends_then ?_
        refine goes_seq ?_
        refine goes_region ?_
        refine go1 (op_load rfl (Fld.whole kNode) tk24 (.t (has rfl)) (has rfl)) rfl ?_
        refine go1 (op_load rfl (Fld.whole kDisk) tk27 (.t (has rfl)) (has rfl)) rfl ?_
        refine go1 (op_move rfl (.t (has rfl))) rfl ?_
        refine go1 (op_move rfl (.t (has rfl))) rfl ?_
        obtain ⟨v9, h10, H⟩ := bind_some H
        refine go1 (op_call' rfl enters44 (smithyref13_newer.con _ _ _ _ _ _ h10) rfl (.cons (ArgP.k (.t (has rfl))) (.cons (ArgP.k (.t (has rfl))) (.cons (ArgP.k (.t (has rfl))) (.cons (ArgP.k (.t (has rfl))) .nil))))) rfl ?_
        refine goesO_nil ?_
        refine ends_then ?_
        refine goes_if (.t (has rfl)) H (fun hb11 H => ?_) (fun hb11 H => ?_)
        · skip
          refine goes_region ?_
          refine go2 (op_mv (.inl rfl) rfl rfl (has rfl)) rfl ?_
          refine go1 (op_move rfl (.t (has rfl))) rfl ?_
          refine go1 (op_buildSlice rfl at22 (fun h => by first | rfl | cases h) rfl rfl rfl (.cons (.t (has rfl)) (.nil _))) rfl ?_
          obtain ⟨x12, h13, H⟩ := bind_some H
          refine go2 (op_append rfl rfl at22 h13 (has rfl) (ReadsArg.own (.t (has rfl)))) rfl ?_
          refine go2 (op_mv (.inr rfl) rfl rfl (has rfl)) rfl ?_
          refine goesO_nil ?_
          refine ends_block ?_
          obtain rfl := Option.some.inj H
          exact ends_cut (.cons rfl (.cons rfl (.cons rfl (.cons rfl (.cons rfl (.cons rfl (.cons rfl (.cons rfl (.cons rfl .nil)))))))))
        · skip
          refine goes_skip ?_
          refine ends_block ?_
          obtain rfl := Option.some.inj H
          exact ends_cut (.cons rfl (.cons rfl (.cons rfl (.cons rfl (.cons rfl (.cons rfl (.cons rfl (.cons rfl (.cons rfl .nil)))))))))
      refine ends_then ?_
      refine goes_region ?_
      refine go1 (op_add rfl (.t (has rfl)) (.int _ _)) rfl ?_
      refine go1 (op_move rfl (.t (has rfl))) rfl ?_
      refine goesO_nil ?_
      exact loop_next _ H (.cons rfl (.cons rfl (.cons rfl (.cons rfl (.cons rfl (.cons rfl (.cons rfl (.cons rfl (.cons rfl .nil)))))))))
    · skip
      refine goes_exit (ends_then_exit (ends_then_exit (ends_block_exit ?_)))
      obtain rfl := Option.some.inj H
      exact ends_cut (.cons rfl .nil)
  refine ends_then ?_
  refine goes_seq ?_
  refine goes_region ?_
  refine go2 (op_mv (.inl rfl) rfl rfl (has rfl)) rfl ?_
  refine go2 (op_mv (.inr rfl) rfl rfl (has rfl)) rfl ?_
  refine goesO_nil ?_
  refine ends_then ?_
  obtain rfl := Option.some.inj H
  exact goes_ret (ends_ret' rfl rfl (.t rfl (.nil _)))
theorem smithyref13_List.conF (k : Nat) (a0 : Node) (a1 : Disk) (a2 : List ByteArray) (r : List ByteArray) (H : smithyref13_List.f k a0 a1 a2 = some r) : ConF Try.prog 25 [VA.k kNode a0, VA.k kDisk a1, VA.k (kslice kstr) a2] [VA.own 9 kstr r] := (smithyref13_List.con k a0 a1 a2 r H).freeL (.cons (KFree.own KFree.str _ _) .nil)
/-! smithy/smithyref13.Stale -/
def smithyref13_Stale.f (k : Nat) (a0 : Node) (a1 : Disk) (a2 : List ByteArray) : Option Bool := (smithyref13_File.f k a1 a0.Target).bind fun v1 => (bif a0.Phony then (some true) else (bif !v1.2 then (some true) else ((smithyref13_List.f k a0 a1 a2).bind fun v7 => some (icmp .gtr (v7.length : Int) (0 : Int))))).bind fun s3 => some s3
set_option maxRecDepth 100000 in
set_option maxHeartbeats 4000000 in
theorem smithyref13_Stale.con (k : Nat) (a0 : Node) (a1 : Disk) (a2 : List ByteArray) (r : Bool) (H : smithyref13_Stale.f k a0 a1 a2 = some r) : Con Try.prog 26 [VA.k kNode a0, VA.k kDisk a1, VA.k (kslice kstr) a2] [VA.k kbool r] := by
  unfold smithyref13_Stale.f at H
  refine con_enter Try.func26 rfl rfl rfl (fun w0 S0 θ => ?_)
  refine goes_seq ?_
  refine goes_region ?_
  refine go3 (op_box 3 rfl (fun h => by first | rfl | cases h) (.t (has rfl))) rfl ?_
  refine go3 (op_box 4 rfl (fun h => by first | rfl | cases h) (.t (has rfl))) rfl ?_
  refine go1 (op_assign rfl (.bool _)) rfl ?_
  refine goesO_nil ?_
  refine ends_then ?_
  refine goes_seq ?_
  refine goes_region ?_
  refine go1 (op_load rfl (Fld.whole kDisk) tk27 (.t (has rfl)) (has rfl)) rfl ?_
  refine go1 (op_fieldAddr rfl Try.underlying24 rfl tk9 (.t (has rfl))) rfl ?_
  refine go1 (op_load rfl fldNode_Target tk9 (.t (has rfl)) (has rfl)) rfl ?_
  obtain ⟨v1, h2, H⟩ := bind_some H
  refine goN (op_calls' rfl enters16 (smithyref13_File.con _ _ _ _ h2) rfl rfl (.cons (ArgP.k (.t (has rfl))) (.cons (ArgP.k (.t (has rfl))) .nil))) rfl ?_
  refine go1 (op_same (.inl rfl) rfl rfl) rfl ?_
  refine go1 (op_extract_same rfl plain_k (has rfl) (has rfl)) rfl ?_
  refine go1 (op_extract_same rfl plain_k (has rfl) (has rfl)) rfl ?_
  refine go3 (op_alloc 7 rfl zk47) rfl ?_
  refine go1 (op_store (Fld.whole kFile) tk47 (.t (has rfl)) (has rfl) (.t (has rfl))) rfl ?_
  refine go1 (op_assign rfl (.t (has rfl))) rfl ?_
  refine goesO_nil ?_
  refine ends_then ?_
  refine goes_seq ?_
  obtain ⟨s3, h4, H⟩ := bind_some H
  refine goes_cut [Ent.t 6 (VA.k kbool s3)] ?_ ?_
  · replace H := h4; clear h4
    refine goes_region ?_
    refine go1 (op_fieldAddr rfl Try.underlying24 rfl tk4 (.t (has rfl))) rfl ?_
    refine go1 (op_load rfl fldNode_Phony tk4 (.t (has rfl)) (has rfl)) rfl ?_
    refine go1 (op_move rfl (.t (has rfl))) rfl ?_
    refine goesO_split H (fun hb5 H => ?_) (fun hb5 H => ?_)
    · skip
      refine goS rfl rfl rfl rfl rfl rfl hb5 ?_
      refine goS rfl rfl rfl rfl rfl rfl hb5 ?_
      refine go1 (op_pick_t rfl hb5 (.t (has rfl)) (.bool _)) rfl ?_
      refine go1 (op_move rfl (.t (has rfl))) rfl ?_
      refine goS rfl rfl rfl rfl rfl rfl rfl ?_
      refine goS rfl rfl rfl rfl rfl rfl rfl ?_
      refine goS rfl rfl rfl rfl rfl rfl rfl ?_
      refine goS rfl rfl rfl rfl rfl rfl rfl ?_
      refine goS rfl rfl rfl rfl rfl rfl rfl ?_
      refine goS rfl rfl rfl rfl rfl rfl rfl ?_
      refine go1 (op_pick_t rfl rfl (.t (has rfl)) (.bool _)) rfl ?_
      refine go1 (op_assign rfl (.t (has rfl))) rfl ?_
      refine goesO_nil ?_
      obtain rfl := Option.some.inj H
      exact ends_cut (.cons rfl .nil)
    · skip
      refine goG (op_move rfl (.t (has rfl))) rfl rfl rfl rfl hb5 ?_
      refine goG (op_not rfl (.t (has rfl))) rfl rfl rfl rfl hb5 ?_
      refine go1 (op_pick_f rfl hb5 (.t (has rfl)) (.t (has rfl))) rfl ?_
      refine go1 (op_move rfl (.t (has rfl))) rfl ?_
      refine goesO_split H (fun hb6 H => ?_) (fun hb6 H => ?_)
      · skip
        refine goS rfl rfl rfl rfl rfl rfl hb6 ?_
        refine goS rfl rfl rfl rfl rfl rfl hb6 ?_
        refine goS rfl rfl rfl rfl rfl rfl hb6 ?_
        refine goS rfl rfl rfl rfl rfl rfl hb6 ?_
        refine goS rfl rfl rfl rfl rfl rfl hb6 ?_
        refine goS rfl rfl rfl rfl rfl rfl hb6 ?_
        refine go1 (op_pick_t rfl hb6 (.t (has rfl)) (.bool _)) rfl ?_
        refine go1 (op_assign rfl (.t (has rfl))) rfl ?_
        refine goesO_nil ?_
        obtain rfl := Option.some.inj H
        exact ends_cut (.cons rfl .nil)
      · skip
        refine goG (op_load rfl (Fld.whole kNode) tk24 (.t (has rfl)) (has rfl)) rfl rfl rfl rfl hb6 ?_
        refine goG (op_load rfl (Fld.whole kDisk) tk27 (.t (has rfl)) (has rfl)) rfl rfl rfl rfl hb6 ?_
        refine goG (op_move rfl (.t (has rfl))) rfl rfl rfl rfl hb6 ?_
        obtain ⟨v7, h8, H⟩ := bind_some H
        refine goG (op_call' rfl enters25 (smithyref13_List.con _ _ _ _ _ h8) rfl (.cons (ArgP.k (.t (has rfl))) (.cons (ArgP.k (.t (has rfl))) (.cons (ArgP.k (.t (has rfl))) .nil)))) rfl rfl rfl rfl hb6 ?_
        refine goG (op_len_own rfl rfl Try.underlying22 (.t (has rfl))) rfl rfl rfl rfl hb6 ?_
        refine goG (op_icmp rfl rfl (.t (has rfl)) (.int _ _)) rfl rfl rfl rfl hb6 ?_
        refine go1 (op_pick_f rfl hb6 (.t (has rfl)) (.t (has rfl))) rfl ?_
        refine go1 (op_assign rfl (.t (has rfl))) rfl ?_
        refine goesO_nil ?_
        obtain rfl := Option.some.inj H
        exact ends_cut (.cons rfl .nil)
  refine ends_then ?_
  obtain rfl := Option.some.inj H
  exact goes_ret (ends_ret' rfl rfl (.t rfl (.nil _)))
theorem smithyref13_Stale.conF (k : Nat) (a0 : Node) (a1 : Disk) (a2 : List ByteArray) (r : Bool) (H : smithyref13_Stale.f k a0 a1 a2 = some r) : ConF Try.prog 26 [VA.k kNode a0, VA.k kDisk a1, VA.k (kslice kstr) a2] [VA.k kbool r] := (smithyref13_Stale.con k a0 a1 a2 r H).freeL (.cons (KFree.k KFree.bool _) .nil)
/-! smithy/smithyref13.Would -/
def smithyref13_Would.l0 (a0 : Plan) : Nat → ((List ByteArray) × Int) → Option (List ByteArray)
  | 0, _ => none
  | k + 1, s9 => bif icmp .lss s9.2 (a0.Nodes.length : Int) then (((idx a0.Nodes s9.2).bind fun x15 => bif x15.Phony then ((app 16 s9.1 ([x15.Target])).bind fun x18 => some x18) else (some s9.1)).bind fun s13 => smithyref13_Would.l0 a0 k (s13, IntKind.i64.wrap (s9.2 + (1 : Int)))) else (some s9.1)
def smithyref13_Would.l1 (a0 : Plan) (a1 : Disk) (s10 : (List ByteArray)) : Nat → ((List ByteArray) × Int) → Option (List ByteArray)
  | 0, _ => none
  | k + 1, s20 => bif icmp .lss s20.2 (a0.Nodes.length : Int) then (((idx a0.Nodes s20.2).bind fun x26 => (app 16 ([] : List ByteArray) s10).bind fun x28 => (app 16 x28 s20.1).bind fun x30 => (bif x26.Has then (bif icmp .gtr (x26.Recipe.length : Int) (0 : Int) then ((smithyref13_Stale.f k x26 a1 x30).bind fun v36 => some v36) else (some false)) else (some false)).bind fun s32 => bif s32 then ((app 16 s20.1 ([x26.Target])).bind fun x39 => some x39) else (some s20.1)).bind fun s24 => smithyref13_Would.l1 a0 a1 s10 k (s24, IntKind.i64.wrap (s20.2 + (1 : Int)))) else (some s20.1)
def smithyref13_Would.f (k : Nat) (a0 : Plan) (a1 : Disk) : Option ((List ByteArray) × Int) := (smithyref12_Check.f k a0).bind fun v1 => (bif icmp .eql v1 (0 : Int) then ((smithyref02_Check.f k a1).bind fun v6 => some v6) else (some v1)).bind fun s3 => bif icmp .neq s3 (0 : Int) then (some (([] : List ByteArray), s3)) else ((smithyref13_Would.l0 a0 k (([] : List ByteArray), (0 : Int))).bind fun s10 => (smithyref13_Would.l1 a0 a1 s10 k (([] : List ByteArray), (0 : Int))).bind fun s21 => some (s21, (0 : Int)))
set_option maxRecDepth 100000 in
set_option maxHeartbeats 4000000 in
theorem smithyref13_Would.con (k : Nat) (a0 : Plan) (a1 : Disk) (r : (List ByteArray) × Int) (H : smithyref13_Would.f k a0 a1 = some r) : Con Try.prog 21 [VA.k kPlan a0, VA.k kDisk a1] [VA.own 9 kstr r.1, VA.k (kint .i64) r.2] := by
  unfold smithyref13_Would.f at H
  refine con_enter Try.func21 rfl rfl rfl (fun w0 S0 θ => ?_)
  refine goes_seq ?_
  refine goes_region ?_
  refine go3 (op_box 2 rfl (fun h => by first | rfl | cases h) (.t (has rfl))) rfl ?_
  refine go3 (op_box 3 rfl (fun h => by first | rfl | cases h) (.t (has rfl))) rfl ?_
  refine go1 (op_assign_nil 9 kstr (.inr rfl) rfl) rfl ?_
  refine go1 (op_assign rfl (.int _ _)) rfl ?_
  refine goesO_nil ?_
  refine ends_then ?_
  refine goes_seq ?_
  refine goes_region ?_
  refine go1 (op_load rfl (Fld.whole kPlan) tk57 (.t (has rfl)) (has rfl)) rfl ?_
  obtain ⟨v1, h2, H⟩ := bind_some H
  refine go1 (op_call' rfl enters36 (smithyref12_Check.con _ _ _ h2) rfl (.cons (ArgP.k (.t (has rfl))) .nil)) rfl ?_
  refine go1 (op_assign rfl (.t (has rfl))) rfl ?_
  refine goesO_nil ?_
  refine ends_then ?_
  refine goes_seq ?_
  refine goes_seq ?_
  refine goes_region ?_
  refine go1 (op_move rfl (.t (has rfl))) rfl ?_
  refine go1 (op_icmp rfl rfl (.t (has rfl)) (.int _ _)) rfl ?_
  refine goesO_nil ?_
  refine ends_then ?_
  obtain ⟨s3, h4, H⟩ := bind_some H
  refine goes_cut [Ent.t 2 (VA.ptr 2 0), Ent.t 3 (VA.ptr 3 0), Ent.t 6 (VA.k (kint .i64) s3), Ent.h 2 (HE.box 57 kPlan a0), Ent.h 3 (HE.box 27 kDisk a1)] ?_ ?_
  · replace H := h4; clear h4
    refine goes_if (.t (has rfl)) H (fun hb5 H => ?_) (fun hb5 H => ?_)
    · skip
      refine goes_region ?_
      refine go1 (op_load rfl (Fld.whole kDisk) tk27 (.t (has rfl)) (has rfl)) rfl ?_
      obtain ⟨v6, h7, H⟩ := bind_some H
      refine go1 (op_call' rfl enters37 (smithyref02_Check.con _ _ _ h7) rfl (.cons (ArgP.k (.t (has rfl))) .nil)) rfl ?_
      refine go1 (op_assign rfl (.t (has rfl))) rfl ?_
      refine goesO_nil ?_
      obtain rfl := Option.some.inj H
      exact ends_cut (.cons rfl (.cons rfl (.cons rfl (.cons rfl (.cons rfl .nil)))))
    · skip
      refine goes_skip ?_
      obtain rfl := Option.some.inj H
      exact ends_cut (.cons rfl (.cons rfl (.cons rfl (.cons rfl (.cons rfl .nil)))))
  refine ends_then ?_
  refine goes_seq ?_
  refine goes_seq ?_
  refine goes_region ?_
  refine go1 (op_move rfl (.t (has rfl))) rfl ?_
  refine go1 (op_icmp rfl rfl (.t (has rfl)) (.int _ _)) rfl ?_
  refine goesO_nil ?_
  refine ends_then ?_
  refine goes_if (.t (has rfl)) H (fun hb8 H => ?_) (fun hb8 H => ?_)
  · skip
    refine goes_seq ?_
    refine goes_region ?_
    refine go1 (op_move rfl (.t (has rfl))) rfl ?_
    refine go1 (op_assign_nil 9 kstr (.inr rfl) rfl) rfl ?_
    refine go1 (op_assign rfl (.t (has rfl))) rfl ?_
    refine goesO_nil ?_
    refine ends_then ?_
    obtain rfl := Option.some.inj H
    exact goes_ret (ends_then_ret (ends_ret' rfl rfl (.t rfl (.t rfl (.nil _)))))
  · skip
    refine goes_skip ?_
    refine ends_then ?_
    refine goes_seq ?_
    refine goes_region ?_
    refine go1 (op_assign_nil 9 kstr (.inr rfl) rfl) rfl ?_
    refine go1 (op_assign_nil 9 kstr (.inr rfl) rfl) rfl ?_
    refine goesO_nil ?_
    refine ends_then ?_
    refine goes_seq ?_
    refine goes_seq ?_
    refine goes_region ?_
    refine go1 (op_fieldAddr rfl Try.underlying57 rfl tk55 (.t (has rfl))) rfl ?_
    refine go1 (op_load rfl fldPlan_Nodes tk55 (.t (has rfl)) (has rfl)) rfl ?_
    refine go1 (op_len rfl rfl Try.underlying55 (.t (has rfl))) rfl ?_
    refine go1 (op_move rfl (.int _ _)) rfl ?_
    refine goesO_nil ?_
    refine ends_then ?_
    obtain ⟨s10, h11, H⟩ := bind_some H
    refine goes_cut [Ent.t 2 (VA.ptr 2 0), Ent.t 3 (VA.ptr 3 0), Ent.t 7 (VA.own 9 kstr s10), Ent.t 8 (VA.own 9 kstr ([] : List ByteArray)), Ent.h 2 (HE.box 57 kPlan a0), Ent.h 3 (HE.box 27 kDisk a1)] ?_ ?_
    · replace H := h11; clear h11
      refine goes_block ?_
      refine goes_loop (fun s9 : (List ByteArray) × Int => [Ent.t 2 (VA.ptr 2 0), Ent.t 3 (VA.ptr 3 0), Ent.t 7 (VA.own 9 kstr s9.1), Ent.t 8 (VA.own 9 kstr ([] : List ByteArray)), Ent.t 24 (VA.k (kslice kNode) a0.Nodes), Ent.t 25 (VA.k (kint .i64) (a0.Nodes.length : Int)), Ent.t 26 (VA.k (kint .i64) s9.2), Ent.h 2 (HE.box 57 kPlan a0), Ent.h 3 (HE.box 27 kDisk a1)]) (fun k s9 => smithyref13_Would.l0 a0 k s9) (fun _ => rfl) H (.cons rfl (.cons rfl (.cons rfl (.cons rfl (.cons rfl (.cons rfl (.cons rfl (.cons rfl (.cons rfl .nil))))))))) ?_
      intro k s9 H
      simp only [smithyref13_Would.l0] at H
      refine goes_seq ?_
      refine goes_region ?_
      refine go1 (op_icmp rfl rfl (.t (has rfl)) (.t (has rfl))) rfl ?_
      refine goesO_nil ?_
      refine ends_then ?_
      refine goes_seq ?_
      refine goes_if (.t (has rfl)) H (fun hb12 H => ?_) (fun hb12 H => ?_)
      · skip
        refine goes_skip ?_
        refine ends_then ?_
        refine goes_seq ?_
        obtain ⟨s13, h14, H⟩ := bind_some H
        refine goes_cut [Ent.t 2 (VA.ptr 2 0), Ent.t 3 (VA.ptr 3 0), Ent.t 7 (VA.own 9 kstr s13), Ent.t 8 (VA.own 9 kstr ([] : List ByteArray)), Ent.t 24 (VA.k (kslice kNode) a0.Nodes), Ent.t 25 (VA.k (kint .i64) (a0.Nodes.length : Int)), Ent.t 26 (VA.k (kint .i64) s9.2), Ent.h 2 (HE.box 57 kPlan a0), Ent.h 3 (HE.box 27 kDisk a1)] ?_ ?_
        · replace H := h14; clear h14
          refine goes_block ?_
          refine goes_seq ?_
          refine goes_region ?_
          obtain ⟨x15, h16, H⟩ := bind_some H
          refine go1 (op_indexAddr rfl Try.underlying55 tk24 h16 (.t (has rfl)) (.t (has rfl))) rfl ?_
          refine go1 (op_loadp rfl tk24 (.t (has rfl))) rfl ?_
          refine go3 (op_alloc 10 rfl zk24) rfl ?_
          refine go1 (op_store (Fld.whole kNode) tk24 (.t (has rfl)) (has rfl) (.t (has rfl))) rfl ?_
          refine goesO_nil ?_
          refine ends_then ?_
          refine goes_seq ?_
          refine goes_region ?_
          refine go1 (op_fieldAddr rfl Try.underlying24 rfl tk4 (.t (has rfl))) rfl ?_
          refine go1 (op_load rfl fldNode_Phony tk4 (.t (has rfl)) (has rfl)) rfl ?_
          refine goesO_nil ?_
          refine ends_then ?_
          refine goes_if (.t (has rfl)) H (fun hb17 H => ?_) (fun hb17 H => ?_)
          · skip
            refine goes_region ?_
            refine go2 (op_mv (.inl rfl) rfl rfl (has rfl)) rfl ?_
            refine go1 (op_fieldAddr rfl Try.underlying24 rfl tk9 (.t (has rfl))) rfl ?_
            refine go1 (op_load rfl fldNode_Target tk9 (.t (has rfl)) (has rfl)) rfl ?_
            refine go1 (op_buildSlice rfl at22 (fun h => by first | rfl | cases h) rfl rfl rfl (.cons (.t (has rfl)) (.nil _))) rfl ?_
            obtain ⟨x18, h19, H⟩ := bind_some H
            refine go2 (op_append rfl rfl at22 h19 (has rfl) (ReadsArg.own (.t (has rfl)))) rfl ?_
            refine go2 (op_mv (.inr rfl) rfl rfl (has rfl)) rfl ?_
            refine goesO_nil ?_
            refine ends_block ?_
            obtain rfl := Option.some.inj H
            exact ends_cut (.cons rfl (.cons rfl (.cons rfl (.cons rfl (.cons rfl (.cons rfl (.cons rfl (.cons rfl (.cons rfl .nil)))))))))
          · skip
            refine goes_skip ?_
            refine ends_block ?_
            obtain rfl := Option.some.inj H
            exact ends_cut (.cons rfl (.cons rfl (.cons rfl (.cons rfl (.cons rfl (.cons rfl (.cons rfl (.cons rfl (.cons rfl .nil)))))))))
        refine ends_then ?_
        refine goes_region ?_
        refine go1 (op_add rfl (.t (has rfl)) (.int _ _)) rfl ?_
        refine go1 (op_move rfl (.t (has rfl))) rfl ?_
        refine goesO_nil ?_
        exact loop_next _ H (.cons rfl (.cons rfl (.cons rfl (.cons rfl (.cons rfl (.cons rfl (.cons rfl (.cons rfl (.cons rfl .nil)))))))))
      · skip
        refine goes_exit (ends_then_exit (ends_then_exit (ends_block_exit ?_)))
        obtain rfl := Option.some.inj H
        exact ends_cut (.cons rfl (.cons rfl (.cons rfl (.cons rfl (.cons rfl (.cons rfl .nil))))))
    refine ends_then ?_
    refine goes_seq ?_
    refine goes_seq ?_
    refine goes_region ?_
    refine go1 (op_fieldAddr rfl Try.underlying57 rfl tk55 (.t (has rfl))) rfl ?_
    refine go1 (op_load rfl fldPlan_Nodes tk55 (.t (has rfl)) (has rfl)) rfl ?_
    refine go1 (op_len rfl rfl Try.underlying55 (.t (has rfl))) rfl ?_
    refine go1 (op_move rfl (.int _ _)) rfl ?_
    refine goesO_nil ?_
    refine ends_then ?_
    obtain ⟨s21, h22, H⟩ := bind_some H
    refine goes_cut [Ent.t 8 (VA.own 9 kstr s21)] ?_ ?_
    · replace H := h22; clear h22
      refine goes_block ?_
      refine goes_loop (fun s20 : (List ByteArray) × Int => [Ent.t 3 (VA.ptr 3 0), Ent.t 7 (VA.own 9 kstr s10), Ent.t 8 (VA.own 9 kstr s20.1), Ent.t 39 (VA.k (kslice kNode) a0.Nodes), Ent.t 40 (VA.k (kint .i64) (a0.Nodes.length : Int)), Ent.t 41 (VA.k (kint .i64) s20.2), Ent.h 3 (HE.box 27 kDisk a1)]) (fun k s20 => smithyref13_Would.l1 a0 a1 s10 k s20) (fun _ => rfl) H (.cons rfl (.cons rfl (.cons rfl (.cons rfl (.cons rfl (.cons rfl (.cons rfl .nil))))))) ?_
      intro k s20 H
      simp only [smithyref13_Would.l1] at H
      refine goes_seq ?_
      refine goes_region ?_
      refine go1 (op_icmp rfl rfl (.t (has rfl)) (.t (has rfl))) rfl ?_
      refine goesO_nil ?_
      refine ends_then ?_
      refine goes_seq ?_
      refine goes_if (.t (has rfl)) H (fun hb23 H => ?_) (fun hb23 H => ?_)
      · skip
        refine goes_skip ?_
        refine ends_then ?_
        refine goes_seq ?_
        obtain ⟨s24, h25, H⟩ := bind_some H
        refine goes_cut [Ent.t 3 (VA.ptr 3 0), Ent.t 7 (VA.own 9 kstr s10), Ent.t 8 (VA.own 9 kstr s24), Ent.t 39 (VA.k (kslice kNode) a0.Nodes), Ent.t 40 (VA.k (kint .i64) (a0.Nodes.length : Int)), Ent.t 41 (VA.k (kint .i64) s20.2), Ent.h 3 (HE.box 27 kDisk a1)] ?_ ?_
        · replace H := h25; clear h25
          refine goes_block ?_
          refine goes_seq ?_
          refine goes_region ?_
          obtain ⟨x26, h27, H⟩ := bind_some H
          refine go1 (op_indexAddr rfl Try.underlying55 tk24 h27 (.t (has rfl)) (.t (has rfl))) rfl ?_
          refine go1 (op_loadp rfl tk24 (.t (has rfl))) rfl ?_
          refine go3 (op_alloc 12 rfl zk24) rfl ?_
          refine go1 (op_store (Fld.whole kNode) tk24 (.t (has rfl)) (has rfl) (.t (has rfl))) rfl ?_
          refine goesO_nil ?_
          refine ends_then ?_
          refine goes_seq ?_
          refine goes_region ?_
          refine go1 (op_assign_nil 9 kstr (.inr rfl) rfl) rfl ?_
          refine goesO_nil ?_
          refine ends_then ?_
          refine goes_seq ?_
          refine goes_region ?_
          refine go2 (op_mv (.inl rfl) rfl rfl (has rfl)) rfl ?_
          refine go1 (op_same (.inl rfl) rfl rfl) rfl ?_
          obtain ⟨x28, h29, H⟩ := bind_some H
          refine go2 (op_append rfl rfl at22 h29 (has rfl) (ReadsArg.own (.same (has rfl) (has rfl)))) rfl ?_
          refine go2 (op_mv (.inr rfl) rfl rfl (has rfl)) rfl ?_
          refine goesO_nil ?_
          refine ends_then ?_
          refine goes_seq ?_
          refine goes_region ?_
          refine go2 (op_mv (.inl rfl) rfl rfl (has rfl)) rfl ?_
          refine go1 (op_same (.inl rfl) rfl rfl) rfl ?_
          obtain ⟨x30, h31, H⟩ := bind_some H
          refine go2 (op_append rfl rfl at22 h31 (has rfl) (ReadsArg.own (.same (has rfl) (has rfl)))) rfl ?_
          refine go2 (op_mv (.inr rfl) rfl rfl (has rfl)) rfl ?_
          refine goesO_nil ?_
          refine ends_then ?_
          refine goes_seq ?_
          obtain ⟨s32, h33, H⟩ := bind_some H
          refine goes_cut [Ent.t 3 (VA.ptr 3 0), Ent.t 7 (VA.own 9 kstr s10), Ent.t 8 (VA.own 9 kstr s20.1), Ent.t 12 (VA.ptr 12 0), Ent.t 39 (VA.k (kslice kNode) a0.Nodes), Ent.t 40 (VA.k (kint .i64) (a0.Nodes.length : Int)), Ent.t 41 (VA.k (kint .i64) s20.2), Ent.t 64 (VA.k kbool s32), Ent.h 3 (HE.box 27 kDisk a1), Ent.h 12 (HE.box 24 kNode x26)] ?_ ?_
          · replace H := h33; clear h33
            refine goes_region ?_
            refine go1 (op_fieldAddr rfl Try.underlying24 rfl tk4 (.t (has rfl))) rfl ?_
            refine go1 (op_load rfl fldNode_Has tk4 (.t (has rfl)) (has rfl)) rfl ?_
            refine go1 (op_move rfl (.t (has rfl))) rfl ?_
            refine goesO_split H (fun hb34 H => ?_) (fun hb34 H => ?_)
            · skip
              refine goG (op_fieldAddr rfl Try.underlying24 rfl tk22 (.t (has rfl))) rfl rfl rfl rfl hb34 ?_
              refine goG (op_load rfl fldNode_Recipe tk22 (.t (has rfl)) (has rfl)) rfl rfl rfl rfl hb34 ?_
              refine goG (op_len rfl rfl Try.underlying22 (.t (has rfl))) rfl rfl rfl rfl hb34 ?_
              refine goG (op_icmp rfl rfl (.t (has rfl)) (.int _ _)) rfl rfl rfl rfl hb34 ?_
              refine go1 (op_pick_t rfl hb34 (.t (has rfl)) (.t (has rfl))) rfl ?_
              refine go1 (op_move rfl (.t (has rfl))) rfl ?_
              refine goesO_split H (fun hb35 H => ?_) (fun hb35 H => ?_)
              · skip
                refine goG (op_load rfl (Fld.whole kNode) tk24 (.t (has rfl)) (has rfl)) rfl rfl rfl rfl hb35 ?_
                refine goG (op_load rfl (Fld.whole kDisk) tk27 (.t (has rfl)) (has rfl)) rfl rfl rfl rfl hb35 ?_
                refine goG (op_same (.inl rfl) rfl rfl) rfl rfl rfl rfl hb35 ?_
                obtain ⟨v36, h37, H⟩ := bind_some H
                refine goG (op_callF' rfl enters26 (smithyref13_Stale.conF _ _ _ _ _ h37) rfl (.cons (ArgB.k (.t (has rfl))) (.cons (ArgB.k (.t (has rfl))) (.cons (ArgB.owns rfl (has rfl) (has rfl)) .nil)))) rfl rfl rfl rfl hb35 ?_
                refine go1 (op_pick_t rfl hb35 (.t (has rfl)) (.t (has rfl))) rfl ?_
                refine goesO_nil ?_
                obtain rfl := Option.some.inj H
                exact ends_cut (.cons rfl (.cons rfl (.cons rfl (.cons rfl (.cons rfl (.cons rfl (.cons rfl (.cons rfl (.cons rfl (.cons rfl .nil))))))))))
              · skip
                refine goS rfl rfl rfl rfl rfl rfl hb35 ?_
                refine goS rfl rfl rfl rfl rfl rfl hb35 ?_
                refine goS rfl rfl rfl rfl rfl rfl hb35 ?_
                refine goS rfl rfl rfl rfl rfl rfl hb35 ?_
                refine go1 (op_pick_f rfl hb35 (.t (has rfl)) (.bool _)) rfl ?_
                refine goesO_nil ?_
                obtain rfl := Option.some.inj H
                exact ends_cut (.cons rfl (.cons rfl (.cons rfl (.cons rfl (.cons rfl (.cons rfl (.cons rfl (.cons rfl (.cons rfl (.cons rfl .nil))))))))))
            · skip
              refine goS rfl rfl rfl rfl rfl rfl hb34 ?_
              refine goS rfl rfl rfl rfl rfl rfl hb34 ?_
              refine goS rfl rfl rfl rfl rfl rfl hb34 ?_
              refine goS rfl rfl rfl rfl rfl rfl hb34 ?_
              refine go1 (op_pick_f rfl hb34 (.t (has rfl)) (.bool _)) rfl ?_
              refine go1 (op_move rfl (.t (has rfl))) rfl ?_
              refine goS rfl rfl rfl rfl rfl rfl rfl ?_
              refine goS rfl rfl rfl rfl rfl rfl rfl ?_
              refine goS rfl rfl rfl rfl rfl rfl rfl ?_
              refine goS rfl rfl rfl rfl rfl rfl rfl ?_
              refine go1 (op_pick_f rfl rfl (.t (has rfl)) (.bool _)) rfl ?_
              refine goesO_nil ?_
              obtain rfl := Option.some.inj H
              exact ends_cut (.cons rfl (.cons rfl (.cons rfl (.cons rfl (.cons rfl (.cons rfl (.cons rfl (.cons rfl (.cons rfl (.cons rfl .nil))))))))))
          refine ends_then ?_
          refine goes_if (.t (has rfl)) H (fun hb38 H => ?_) (fun hb38 H => ?_)
          · skip
            refine goes_region ?_
            refine go2 (op_mv (.inl rfl) rfl rfl (has rfl)) rfl ?_
            refine go1 (op_fieldAddr rfl Try.underlying24 rfl tk9 (.t (has rfl))) rfl ?_
            refine go1 (op_load rfl fldNode_Target tk9 (.t (has rfl)) (has rfl)) rfl ?_
            refine go1 (op_buildSlice rfl at22 (fun h => by first | rfl | cases h) rfl rfl rfl (.cons (.t (has rfl)) (.nil _))) rfl ?_
            obtain ⟨x39, h40, H⟩ := bind_some H
            refine go2 (op_append rfl rfl at22 h40 (has rfl) (ReadsArg.own (.t (has rfl)))) rfl ?_
            refine go2 (op_mv (.inr rfl) rfl rfl (has rfl)) rfl ?_
            refine goesO_nil ?_
            refine ends_block ?_
            obtain rfl := Option.some.inj H
            exact ends_cut (.cons rfl (.cons rfl (.cons rfl (.cons rfl (.cons rfl (.cons rfl (.cons rfl .nil)))))))
          · skip
            refine goes_skip ?_
            refine ends_block ?_
            obtain rfl := Option.some.inj H
            exact ends_cut (.cons rfl (.cons rfl (.cons rfl (.cons rfl (.cons rfl (.cons rfl (.cons rfl .nil)))))))
        refine ends_then ?_
        refine goes_region ?_
        refine go1 (op_add rfl (.t (has rfl)) (.int _ _)) rfl ?_
        refine go1 (op_move rfl (.t (has rfl))) rfl ?_
        refine goesO_nil ?_
        exact loop_next _ H (.cons rfl (.cons rfl (.cons rfl (.cons rfl (.cons rfl (.cons rfl (.cons rfl .nil)))))))
      · skip
        refine goes_exit (ends_then_exit (ends_then_exit (ends_block_exit ?_)))
        obtain rfl := Option.some.inj H
        exact ends_cut (.cons rfl .nil)
    refine ends_then ?_
    refine goes_seq ?_
    refine goes_region ?_
    refine go2 (op_mv (.inl rfl) rfl rfl (has rfl)) rfl ?_
    refine go2 (op_mv (.inr rfl) rfl rfl (has rfl)) rfl ?_
    refine go1 (op_assign rfl (.int _ _)) rfl ?_
    refine goesO_nil ?_
    refine ends_then ?_
    obtain rfl := Option.some.inj H
    exact goes_ret (ends_ret' rfl rfl (.t rfl (.t rfl (.nil _))))
theorem smithyref13_Would.conF (k : Nat) (a0 : Plan) (a1 : Disk) (r : (List ByteArray) × Int) (H : smithyref13_Would.f k a0 a1 = some r) : ConF Try.prog 21 [VA.k kPlan a0, VA.k kDisk a1] [VA.own 9 kstr r.1, VA.k (kint .i64) r.2] := (smithyref13_Would.con k a0 a1 r H).freeL (.cons (KFree.own KFree.str _ _) (.cons (KFree.k (KFree.int .i64) _) .nil))
/-! smithy/smithyplain.Texts -/
def smithyplain_Texts.l0 (a0 : List ByteArray) (a1 : List ByteArray) : Nat → Int → Option (Except Bool Unit)
  | 0, _ => none
  | k + 1, s2 => bif icmp .lss s2 (a0.length : Int) then ((idx a0 s2).bind fun x7 => (idx a1 s2).bind fun x9 => bif scmp .neq x7 x9 then (some (Except.error false)) else (smithyplain_Texts.l0 a0 a1 k (IntKind.i64.wrap (s2 + (1 : Int))))) else (some (Except.ok ()))
def smithyplain_Texts.f (k : Nat) (a0 : List ByteArray) (a1 : List ByteArray) : Option Bool := bif icmp .neq (a0.length : Int) (a1.length : Int) then (some false) else ((smithyplain_Texts.l0 a0 a1 k (0 : Int)).bind fun o5 => match o5 with | .error r' => some r' | .ok s3 => (some true))
set_option maxRecDepth 100000 in
set_option maxHeartbeats 4000000 in
theorem smithyplain_Texts.con (k : Nat) (a0 : List ByteArray) (a1 : List ByteArray) (r : Bool) (H : smithyplain_Texts.f k a0 a1 = some r) : Con Try.prog 14 [VA.k (kslice kstr) a0, VA.k (kslice kstr) a1] [VA.k kbool r] := by
  unfold smithyplain_Texts.f at H
  refine con_enter Try.func14 rfl rfl rfl (fun w0 S0 θ => ?_)
  refine goes_seq ?_
  refine goes_region ?_
  refine go1 (op_assign rfl (.bool _)) rfl ?_
  refine goesO_nil ?_
  refine ends_then ?_
  refine goes_seq ?_
  refine goes_seq ?_
  refine goes_region ?_
  refine go1 (op_move rfl (.t (has rfl))) rfl ?_
  refine go1 (op_len rfl rfl Try.underlying22 (.t (has rfl))) rfl ?_
  refine go1 (op_move rfl (.t (has rfl))) rfl ?_
  refine go1 (op_len rfl rfl Try.underlying22 (.t (has rfl))) rfl ?_
  refine go1 (op_icmp rfl rfl (.t (has rfl)) (.t (has rfl))) rfl ?_
  refine goesO_nil ?_
  refine ends_then ?_
  refine goes_if (.t (has rfl)) H (fun hb1 H => ?_) (fun hb1 H => ?_)
  · skip
    refine goes_seq ?_
    refine goes_region ?_
    refine go1 (op_assign rfl (.bool _)) rfl ?_
    refine goesO_nil ?_
    refine ends_then ?_
    obtain rfl := Option.some.inj H
    exact goes_ret (ends_then_ret (ends_ret' rfl rfl (.t rfl (.nil _))))
  · skip
    refine goes_skip ?_
    refine ends_then ?_
    refine goes_seq ?_
    refine goes_seq ?_
    refine goes_region ?_
    refine go1 (op_move rfl (.t (has rfl))) rfl ?_
    refine go1 (op_len rfl rfl Try.underlying22 (.t (has rfl))) rfl ?_
    refine go1 (op_move rfl (.int _ _)) rfl ?_
    refine goesO_nil ?_
    refine ends_then ?_
    obtain ⟨o5, h4, H⟩ := bind_some H
    refine goes_cutR (o := o5) (fun s3 : Unit => []) (fun r a w => bodyPost Try.prog Try.f14 (CPost w0 S0 θ [VA.k kbool r]) .ret a w) ?_ ?_ ?_
    · replace H := h4; clear h4
      refine goes_block ?_
      refine goes_loop (fun s2 : Int => [Ent.t 0 (VA.k (kslice kstr) a0), Ent.t 1 (VA.k (kslice kstr) a1), Ent.t 12 (VA.k (kint .i64) (a0.length : Int)), Ent.t 13 (VA.k (kint .i64) s2)]) (fun k s2 => smithyplain_Texts.l0 a0 a1 k s2) (fun _ => rfl) H (.cons rfl (.cons rfl (.cons rfl (.cons rfl .nil)))) ?_
      intro k s2 H
      simp only [smithyplain_Texts.l0] at H
      refine goes_seq ?_
      refine goes_region ?_
      refine go1 (op_icmp rfl rfl (.t (has rfl)) (.t (has rfl))) rfl ?_
      refine goesO_nil ?_
      refine ends_then ?_
      refine goes_seq ?_
      refine goes_if (.t (has rfl)) H (fun hb6 H => ?_) (fun hb6 H => ?_)
      · skip
        refine goes_skip ?_
        refine ends_then ?_
        refine goes_seq ?_
        refine goes_block ?_
        refine goes_seq ?_
        refine goes_region ?_
        refine go1 (op_move rfl (.t (has rfl))) rfl ?_
        refine go1 (op_assign rfl (.t (has rfl))) rfl ?_
        refine goesO_nil ?_
        refine ends_then ?_
        refine goes_seq ?_
        obtain ⟨x7, h8, H⟩ := bind_some H
        obtain ⟨x9, h10, H⟩ := bind_some H
        refine goes_drawn [[Ent.t 16 (VA.k (kslice kstr) a0)], [Ent.t 17 (VA.k (kint .i64) s2)], [Ent.t 18 (VA.pt kstr x7)], [Ent.t 19 (VA.k kstr x7)], [Ent.t 20 (VA.k (kslice kstr) a1)], [Ent.t 21 (VA.k (kint .i64) s2)], [Ent.t 22 (VA.pt kstr x9)], [Ent.t 23 (VA.k kstr x9)], [Ent.t 24 (VA.k kbool (scmp .neq x7 x9))]] mixed (by kernel_rfl) (by kernel_rfl) (.cons [(none, Ent.t 0 (VA.k (kslice kstr) a0))] (OpSpec.run rfl rfl (op_move rfl (.t NL.h0)) rfl) (.cons (has rfl) .nil) (by kernel_rfl) (.cons [(none, Ent.t 5 (VA.k (kint .i64) s2))] (OpSpec.run rfl rfl (op_move rfl (.t NL.h0)) rfl) (.cons (has rfl) .nil) (by kernel_rfl) (.cons [(some 0, Ent.t 16 (VA.k (kslice kstr) a0)), (some 1, Ent.t 17 (VA.k (kint .i64) s2))] (OpSpec.run rfl rfl (op_indexAddr rfl Try.underlying22 tk9 h8 (.t NL.h0) (.t (NL.hs NL.h0))) rfl) (.cons (has rfl) (.cons (has rfl) .nil)) (by kernel_rfl) (.cons [(some 2, Ent.t 18 (VA.pt kstr x7))] (OpSpec.run rfl rfl (op_loadp rfl tk9 (.t NL.h0)) rfl) (.cons (has rfl) .nil) (by kernel_rfl) (.cons [(none, Ent.t 1 (VA.k (kslice kstr) a1))] (OpSpec.run rfl rfl (op_move rfl (.t NL.h0)) rfl) (.cons (has rfl) .nil) (by kernel_rfl) (.cons [(none, Ent.t 5 (VA.k (kint .i64) s2))] (OpSpec.run rfl rfl (op_move rfl (.t NL.h0)) rfl) (.cons (has rfl) .nil) (by kernel_rfl) (.cons [(some 4, Ent.t 20 (VA.k (kslice kstr) a1)), (some 5, Ent.t 21 (VA.k (kint .i64) s2))] (OpSpec.run rfl rfl (op_indexAddr rfl Try.underlying22 tk9 h10 (.t NL.h0) (.t (NL.hs NL.h0))) rfl) (.cons (has rfl) (.cons (has rfl) .nil)) (by kernel_rfl) (.cons [(some 6, Ent.t 22 (VA.pt kstr x9))] (OpSpec.run rfl rfl (op_loadp rfl tk9 (.t NL.h0)) rfl) (.cons (has rfl) .nil) (by kernel_rfl) (.cons [(some 3, Ent.t 19 (VA.k kstr x7)), (some 7, Ent.t 23 (VA.k kstr x9))] (OpSpec.run rfl rfl (op_scmp rfl rfl (.t NL.h0) (.t (NL.hs NL.h0))) rfl) (.cons (has rfl) (.cons (has rfl) .nil)) (by kernel_rfl) (.nil _)))))))))) ?_
        refine ends_sub [Ent.t 0 (VA.k (kslice kstr) a0), Ent.t 1 (VA.k (kslice kstr) a1), Ent.t 12 (VA.k (kint .i64) (a0.length : Int)), Ent.t 13 (VA.k (kint .i64) s2), Ent.t 24 (VA.k kbool (scmp .neq x7 x9))] (.cons rfl (.cons rfl (.cons rfl (.cons rfl (.cons rfl .nil))))) ?_
        refine ends_then ?_
        refine goes_if (.t (has rfl)) H (fun hb11 H => ?_) (fun hb11 H => ?_)
        · skip
          refine goes_seq ?_
          refine goes_region ?_
          refine go1 (op_assign rfl (.bool _)) rfl ?_
          refine goesO_nil ?_
          refine ends_then ?_
          obtain rfl := Option.some.inj H
          refine goes_ret (ends_block_ret (ends_then_ret (ends_then_ret (ends_block_ret (ends_cutR_ret rfl ?_)))))
          exact ends_ret' rfl rfl (.t rfl (.nil _))
        · skip
          refine goes_skip ?_
          refine ends_block ?_
          refine ends_then ?_
          refine goes_region ?_
          refine go1 (op_add rfl (.t (has rfl)) (.int _ _)) rfl ?_
          refine go1 (op_move rfl (.t (has rfl))) rfl ?_
          refine goesO_nil ?_
          exact loop_next _ H (.cons rfl (.cons rfl (.cons rfl (.cons rfl .nil))))
      · skip
        refine goes_exit (ends_then_exit (ends_then_exit (ends_block_exit ?_)))
        obtain rfl := Option.some.inj H
        exact ends_cutR rfl .nil
    · rintro s3 rfl
      clear h4
      dsimp only at H
      refine ends_then ?_
      refine goes_seq ?_
      refine goes_region ?_
      refine go1 (op_assign rfl (.bool _)) rfl ?_
      refine goesO_nil ?_
      refine ends_then ?_
      obtain rfl := Option.some.inj H
      exact goes_ret (ends_ret' rfl rfl (.t rfl (.nil _)))
    · rintro r' rfl a w hr
      obtain rfl := Option.some.inj H
      exact hr
theorem smithyplain_Texts.conF (k : Nat) (a0 : List ByteArray) (a1 : List ByteArray) (r : Bool) (H : smithyplain_Texts.f k a0 a1 = some r) : ConF Try.prog 14 [VA.k (kslice kstr) a0, VA.k (kslice kstr) a1] [VA.k kbool r] := (smithyplain_Texts.con k a0 a1 r H).freeL (.cons (KFree.k KFree.bool _) .nil)
/-! smithy/stale.alone -/
def stale_alone.l0 (a0 : Node) : Nat → ((List Node) × Int) → Option (List Node)
  | 0, _ => none
  | k + 1, s1 => bif icmp .lss s1.2 (a0.Needs.length : Int) then ((idx a0.Needs s1.2).bind fun x5 => (app 112 s1.1 ([(⟨x5, ([] : List ByteArray), ([] : List ByteArray), false, ByteArray.empty, ByteArray.empty, false, false, false, false⟩ : Node)])).bind fun x7 => stale_alone.l0 a0 k (x7, IntKind.i64.wrap (s1.2 + (1 : Int)))) else (some s1.1)
def stale_alone.f (k : Nat) (a0 : Node) : Option Int := (stale_alone.l0 a0 k (([] : List Node), (0 : Int))).bind fun s2 => (app 112 s2 ([a0])).bind fun x9 => (resolve_Check.f k (⟨x9, [a0.Target]⟩ : Plan)).bind fun v11 => some v11
set_option maxRecDepth 100000 in
set_option maxHeartbeats 4000000 in
theorem stale_alone.con (k : Nat) (a0 : Node) (r : Int) (H : stale_alone.f k a0 = some r) : Con Try.prog 38 [VA.k kNode a0] [VA.k (kint .i64) r] := by
  unfold stale_alone.f at H
  refine con_enter Try.func38 rfl rfl rfl (fun w0 S0 θ => ?_)
  refine goes_seq ?_
  refine goes_region ?_
  refine go3 (op_box 1 rfl (fun h => by first | rfl | cases h) (.t (has rfl))) rfl ?_
  refine go1 (op_assign rfl (.int _ _)) rfl ?_
  refine goesO_nil ?_
  refine ends_then ?_
  refine goes_seq ?_
  refine goes_region ?_
  refine go1 (op_fieldAddr rfl Try.underlying24 rfl tk9 (.t (has rfl))) rfl ?_
  refine go1 (op_load rfl fldNode_Target tk9 (.t (has rfl)) (has rfl)) rfl ?_
  refine go1 (op_buildSlice rfl at22 (fun h => by first | rfl | cases h) rfl rfl rfl (.cons (.t (has rfl)) (.nil _))) rfl ?_
  refine goesO_settle 8 rfl rfl ?_
  refine go1 (op_build_fl (pl := [(0, 1), (1, 1)]) rfl Try.underlying57 (by kernel_rfl) xzf57_0 (.cons [FA.v 0 (.slice none 0 0)] (FA.k 1 (kslice kstr) ([a0.Target])) [] rfl rfl rfl rfl (gives_k tk22) rfl (.t (has rfl)) (.nil _))) rfl ?_
  refine go3 (op_alloc_raw 3 rfl xaz57 rfl) rfl ?_
  refine goesO_by (fun a w hi => inv_raw 3 rfl hi) ?_
  refine go1 (op_store_fl (cellsOf_tk tk57) rfl (tk57).size (.t (has rfl)) (has rfl) (.t (has rfl))) rfl ?_
  refine goesO_by (fun a w hi => inv_split 3 rfl hi) ?_
  refine goesO_by (fun a w hi => inv_nilrow' 3 [] 0 [FA.k 1 (kslice kstr) ([a0.Target])] 100300 24 kNode rfl rfl rfl rfl rfl hi) ?_
  refine goesO_nil ?_
  refine ends_then ?_
  refine goes_seq ?_
  refine goes_seq ?_
  refine goes_region ?_
  refine go1 (op_fieldAddr rfl Try.underlying24 rfl tk22 (.t (has rfl))) rfl ?_
  refine go1 (op_load rfl fldNode_Needs tk22 (.t (has rfl)) (has rfl)) rfl ?_
  refine go1 (op_len rfl rfl Try.underlying22 (.t (has rfl))) rfl ?_
  refine go1 (op_move rfl (.int _ _)) rfl ?_
  refine goesO_nil ?_
  refine ends_then ?_
  obtain ⟨s2, h3, H⟩ := bind_some H
  refine goes_cut [Ent.t 1 (VA.ptr 1 0), Ent.t 3 (VA.ptr 3 0), Ent.h 1 (HE.box 24 kNode a0), Ent.h 3 (HE.boxf 57 2 [FA.rw 0 100300 (s2).length, FA.k 1 (kslice kstr) ([a0.Target])]), Ent.r 100300 24 kNode s2] ?_ ?_
  · replace H := h3; clear h3
    refine goes_block ?_
    refine goes_loop (fun s1 : (List Node) × Int => [Ent.t 1 (VA.ptr 1 0), Ent.t 3 (VA.ptr 3 0), Ent.t 11 (VA.k (kslice kstr) a0.Needs), Ent.t 12 (VA.k (kint .i64) (a0.Needs.length : Int)), Ent.t 13 (VA.k (kint .i64) s1.2), Ent.h 1 (HE.box 24 kNode a0), Ent.h 3 (HE.boxf 57 2 [FA.rw 0 100300 (s1.1).length, FA.k 1 (kslice kstr) ([a0.Target])]), Ent.r 100300 24 kNode s1.1]) (fun k s1 => stale_alone.l0 a0 k s1) (fun _ => rfl) H (.cons rfl (.cons rfl (.cons rfl (.cons rfl (.cons rfl (.cons rfl (.cons rfl (.cons rfl .nil)))))))) ?_
    intro k s1 H
    simp only [stale_alone.l0] at H
    refine goes_seq ?_
    refine goes_region ?_
    refine go1 (op_icmp rfl rfl (.t (has rfl)) (.t (has rfl))) rfl ?_
    refine goesO_nil ?_
    refine ends_then ?_
    refine goes_seq ?_
    refine goes_if (.t (has rfl)) H (fun hb4 H => ?_) (fun hb4 H => ?_)
    · skip
      refine goes_skip ?_
      refine ends_then ?_
      refine goes_seq ?_
      refine goes_block ?_
      refine goes_seq ?_
      refine goes_region ?_
      obtain ⟨x5, h6, H⟩ := bind_some H
      refine go1 (op_indexAddr rfl Try.underlying22 tk9 h6 (.t (has rfl)) (.t (has rfl))) rfl ?_
      refine go1 (op_loadp rfl tk9 (.t (has rfl))) rfl ?_
      refine go1 (op_assign rfl (.t (has rfl))) rfl ?_
      refine goesO_nil ?_
      refine ends_then ?_
      refine goes_region ?_
      refine go1 (op_fieldAddr rfl Try.underlying57 rfl tk55 (.t (has rfl))) rfl ?_
      refine go1 (op_loadf_rw (K := kNode) rfl tk55 (.t (has rfl)) (has rfl) (.head _)) rfl ?_
      refine go1 (op_move rfl (.t (has rfl))) rfl ?_
      refine go1 (op_build (pl := [(0, 1), (1, 1), (2, 1), (3, 1), (4, 1), (5, 1), (6, 1), (7, 1), (8, 1), (9, 1)]) rfl rfl Try.underlying24 (by kernel_rfl) zk24 (.cons rfl tk9 fldNode_Target (.t (has rfl)) (.nil _))) rfl ?_
      refine go1 (op_buildSlice rfl at55 (fun h => by first | rfl | cases h) rfl rfl rfl (.cons (.t (has rfl)) (.nil _))) rfl ?_
      refine goesO_release 18 100300 rfl rfl rfl ?_
      obtain ⟨x7, h8, H⟩ := bind_some H
      refine go2 (op_append rfl rfl at55 h8 (has rfl) (ReadsArg.own (.t (has rfl)))) rfl ?_
      refine go1 (op_fieldAddr rfl Try.underlying57 rfl tk55 (.t (has rfl))) rfl ?_
      refine goesO_by (fun a w hi => inv_boxw (fs' := [FA.any 0 1, FA.k 1 (kslice kstr) ([a0.Target])]) 3 rfl (.any (f := FA.rw 0 100300 (s1.1).length) (.head _) (.keep (.tail _ (.head _)) .nil)) hi) ?_
      refine goesO_number 22 100300 rfl rfl rfl ?_
      refine go1 (op_storef_rw (K := kNode) (f := FA.any 0 1) (off := 0) (id := 3) [] [FA.k 1 (kslice kstr) ([a0.Target])] tk55 rfl rfl rfl (.t (has rfl)) (has rfl) (.t (has rfl))) rfl ?_
      refine goesO_nil ?_
      refine ends_block ?_
      refine ends_then ?_
      refine goes_region ?_
      refine go1 (op_add rfl (.t (has rfl)) (.int _ _)) rfl ?_
      refine go1 (op_move rfl (.t (has rfl))) rfl ?_
      refine goesO_nil ?_
      exact loop_next _ H (.cons rfl (.cons rfl (.cons rfl (.cons rfl (.cons rfl (.cons rfl (.cons rfl (.cons rfl .nil))))))))
    · skip
      refine goes_exit (ends_then_exit (ends_then_exit (ends_block_exit ?_)))
      obtain rfl := Option.some.inj H
      exact ends_cut (.cons rfl (.cons rfl (.cons rfl (.cons rfl (.cons rfl .nil)))))
  refine ends_then ?_
  refine goes_seq ?_
  refine goes_region ?_
  refine go1 (op_fieldAddr rfl Try.underlying57 rfl tk55 (.t (has rfl))) rfl ?_
  refine go1 (op_loadf_rw (K := kNode) rfl tk55 (.t (has rfl)) (has rfl) (.head _)) rfl ?_
  refine go1 (op_load rfl (Fld.whole kNode) tk24 (.t (has rfl)) (has rfl)) rfl ?_
  refine go1 (op_buildSlice rfl at55 (fun h => by first | rfl | cases h) rfl rfl rfl (.cons (.t (has rfl)) (.nil _))) rfl ?_
  refine goesO_release 26 100300 rfl rfl rfl ?_
  obtain ⟨x9, h10, H⟩ := bind_some H
  refine go2 (op_append rfl rfl at55 h10 (has rfl) (ReadsArg.own (.t (has rfl)))) rfl ?_
  refine go1 (op_fieldAddr rfl Try.underlying57 rfl tk55 (.t (has rfl))) rfl ?_
  refine goesO_by (fun a w hi => inv_boxw (fs' := [FA.any 0 1, FA.k 1 (kslice kstr) ([a0.Target])]) 3 rfl (.any (f := FA.rw 0 100300 (s2).length) (.head _) (.keep (.tail _ (.head _)) .nil)) hi) ?_
  refine goesO_number 29 100300 rfl rfl rfl ?_
  refine go1 (op_storef_rw (K := kNode) (f := FA.any 0 1) (off := 0) (id := 3) [] [FA.k 1 (kslice kstr) ([a0.Target])] tk55 rfl rfl rfl (.t (has rfl)) (has rfl) (.t (has rfl))) rfl ?_
  refine goesO_nil ?_
  refine ends_then ?_
  refine goes_seq ?_
  refine goes_region ?_
  refine goesO_by (fun a w hi => inv_settle_r' 100300 rfl rfl hi) ?_
  refine goesO_by (fun a w hi => inv_field_k' (xs := x9) 3 [] 0 100300 [FA.k 1 (kslice kstr) ([a0.Target])] rfl rfl hi) ?_
  refine go1 (op_loadw (x := (⟨x9, [a0.Target]⟩ : Plan)) rfl tk57 (.t (has rfl)) (has rfl) (.iso (.pair (la := [FA.k 0 (kslice kNode) x9]) (lb := [FA.k 1 (kslice kstr) ([a0.Target])]) .leaf .leaf) rfl)) rfl ?_
  obtain ⟨v11, h12, H⟩ := bind_some H
  refine go1 (op_call' rfl enters31 (resolve_Check.con _ _ _ h12) rfl (.cons (ArgP.k (.t (has rfl))) .nil)) rfl ?_
  refine go1 (op_assign rfl (.t (has rfl))) rfl ?_
  refine goesO_nil ?_
  refine ends_then ?_
  obtain rfl := Option.some.inj H
  exact goes_ret (ends_ret' rfl rfl (.t rfl (.nil _)))
theorem stale_alone.conF (k : Nat) (a0 : Node) (r : Int) (H : stale_alone.f k a0 = some r) : ConF Try.prog 38 [VA.k kNode a0] [VA.k (kint .i64) r] := (stale_alone.con k a0 r H).freeL (.cons (KFree.k (KFree.int .i64) _) .nil)
/-! smithy/disk.Newest$1 -/
def disk_Newest_1.f (k : Nat) (a0 : ByteArray) : Option Bool := (disk_named.f k a0).bind fun v1 => some (!v1)
set_option maxRecDepth 100000 in
set_option maxHeartbeats 4000000 in
theorem disk_Newest_1.con (k : Nat) (a0 : ByteArray) (r : Bool) (H : disk_Newest_1.f k a0 = some r) : Con Try.prog 58 [VA.k kstr a0] [VA.k kbool r] := by
  unfold disk_Newest_1.f at H
  refine con_enter Try.func58 rfl rfl rfl (fun w0 S0 θ => ?_)
  refine goes_seq ?_
  refine goes_region ?_
  refine go1 (op_assign rfl (.bool _)) rfl ?_
  refine goesO_nil ?_
  refine ends_then ?_
  refine goes_seq ?_
  refine goes_region ?_
  refine go1 (op_move rfl (.t (has rfl))) rfl ?_
  obtain ⟨v1, h2, H⟩ := bind_some H
  refine go1 (op_call' rfl enters48 (disk_named.con _ _ _ h2) rfl (.cons (ArgP.k (.t (has rfl))) .nil)) rfl ?_
  refine go1 (op_not rfl (.t (has rfl))) rfl ?_
  refine go1 (op_assign rfl (.t (has rfl))) rfl ?_
  refine goesO_nil ?_
  refine ends_then ?_
  obtain rfl := Option.some.inj H
  exact goes_ret (ends_ret' rfl rfl (.t rfl (.nil _)))
theorem disk_Newest_1.conF (k : Nat) (a0 : ByteArray) (r : Bool) (H : disk_Newest_1.f k a0 = some r) : ConF Try.prog 58 [VA.k kstr a0] [VA.k kbool r] := (disk_Newest_1.con k a0 r H).freeL (.cons (KFree.k KFree.bool _) .nil)
/-! smithy/disk.Newest -/
def disk_Newest.l0 (a0 : Disk) (a1 : List ByteArray) : Nat → (ByteArray × Int × Int) → Option (ByteArray × Int)
  | 0, _ => none
  | k + 1, s8 => bif icmp .lss s8.2.2 (a1.length : Int) then (((idx a1 s8.2.2).bind fun x14 => (disk_place.f k a0 x14).bind fun v16 => (bif v16.2 then ((idx a0.Files v16.1).bind fun x21 => some (icmp .gtr x21.Stamp s8.2.1)) else (some false)).bind fun s18 => bif s18 then ((idx a0.Files v16.1).bind fun x24 => some (x14, x24.Stamp)) else (some (s8.1, s8.2.1))).bind fun s12 => disk_Newest.l0 a0 a1 k (s12.1, s12.2, IntKind.i64.wrap (s8.2.2 + (1 : Int)))) else (some (s8.1, s8.2.1))
def disk_Newest.f (k : Nat) (a0 : Disk) (a1 : List ByteArray) : Option (ByteArray × Int) := (disk_Check.f k a0).bind fun v1 => bif icmp .neq v1 (0 : Int) then (some ((⟨#[]⟩ : ByteArray), v1)) else (bif icmp .gtr (a1.length : Int) (512 : Int) then (some ((⟨#[]⟩ : ByteArray), (2 : Int))) else ((slices_ContainsFunc_string_string.f k a1 (fun (z0 : ByteArray) => disk_Newest_1.f k z0)).bind fun v5 => bif v5 then (some ((⟨#[]⟩ : ByteArray), (3 : Int))) else ((disk_Newest.l0 a0 a1 k ((⟨#[]⟩ : ByteArray), (-1 : Int), (0 : Int))).bind fun s9 => bif icmp .lss s9.2 (0 : Int) then (some ((⟨#[]⟩ : ByteArray), (21 : Int))) else (some (s9.1, (0 : Int))))))
set_option maxRecDepth 100000 in
set_option maxHeartbeats 4000000 in
theorem disk_Newest.con (k : Nat) (a0 : Disk) (a1 : List ByteArray) (r : ByteArray × Int) (H : disk_Newest.f k a0 a1 = some r) : Con Try.prog 50 [VA.k kDisk a0, VA.k (kslice kstr) a1] [VA.k kstr r.1, VA.k (kint .i64) r.2] := by
  unfold disk_Newest.f at H
  refine con_enter Try.func50 rfl rfl rfl (fun w0 S0 θ => ?_)
  refine goes_seq ?_
  refine goes_region ?_
  refine go3 (op_box 2 rfl (fun h => by first | rfl | cases h) (.t (has rfl))) rfl ?_
  refine go1 (op_assign rfl (.str _)) rfl ?_
  refine go1 (op_assign rfl (.int _ _)) rfl ?_
  refine goesO_nil ?_
  refine ends_then ?_
  refine goes_seq ?_
  refine goes_seq ?_
  refine goes_region ?_
  refine go1 (op_load rfl (Fld.whole kDisk) tk27 (.t (has rfl)) (has rfl)) rfl ?_
  obtain ⟨v1, h2, H⟩ := bind_some H
  refine go1 (op_call' rfl enters32 (disk_Check.con _ _ _ h2) rfl (.cons (ArgP.k (.t (has rfl))) .nil)) rfl ?_
  refine go1 (op_assign rfl (.t (has rfl))) rfl ?_
  refine goesO_nil ?_
  refine ends_then ?_
  refine goes_seq ?_
  refine goes_region ?_
  refine go1 (op_move rfl (.t (has rfl))) rfl ?_
  refine go1 (op_icmp rfl rfl (.t (has rfl)) (.int _ _)) rfl ?_
  refine goesO_nil ?_
  refine ends_then ?_
  refine goes_if (.t (has rfl)) H (fun hb3 H => ?_) (fun hb3 H => ?_)
  · skip
    refine goes_seq ?_
    refine goes_region ?_
    refine go1 (op_move rfl (.t (has rfl))) rfl ?_
    refine go1 (op_assign rfl (.str _)) rfl ?_
    refine go1 (op_assign rfl (.t (has rfl))) rfl ?_
    refine goesO_nil ?_
    refine ends_then ?_
    obtain rfl := Option.some.inj H
    exact goes_ret (ends_then_ret (ends_ret' rfl rfl (.t rfl (.t rfl (.nil _)))))
  · skip
    refine goes_skip ?_
    refine ends_then ?_
    refine goes_seq ?_
    refine goes_seq ?_
    refine goes_region ?_
    refine go1 (op_move rfl (.t (has rfl))) rfl ?_
    refine go1 (op_len rfl rfl Try.underlying22 (.t (has rfl))) rfl ?_
    refine go1 (op_icmp rfl rfl (.t (has rfl)) (.int _ _)) rfl ?_
    refine goesO_nil ?_
    refine ends_then ?_
    refine goes_if (.t (has rfl)) H (fun hb4 H => ?_) (fun hb4 H => ?_)
    · skip
      refine goes_seq ?_
      refine goes_region ?_
      refine go1 (op_assign rfl (.str _)) rfl ?_
      refine go1 (op_assign rfl (.int _ _)) rfl ?_
      refine goesO_nil ?_
      refine ends_then ?_
      obtain rfl := Option.some.inj H
      exact goes_ret (ends_then_ret (ends_ret' rfl rfl (.t rfl (.t rfl (.nil _)))))
    · skip
      refine goes_skip ?_
      refine ends_then ?_
      refine goes_seq ?_
      refine goes_seq ?_
      refine goes_region ?_
      refine go1 (op_move rfl (.t (has rfl))) rfl ?_
      obtain ⟨v5, h6, H⟩ := bind_some H
      refine go1 (op_call' rfl enters55 (slices_ContainsFunc_string_string.con 58 ([]) ([]) _ _ (fun (z0 : ByteArray) => disk_Newest_1.f k z0) enters58 (fun z0 r h => disk_Newest_1.con _ z0 r h) _ h6) rfl (.cons (ArgP.k (.t (has rfl))) (.cons ArgP.fn .nil))) rfl ?_
      refine goesO_nil ?_
      refine ends_then ?_
      refine goes_if (.t (has rfl)) H (fun hb7 H => ?_) (fun hb7 H => ?_)
      · skip
        refine goes_seq ?_
        refine goes_region ?_
        refine go1 (op_assign rfl (.str _)) rfl ?_
        refine go1 (op_assign rfl (.int _ _)) rfl ?_
        refine goesO_nil ?_
        refine ends_then ?_
        obtain rfl := Option.some.inj H
        exact goes_ret (ends_then_ret (ends_ret' rfl rfl (.t rfl (.t rfl (.nil _)))))
      · skip
        refine goes_skip ?_
        refine ends_then ?_
        refine goes_seq ?_
        refine goes_region ?_
        refine go1 (op_assign rfl (.str _)) rfl ?_
        refine go1 (op_assign rfl (.int _ _)) rfl ?_
        refine goesO_nil ?_
        refine ends_then ?_
        refine goes_seq ?_
        refine goes_seq ?_
        refine goes_region ?_
        refine go1 (op_move rfl (.t (has rfl))) rfl ?_
        refine go1 (op_len rfl rfl Try.underlying22 (.t (has rfl))) rfl ?_
        refine go1 (op_move rfl (.int _ _)) rfl ?_
        refine goesO_nil ?_
        refine ends_then ?_
        obtain ⟨s9, h10, H⟩ := bind_some H
        refine goes_cut [Ent.t 7 (VA.k kstr s9.1), Ent.t 8 (VA.k (kint .i64) s9.2)] ?_ ?_
        · replace H := h10; clear h10
          refine goes_block ?_
          refine goes_loop (fun s8 : ByteArray × Int × Int => [Ent.t 2 (VA.ptr 2 0), Ent.t 7 (VA.k kstr s8.1), Ent.t 8 (VA.k (kint .i64) s8.2.1), Ent.t 23 (VA.k (kslice kstr) a1), Ent.t 24 (VA.k (kint .i64) (a1.length : Int)), Ent.t 25 (VA.k (kint .i64) s8.2.2), Ent.h 2 (HE.box 27 kDisk a0)]) (fun k s8 => disk_Newest.l0 a0 a1 k s8) (fun _ => rfl) H (.cons rfl (.cons rfl (.cons rfl (.cons rfl (.cons rfl (.cons rfl (.cons rfl .nil))))))) ?_
          intro k s8 H
          simp only [disk_Newest.l0] at H
          refine goes_seq ?_
          refine goes_region ?_
          refine go1 (op_icmp rfl rfl (.t (has rfl)) (.t (has rfl))) rfl ?_
          refine goesO_nil ?_
          refine ends_then ?_
          refine goes_seq ?_
          refine goes_if (.t (has rfl)) H (fun hb11 H => ?_) (fun hb11 H => ?_)
          · skip
            refine goes_skip ?_
            refine ends_then ?_
            refine goes_seq ?_
            obtain ⟨s12, h13, H⟩ := bind_some H
            refine goes_cut [Ent.t 2 (VA.ptr 2 0), Ent.t 7 (VA.k kstr s12.1), Ent.t 8 (VA.k (kint .i64) s12.2), Ent.t 23 (VA.k (kslice kstr) a1), Ent.t 24 (VA.k (kint .i64) (a1.length : Int)), Ent.t 25 (VA.k (kint .i64) s8.2.2), Ent.h 2 (HE.box 27 kDisk a0)] ?_ ?_
            · replace H := h13; clear h13
              refine goes_block ?_
              refine goes_seq ?_
              refine goes_region ?_
              obtain ⟨x14, h15, H⟩ := bind_some H
              refine go1 (op_indexAddr rfl Try.underlying22 tk9 h15 (.t (has rfl)) (.t (has rfl))) rfl ?_
              refine go1 (op_loadp rfl tk9 (.t (has rfl))) rfl ?_
              refine go1 (op_assign rfl (.t (has rfl))) rfl ?_
              refine goesO_nil ?_
              refine ends_then ?_
              refine goes_seq ?_
              refine goes_region ?_
              refine go1 (op_load rfl (Fld.whole kDisk) tk27 (.t (has rfl)) (has rfl)) rfl ?_
              refine go1 (op_move rfl (.t (has rfl))) rfl ?_
              obtain ⟨v16, h17, H⟩ := bind_some H
              refine goN (op_calls' rfl enters59 (disk_place.con _ _ _ _ h17) rfl rfl (.cons (ArgP.k (.t (has rfl))) (.cons (ArgP.k (.t (has rfl))) .nil))) rfl ?_
              refine go1 (op_same (.inl rfl) rfl rfl) rfl ?_
              refine go1 (op_extract_same rfl plain_k (has rfl) (has rfl)) rfl ?_
              refine go1 (op_extract_same rfl plain_k (has rfl) (has rfl)) rfl ?_
              refine go1 (op_assign rfl (.t (has rfl))) rfl ?_
              refine go1 (op_assign rfl (.t (has rfl))) rfl ?_
              refine goesO_nil ?_
              refine ends_then ?_
              refine goes_seq ?_
              obtain ⟨s18, h19, H⟩ := bind_some H
              refine goes_cut [Ent.t 2 (VA.ptr 2 0), Ent.t 7 (VA.k kstr s8.1), Ent.t 8 (VA.k (kint .i64) s8.2.1), Ent.t 10 (VA.k kstr x14), Ent.t 11 (VA.k (kint .i64) v16.1), Ent.t 23 (VA.k (kslice kstr) a1), Ent.t 24 (VA.k (kint .i64) (a1.length : Int)), Ent.t 25 (VA.k (kint .i64) s8.2.2), Ent.t 45 (VA.k kbool s18), Ent.h 2 (HE.box 27 kDisk a0)] ?_ ?_
              · replace H := h19; clear h19
                refine goes_region ?_
                refine go1 (op_move rfl (.t (has rfl))) rfl ?_
                refine go1 (op_move rfl (.t (has rfl))) rfl ?_
                refine goesO_split H (fun hb20 H => ?_) (fun hb20 H => ?_)
                · skip
                  refine goG (op_fieldAddr rfl Try.underlying27 rfl tk25 (.t (has rfl))) rfl rfl rfl rfl hb20 ?_
                  refine goG (op_load rfl fldDisk_Files tk25 (.t (has rfl)) (has rfl)) rfl rfl rfl rfl hb20 ?_
                  refine goG (op_move rfl (.t (has rfl))) rfl rfl rfl rfl hb20 ?_
                  obtain ⟨x21, h22, H⟩ := bind_some H
                  refine goG (op_indexAddr rfl Try.underlying25 tk47 h22 (.t (has rfl)) (.t (has rfl))) rfl rfl rfl rfl hb20 ?_
                  refine goG (op_fieldAddrp rfl fldFile_Stamp Try.underlying47 rfl tk3 (.t (has rfl))) rfl rfl rfl rfl hb20 ?_
                  refine goG (op_loadp rfl tk3 (.t (has rfl))) rfl rfl rfl rfl hb20 ?_
                  refine goG (op_move rfl (.t (has rfl))) rfl rfl rfl rfl hb20 ?_
                  refine goG (op_icmp rfl rfl (.t (has rfl)) (.t (has rfl))) rfl rfl rfl rfl hb20 ?_
                  refine go1 (op_pick_t rfl hb20 (.t (has rfl)) (.t (has rfl))) rfl ?_
                  refine goesO_nil ?_
                  obtain rfl := Option.some.inj H
                  exact ends_cut (.cons rfl (.cons rfl (.cons rfl (.cons rfl (.cons rfl (.cons rfl (.cons rfl (.cons rfl (.cons rfl (.cons rfl .nil))))))))))
                · skip
                  refine goS rfl rfl rfl rfl rfl rfl hb20 ?_
                  refine goS rfl rfl rfl rfl rfl rfl hb20 ?_
                  refine goS rfl rfl rfl rfl rfl rfl hb20 ?_
                  refine goS rfl rfl rfl rfl rfl rfl hb20 ?_
                  refine goS rfl rfl rfl rfl rfl rfl hb20 ?_
                  refine goS rfl rfl rfl rfl rfl rfl hb20 ?_
                  refine goS rfl rfl rfl rfl rfl rfl hb20 ?_
                  refine goS rfl rfl rfl rfl rfl rfl hb20 ?_
                  refine go1 (op_pick_f rfl hb20 (.t (has rfl)) (.bool _)) rfl ?_
                  refine goesO_nil ?_
                  obtain rfl := Option.some.inj H
                  exact ends_cut (.cons rfl (.cons rfl (.cons rfl (.cons rfl (.cons rfl (.cons rfl (.cons rfl (.cons rfl (.cons rfl (.cons rfl .nil))))))))))
              refine ends_then ?_
              refine goes_if (.t (has rfl)) H (fun hb23 H => ?_) (fun hb23 H => ?_)
              · skip
                obtain ⟨x24, h25, H⟩ := bind_some H
                refine goes_drawn [[Ent.t 46 (VA.k kstr x14)], [Ent.t 47 (VA.ptr 2 1)], [Ent.t 48 (VA.k (kslice kFile) a0.Files)], [Ent.t 49 (VA.k (kint .i64) v16.1)], [Ent.t 50 (VA.pt kFile x24)], [Ent.t 51 (VA.pt (kint .i64) x24.Stamp)], [Ent.t 52 (VA.k (kint .i64) x24.Stamp)], [Ent.t 7 (VA.k kstr x14)], [Ent.t 8 (VA.k (kint .i64) x24.Stamp)]] mixed (by kernel_rfl) (by kernel_rfl) (.cons [(none, Ent.t 10 (VA.k kstr x14))] (OpSpec.run rfl rfl (op_move rfl (.t NL.h0)) rfl) (.cons (has rfl) .nil) (by kernel_rfl) (.cons [(none, Ent.t 2 (VA.ptr 2 0))] (OpSpec.run rfl rfl (op_fieldAddr rfl Try.underlying27 rfl tk25 (.t NL.h0)) rfl) (.cons (has rfl) .nil) (by kernel_rfl) (.cons [(some 1, Ent.t 47 (VA.ptr 2 1)), (none, Ent.h 2 (HE.box 27 kDisk a0))] (OpSpec.run rfl rfl (op_load rfl fldDisk_Files tk25 (.t NL.h0) (NL.hs NL.h0)) rfl) (.cons (has rfl) (.cons (has rfl) .nil)) (by kernel_rfl) (.cons [(none, Ent.t 11 (VA.k (kint .i64) v16.1))] (OpSpec.run rfl rfl (op_move rfl (.t NL.h0)) rfl) (.cons (has rfl) .nil) (by kernel_rfl) (.cons [(some 2, Ent.t 48 (VA.k (kslice kFile) a0.Files)), (some 3, Ent.t 49 (VA.k (kint .i64) v16.1))] (OpSpec.run rfl rfl (op_indexAddr rfl Try.underlying25 tk47 h25 (.t NL.h0) (.t (NL.hs NL.h0))) rfl) (.cons (has rfl) (.cons (has rfl) .nil)) (by kernel_rfl) (.cons [(some 4, Ent.t 50 (VA.pt kFile x24))] (OpSpec.run rfl rfl (op_fieldAddrp rfl fldFile_Stamp Try.underlying47 rfl tk3 (.t NL.h0)) rfl) (.cons (has rfl) .nil) (by kernel_rfl) (.cons [(some 5, Ent.t 51 (VA.pt (kint .i64) x24.Stamp))] (OpSpec.run rfl rfl (op_loadp rfl tk3 (.t NL.h0)) rfl) (.cons (has rfl) .nil) (by kernel_rfl) (.cons [(some 0, Ent.t 46 (VA.k kstr x14))] (OpSpec.run rfl rfl (op_assign rfl (.t NL.h0)) rfl) (.cons (has rfl) .nil) (by kernel_rfl) (.cons [(some 6, Ent.t 52 (VA.k (kint .i64) x24.Stamp))] (OpSpec.run rfl rfl (op_assign rfl (.t NL.h0)) rfl) (.cons (has rfl) .nil) (by kernel_rfl) (.nil _)))))))))) ?_
                refine ends_sub [Ent.t 2 (VA.ptr 2 0), Ent.t 7 (VA.k kstr x14), Ent.t 8 (VA.k (kint .i64) x24.Stamp), Ent.t 23 (VA.k (kslice kstr) a1), Ent.t 24 (VA.k (kint .i64) (a1.length : Int)), Ent.t 25 (VA.k (kint .i64) s8.2.2), Ent.h 2 (HE.box 27 kDisk a0)] (.cons rfl (.cons rfl (.cons rfl (.cons rfl (.cons rfl (.cons rfl (.cons rfl .nil))))))) ?_
                refine ends_block ?_
                obtain rfl := Option.some.inj H
                exact ends_cut (.cons rfl (.cons rfl (.cons rfl (.cons rfl (.cons rfl (.cons rfl (.cons rfl .nil)))))))
              · skip
                refine goes_skip ?_
                refine ends_block ?_
                obtain rfl := Option.some.inj H
                exact ends_cut (.cons rfl (.cons rfl (.cons rfl (.cons rfl (.cons rfl (.cons rfl (.cons rfl .nil)))))))
            refine ends_then ?_
            refine goes_region ?_
            refine go1 (op_add rfl (.t (has rfl)) (.int _ _)) rfl ?_
            refine go1 (op_move rfl (.t (has rfl))) rfl ?_
            refine goesO_nil ?_
            exact loop_next _ H (.cons rfl (.cons rfl (.cons rfl (.cons rfl (.cons rfl (.cons rfl (.cons rfl .nil)))))))
          · skip
            refine goes_exit (ends_then_exit (ends_then_exit (ends_block_exit ?_)))
            obtain rfl := Option.some.inj H
            exact ends_cut (.cons rfl (.cons rfl .nil))
        refine ends_then ?_
        refine goes_seq ?_
        refine goes_seq ?_
        refine goes_region ?_
        refine go1 (op_move rfl (.t (has rfl))) rfl ?_
        refine go1 (op_icmp rfl rfl (.t (has rfl)) (.int _ _)) rfl ?_
        refine goesO_nil ?_
        refine ends_then ?_
        refine goes_if (.t (has rfl)) H (fun hb26 H => ?_) (fun hb26 H => ?_)
        · skip
          refine goes_seq ?_
          refine goes_region ?_
          refine go1 (op_assign rfl (.str _)) rfl ?_
          refine go1 (op_assign rfl (.int _ _)) rfl ?_
          refine goesO_nil ?_
          refine ends_then ?_
          obtain rfl := Option.some.inj H
          exact goes_ret (ends_then_ret (ends_ret' rfl rfl (.t rfl (.t rfl (.nil _)))))
        · skip
          refine goes_skip ?_
          refine ends_then ?_
          refine goes_seq ?_
          refine goes_region ?_
          refine go1 (op_move rfl (.t (has rfl))) rfl ?_
          refine go1 (op_assign rfl (.t (has rfl))) rfl ?_
          refine go1 (op_assign rfl (.int _ _)) rfl ?_
          refine goesO_nil ?_
          refine ends_then ?_
          obtain rfl := Option.some.inj H
          exact goes_ret (ends_ret' rfl rfl (.t rfl (.t rfl (.nil _))))
theorem disk_Newest.conF (k : Nat) (a0 : Disk) (a1 : List ByteArray) (r : ByteArray × Int) (H : disk_Newest.f k a0 a1 = some r) : ConF Try.prog 50 [VA.k kDisk a0, VA.k (kslice kstr) a1] [VA.k kstr r.1, VA.k (kint .i64) r.2] := (disk_Newest.con k a0 a1 r H).freeL (.cons (KFree.k KFree.str _) (.cons (KFree.k (KFree.int .i64) _) .nil))
/-! smithy/stale.list -/
def stale_list.f (k : Nat) (a0 : List ByteArray) : Option Int := (disk_Newest.f k (⟨(0 : Int), ([] : List File)⟩ : Disk) a0).bind fun v1 => bif icmp .eql v1.2 (21 : Int) then (some (0 : Int)) else (some v1.2)
set_option maxRecDepth 100000 in
set_option maxHeartbeats 4000000 in
theorem stale_list.con (k : Nat) (a0 : List ByteArray) (r : Int) (H : stale_list.f k a0 = some r) : Con Try.prog 39 [VA.k (kslice kstr) a0] [VA.k (kint .i64) r] := by
  unfold stale_list.f at H
  refine con_enter Try.func39 rfl rfl rfl (fun w0 S0 θ => ?_)
  refine goes_seq ?_
  refine goes_region ?_
  refine go1 (op_assign rfl (.int _ _)) rfl ?_
  refine goesO_nil ?_
  refine ends_then ?_
  refine goes_seq ?_
  refine goes_region ?_
  refine go1 (op_build (pl := [(0, 1), (1, 1)]) rfl rfl Try.underlying27 (by kernel_rfl) zk27 (.nil _)) rfl ?_
  refine go1 (op_move rfl (.t (has rfl))) rfl ?_
  obtain ⟨v1, h2, H⟩ := bind_some H
  refine goN (op_calls' rfl enters50 (disk_Newest.con _ _ _ _ h2) rfl rfl (.cons (ArgP.k (.t (has rfl))) (.cons (ArgP.k (.t (has rfl))) .nil))) rfl ?_
  refine go1 (op_same (.inl rfl) rfl rfl) rfl ?_
  refine go1 (op_extract_same rfl plain_k (has rfl) (has rfl)) rfl ?_
  refine go1 (op_extract_same rfl plain_k (has rfl) (has rfl)) rfl ?_
  refine go1 (op_assign rfl (.t (has rfl))) rfl ?_
  refine go1 (op_assign rfl (.t (has rfl))) rfl ?_
  refine goesO_nil ?_
  refine ends_then ?_
  refine goes_seq ?_
  refine goes_seq ?_
  refine goes_region ?_
  refine go1 (op_move rfl (.t (has rfl))) rfl ?_
  refine go1 (op_icmp rfl rfl (.t (has rfl)) (.int _ _)) rfl ?_
  refine goesO_nil ?_
  refine ends_then ?_
  refine goes_if (.t (has rfl)) H (fun hb3 H => ?_) (fun hb3 H => ?_)
  · skip
    refine goes_seq ?_
    refine goes_region ?_
    refine go1 (op_assign rfl (.int _ _)) rfl ?_
    refine goesO_nil ?_
    refine ends_then ?_
    obtain rfl := Option.some.inj H
    exact goes_ret (ends_then_ret (ends_ret' rfl rfl (.t rfl (.nil _))))
  · skip
    refine goes_skip ?_
    refine ends_then ?_
    refine goes_seq ?_
    refine goes_region ?_
    refine go1 (op_move rfl (.t (has rfl))) rfl ?_
    refine go1 (op_assign rfl (.t (has rfl))) rfl ?_
    refine goesO_nil ?_
    refine ends_then ?_
    obtain rfl := Option.some.inj H
    exact goes_ret (ends_ret' rfl rfl (.t rfl (.nil _)))
theorem stale_list.conF (k : Nat) (a0 : List ByteArray) (r : Int) (H : stale_list.f k a0 = some r) : ConF Try.prog 39 [VA.k (kslice kstr) a0] [VA.k (kint .i64) r] := (stale_list.con k a0 r H).freeL (.cons (KFree.k (KFree.int .i64) _) .nil)
/-! smithy/stale.fit -/
def stale_fit.f (k : Nat) (a0 : Node) (a1 : Disk) (a2 : List ByteArray) : Option Int := (stale_alone.f k a0).bind fun v1 => bif icmp .neq v1 (0 : Int) then (some v1) else ((disk_Check.f k a1).bind fun v4 => bif icmp .neq v4 (0 : Int) then (some v4) else ((stale_list.f k a2).bind fun v7 => some v7))
set_option maxRecDepth 100000 in
set_option maxHeartbeats 4000000 in
theorem stale_fit.con (k : Nat) (a0 : Node) (a1 : Disk) (a2 : List ByteArray) (r : Int) (H : stale_fit.f k a0 a1 a2 = some r) : Con Try.prog 22 [VA.k kNode a0, VA.k kDisk a1, VA.k (kslice kstr) a2] [VA.k (kint .i64) r] := by
  unfold stale_fit.f at H
  refine con_enter Try.func22 rfl rfl rfl (fun w0 S0 θ => ?_)
  refine goes_seq ?_
  refine goes_region ?_
  refine go3 (op_box 3 rfl (fun h => by first | rfl | cases h) (.t (has rfl))) rfl ?_
  refine go3 (op_box 4 rfl (fun h => by first | rfl | cases h) (.t (has rfl))) rfl ?_
  refine go1 (op_assign rfl (.int _ _)) rfl ?_
  refine goesO_nil ?_
  refine ends_then ?_
  refine goes_seq ?_
  refine goes_seq ?_
  refine goes_region ?_
  refine go1 (op_load rfl (Fld.whole kNode) tk24 (.t (has rfl)) (has rfl)) rfl ?_
  obtain ⟨v1, h2, H⟩ := bind_some H
  refine go1 (op_call' rfl enters38 (stale_alone.con _ _ _ h2) rfl (.cons (ArgP.k (.t (has rfl))) .nil)) rfl ?_
  refine go1 (op_assign rfl (.t (has rfl))) rfl ?_
  refine goesO_nil ?_
  refine ends_then ?_
  refine goes_seq ?_
  refine goes_region ?_
  refine go1 (op_move rfl (.t (has rfl))) rfl ?_
  refine go1 (op_icmp rfl rfl (.t (has rfl)) (.int _ _)) rfl ?_
  refine goesO_nil ?_
  refine ends_then ?_
  refine goes_if (.t (has rfl)) H (fun hb3 H => ?_) (fun hb3 H => ?_)
  · skip
    refine goes_seq ?_
    refine goes_region ?_
    refine go1 (op_move rfl (.t (has rfl))) rfl ?_
    refine go1 (op_assign rfl (.t (has rfl))) rfl ?_
    refine goesO_nil ?_
    refine ends_then ?_
    obtain rfl := Option.some.inj H
    exact goes_ret (ends_then_ret (ends_ret' rfl rfl (.t rfl (.nil _))))
  · skip
    refine goes_skip ?_
    refine ends_then ?_
    refine goes_seq ?_
    refine goes_seq ?_
    refine goes_region ?_
    refine go1 (op_load rfl (Fld.whole kDisk) tk27 (.t (has rfl)) (has rfl)) rfl ?_
    obtain ⟨v4, h5, H⟩ := bind_some H
    refine go1 (op_call' rfl enters32 (disk_Check.con _ _ _ h5) rfl (.cons (ArgP.k (.t (has rfl))) .nil)) rfl ?_
    refine go1 (op_assign rfl (.t (has rfl))) rfl ?_
    refine goesO_nil ?_
    refine ends_then ?_
    refine goes_seq ?_
    refine goes_region ?_
    refine go1 (op_move rfl (.t (has rfl))) rfl ?_
    refine go1 (op_icmp rfl rfl (.t (has rfl)) (.int _ _)) rfl ?_
    refine goesO_nil ?_
    refine ends_then ?_
    refine goes_if (.t (has rfl)) H (fun hb6 H => ?_) (fun hb6 H => ?_)
    · skip
      refine goes_seq ?_
      refine goes_region ?_
      refine go1 (op_move rfl (.t (has rfl))) rfl ?_
      refine go1 (op_assign rfl (.t (has rfl))) rfl ?_
      refine goesO_nil ?_
      refine ends_then ?_
      obtain rfl := Option.some.inj H
      exact goes_ret (ends_then_ret (ends_ret' rfl rfl (.t rfl (.nil _))))
    · skip
      refine goes_skip ?_
      refine ends_then ?_
      refine goes_seq ?_
      refine goes_region ?_
      refine go1 (op_move rfl (.t (has rfl))) rfl ?_
      obtain ⟨v7, h8, H⟩ := bind_some H
      refine go1 (op_call' rfl enters39 (stale_list.con _ _ _ h8) rfl (.cons (ArgP.k (.t (has rfl))) .nil)) rfl ?_
      refine go1 (op_assign rfl (.t (has rfl))) rfl ?_
      refine goesO_nil ?_
      refine ends_then ?_
      obtain rfl := Option.some.inj H
      exact goes_ret (ends_ret' rfl rfl (.t rfl (.nil _)))
theorem stale_fit.conF (k : Nat) (a0 : Node) (a1 : Disk) (a2 : List ByteArray) (r : Int) (H : stale_fit.f k a0 a1 a2 = some r) : ConF Try.prog 22 [VA.k kNode a0, VA.k kDisk a1, VA.k (kslice kstr) a2] [VA.k (kint .i64) r] := (stale_fit.con k a0 a1 a2 r H).freeL (.cons (KFree.k (KFree.int .i64) _) .nil)
end Go.Proofs.Ytoemgemfgaooeaa.F
