import Derived.Test.YtmmjbobicnmilaaFKx0
set_option linter.unusedVariables false
set_option linter.unusedSimpArgs false
set_option linter.unnecessarySimpa false
set_option linter.deprecated false
namespace Go.Proofs.Ytmmjbobicnmilaa.F
open Go Go.RowKit Go.Proofs.Ytmmjbobicnmilaa.Sl
/-! smithy/modes.Check -/
def modes_Check.l0 (a0 : Options) : Nat → Int → Option (Except Int Unit)
  | 0, _ => none
  | k + 1, s15 => bif icmp .lss s15 (a0.Macros.length : Int) then ((idx a0.Macros s15).bind fun x20 => (macro_Check.f k ([{ x20 with Level := (2 : Int) }])).bind fun v22 => bif icmp .neq v22 (0 : Int) then (some (Except.error v22)) else (modes_Check.l0 a0 k (IntKind.i64.wrap (s15 + (1 : Int))))) else (some (Except.ok ()))
def modes_Check.f (k : Nat) (a0 : Options) : Option Int := (bif icmp .lss a0.Slots (1 : Int) then (some true) else (bif icmp .gtr a0.Slots (8 : Int) then (some true) else ((modes_set.f k ([a0.Dry, a0.Touch, a0.Query])).bind fun v5 => some (icmp .gtr v5 (1 : Int))))).bind fun s1 => bif s1 then (some (1 : Int)) else ((modes_list.f k a0.Files (64 : Int)).bind fun v8 => bif icmp .neq v8 (0 : Int) then (some v8) else ((modes_list.f k a0.Goals (512 : Int)).bind fun v11 => bif icmp .neq v11 (0 : Int) then (some v11) else (bif icmp .gtr (a0.Macros.length : Int) (256 : Int) then (some (2 : Int)) else ((modes_Check.l0 a0 k (0 : Int)).bind fun o18 => match o18 with | .error r' => some r' | .ok s16 => (some (0 : Int))))))
set_option maxRecDepth 100000 in
set_option maxHeartbeats 4000000 in
theorem modes_Check.con (k : Nat) (a0 : Options) (r : Int) (H : modes_Check.f k a0 = some r) : Con Try.prog 17 [VA.k kOptions a0] [VA.k (kint .i64) r] := by
  unfold modes_Check.f at H
  refine con_enter Try.func17 rfl rfl rfl (fun w0 S0 θ => ?_)
  refine goes_seq ?_
  refine goes_region ?_
  refine go3 (op_box 1 rfl (fun h => by first | rfl | cases h) (.t (has rfl))) rfl ?_
  refine go1 (op_assign rfl (.int _ _)) rfl ?_
  refine goesO_nil ?_
  refine ends_then ?_
  refine goes_seq ?_
  refine goes_seq ?_
  obtain ⟨s1, h2, H⟩ := bind_some H
  refine goes_cut [Ent.t 1 (VA.ptr 1 0), Ent.t 26 (VA.k kbool s1), Ent.h 1 (HE.box 25 kOptions a0)] ?_ ?_
  · replace H := h2; clear h2
    refine goes_region ?_
    refine go1 (op_fieldAddr rfl Try.underlying25 rfl tk3 (.t (has rfl))) rfl ?_
    refine go1 (op_load rfl fldOptions_Slots tk3 (.t (has rfl)) (has rfl)) rfl ?_
    refine go1 (op_icmp rfl rfl (.t (has rfl)) (.int _ _)) rfl ?_
    refine go1 (op_move rfl (.t (has rfl))) rfl ?_
    refine goesO_split H (fun hb3 H => ?_) (fun hb3 H => ?_)
    · skip
      refine goS rfl rfl rfl rfl rfl rfl hb3 ?_
      refine goS rfl rfl rfl rfl rfl rfl hb3 ?_
      refine goS rfl rfl rfl rfl rfl rfl hb3 ?_
      refine go1 (op_pick_t rfl hb3 (.t (has rfl)) (.bool _)) rfl ?_
      refine go1 (op_move rfl (.t (has rfl))) rfl ?_
      refine goS rfl rfl rfl rfl rfl rfl rfl ?_
      refine goS rfl rfl rfl rfl rfl rfl rfl ?_
      refine goS rfl rfl rfl rfl rfl rfl rfl ?_
      refine goS rfl rfl rfl rfl rfl rfl rfl ?_
      refine goS rfl rfl rfl rfl rfl rfl rfl ?_
      refine goS rfl rfl rfl rfl rfl rfl rfl ?_
      refine goS rfl rfl rfl rfl rfl rfl rfl ?_
      refine goS rfl rfl rfl rfl rfl rfl rfl ?_
      refine goS rfl rfl rfl rfl rfl rfl rfl ?_
      refine go1 (op_pick_t rfl rfl (.t (has rfl)) (.bool _)) rfl ?_
      refine goesO_nil ?_
      obtain rfl := Option.some.inj H
      exact ends_cut (.cons rfl (.cons rfl (.cons rfl .nil)))
    · skip
      refine goG (op_fieldAddr rfl Try.underlying25 rfl tk3 (.t (has rfl))) rfl rfl rfl rfl hb3 ?_
      refine goG (op_load rfl fldOptions_Slots tk3 (.t (has rfl)) (has rfl)) rfl rfl rfl rfl hb3 ?_
      refine goG (op_icmp rfl rfl (.t (has rfl)) (.int _ _)) rfl rfl rfl rfl hb3 ?_
      refine go1 (op_pick_f rfl hb3 (.t (has rfl)) (.t (has rfl))) rfl ?_
      refine go1 (op_move rfl (.t (has rfl))) rfl ?_
      refine goesO_split H (fun hb4 H => ?_) (fun hb4 H => ?_)
      · skip
        refine goS rfl rfl rfl rfl rfl rfl hb4 ?_
        refine goS rfl rfl rfl rfl rfl rfl hb4 ?_
        refine goS rfl rfl rfl rfl rfl rfl hb4 ?_
        refine goS rfl rfl rfl rfl rfl rfl hb4 ?_
        refine goS rfl rfl rfl rfl rfl rfl hb4 ?_
        refine goS rfl rfl rfl rfl rfl rfl hb4 ?_
        refine goS rfl rfl rfl rfl rfl rfl hb4 ?_
        refine goS rfl rfl rfl rfl rfl rfl hb4 ?_
        refine goS rfl rfl rfl rfl rfl rfl hb4 ?_
        refine go1 (op_pick_t rfl hb4 (.t (has rfl)) (.bool _)) rfl ?_
        refine goesO_nil ?_
        obtain rfl := Option.some.inj H
        exact ends_cut (.cons rfl (.cons rfl (.cons rfl .nil)))
      · skip
        refine goG (op_fieldAddr rfl Try.underlying25 rfl tk4 (.t (has rfl))) rfl rfl rfl rfl hb4 ?_
        refine goG (op_load rfl fldOptions_Dry tk4 (.t (has rfl)) (has rfl)) rfl rfl rfl rfl hb4 ?_
        refine goG (op_fieldAddr rfl Try.underlying25 rfl tk4 (.t (has rfl))) rfl rfl rfl rfl hb4 ?_
        refine goG (op_load rfl fldOptions_Touch tk4 (.t (has rfl)) (has rfl)) rfl rfl rfl rfl hb4 ?_
        refine goG (op_fieldAddr rfl Try.underlying25 rfl tk4 (.t (has rfl))) rfl rfl rfl rfl hb4 ?_
        refine goG (op_load rfl fldOptions_Query tk4 (.t (has rfl)) (has rfl)) rfl rfl rfl rfl hb4 ?_
        refine goG (op_buildSlice rfl at64 (fun h => by first | rfl | cases h) rfl rfl rfl (.cons (.t (has rfl)) (.cons (.t (has rfl)) (.cons (.t (has rfl)) (.nil _))))) rfl rfl rfl rfl hb4 ?_
        obtain ⟨v5, h6, H⟩ := bind_some H
        refine goG (op_callF' rfl enters19 (modes_set.conF _ _ _ h6) rfl (.cons (ArgB.own rfl (has rfl)) .nil)) rfl rfl rfl rfl hb4 ?_
        refine goG (op_icmp rfl rfl (.t (has rfl)) (.int _ _)) rfl rfl rfl rfl hb4 ?_
        refine go1 (op_pick_f rfl hb4 (.t (has rfl)) (.t (has rfl))) rfl ?_
        refine goesO_nil ?_
        obtain rfl := Option.some.inj H
        exact ends_cut (.cons rfl (.cons rfl (.cons rfl .nil)))
  refine ends_then ?_
  refine goes_if (.t (has rfl)) H (fun hb7 H => ?_) (fun hb7 H => ?_)
  · skip
    refine goes_seq ?_
    refine goes_region ?_
    refine go1 (op_assign rfl (.int _ _)) rfl ?_
    refine goesO_nil ?_
    refine ends_then ?_
    obtain rfl := Option.some.inj H
    exact goes_ret (ends_then_ret (ends_ret' rfl rfl (.t rfl (.nil _))))
  · skip
    refine goes_skip ?_
    refine ends_then ?_
    refine goes_seq ?_
    refine goes_seq ?_
    refine goes_region ?_
    refine go1 (op_fieldAddr rfl Try.underlying25 rfl tk22 (.t (has rfl))) rfl ?_
    refine go1 (op_load rfl fldOptions_Files tk22 (.t (has rfl)) (has rfl)) rfl ?_
    obtain ⟨v8, h9, H⟩ := bind_some H
    refine go1 (op_call' rfl enters27 (modes_list.con _ _ _ _ h9) rfl (.cons (ArgP.k (.t (has rfl))) (.cons (ArgP.k (.int _ _)) .nil))) rfl ?_
    refine go1 (op_assign rfl (.t (has rfl))) rfl ?_
    refine goesO_nil ?_
    refine ends_then ?_
    refine goes_seq ?_
    refine goes_region ?_
    refine go1 (op_move rfl (.t (has rfl))) rfl ?_
    refine go1 (op_icmp rfl rfl (.t (has rfl)) (.int _ _)) rfl ?_
    refine goesO_nil ?_
    refine ends_then ?_
    refine goes_if (.t (has rfl)) H (fun hb10 H => ?_) (fun hb10 H => ?_)
    · skip
      refine goes_seq ?_
      refine goes_region ?_
      refine go1 (op_move rfl (.t (has rfl))) rfl ?_
      refine go1 (op_assign rfl (.t (has rfl))) rfl ?_
      refine goesO_nil ?_
      refine ends_then ?_
      obtain rfl := Option.some.inj H
      exact goes_ret (ends_then_ret (ends_ret' rfl rfl (.t rfl (.nil _))))
    · skip
      refine goes_skip ?_
      refine ends_then ?_
      refine goes_seq ?_
      refine goes_seq ?_
      refine goes_region ?_
      refine go1 (op_fieldAddr rfl Try.underlying25 rfl tk22 (.t (has rfl))) rfl ?_
      refine go1 (op_load rfl fldOptions_Goals tk22 (.t (has rfl)) (has rfl)) rfl ?_
      obtain ⟨v11, h12, H⟩ := bind_some H
      refine go1 (op_call' rfl enters27 (modes_list.con _ _ _ _ h12) rfl (.cons (ArgP.k (.t (has rfl))) (.cons (ArgP.k (.int _ _)) .nil))) rfl ?_
      refine go1 (op_assign rfl (.t (has rfl))) rfl ?_
      refine goesO_nil ?_
      refine ends_then ?_
      refine goes_seq ?_
      refine goes_region ?_
      refine go1 (op_move rfl (.t (has rfl))) rfl ?_
      refine go1 (op_icmp rfl rfl (.t (has rfl)) (.int _ _)) rfl ?_
      refine goesO_nil ?_
      refine ends_then ?_
      refine goes_if (.t (has rfl)) H (fun hb13 H => ?_) (fun hb13 H => ?_)
      · skip
        refine goes_seq ?_
        refine goes_region ?_
        refine go1 (op_move rfl (.t (has rfl))) rfl ?_
        refine go1 (op_assign rfl (.t (has rfl))) rfl ?_
        refine goesO_nil ?_
        refine ends_then ?_
        obtain rfl := Option.some.inj H
        exact goes_ret (ends_then_ret (ends_ret' rfl rfl (.t rfl (.nil _))))
      · skip
        refine goes_skip ?_
        refine ends_then ?_
        refine goes_seq ?_
        refine goes_seq ?_
        refine goes_region ?_
        refine go1 (op_fieldAddr rfl Try.underlying25 rfl tk23 (.t (has rfl))) rfl ?_
        refine go1 (op_load rfl fldOptions_Macros tk23 (.t (has rfl)) (has rfl)) rfl ?_
        refine go1 (op_len rfl rfl Try.underlying23 (.t (has rfl))) rfl ?_
        refine go1 (op_icmp rfl rfl (.t (has rfl)) (.int _ _)) rfl ?_
        refine goesO_nil ?_
        refine ends_then ?_
        refine goes_if (.t (has rfl)) H (fun hb14 H => ?_) (fun hb14 H => ?_)
        · skip
          refine goes_seq ?_
          refine goes_region ?_
          refine go1 (op_assign rfl (.int _ _)) rfl ?_
          refine goesO_nil ?_
          refine ends_then ?_
          obtain rfl := Option.some.inj H
          exact goes_ret (ends_then_ret (ends_ret' rfl rfl (.t rfl (.nil _))))
        · skip
          refine goes_skip ?_
          refine ends_then ?_
          refine goes_seq ?_
          refine goes_seq ?_
          refine goes_region ?_
          refine go1 (op_fieldAddr rfl Try.underlying25 rfl tk23 (.t (has rfl))) rfl ?_
          refine go1 (op_load rfl fldOptions_Macros tk23 (.t (has rfl)) (has rfl)) rfl ?_
          refine go1 (op_len rfl rfl Try.underlying23 (.t (has rfl))) rfl ?_
          refine go1 (op_move rfl (.int _ _)) rfl ?_
          refine goesO_nil ?_
          refine ends_then ?_
          obtain ⟨o18, h17, H⟩ := bind_some H
          refine goes_cutR (o := o18) (fun s16 : Unit => []) (fun r a w => bodyPost Try.prog Try.f17 (CPost w0 S0 θ [VA.k (kint .i64) r]) .ret a w) ?_ ?_ ?_
          · replace H := h17; clear h17
            refine goes_block ?_
            refine goes_loop (fun s15 : Int => [Ent.t 44 (VA.k (kslice kMacro) a0.Macros), Ent.t 45 (VA.k (kint .i64) (a0.Macros.length : Int)), Ent.t 46 (VA.k (kint .i64) s15)]) (fun k s15 => modes_Check.l0 a0 k s15) (fun _ => rfl) H (.cons rfl (.cons rfl (.cons rfl .nil))) ?_
            intro k s15 H
            simp only [modes_Check.l0] at H
            refine goes_seq ?_
            refine goes_region ?_
            refine go1 (op_icmp rfl rfl (.t (has rfl)) (.t (has rfl))) rfl ?_
            refine goesO_nil ?_
            refine ends_then ?_
            refine goes_seq ?_
            refine goes_if (.t (has rfl)) H (fun hb19 H => ?_) (fun hb19 H => ?_)
            · skip
              refine goes_skip ?_
              refine ends_then ?_
              refine goes_seq ?_
              refine goes_block ?_
              refine goes_seq ?_
              refine goes_region ?_
              obtain ⟨x20, h21, H⟩ := bind_some H
              refine go1 (op_indexAddr rfl Try.underlying23 tk58 h21 (.t (has rfl)) (.t (has rfl))) rfl ?_
              refine go1 (op_loadp rfl tk58 (.t (has rfl))) rfl ?_
              refine go3 (op_alloc 6 rfl zk58) rfl ?_
              refine go1 (op_store (Fld.whole kMacro) tk58 (.t (has rfl)) (has rfl) (.t (has rfl))) rfl ?_
              refine goesO_nil ?_
              refine ends_then ?_
              refine goes_seq ?_
              refine goes_region ?_
              refine go1 (op_fieldAddr rfl Try.underlying58 rfl tk3 (.t (has rfl))) rfl ?_
              refine go1 (op_store fldMacro_Level tk3 (.t (has rfl)) (has rfl) (.int _ _)) rfl ?_
              refine goesO_nil ?_
              refine ends_then ?_
              refine goes_seq ?_
              refine goes_region ?_
              refine go1 (op_load rfl (Fld.whole kMacro) tk58 (.t (has rfl)) (has rfl)) rfl ?_
              refine go1 (op_buildSlice rfl at23 (fun h => by first | rfl | cases h) rfl rfl rfl (.cons (.t (has rfl)) (.nil _))) rfl ?_
              obtain ⟨v22, h23, H⟩ := bind_some H
              refine go1 (op_callF' rfl enters28 (macro_Check.conF _ _ _ h23) rfl (.cons (ArgB.own rfl (has rfl)) .nil)) rfl ?_
              refine go1 (op_assign rfl (.t (has rfl))) rfl ?_
              refine goesO_nil ?_
              refine ends_then ?_
              refine goes_seq ?_
              refine goes_region ?_
              refine go1 (op_move rfl (.t (has rfl))) rfl ?_
              refine go1 (op_icmp rfl rfl (.t (has rfl)) (.int _ _)) rfl ?_
              refine goesO_nil ?_
              refine ends_then ?_
              refine goes_if (.t (has rfl)) H (fun hb24 H => ?_) (fun hb24 H => ?_)
              · skip
                refine goes_seq ?_
                refine goes_region ?_
                refine go1 (op_move rfl (.t (has rfl))) rfl ?_
                refine go1 (op_assign rfl (.t (has rfl))) rfl ?_
                refine goesO_nil ?_
                refine ends_then ?_
                obtain rfl := Option.some.inj H
                refine goes_ret (ends_block_ret (ends_then_ret (ends_then_ret (ends_block_ret (ends_cutR_ret rfl ?_)))))
                exact ends_ret' rfl rfl (.t rfl (.nil _))
              · skip
                refine goes_skip ?_
                refine ends_block ?_
                refine ends_then ?_
                refine goes_region ?_
                refine go1 (op_add rfl (.t (has rfl)) (.int _ _)) rfl ?_
                refine go1 (op_move rfl (.t (has rfl))) rfl ?_
                refine goesO_nil ?_
                exact loop_next _ H (.cons rfl (.cons rfl (.cons rfl .nil)))
            · skip
              refine goes_exit (ends_then_exit (ends_then_exit (ends_block_exit ?_)))
              obtain rfl := Option.some.inj H
              exact ends_cutR rfl .nil
          · rintro s16 rfl
            clear h17
            dsimp only at H
            refine ends_then ?_
            refine goes_seq ?_
            refine goes_region ?_
            refine go1 (op_assign rfl (.int _ _)) rfl ?_
            refine goesO_nil ?_
            refine ends_then ?_
            obtain rfl := Option.some.inj H
            exact goes_ret (ends_ret' rfl rfl (.t rfl (.nil _)))
          · rintro r' rfl a w hr
            obtain rfl := Option.some.inj H
            exact hr
theorem modes_Check.conF (k : Nat) (a0 : Options) (r : Int) (H : modes_Check.f k a0 = some r) : ConF Try.prog 17 [VA.k kOptions a0] [VA.k (kint .i64) r] := (modes_Check.con k a0 r H).freeL (.cons (KFree.k (KFree.int .i64) _) .nil)
/-! slices.Index[[]string,string] -/
def slices_Index_string_string.l0 (a0 : List ByteArray) (a1 : ByteArray) : Nat → Int → Option (Except Int Unit)
  | 0, _ => none
  | k + 1, s1 => bif icmp .lss s1 (a0.length : Int) then ((idx a0 s1).bind fun x6 => bif scmp .eql a1 x6 then (some (Except.error s1)) else (slices_Index_string_string.l0 a0 a1 k (IntKind.i64.wrap (s1 + (1 : Int))))) else (some (Except.ok ()))
def slices_Index_string_string.f (k : Nat) (a0 : List ByteArray) (a1 : ByteArray) : Option Int := (slices_Index_string_string.l0 a0 a1 k (0 : Int)).bind fun o4 => match o4 with | .error r' => some r' | .ok s2 => (some (-1 : Int))
set_option maxRecDepth 100000 in
set_option maxHeartbeats 4000000 in
theorem slices_Index_string_string.con (k : Nat) (a0 : List ByteArray) (a1 : ByteArray) (r : Int) (H : slices_Index_string_string.f k a0 a1 = some r) : Con Try.prog 43 [VA.k (kslice kstr) a0, VA.k kstr a1] [VA.k (kint .i64) r] := by
  unfold slices_Index_string_string.f at H
  refine con_enter Try.func43 rfl rfl rfl (fun w0 S0 θ => ?_)
  refine goes_seq ?_
  refine goes_region ?_
  refine go1 (op_assign rfl (.int _ _)) rfl ?_
  refine goesO_nil ?_
  refine ends_then ?_
  refine goes_seq ?_
  refine goes_seq ?_
  refine goes_region ?_
  refine go1 (op_move rfl (.t (has rfl))) rfl ?_
  refine go1 (op_len rfl rfl Try.underlying22 (.t (has rfl))) rfl ?_
  refine go1 (op_move rfl (.int _ _)) rfl ?_
  refine goesO_nil ?_
  refine ends_then ?_
  obtain ⟨o4, h3, H⟩ := bind_some H
  refine goes_cutR (o := o4) (fun s2 : Unit => []) (fun r a w => bodyPost Try.prog Try.f43 (CPost w0 S0 θ [VA.k (kint .i64) r]) .ret a w) ?_ ?_ ?_
  · replace H := h3; clear h3
    refine goes_block ?_
    refine goes_loop (fun s1 : Int => [Ent.t 0 (VA.k (kslice kstr) a0), Ent.t 1 (VA.k kstr a1), Ent.t 7 (VA.k (kint .i64) (a0.length : Int)), Ent.t 8 (VA.k (kint .i64) s1)]) (fun k s1 => slices_Index_string_string.l0 a0 a1 k s1) (fun _ => rfl) H (.cons rfl (.cons rfl (.cons rfl (.cons rfl .nil)))) ?_
    intro k s1 H
    simp only [slices_Index_string_string.l0] at H
    refine goes_seq ?_
    refine goes_region ?_
    refine go1 (op_icmp rfl rfl (.t (has rfl)) (.t (has rfl))) rfl ?_
    refine goesO_nil ?_
    refine ends_then ?_
    refine goes_seq ?_
    refine goes_if (.t (has rfl)) H (fun hb5 H => ?_) (fun hb5 H => ?_)
    · skip
      refine goes_skip ?_
      refine ends_then ?_
      refine goes_seq ?_
      refine goes_block ?_
      refine goes_seq ?_
      refine goes_region ?_
      refine go1 (op_move rfl (.t (has rfl))) rfl ?_
      refine go1 (op_assign rfl (.t (has rfl))) rfl ?_
      refine goesO_nil ?_
      refine ends_then ?_
      refine goes_seq ?_
      refine goes_region ?_
      refine go1 (op_move rfl (.t (has rfl))) rfl ?_
      refine go1 (op_move rfl (.t (has rfl))) rfl ?_
      refine go1 (op_move rfl (.t (has rfl))) rfl ?_
      obtain ⟨x6, h7, H⟩ := bind_some H
      refine go1 (op_indexAddr rfl Try.underlying22 tk9 h7 (.t (has rfl)) (.t (has rfl))) rfl ?_
      refine go1 (op_loadp rfl tk9 (.t (has rfl))) rfl ?_
      refine go1 (op_scmp rfl rfl (.t (has rfl)) (.t (has rfl))) rfl ?_
      refine goesO_nil ?_
      refine ends_then ?_
      refine goes_if (.t (has rfl)) H (fun hb8 H => ?_) (fun hb8 H => ?_)
      · skip
        refine goes_seq ?_
        refine goes_region ?_
        refine go1 (op_move rfl (.t (has rfl))) rfl ?_
        refine go1 (op_assign rfl (.t (has rfl))) rfl ?_
        refine goesO_nil ?_
        refine ends_then ?_
        obtain rfl := Option.some.inj H
        refine goes_ret (ends_block_ret (ends_then_ret (ends_then_ret (ends_block_ret (ends_cutR_ret rfl ?_)))))
        exact ends_ret' rfl rfl (.t rfl (.nil _))
      · skip
        refine goes_skip ?_
        refine ends_block ?_
        refine ends_then ?_
        refine goes_region ?_
        refine go1 (op_add rfl (.t (has rfl)) (.int _ _)) rfl ?_
        refine go1 (op_move rfl (.t (has rfl))) rfl ?_
        refine goesO_nil ?_
        exact loop_next _ H (.cons rfl (.cons rfl (.cons rfl (.cons rfl .nil))))
    · skip
      refine goes_exit (ends_then_exit (ends_then_exit (ends_block_exit ?_)))
      obtain rfl := Option.some.inj H
      exact ends_cutR rfl .nil
  · rintro s2 rfl
    clear h3
    dsimp only at H
    refine ends_then ?_
    refine goes_seq ?_
    refine goes_region ?_
    refine go1 (op_assign rfl (.int _ _)) rfl ?_
    refine goesO_nil ?_
    refine ends_then ?_
    obtain rfl := Option.some.inj H
    exact goes_ret (ends_ret' rfl rfl (.t rfl (.nil _)))
  · rintro r' rfl a w hr
    obtain rfl := Option.some.inj H
    exact hr
theorem slices_Index_string_string.conF (k : Nat) (a0 : List ByteArray) (a1 : ByteArray) (r : Int) (H : slices_Index_string_string.f k a0 a1 = some r) : ConF Try.prog 43 [VA.k (kslice kstr) a0, VA.k kstr a1] [VA.k (kint .i64) r] := (slices_Index_string_string.con k a0 a1 r H).freeL (.cons (KFree.k (KFree.int .i64) _) .nil)
/-! slices.Contains[[]string,string] -/
def slices_Contains_string_string.f (k : Nat) (a0 : List ByteArray) (a1 : ByteArray) : Option Bool := (slices_Index_string_string.f k a0 a1).bind fun v1 => some (icmp .geq v1 (0 : Int))
set_option maxRecDepth 100000 in
set_option maxHeartbeats 4000000 in
theorem slices_Contains_string_string.con (k : Nat) (a0 : List ByteArray) (a1 : ByteArray) (r : Bool) (H : slices_Contains_string_string.f k a0 a1 = some r) : Con Try.prog 36 [VA.k (kslice kstr) a0, VA.k kstr a1] [VA.k kbool r] := by
  unfold slices_Contains_string_string.f at H
  refine con_enter Try.func36 rfl rfl rfl (fun w0 S0 θ => ?_)
  refine goes_seq ?_
  refine goes_region ?_
  refine go1 (op_assign rfl (.bool _)) rfl ?_
  refine goesO_nil ?_
  refine ends_then ?_
  refine goes_seq ?_
  refine goes_region ?_
  refine go1 (op_move rfl (.t (has rfl))) rfl ?_
  refine go1 (op_move rfl (.t (has rfl))) rfl ?_
  obtain ⟨v1, h2, H⟩ := bind_some H
  refine go1 (op_call' rfl enters43 (slices_Index_string_string.con _ _ _ _ h2) rfl (.cons (ArgP.k (.t (has rfl))) (.cons (ArgP.k (.t (has rfl))) .nil))) rfl ?_
  refine go1 (op_icmp rfl rfl (.t (has rfl)) (.int _ _)) rfl ?_
  refine go1 (op_assign rfl (.t (has rfl))) rfl ?_
  refine goesO_nil ?_
  refine ends_then ?_
  obtain rfl := Option.some.inj H
  exact goes_ret (ends_ret' rfl rfl (.t rfl (.nil _)))
theorem slices_Contains_string_string.conF (k : Nat) (a0 : List ByteArray) (a1 : ByteArray) (r : Bool) (H : slices_Contains_string_string.f k a0 a1 = some r) : ConF Try.prog 36 [VA.k (kslice kstr) a0, VA.k kstr a1] [VA.k kbool r] := (slices_Contains_string_string.con k a0 a1 r H).freeL (.cons (KFree.k KFree.bool _) .nil)
/-! slices.IndexFunc[[]string,string] -/
def slices_IndexFunc_string_string.l0 (a0 : List ByteArray) (a1 : ByteArray → Option Bool) : Nat → Int → Option (Except Int Unit)
  | 0, _ => none
  | k + 1, s1 => bif icmp .lss s1 (a0.length : Int) then ((idx a0 s1).bind fun x6 => (a1 x6).bind fun v8 => bif v8 then (some (Except.error s1)) else (slices_IndexFunc_string_string.l0 a0 a1 k (IntKind.i64.wrap (s1 + (1 : Int))))) else (some (Except.ok ()))
def slices_IndexFunc_string_string.f (k : Nat) (a0 : List ByteArray) (a1 : ByteArray → Option Bool) : Option Int := (slices_IndexFunc_string_string.l0 a0 a1 k (0 : Int)).bind fun o4 => match o4 with | .error r' => some r' | .ok s2 => (some (-1 : Int))
set_option maxRecDepth 100000 in
set_option maxHeartbeats 4000000 in
theorem slices_IndexFunc_string_string.con (F1 : FuncId) (pre1 caps1 : List VA) (k : Nat) (a0 : List ByteArray) (a1 : ByteArray → Option Bool) (hE1 : Enters Try.prog F1) (hp1 : ∀ (z0 : ByteArray) r, a1 z0 = some r → Con Try.prog F1 (pre1 ++ ([VA.k kstr z0] ++ caps1)) [VA.k kbool r]) (r : Int) (H : slices_IndexFunc_string_string.f k a0 a1 = some r) : Con Try.prog 48 [VA.k (kslice kstr) a0, VA.clo F1 pre1 caps1] [VA.k (kint .i64) r] := by
  unfold slices_IndexFunc_string_string.f at H
  refine con_enter Try.func48 rfl rfl rfl (fun w0 S0 θ => ?_)
  refine goes_seq ?_
  refine goes_region ?_
  refine go1 (op_assign rfl (.int _ _)) rfl ?_
  refine goesO_nil ?_
  refine ends_then ?_
  refine goes_seq ?_
  refine goes_seq ?_
  refine goes_region ?_
  refine go1 (op_move rfl (.t (has rfl))) rfl ?_
  refine go1 (op_len rfl rfl Try.underlying22 (.t (has rfl))) rfl ?_
  refine go1 (op_move rfl (.int _ _)) rfl ?_
  refine goesO_nil ?_
  refine ends_then ?_
  obtain ⟨o4, h3, H⟩ := bind_some H
  refine goes_cutR (o := o4) (fun s2 : Unit => []) (fun r a w => bodyPost Try.prog Try.f48 (CPost w0 S0 θ [VA.k (kint .i64) r]) .ret a w) ?_ ?_ ?_
  · replace H := h3; clear h3
    refine goes_block ?_
    refine goes_loop (fun s1 : Int => [Ent.t 0 (VA.k (kslice kstr) a0), Ent.t 1 (VA.clo F1 pre1 caps1), Ent.t 7 (VA.k (kint .i64) (a0.length : Int)), Ent.t 8 (VA.k (kint .i64) s1)]) (fun k s1 => slices_IndexFunc_string_string.l0 a0 a1 k s1) (fun _ => rfl) H (.cons rfl (.cons rfl (.cons rfl (.cons rfl .nil)))) ?_
    intro k s1 H
    simp only [slices_IndexFunc_string_string.l0] at H
    refine goes_seq ?_
    refine goes_region ?_
    refine go1 (op_icmp rfl rfl (.t (has rfl)) (.t (has rfl))) rfl ?_
    refine goesO_nil ?_
    refine ends_then ?_
    refine goes_seq ?_
    refine goes_if (.t (has rfl)) H (fun hb5 H => ?_) (fun hb5 H => ?_)
    · skip
      refine goes_skip ?_
      refine ends_then ?_
      refine goes_seq ?_
      refine goes_block ?_
      refine goes_seq ?_
      refine goes_region ?_
      refine go1 (op_move rfl (.t (has rfl))) rfl ?_
      refine go1 (op_assign rfl (.t (has rfl))) rfl ?_
      refine goesO_nil ?_
      refine ends_then ?_
      refine goes_seq ?_
      refine goes_region ?_
      refine go1 (op_moveA rfl plain_clo (.t (has rfl))) rfl ?_
      refine go1 (op_move rfl (.t (has rfl))) rfl ?_
      refine go1 (op_move rfl (.t (has rfl))) rfl ?_
      obtain ⟨x6, h7, H⟩ := bind_some H
      refine go1 (op_indexAddr rfl Try.underlying22 tk9 h7 (.t (has rfl)) (.t (has rfl))) rfl ?_
      refine go1 (op_loadp rfl tk9 (.t (has rfl))) rfl ?_
      obtain ⟨v8, h9, H⟩ := bind_some H
      refine go1 (op_callv rfl (.t (has rfl)) hE1 (hp1 _ _ h9) rfl (.cons (ArgP.k (.t (has rfl))) .nil)) rfl ?_
      refine goesO_nil ?_
      refine ends_then ?_
      refine goes_if (.t (has rfl)) H (fun hb10 H => ?_) (fun hb10 H => ?_)
      · skip
        refine goes_seq ?_
        refine goes_region ?_
        refine go1 (op_move rfl (.t (has rfl))) rfl ?_
        refine go1 (op_assign rfl (.t (has rfl))) rfl ?_
        refine goesO_nil ?_
        refine ends_then ?_
        obtain rfl := Option.some.inj H
        refine goes_ret (ends_block_ret (ends_then_ret (ends_then_ret (ends_block_ret (ends_cutR_ret rfl ?_)))))
        exact ends_ret' rfl rfl (.t rfl (.nil _))
      · skip
        refine goes_skip ?_
        refine ends_block ?_
        refine ends_then ?_
        refine goes_region ?_
        refine go1 (op_add rfl (.t (has rfl)) (.int _ _)) rfl ?_
        refine go1 (op_move rfl (.t (has rfl))) rfl ?_
        refine goesO_nil ?_
        exact loop_next _ H (.cons rfl (.cons rfl (.cons rfl (.cons rfl .nil))))
    · skip
      refine goes_exit (ends_then_exit (ends_then_exit (ends_block_exit ?_)))
      obtain rfl := Option.some.inj H
      exact ends_cutR rfl .nil
  · rintro s2 rfl
    clear h3
    dsimp only at H
    refine ends_then ?_
    refine goes_seq ?_
    refine goes_region ?_
    refine go1 (op_assign rfl (.int _ _)) rfl ?_
    refine goesO_nil ?_
    refine ends_then ?_
    obtain rfl := Option.some.inj H
    exact goes_ret (ends_ret' rfl rfl (.t rfl (.nil _)))
  · rintro r' rfl a w hr
    obtain rfl := Option.some.inj H
    exact hr
theorem slices_IndexFunc_string_string.conF (F1 : FuncId) (pre1 caps1 : List VA) (k : Nat) (a0 : List ByteArray) (a1 : ByteArray → Option Bool) (hE1 : Enters Try.prog F1) (hp1 : ∀ (z0 : ByteArray) r, a1 z0 = some r → Con Try.prog F1 (pre1 ++ ([VA.k kstr z0] ++ caps1)) [VA.k kbool r]) (r : Int) (H : slices_IndexFunc_string_string.f k a0 a1 = some r) : ConF Try.prog 48 [VA.k (kslice kstr) a0, VA.clo F1 pre1 caps1] [VA.k (kint .i64) r] := (slices_IndexFunc_string_string.con F1 pre1 caps1 k a0 a1 hE1 hp1 r H).freeL (.cons (KFree.k (KFree.int .i64) _) .nil)
/-! slices.ContainsFunc[[]string,string] -/
def slices_ContainsFunc_string_string.f (k : Nat) (a0 : List ByteArray) (a1 : ByteArray → Option Bool) : Option Bool := (slices_IndexFunc_string_string.f k a0 a1).bind fun v1 => some (icmp .geq v1 (0 : Int))
set_option maxRecDepth 100000 in
set_option maxHeartbeats 4000000 in
theorem slices_ContainsFunc_string_string.con (F1 : FuncId) (pre1 caps1 : List VA) (k : Nat) (a0 : List ByteArray) (a1 : ByteArray → Option Bool) (hE1 : Enters Try.prog F1) (hp1 : ∀ (z0 : ByteArray) r, a1 z0 = some r → Con Try.prog F1 (pre1 ++ ([VA.k kstr z0] ++ caps1)) [VA.k kbool r]) (r : Bool) (H : slices_ContainsFunc_string_string.f k a0 a1 = some r) : Con Try.prog 41 [VA.k (kslice kstr) a0, VA.clo F1 pre1 caps1] [VA.k kbool r] := by
  unfold slices_ContainsFunc_string_string.f at H
  refine con_enter Try.func41 rfl rfl rfl (fun w0 S0 θ => ?_)
  refine goes_seq ?_
  refine goes_region ?_
  refine go1 (op_assign rfl (.bool _)) rfl ?_
  refine goesO_nil ?_
  refine ends_then ?_
  refine goes_seq ?_
  refine goes_region ?_
  refine go1 (op_move rfl (.t (has rfl))) rfl ?_
  refine go1 (op_moveA rfl plain_clo (.t (has rfl))) rfl ?_
  obtain ⟨v1, h2, H⟩ := bind_some H
  refine go1 (op_call' rfl enters48 (slices_IndexFunc_string_string.con F1 pre1 caps1 _ _ a1 hE1 hp1 _ h2) rfl (.cons (ArgP.k (.t (has rfl))) (.cons (ArgP.clo (.t (has rfl))) .nil))) rfl ?_
  refine go1 (op_icmp rfl rfl (.t (has rfl)) (.int _ _)) rfl ?_
  refine go1 (op_assign rfl (.t (has rfl))) rfl ?_
  refine goesO_nil ?_
  refine ends_then ?_
  obtain rfl := Option.some.inj H
  exact goes_ret (ends_ret' rfl rfl (.t rfl (.nil _)))
theorem slices_ContainsFunc_string_string.conF (F1 : FuncId) (pre1 caps1 : List VA) (k : Nat) (a0 : List ByteArray) (a1 : ByteArray → Option Bool) (hE1 : Enters Try.prog F1) (hp1 : ∀ (z0 : ByteArray) r, a1 z0 = some r → Con Try.prog F1 (pre1 ++ ([VA.k kstr z0] ++ caps1)) [VA.k kbool r]) (r : Bool) (H : slices_ContainsFunc_string_string.f k a0 a1 = some r) : ConF Try.prog 41 [VA.k (kslice kstr) a0, VA.clo F1 pre1 caps1] [VA.k kbool r] := (slices_ContainsFunc_string_string.con F1 pre1 caps1 k a0 a1 hE1 hp1 r H).freeL (.cons (KFree.k KFree.bool _) .nil)
/-! smithy/resolve.right$1 -/
def resolve_right_1.f (a0 : ByteArray) : Option Bool := some (icmp .gtr (a0.size : Int) (65536 : Int))
set_option maxRecDepth 100000 in
set_option maxHeartbeats 4000000 in
theorem resolve_right_1.con (a0 : ByteArray) (r : Bool) (H : resolve_right_1.f a0 = some r) : Con Try.prog 42 [VA.k kstr a0] [VA.k kbool r] := by
  unfold resolve_right_1.f at H
  refine con_enter Try.func42 rfl rfl rfl (fun w0 S0 θ => ?_)
  refine goes_seq ?_
  refine goes_region ?_
  refine go1 (op_assign rfl (.bool _)) rfl ?_
  refine goesO_nil ?_
  refine ends_then ?_
  refine goes_seq ?_
  refine goes_region ?_
  refine go1 (op_move rfl (.t (has rfl))) rfl ?_
  refine go1 (op_len_str rfl rfl Try.underlying9 (.t (has rfl))) rfl ?_
  refine go1 (op_icmp rfl rfl (.t (has rfl)) (.int _ _)) rfl ?_
  refine go1 (op_assign rfl (.t (has rfl))) rfl ?_
  refine goesO_nil ?_
  refine ends_then ?_
  obtain rfl := Option.some.inj H
  exact goes_ret (ends_ret' rfl rfl (.t rfl (.nil _)))
theorem resolve_right_1.conF (a0 : ByteArray) (r : Bool) (H : resolve_right_1.f a0 = some r) : ConF Try.prog 42 [VA.k kstr a0] [VA.k kbool r] := (resolve_right_1.con a0 r H).freeL (.cons (KFree.k KFree.bool _) .nil)
/-! smithy/resolve.right -/
def resolve_right.l0 (a0 : Node) (a1 : GM Int) : Nat → Int → Option (Except Bool Unit)
  | 0, _ => none
  | k + 1, s13 => bif icmp .lss s13 (a0.Needs.length : Int) then ((idx a0.Needs s13).bind fun x18 => ((names_Check.f k x18).bind fun v22 => bif icmp .neq v22 (0 : Int) then (some true) else ((sub a0.Needs (0 : Int) s13).bind fun x25 => (slices_Contains_string_string.f k x25 x18).bind fun v27 => bif v27 then (some true) else ((gget a1 (0 : Int) x18).bind fun x30 => some (icmp .neq x30 (1 : Int))))).bind fun s20 => bif s20 then (some (Except.error false)) else (resolve_right.l0 a0 a1 k (IntKind.i64.wrap (s13 + (1 : Int))))) else (some (Except.ok ()))
def resolve_right.f (k : Nat) (a0 : Node) (a1 : GM Int) : Option Bool := ((names_Check.f k a0.Target).bind fun v3 => bif icmp .neq v3 (0 : Int) then (some true) else ((gget a1 (0 : Int) a0.Target).bind fun x6 => bif icmp .eql x6 (1 : Int) then (some true) else (bif icmp .gtr (a0.Needs.length : Int) (65 : Int) then (some true) else (bif icmp .gtr (a0.Recipe.length : Int) (64 : Int) then (some true) else (bif !a0.Has then (some (icmp .gtr (a0.Recipe.length : Int) (0 : Int))) else (some false)))))).bind fun s1 => bif s1 then (some false) else ((resolve_right.l0 a0 a1 k (0 : Int)).bind fun o16 => match o16 with | .error r' => some r' | .ok s14 => ((slices_ContainsFunc_string_string.f k a0.Recipe (fun (z0 : ByteArray) => resolve_right_1.f z0)).bind fun v33 => bif v33 then (some false) else (bif scmp .eql a0.Source (⟨#[]⟩ : ByteArray) then (some (scmp .eql a0.Stem (⟨#[]⟩ : ByteArray))) else ((bif icmp .gtr (a0.Needs.length : Int) (0 : Int) then ((idx a0.Needs (0 : Int)).bind fun x40 => bif scmp .eql x40 a0.Source then (some (icmp .leq (a0.Stem.size : Int) (64 : Int))) else (some false)) else (some false)).bind fun s37 => some s37))))
set_option maxRecDepth 100000 in
set_option maxHeartbeats 4000000 in
theorem resolve_right.con (k : Nat) (a0 : Node) (a1 : GM Int) (r : Bool) (H : resolve_right.f k a0 a1 = some r) : Con Try.prog 35 [VA.k kNode a0, VA.k (kmap Try.prog 9 (kint .i64)) a1] [VA.k kbool r] := by
  unfold resolve_right.f at H
  refine con_enter Try.func35 rfl rfl rfl (fun w0 S0 θ => ?_)
  refine goes_seq ?_
  refine goes_region ?_
  refine go3 (op_box 2 rfl (fun h => by first | rfl | cases h) (.t (has rfl))) rfl ?_
  refine go1 (op_assign rfl (.bool _)) rfl ?_
  refine goesO_nil ?_
  refine ends_then ?_
  refine goes_seq ?_
  refine goes_seq ?_
  obtain ⟨s1, h2, H⟩ := bind_some H
  refine goes_cut [Ent.t 1 (VA.k (kmap Try.prog 9 (kint .i64)) a1), Ent.t 2 (VA.ptr 2 0), Ent.t 40 (VA.k kbool s1), Ent.h 2 (HE.box 27 kNode a0)] ?_ ?_
  · replace H := h2; clear h2
    refine goes_region ?_
    refine go1 (op_fieldAddr rfl Try.underlying27 rfl tk9 (.t (has rfl))) rfl ?_
    refine go1 (op_load rfl fldNode_Target tk9 (.t (has rfl)) (has rfl)) rfl ?_
    obtain ⟨v3, h4, H⟩ := bind_some H
    refine go1 (op_call' rfl enters32 (names_Check.con _ _ _ h4) rfl (.cons (ArgP.k (.t (has rfl))) .nil)) rfl ?_
    refine go1 (op_icmp rfl rfl (.t (has rfl)) (.int _ _)) rfl ?_
    refine go1 (op_move rfl (.t (has rfl))) rfl ?_
    refine goesO_split H (fun hb5 H => ?_) (fun hb5 H => ?_)
    · skip
      refine goS rfl rfl rfl rfl rfl rfl hb5 ?_
      refine goS rfl rfl rfl rfl rfl rfl hb5 ?_
      refine goS rfl rfl rfl rfl rfl rfl hb5 ?_
      refine goS rfl rfl rfl rfl rfl rfl hb5 ?_
      refine goS rfl rfl rfl rfl rfl rfl hb5 ?_
      refine go1 (op_pick_t rfl hb5 (.t (has rfl)) (.bool _)) rfl ?_
      refine go1 (op_move rfl (.t (has rfl))) rfl ?_
      refine goS rfl rfl rfl rfl rfl rfl rfl ?_
      refine goS rfl rfl rfl rfl rfl rfl rfl ?_
      refine goS rfl rfl rfl rfl rfl rfl rfl ?_
      refine goS rfl rfl rfl rfl rfl rfl rfl ?_
      refine go1 (op_pick_t rfl rfl (.t (has rfl)) (.bool _)) rfl ?_
      refine go1 (op_move rfl (.t (has rfl))) rfl ?_
      refine goS rfl rfl rfl rfl rfl rfl rfl ?_
      refine goS rfl rfl rfl rfl rfl rfl rfl ?_
      refine goS rfl rfl rfl rfl rfl rfl rfl ?_
      refine goS rfl rfl rfl rfl rfl rfl rfl ?_
      refine go1 (op_pick_t rfl rfl (.t (has rfl)) (.bool _)) rfl ?_
      refine go1 (op_move rfl (.t (has rfl))) rfl ?_
      refine goS rfl rfl rfl rfl rfl rfl rfl ?_
      refine goS rfl rfl rfl rfl rfl rfl rfl ?_
      refine goS rfl rfl rfl rfl rfl rfl rfl ?_
      refine goS rfl rfl rfl rfl rfl rfl rfl ?_
      refine goSU rfl rfl rfl rfl rfl rfl ?_
      refine goSU rfl rfl rfl rfl rfl rfl ?_
      refine goSU rfl rfl rfl rfl rfl rfl ?_
      refine goSU rfl rfl rfl rfl rfl rfl ?_
      refine goS rfl rfl rfl rfl rfl rfl rfl ?_
      refine go1 (op_pick_t rfl rfl (.t (has rfl)) (.bool _)) rfl ?_
      refine goesO_nil ?_
      obtain rfl := Option.some.inj H
      exact ends_cut (.cons rfl (.cons rfl (.cons rfl (.cons rfl .nil))))
    · skip
      refine goG (op_move rfl (.t (has rfl))) rfl rfl rfl rfl hb5 ?_
      refine goG (op_fieldAddr rfl Try.underlying27 rfl tk9 (.t (has rfl))) rfl rfl rfl rfl hb5 ?_
      refine goG (op_load rfl fldNode_Target tk9 (.t (has rfl)) (has rfl)) rfl rfl rfl rfl hb5 ?_
      obtain ⟨x6, h7, H⟩ := bind_some H
      refine goG (op_lookup_k rfl xmt74 h7 (.t (has rfl)) (.t (has rfl))) rfl rfl rfl rfl hb5 ?_
      refine goG (op_icmp rfl rfl (.t (has rfl)) (.int _ _)) rfl rfl rfl rfl hb5 ?_
      refine go1 (op_pick_f rfl hb5 (.t (has rfl)) (.t (has rfl))) rfl ?_
      refine go1 (op_move rfl (.t (has rfl))) rfl ?_
      refine goesO_split H (fun hb8 H => ?_) (fun hb8 H => ?_)
      · skip
        refine goS rfl rfl rfl rfl rfl rfl hb8 ?_
        refine goS rfl rfl rfl rfl rfl rfl hb8 ?_
        refine goS rfl rfl rfl rfl rfl rfl hb8 ?_
        refine goS rfl rfl rfl rfl rfl rfl hb8 ?_
        refine go1 (op_pick_t rfl hb8 (.t (has rfl)) (.bool _)) rfl ?_
        refine go1 (op_move rfl (.t (has rfl))) rfl ?_
        refine goS rfl rfl rfl rfl rfl rfl rfl ?_
        refine goS rfl rfl rfl rfl rfl rfl rfl ?_
        refine goS rfl rfl rfl rfl rfl rfl rfl ?_
        refine goS rfl rfl rfl rfl rfl rfl rfl ?_
        refine go1 (op_pick_t rfl rfl (.t (has rfl)) (.bool _)) rfl ?_
        refine go1 (op_move rfl (.t (has rfl))) rfl ?_
        refine goS rfl rfl rfl rfl rfl rfl rfl ?_
        refine goS rfl rfl rfl rfl rfl rfl rfl ?_
        refine goS rfl rfl rfl rfl rfl rfl rfl ?_
        refine goS rfl rfl rfl rfl rfl rfl rfl ?_
        refine goSU rfl rfl rfl rfl rfl rfl ?_
        refine goSU rfl rfl rfl rfl rfl rfl ?_
        refine goSU rfl rfl rfl rfl rfl rfl ?_
        refine goSU rfl rfl rfl rfl rfl rfl ?_
        refine goS rfl rfl rfl rfl rfl rfl rfl ?_
        refine go1 (op_pick_t rfl rfl (.t (has rfl)) (.bool _)) rfl ?_
        refine goesO_nil ?_
        obtain rfl := Option.some.inj H
        exact ends_cut (.cons rfl (.cons rfl (.cons rfl (.cons rfl .nil))))
      · skip
        refine goG (op_fieldAddr rfl Try.underlying27 rfl tk22 (.t (has rfl))) rfl rfl rfl rfl hb8 ?_
        refine goG (op_load rfl fldNode_Needs tk22 (.t (has rfl)) (has rfl)) rfl rfl rfl rfl hb8 ?_
        refine goG (op_len rfl rfl Try.underlying22 (.t (has rfl))) rfl rfl rfl rfl hb8 ?_
        refine goG (op_icmp rfl rfl (.t (has rfl)) (.int _ _)) rfl rfl rfl rfl hb8 ?_
        refine go1 (op_pick_f rfl hb8 (.t (has rfl)) (.t (has rfl))) rfl ?_
        refine go1 (op_move rfl (.t (has rfl))) rfl ?_
        refine goesO_split H (fun hb9 H => ?_) (fun hb9 H => ?_)
        · skip
          refine goS rfl rfl rfl rfl rfl rfl hb9 ?_
          refine goS rfl rfl rfl rfl rfl rfl hb9 ?_
          refine goS rfl rfl rfl rfl rfl rfl hb9 ?_
          refine goS rfl rfl rfl rfl rfl rfl hb9 ?_
          refine go1 (op_pick_t rfl hb9 (.t (has rfl)) (.bool _)) rfl ?_
          refine go1 (op_move rfl (.t (has rfl))) rfl ?_
          refine goS rfl rfl rfl rfl rfl rfl rfl ?_
          refine goS rfl rfl rfl rfl rfl rfl rfl ?_
          refine goS rfl rfl rfl rfl rfl rfl rfl ?_
          refine goS rfl rfl rfl rfl rfl rfl rfl ?_
          refine goSU rfl rfl rfl rfl rfl rfl ?_
          refine goSU rfl rfl rfl rfl rfl rfl ?_
          refine goSU rfl rfl rfl rfl rfl rfl ?_
          refine goSU rfl rfl rfl rfl rfl rfl ?_
          refine goS rfl rfl rfl rfl rfl rfl rfl ?_
          refine go1 (op_pick_t rfl rfl (.t (has rfl)) (.bool _)) rfl ?_
          refine goesO_nil ?_
          obtain rfl := Option.some.inj H
          exact ends_cut (.cons rfl (.cons rfl (.cons rfl (.cons rfl .nil))))
        · skip
          refine goG (op_fieldAddr rfl Try.underlying27 rfl tk22 (.t (has rfl))) rfl rfl rfl rfl hb9 ?_
          refine goG (op_load rfl fldNode_Recipe tk22 (.t (has rfl)) (has rfl)) rfl rfl rfl rfl hb9 ?_
          refine goG (op_len rfl rfl Try.underlying22 (.t (has rfl))) rfl rfl rfl rfl hb9 ?_
          refine goG (op_icmp rfl rfl (.t (has rfl)) (.int _ _)) rfl rfl rfl rfl hb9 ?_
          refine go1 (op_pick_f rfl hb9 (.t (has rfl)) (.t (has rfl))) rfl ?_
          refine go1 (op_move rfl (.t (has rfl))) rfl ?_
          refine goesO_split H (fun hb10 H => ?_) (fun hb10 H => ?_)
          · skip
            refine goS rfl rfl rfl rfl rfl rfl hb10 ?_
            refine goS rfl rfl rfl rfl rfl rfl hb10 ?_
            refine goS rfl rfl rfl rfl rfl rfl hb10 ?_
            refine goS rfl rfl rfl rfl rfl rfl hb10 ?_
            refine goSU rfl rfl rfl rfl rfl rfl ?_
            refine goSU rfl rfl rfl rfl rfl rfl ?_
            refine goSU rfl rfl rfl rfl rfl rfl ?_
            refine goSU rfl rfl rfl rfl rfl rfl ?_
            refine goS rfl rfl rfl rfl rfl rfl hb10 ?_
            refine go1 (op_pick_t rfl hb10 (.t (has rfl)) (.bool _)) rfl ?_
            refine goesO_nil ?_
            obtain rfl := Option.some.inj H
            exact ends_cut (.cons rfl (.cons rfl (.cons rfl (.cons rfl .nil))))
          · skip
            refine goG (op_fieldAddr rfl Try.underlying27 rfl tk4 (.t (has rfl))) rfl rfl rfl rfl hb10 ?_
            refine goG (op_load rfl fldNode_Has tk4 (.t (has rfl)) (has rfl)) rfl rfl rfl rfl hb10 ?_
            refine goG (op_not rfl (.t (has rfl))) rfl rfl rfl rfl hb10 ?_
            refine goG (op_move rfl (.t (has rfl))) rfl rfl rfl rfl hb10 ?_
            refine goesO_split H (fun hb11 H => ?_) (fun hb11 H => ?_)
            · skip
              refine goG (op_fieldAddr rfl Try.underlying27 rfl tk22 (.t (has rfl))) rfl rfl rfl rfl hb11 ?_
              refine goG (op_load rfl fldNode_Recipe tk22 (.t (has rfl)) (has rfl)) rfl rfl rfl rfl hb11 ?_
              refine goG (op_len rfl rfl Try.underlying22 (.t (has rfl))) rfl rfl rfl rfl hb11 ?_
              refine goG (op_icmp rfl rfl (.t (has rfl)) (.int _ _)) rfl rfl rfl rfl hb11 ?_
              refine goG (op_pick_t rfl hb11 (.t (has rfl)) (.t (has rfl))) rfl rfl rfl rfl hb10 ?_
              refine go1 (op_pick_f rfl hb10 (.t (has rfl)) (.t (has rfl))) rfl ?_
              refine goesO_nil ?_
              obtain rfl := Option.some.inj H
              exact ends_cut (.cons rfl (.cons rfl (.cons rfl (.cons rfl .nil))))
            · skip
              refine goS rfl rfl rfl rfl rfl rfl hb11 ?_
              refine goS rfl rfl rfl rfl rfl rfl hb11 ?_
              refine goS rfl rfl rfl rfl rfl rfl hb11 ?_
              refine goS rfl rfl rfl rfl rfl rfl hb11 ?_
              refine goG (op_pick_f rfl hb11 (.t (has rfl)) (.bool _)) rfl rfl rfl rfl hb10 ?_
              refine go1 (op_pick_f rfl hb10 (.t (has rfl)) (.t (has rfl))) rfl ?_
              refine goesO_nil ?_
              obtain rfl := Option.some.inj H
              exact ends_cut (.cons rfl (.cons rfl (.cons rfl (.cons rfl .nil))))
  refine ends_then ?_
  refine goes_if (.t (has rfl)) H (fun hb12 H => ?_) (fun hb12 H => ?_)
  · skip
    refine goes_seq ?_
    refine goes_region ?_
    refine go1 (op_assign rfl (.bool _)) rfl ?_
    refine goesO_nil ?_
    refine ends_then ?_
    obtain rfl := Option.some.inj H
    exact goes_ret (ends_then_ret (ends_ret' rfl rfl (.t rfl (.nil _))))
  · skip
    refine goes_skip ?_
    refine ends_then ?_
    refine goes_seq ?_
    refine goes_seq ?_
    refine goes_region ?_
    refine go1 (op_fieldAddr rfl Try.underlying27 rfl tk22 (.t (has rfl))) rfl ?_
    refine go1 (op_load rfl fldNode_Needs tk22 (.t (has rfl)) (has rfl)) rfl ?_
    refine go1 (op_len rfl rfl Try.underlying22 (.t (has rfl))) rfl ?_
    refine go1 (op_move rfl (.int _ _)) rfl ?_
    refine goesO_nil ?_
    refine ends_then ?_
    obtain ⟨o16, h15, H⟩ := bind_some H
    refine goes_cutR (o := o16) (fun s14 : Unit => [Ent.t 2 (VA.ptr 2 0), Ent.h 2 (HE.box 27 kNode a0)]) (fun r a w => bodyPost Try.prog Try.f35 (CPost w0 S0 θ [VA.k kbool r]) .ret a w) ?_ ?_ ?_
    · replace H := h15; clear h15
      refine goes_block ?_
      refine goes_loop (fun s13 : Int => [Ent.t 1 (VA.k (kmap Try.prog 9 (kint .i64)) a1), Ent.t 2 (VA.ptr 2 0), Ent.t 42 (VA.k (kslice kstr) a0.Needs), Ent.t 43 (VA.k (kint .i64) (a0.Needs.length : Int)), Ent.t 44 (VA.k (kint .i64) s13), Ent.h 2 (HE.box 27 kNode a0)]) (fun k s13 => resolve_right.l0 a0 a1 k s13) (fun _ => rfl) H (.cons rfl (.cons rfl (.cons rfl (.cons rfl (.cons rfl (.cons rfl .nil)))))) ?_
      intro k s13 H
      simp only [resolve_right.l0] at H
      refine goes_seq ?_
      refine goes_region ?_
      refine go1 (op_icmp rfl rfl (.t (has rfl)) (.t (has rfl))) rfl ?_
      refine goesO_nil ?_
      refine ends_then ?_
      refine goes_seq ?_
      refine goes_if (.t (has rfl)) H (fun hb17 H => ?_) (fun hb17 H => ?_)
      · skip
        refine goes_skip ?_
        refine ends_then ?_
        refine goes_seq ?_
        refine goes_block ?_
        refine goes_seq ?_
        refine goes_region ?_
        refine go1 (op_move rfl (.t (has rfl))) rfl ?_
        obtain ⟨x18, h19, H⟩ := bind_some H
        refine go1 (op_indexAddr rfl Try.underlying22 tk9 h19 (.t (has rfl)) (.t (has rfl))) rfl ?_
        refine go1 (op_loadp rfl tk9 (.t (has rfl))) rfl ?_
        refine go1 (op_assign rfl (.t (has rfl))) rfl ?_
        refine go1 (op_assign rfl (.t (has rfl))) rfl ?_
        refine goesO_nil ?_
        refine ends_then ?_
        refine goes_seq ?_
        obtain ⟨s20, h21, H⟩ := bind_some H
        refine goes_cut [Ent.t 1 (VA.k (kmap Try.prog 9 (kint .i64)) a1), Ent.t 2 (VA.ptr 2 0), Ent.t 42 (VA.k (kslice kstr) a0.Needs), Ent.t 43 (VA.k (kint .i64) (a0.Needs.length : Int)), Ent.t 44 (VA.k (kint .i64) s13), Ent.t 65 (VA.k kbool s20), Ent.h 2 (HE.box 27 kNode a0)] ?_ ?_
        · replace H := h21; clear h21
          refine goes_region ?_
          refine go1 (op_move rfl (.t (has rfl))) rfl ?_
          obtain ⟨v22, h23, H⟩ := bind_some H
          refine go1 (op_call' rfl enters32 (names_Check.con _ _ _ h23) rfl (.cons (ArgP.k (.t (has rfl))) .nil)) rfl ?_
          refine go1 (op_icmp rfl rfl (.t (has rfl)) (.int _ _)) rfl ?_
          refine go1 (op_move rfl (.t (has rfl))) rfl ?_
          refine goesO_split H (fun hb24 H => ?_) (fun hb24 H => ?_)
          · skip
            refine goS rfl rfl rfl rfl rfl rfl hb24 ?_
            refine goS rfl rfl rfl rfl rfl rfl hb24 ?_
            refine goS rfl rfl rfl rfl rfl rfl hb24 ?_
            refine goS rfl rfl rfl rfl rfl rfl hb24 ?_
            refine goS rfl rfl rfl rfl rfl rfl hb24 ?_
            refine goS rfl rfl rfl rfl rfl rfl hb24 ?_
            refine go1 (op_pick_t rfl hb24 (.t (has rfl)) (.bool _)) rfl ?_
            refine go1 (op_move rfl (.t (has rfl))) rfl ?_
            refine goS rfl rfl rfl rfl rfl rfl rfl ?_
            refine goS rfl rfl rfl rfl rfl rfl rfl ?_
            refine goS rfl rfl rfl rfl rfl rfl rfl ?_
            refine goS rfl rfl rfl rfl rfl rfl rfl ?_
            refine go1 (op_pick_t rfl rfl (.t (has rfl)) (.bool _)) rfl ?_
            refine goesO_nil ?_
            obtain rfl := Option.some.inj H
            exact ends_cut (.cons rfl (.cons rfl (.cons rfl (.cons rfl (.cons rfl (.cons rfl (.cons rfl .nil)))))))
          · skip
            refine goG (op_fieldAddr rfl Try.underlying27 rfl tk22 (.t (has rfl))) rfl rfl rfl rfl hb24 ?_
            refine goG (op_load rfl fldNode_Needs tk22 (.t (has rfl)) (has rfl)) rfl rfl rfl rfl hb24 ?_
            refine goG (op_move rfl (.t (has rfl))) rfl rfl rfl rfl hb24 ?_
            obtain ⟨x25, h26, H⟩ := bind_some H
            refine goG (op_slice (l := none) (h := some _) rfl Try.underlying22 tk9 h26 (.t (has rfl)) trivial (.t (has rfl))) rfl rfl rfl rfl hb24 ?_
            refine goG (op_move rfl (.t (has rfl))) rfl rfl rfl rfl hb24 ?_
            obtain ⟨v27, h28, H⟩ := bind_some H
            refine goG (op_call' rfl enters36 (slices_Contains_string_string.con _ _ _ _ h28) rfl (.cons (ArgP.k (.t (has rfl))) (.cons (ArgP.k (.t (has rfl))) .nil))) rfl rfl rfl rfl hb24 ?_
            refine go1 (op_pick_f rfl hb24 (.t (has rfl)) (.t (has rfl))) rfl ?_
            refine go1 (op_move rfl (.t (has rfl))) rfl ?_
            refine goesO_split H (fun hb29 H => ?_) (fun hb29 H => ?_)
            · skip
              refine goS rfl rfl rfl rfl rfl rfl hb29 ?_
              refine goS rfl rfl rfl rfl rfl rfl hb29 ?_
              refine goS rfl rfl rfl rfl rfl rfl hb29 ?_
              refine goS rfl rfl rfl rfl rfl rfl hb29 ?_
              refine go1 (op_pick_t rfl hb29 (.t (has rfl)) (.bool _)) rfl ?_
              refine goesO_nil ?_
              obtain rfl := Option.some.inj H
              exact ends_cut (.cons rfl (.cons rfl (.cons rfl (.cons rfl (.cons rfl (.cons rfl (.cons rfl .nil)))))))
            · skip
              refine goG (op_move rfl (.t (has rfl))) rfl rfl rfl rfl hb29 ?_
              refine goG (op_move rfl (.t (has rfl))) rfl rfl rfl rfl hb29 ?_
              obtain ⟨x30, h31, H⟩ := bind_some H
              refine goG (op_lookup_k rfl xmt74 h31 (.t (has rfl)) (.t (has rfl))) rfl rfl rfl rfl hb29 ?_
              refine goG (op_icmp rfl rfl (.t (has rfl)) (.int _ _)) rfl rfl rfl rfl hb29 ?_
              refine go1 (op_pick_f rfl hb29 (.t (has rfl)) (.t (has rfl))) rfl ?_
              refine goesO_nil ?_
              obtain rfl := Option.some.inj H
              exact ends_cut (.cons rfl (.cons rfl (.cons rfl (.cons rfl (.cons rfl (.cons rfl (.cons rfl .nil)))))))
        refine ends_then ?_
        refine goes_if (.t (has rfl)) H (fun hb32 H => ?_) (fun hb32 H => ?_)
        · skip
          refine goes_seq ?_
          refine goes_region ?_
          refine go1 (op_assign rfl (.bool _)) rfl ?_
          refine goesO_nil ?_
          refine ends_then ?_
          obtain rfl := Option.some.inj H
          refine goes_ret (ends_block_ret (ends_then_ret (ends_then_ret (ends_block_ret (ends_cutR_ret rfl ?_)))))
          exact ends_ret' rfl rfl (.t rfl (.nil _))
        · skip
          refine goes_skip ?_
          refine ends_block ?_
          refine ends_then ?_
          refine goes_region ?_
          refine go1 (op_add rfl (.t (has rfl)) (.int _ _)) rfl ?_
          refine go1 (op_move rfl (.t (has rfl))) rfl ?_
          refine goesO_nil ?_
          exact loop_next _ H (.cons rfl (.cons rfl (.cons rfl (.cons rfl (.cons rfl (.cons rfl .nil))))))
      · skip
        refine goes_exit (ends_then_exit (ends_then_exit (ends_block_exit ?_)))
        obtain rfl := Option.some.inj H
        exact ends_cutR rfl (.cons rfl (.cons rfl .nil))
    · rintro s14 rfl
      clear h15
      dsimp only at H
      refine ends_then ?_
      refine goes_seq ?_
      refine goes_seq ?_
      refine goes_region ?_
      refine go1 (op_fieldAddr rfl Try.underlying27 rfl tk22 (.t (has rfl))) rfl ?_
      refine go1 (op_load rfl fldNode_Recipe tk22 (.t (has rfl)) (has rfl)) rfl ?_
      obtain ⟨v33, h34, H⟩ := bind_some H
      refine go1 (op_call' rfl enters41 (slices_ContainsFunc_string_string.con 42 ([]) ([]) _ _ (fun (z0 : ByteArray) => resolve_right_1.f z0) enters42 (fun z0 r h => resolve_right_1.con z0 r h) _ h34) rfl (.cons (ArgP.k (.t (has rfl))) (.cons ArgP.fn .nil))) rfl ?_
      refine goesO_nil ?_
      refine ends_then ?_
      refine goes_if (.t (has rfl)) H (fun hb35 H => ?_) (fun hb35 H => ?_)
      · skip
        refine goes_seq ?_
        refine goes_region ?_
        refine go1 (op_assign rfl (.bool _)) rfl ?_
        refine goesO_nil ?_
        refine ends_then ?_
        obtain rfl := Option.some.inj H
        exact goes_ret (ends_then_ret (ends_ret' rfl rfl (.t rfl (.nil _))))
      · skip
        refine goes_skip ?_
        refine ends_then ?_
        refine goes_seq ?_
        refine goes_seq ?_
        refine goes_region ?_
        refine go1 (op_fieldAddr rfl Try.underlying27 rfl tk9 (.t (has rfl))) rfl ?_
        refine go1 (op_load rfl fldNode_Source tk9 (.t (has rfl)) (has rfl)) rfl ?_
        refine go1 (op_scmp rfl rfl (.t (has rfl)) (.str _)) rfl ?_
        refine goesO_nil ?_
        refine ends_then ?_
        refine goes_if (.t (has rfl)) H (fun hb36 H => ?_) (fun hb36 H => ?_)
        · skip
          refine goes_seq ?_
          refine goes_region ?_
          refine go1 (op_fieldAddr rfl Try.underlying27 rfl tk9 (.t (has rfl))) rfl ?_
          refine go1 (op_load rfl fldNode_Stem tk9 (.t (has rfl)) (has rfl)) rfl ?_
          refine go1 (op_scmp rfl rfl (.t (has rfl)) (.str _)) rfl ?_
          refine go1 (op_assign rfl (.t (has rfl))) rfl ?_
          refine goesO_nil ?_
          refine ends_then ?_
          obtain rfl := Option.some.inj H
          exact goes_ret (ends_then_ret (ends_ret' rfl rfl (.t rfl (.nil _))))
        · skip
          refine goes_skip ?_
          refine ends_then ?_
          refine goes_seq ?_
          obtain ⟨s37, h38, H⟩ := bind_some H
          refine goes_cut [Ent.t 4 (VA.k kbool s37)] ?_ ?_
          · replace H := h38; clear h38
            refine goes_split H (fun hb39 H => ?_) (fun hb39 H => ?_)
            · skip
              obtain ⟨x40, h41, H⟩ := bind_some H
              refine goes_split H (fun hb42 H => ?_) (fun hb42 H => ?_)
              · skip
                refine goes_drawn [[Ent.t 76 (VA.ptr 2 1)], [Ent.t 77 (VA.k (kslice kstr) a0.Needs)], [Ent.t 78 (VA.k (kint .i64) (a0.Needs.length : Int))], [Ent.t 79 (VA.k kbool (icmp .gtr (a0.Needs.length : Int) (0 : Int)))], [Ent.t 80 (VA.k kbool (icmp .gtr (a0.Needs.length : Int) (0 : Int)))], [Ent.t 81 (VA.ptr 2 1)], [Ent.t 82 (VA.k (kslice kstr) a0.Needs)], [Ent.t 83 (VA.pt kstr x40)], [Ent.t 84 (VA.k kstr x40)], [Ent.t 85 (VA.ptr 2 4)], [Ent.t 86 (VA.k kstr a0.Source)], [Ent.t 87 (VA.k kbool (scmp .eql x40 a0.Source))], [Ent.t 88 (VA.k kbool (scmp .eql x40 a0.Source))], [Ent.t 89 (VA.k kbool (scmp .eql x40 a0.Source))], [Ent.t 90 (VA.ptr 2 5)], [Ent.t 91 (VA.k kstr a0.Stem)], [Ent.t 92 (VA.k (kint .i64) (a0.Stem.size : Int))], [Ent.t 93 (VA.k kbool (icmp .leq (a0.Stem.size : Int) (64 : Int)))], [Ent.t 94 (VA.k kbool (icmp .leq (a0.Stem.size : Int) (64 : Int)))], [Ent.t 4 (VA.k kbool (icmp .leq (a0.Stem.size : Int) (64 : Int)))]] mixed (by kernel_rfl) (by kernel_rfl) (.cons [(none, Ent.t 2 (VA.ptr 2 0))] (OpSpec.run rfl rfl (op_fieldAddr rfl Try.underlying27 rfl tk22 (.t NL.h0)) rfl) (.cons (has rfl) .nil) (by kernel_rfl) (.cons [(some 0, Ent.t 76 (VA.ptr 2 1)), (none, Ent.h 2 (HE.box 27 kNode a0))] (OpSpec.run rfl rfl (op_load rfl fldNode_Needs tk22 (.t NL.h0) (NL.hs NL.h0)) rfl) (.cons (has rfl) (.cons (has rfl) .nil)) (by kernel_rfl) (.cons [(some 1, Ent.t 77 (VA.k (kslice kstr) a0.Needs))] (OpSpec.run rfl rfl (op_len rfl rfl Try.underlying22 (.t NL.h0)) rfl) (.cons (has rfl) .nil) (by kernel_rfl) (.cons [(some 2, Ent.t 78 (VA.k (kint .i64) (a0.Needs.length : Int)))] (OpSpec.run rfl rfl (op_icmp rfl rfl (.t NL.h0) (.int _ _)) rfl) (.cons (has rfl) .nil) (by kernel_rfl) (.cons [(some 3, Ent.t 79 (VA.k kbool (icmp .gtr (a0.Needs.length : Int) (0 : Int))))] (OpSpec.run rfl rfl (op_move rfl (.t NL.h0)) rfl) (.cons (has rfl) .nil) (by kernel_rfl) (.cons [(some 4, Ent.t 80 (VA.k kbool (icmp .gtr (a0.Needs.length : Int) (0 : Int)))), (none, Ent.t 2 (VA.ptr 2 0))] (OpSpec.runG rfl rfl rfl rfl NL.h0 hb39 (op_fieldAddr rfl Try.underlying27 rfl tk22 (.t (NL.hs NL.h0))) rfl) (.cons (has rfl) (.cons (has rfl) .nil)) (by kernel_rfl) (.cons [(some 4, Ent.t 80 (VA.k kbool (icmp .gtr (a0.Needs.length : Int) (0 : Int)))), (some 5, Ent.t 81 (VA.ptr 2 1)), (none, Ent.h 2 (HE.box 27 kNode a0))] (OpSpec.runG rfl rfl rfl rfl NL.h0 hb39 (op_load rfl fldNode_Needs tk22 (.t (NL.hs NL.h0)) (NL.hs (NL.hs NL.h0))) rfl) (.cons (has rfl) (.cons (has rfl) (.cons (has rfl) .nil))) (by kernel_rfl) (.cons [(some 4, Ent.t 80 (VA.k kbool (icmp .gtr (a0.Needs.length : Int) (0 : Int)))), (some 6, Ent.t 82 (VA.k (kslice kstr) a0.Needs))] (OpSpec.runG rfl rfl rfl rfl NL.h0 hb39 (op_indexAddr rfl Try.underlying22 tk9 h41 (.t (NL.hs NL.h0)) (.int _ _)) rfl) (.cons (has rfl) (.cons (has rfl) .nil)) (by kernel_rfl) (.cons [(some 4, Ent.t 80 (VA.k kbool (icmp .gtr (a0.Needs.length : Int) (0 : Int)))), (some 7, Ent.t 83 (VA.pt kstr x40))] (OpSpec.runG rfl rfl rfl rfl NL.h0 hb39 (op_loadp rfl tk9 (.t (NL.hs NL.h0))) rfl) (.cons (has rfl) (.cons (has rfl) .nil)) (by kernel_rfl) (.cons [(some 4, Ent.t 80 (VA.k kbool (icmp .gtr (a0.Needs.length : Int) (0 : Int)))), (none, Ent.t 2 (VA.ptr 2 0))] (OpSpec.runG rfl rfl rfl rfl NL.h0 hb39 (op_fieldAddr rfl Try.underlying27 rfl tk9 (.t (NL.hs NL.h0))) rfl) (.cons (has rfl) (.cons (has rfl) .nil)) (by kernel_rfl) (.cons [(some 4, Ent.t 80 (VA.k kbool (icmp .gtr (a0.Needs.length : Int) (0 : Int)))), (some 9, Ent.t 85 (VA.ptr 2 4)), (none, Ent.h 2 (HE.box 27 kNode a0))] (OpSpec.runG rfl rfl rfl rfl NL.h0 hb39 (op_load rfl fldNode_Source tk9 (.t (NL.hs NL.h0)) (NL.hs (NL.hs NL.h0))) rfl) (.cons (has rfl) (.cons (has rfl) (.cons (has rfl) .nil))) (by kernel_rfl) (.cons [(some 4, Ent.t 80 (VA.k kbool (icmp .gtr (a0.Needs.length : Int) (0 : Int)))), (some 8, Ent.t 84 (VA.k kstr x40)), (some 10, Ent.t 86 (VA.k kstr a0.Source))] (OpSpec.runG rfl rfl rfl rfl NL.h0 hb39 (op_scmp rfl rfl (.t (NL.hs NL.h0)) (.t (NL.hs (NL.hs NL.h0)))) rfl) (.cons (has rfl) (.cons (has rfl) (.cons (has rfl) .nil))) (by kernel_rfl) (.cons [(some 4, Ent.t 80 (VA.k kbool (icmp .gtr (a0.Needs.length : Int) (0 : Int)))), (some 11, Ent.t 87 (VA.k kbool (scmp .eql x40 a0.Source)))] (OpSpec.run rfl rfl (op_pick_t rfl hb39 (.t NL.h0) (.t (NL.hs NL.h0))) rfl) (.cons (has rfl) (.cons (has rfl) .nil)) (by kernel_rfl) (.cons [(some 12, Ent.t 88 (VA.k kbool (scmp .eql x40 a0.Source)))] (OpSpec.run rfl rfl (op_move rfl (.t NL.h0)) rfl) (.cons (has rfl) .nil) (by kernel_rfl) (.cons [(some 13, Ent.t 89 (VA.k kbool (scmp .eql x40 a0.Source))), (none, Ent.t 2 (VA.ptr 2 0))] (OpSpec.runG rfl rfl rfl rfl NL.h0 hb42 (op_fieldAddr rfl Try.underlying27 rfl tk9 (.t (NL.hs NL.h0))) rfl) (.cons (has rfl) (.cons (has rfl) .nil)) (by kernel_rfl) (.cons [(some 13, Ent.t 89 (VA.k kbool (scmp .eql x40 a0.Source))), (some 14, Ent.t 90 (VA.ptr 2 5)), (none, Ent.h 2 (HE.box 27 kNode a0))] (OpSpec.runG rfl rfl rfl rfl NL.h0 hb42 (op_load rfl fldNode_Stem tk9 (.t (NL.hs NL.h0)) (NL.hs (NL.hs NL.h0))) rfl) (.cons (has rfl) (.cons (has rfl) (.cons (has rfl) .nil))) (by kernel_rfl) (.cons [(some 13, Ent.t 89 (VA.k kbool (scmp .eql x40 a0.Source))), (some 15, Ent.t 91 (VA.k kstr a0.Stem))] (OpSpec.runG rfl rfl rfl rfl NL.h0 hb42 (op_len_str rfl rfl Try.underlying9 (.t (NL.hs NL.h0))) rfl) (.cons (has rfl) (.cons (has rfl) .nil)) (by kernel_rfl) (.cons [(some 13, Ent.t 89 (VA.k kbool (scmp .eql x40 a0.Source))), (some 16, Ent.t 92 (VA.k (kint .i64) (a0.Stem.size : Int)))] (OpSpec.runG rfl rfl rfl rfl NL.h0 hb42 (op_icmp rfl rfl (.t (NL.hs NL.h0)) (.int _ _)) rfl) (.cons (has rfl) (.cons (has rfl) .nil)) (by kernel_rfl) (.cons [(some 13, Ent.t 89 (VA.k kbool (scmp .eql x40 a0.Source))), (some 17, Ent.t 93 (VA.k kbool (icmp .leq (a0.Stem.size : Int) (64 : Int))))] (OpSpec.run rfl rfl (op_pick_t rfl hb42 (.t NL.h0) (.t (NL.hs NL.h0))) rfl) (.cons (has rfl) (.cons (has rfl) .nil)) (by kernel_rfl) (.cons [(some 18, Ent.t 94 (VA.k kbool (icmp .leq (a0.Stem.size : Int) (64 : Int))))] (OpSpec.run rfl rfl (op_assign rfl (.t NL.h0)) rfl) (.cons (has rfl) .nil) (by kernel_rfl) (.nil _))))))))))))))))))))) ?_
                refine ends_sub [Ent.t 4 (VA.k kbool (icmp .leq (a0.Stem.size : Int) (64 : Int)))] (.cons rfl .nil) ?_
                obtain rfl := Option.some.inj H
                exact ends_cut (.cons rfl .nil)
              · skip
                refine goes_drawn [[Ent.t 76 (VA.ptr 2 1)], [Ent.t 77 (VA.k (kslice kstr) a0.Needs)], [Ent.t 78 (VA.k (kint .i64) (a0.Needs.length : Int))], [Ent.t 79 (VA.k kbool (icmp .gtr (a0.Needs.length : Int) (0 : Int)))], [Ent.t 80 (VA.k kbool (icmp .gtr (a0.Needs.length : Int) (0 : Int)))], [Ent.t 81 (VA.ptr 2 1)], [Ent.t 82 (VA.k (kslice kstr) a0.Needs)], [Ent.t 83 (VA.pt kstr x40)], [Ent.t 84 (VA.k kstr x40)], [Ent.t 85 (VA.ptr 2 4)], [Ent.t 86 (VA.k kstr a0.Source)], [Ent.t 87 (VA.k kbool (scmp .eql x40 a0.Source))], [Ent.t 88 (VA.k kbool (scmp .eql x40 a0.Source))], [Ent.t 89 (VA.k kbool (scmp .eql x40 a0.Source))], [Ent.t 90 (VA.v undef)], [Ent.t 91 (VA.v undef)], [Ent.t 92 (VA.v undef)], [Ent.t 93 (VA.v undef)], [Ent.t 94 (VA.k kbool false)], [Ent.t 4 (VA.k kbool false)]] mixed (by kernel_rfl) (by kernel_rfl) (.cons [(none, Ent.t 2 (VA.ptr 2 0))] (OpSpec.run rfl rfl (op_fieldAddr rfl Try.underlying27 rfl tk22 (.t NL.h0)) rfl) (.cons (has rfl) .nil) (by kernel_rfl) (.cons [(some 0, Ent.t 76 (VA.ptr 2 1)), (none, Ent.h 2 (HE.box 27 kNode a0))] (OpSpec.run rfl rfl (op_load rfl fldNode_Needs tk22 (.t NL.h0) (NL.hs NL.h0)) rfl) (.cons (has rfl) (.cons (has rfl) .nil)) (by kernel_rfl) (.cons [(some 1, Ent.t 77 (VA.k (kslice kstr) a0.Needs))] (OpSpec.run rfl rfl (op_len rfl rfl Try.underlying22 (.t NL.h0)) rfl) (.cons (has rfl) .nil) (by kernel_rfl) (.cons [(some 2, Ent.t 78 (VA.k (kint .i64) (a0.Needs.length : Int)))] (OpSpec.run rfl rfl (op_icmp rfl rfl (.t NL.h0) (.int _ _)) rfl) (.cons (has rfl) .nil) (by kernel_rfl) (.cons [(some 3, Ent.t 79 (VA.k kbool (icmp .gtr (a0.Needs.length : Int) (0 : Int))))] (OpSpec.run rfl rfl (op_move rfl (.t NL.h0)) rfl) (.cons (has rfl) .nil) (by kernel_rfl) (.cons [(some 4, Ent.t 80 (VA.k kbool (icmp .gtr (a0.Needs.length : Int) (0 : Int)))), (none, Ent.t 2 (VA.ptr 2 0))] (OpSpec.runG rfl rfl rfl rfl NL.h0 hb39 (op_fieldAddr rfl Try.underlying27 rfl tk22 (.t (NL.hs NL.h0))) rfl) (.cons (has rfl) (.cons (has rfl) .nil)) (by kernel_rfl) (.cons [(some 4, Ent.t 80 (VA.k kbool (icmp .gtr (a0.Needs.length : Int) (0 : Int)))), (some 5, Ent.t 81 (VA.ptr 2 1)), (none, Ent.h 2 (HE.box 27 kNode a0))] (OpSpec.runG rfl rfl rfl rfl NL.h0 hb39 (op_load rfl fldNode_Needs tk22 (.t (NL.hs NL.h0)) (NL.hs (NL.hs NL.h0))) rfl) (.cons (has rfl) (.cons (has rfl) (.cons (has rfl) .nil))) (by kernel_rfl) (.cons [(some 4, Ent.t 80 (VA.k kbool (icmp .gtr (a0.Needs.length : Int) (0 : Int)))), (some 6, Ent.t 82 (VA.k (kslice kstr) a0.Needs))] (OpSpec.runG rfl rfl rfl rfl NL.h0 hb39 (op_indexAddr rfl Try.underlying22 tk9 h41 (.t (NL.hs NL.h0)) (.int _ _)) rfl) (.cons (has rfl) (.cons (has rfl) .nil)) (by kernel_rfl) (.cons [(some 4, Ent.t 80 (VA.k kbool (icmp .gtr (a0.Needs.length : Int) (0 : Int)))), (some 7, Ent.t 83 (VA.pt kstr x40))] (OpSpec.runG rfl rfl rfl rfl NL.h0 hb39 (op_loadp rfl tk9 (.t (NL.hs NL.h0))) rfl) (.cons (has rfl) (.cons (has rfl) .nil)) (by kernel_rfl) (.cons [(some 4, Ent.t 80 (VA.k kbool (icmp .gtr (a0.Needs.length : Int) (0 : Int)))), (none, Ent.t 2 (VA.ptr 2 0))] (OpSpec.runG rfl rfl rfl rfl NL.h0 hb39 (op_fieldAddr rfl Try.underlying27 rfl tk9 (.t (NL.hs NL.h0))) rfl) (.cons (has rfl) (.cons (has rfl) .nil)) (by kernel_rfl) (.cons [(some 4, Ent.t 80 (VA.k kbool (icmp .gtr (a0.Needs.length : Int) (0 : Int)))), (some 9, Ent.t 85 (VA.ptr 2 4)), (none, Ent.h 2 (HE.box 27 kNode a0))] (OpSpec.runG rfl rfl rfl rfl NL.h0 hb39 (op_load rfl fldNode_Source tk9 (.t (NL.hs NL.h0)) (NL.hs (NL.hs NL.h0))) rfl) (.cons (has rfl) (.cons (has rfl) (.cons (has rfl) .nil))) (by kernel_rfl) (.cons [(some 4, Ent.t 80 (VA.k kbool (icmp .gtr (a0.Needs.length : Int) (0 : Int)))), (some 8, Ent.t 84 (VA.k kstr x40)), (some 10, Ent.t 86 (VA.k kstr a0.Source))] (OpSpec.runG rfl rfl rfl rfl NL.h0 hb39 (op_scmp rfl rfl (.t (NL.hs NL.h0)) (.t (NL.hs (NL.hs NL.h0)))) rfl) (.cons (has rfl) (.cons (has rfl) (.cons (has rfl) .nil))) (by kernel_rfl) (.cons [(some 4, Ent.t 80 (VA.k kbool (icmp .gtr (a0.Needs.length : Int) (0 : Int)))), (some 11, Ent.t 87 (VA.k kbool (scmp .eql x40 a0.Source)))] (OpSpec.run rfl rfl (op_pick_t rfl hb39 (.t NL.h0) (.t (NL.hs NL.h0))) rfl) (.cons (has rfl) (.cons (has rfl) .nil)) (by kernel_rfl) (.cons [(some 12, Ent.t 88 (VA.k kbool (scmp .eql x40 a0.Source)))] (OpSpec.run rfl rfl (op_move rfl (.t NL.h0)) rfl) (.cons (has rfl) .nil) (by kernel_rfl) (.cons [(some 13, Ent.t 89 (VA.k kbool (scmp .eql x40 a0.Source)))] (run_skip rfl rfl rfl rfl rfl rfl NL.h0 hb42) (.cons (has rfl) .nil) (by kernel_rfl) (.cons [(some 13, Ent.t 89 (VA.k kbool (scmp .eql x40 a0.Source)))] (run_skip rfl rfl rfl rfl rfl rfl NL.h0 hb42) (.cons (has rfl) .nil) (by kernel_rfl) (.cons [(some 13, Ent.t 89 (VA.k kbool (scmp .eql x40 a0.Source)))] (run_skip rfl rfl rfl rfl rfl rfl NL.h0 hb42) (.cons (has rfl) .nil) (by kernel_rfl) (.cons [(some 13, Ent.t 89 (VA.k kbool (scmp .eql x40 a0.Source)))] (run_skip rfl rfl rfl rfl rfl rfl NL.h0 hb42) (.cons (has rfl) .nil) (by kernel_rfl) (.cons [(some 13, Ent.t 89 (VA.k kbool (scmp .eql x40 a0.Source)))] (OpSpec.run rfl rfl (op_pick_f rfl hb42 (.t NL.h0) (.bool _)) rfl) (.cons (has rfl) .nil) (by kernel_rfl) (.cons [(some 18, Ent.t 94 (VA.k kbool false))] (OpSpec.run rfl rfl (op_assign rfl (.t NL.h0)) rfl) (.cons (has rfl) .nil) (by kernel_rfl) (.nil _))))))))))))))))))))) ?_
                refine ends_sub [Ent.t 4 (VA.k kbool false)] (.cons rfl .nil) ?_
                obtain rfl := Option.some.inj H
                exact ends_cut (.cons rfl .nil)
            · skip
              refine goes_drawn [[Ent.t 76 (VA.ptr 2 1)], [Ent.t 77 (VA.k (kslice kstr) a0.Needs)], [Ent.t 78 (VA.k (kint .i64) (a0.Needs.length : Int))], [Ent.t 79 (VA.k kbool (icmp .gtr (a0.Needs.length : Int) (0 : Int)))], [Ent.t 80 (VA.k kbool (icmp .gtr (a0.Needs.length : Int) (0 : Int)))], [Ent.t 81 (VA.v undef)], [Ent.t 82 (VA.v undef)], [Ent.t 83 (VA.v undef)], [Ent.t 84 (VA.v undef)], [Ent.t 85 (VA.v undef)], [Ent.t 86 (VA.v undef)], [Ent.t 87 (VA.v undef)], [Ent.t 88 (VA.k kbool false)], [Ent.t 89 (VA.k kbool false)], [Ent.t 90 (VA.v undef)], [Ent.t 91 (VA.v undef)], [Ent.t 92 (VA.v undef)], [Ent.t 93 (VA.v undef)], [Ent.t 94 (VA.k kbool false)], [Ent.t 4 (VA.k kbool false)]] mixed (by kernel_rfl) (by kernel_rfl) (.cons [(none, Ent.t 2 (VA.ptr 2 0))] (OpSpec.run rfl rfl (op_fieldAddr rfl Try.underlying27 rfl tk22 (.t NL.h0)) rfl) (.cons (has rfl) .nil) (by kernel_rfl) (.cons [(some 0, Ent.t 76 (VA.ptr 2 1)), (none, Ent.h 2 (HE.box 27 kNode a0))] (OpSpec.run rfl rfl (op_load rfl fldNode_Needs tk22 (.t NL.h0) (NL.hs NL.h0)) rfl) (.cons (has rfl) (.cons (has rfl) .nil)) (by kernel_rfl) (.cons [(some 1, Ent.t 77 (VA.k (kslice kstr) a0.Needs))] (OpSpec.run rfl rfl (op_len rfl rfl Try.underlying22 (.t NL.h0)) rfl) (.cons (has rfl) .nil) (by kernel_rfl) (.cons [(some 2, Ent.t 78 (VA.k (kint .i64) (a0.Needs.length : Int)))] (OpSpec.run rfl rfl (op_icmp rfl rfl (.t NL.h0) (.int _ _)) rfl) (.cons (has rfl) .nil) (by kernel_rfl) (.cons [(some 3, Ent.t 79 (VA.k kbool (icmp .gtr (a0.Needs.length : Int) (0 : Int))))] (OpSpec.run rfl rfl (op_move rfl (.t NL.h0)) rfl) (.cons (has rfl) .nil) (by kernel_rfl) (.cons [(some 4, Ent.t 80 (VA.k kbool (icmp .gtr (a0.Needs.length : Int) (0 : Int))))] (run_skip rfl rfl rfl rfl rfl rfl NL.h0 hb39) (.cons (has rfl) .nil) (by kernel_rfl) (.cons [(some 4, Ent.t 80 (VA.k kbool (icmp .gtr (a0.Needs.length : Int) (0 : Int))))] (run_skip rfl rfl rfl rfl rfl rfl NL.h0 hb39) (.cons (has rfl) .nil) (by kernel_rfl) (.cons [(some 4, Ent.t 80 (VA.k kbool (icmp .gtr (a0.Needs.length : Int) (0 : Int))))] (run_skip rfl rfl rfl rfl rfl rfl NL.h0 hb39) (.cons (has rfl) .nil) (by kernel_rfl) (.cons [(some 4, Ent.t 80 (VA.k kbool (icmp .gtr (a0.Needs.length : Int) (0 : Int))))] (run_skip rfl rfl rfl rfl rfl rfl NL.h0 hb39) (.cons (has rfl) .nil) (by kernel_rfl) (.cons [(some 4, Ent.t 80 (VA.k kbool (icmp .gtr (a0.Needs.length : Int) (0 : Int))))] (run_skip rfl rfl rfl rfl rfl rfl NL.h0 hb39) (.cons (has rfl) .nil) (by kernel_rfl) (.cons [(some 4, Ent.t 80 (VA.k kbool (icmp .gtr (a0.Needs.length : Int) (0 : Int))))] (run_skip rfl rfl rfl rfl rfl rfl NL.h0 hb39) (.cons (has rfl) .nil) (by kernel_rfl) (.cons [(some 4, Ent.t 80 (VA.k kbool (icmp .gtr (a0.Needs.length : Int) (0 : Int))))] (run_skip rfl rfl rfl rfl rfl rfl NL.h0 hb39) (.cons (has rfl) .nil) (by kernel_rfl) (.cons [(some 4, Ent.t 80 (VA.k kbool (icmp .gtr (a0.Needs.length : Int) (0 : Int))))] (OpSpec.run rfl rfl (op_pick_f rfl hb39 (.t NL.h0) (.bool _)) rfl) (.cons (has rfl) .nil) (by kernel_rfl) (.cons [(some 12, Ent.t 88 (VA.k kbool false))] (OpSpec.run rfl rfl (op_move rfl (.t NL.h0)) rfl) (.cons (has rfl) .nil) (by kernel_rfl) (.cons [(some 13, Ent.t 89 (VA.k kbool false))] (run_skip rfl rfl rfl rfl rfl rfl NL.h0 rfl) (.cons (has rfl) .nil) (by kernel_rfl) (.cons [(some 13, Ent.t 89 (VA.k kbool false))] (run_skip rfl rfl rfl rfl rfl rfl NL.h0 rfl) (.cons (has rfl) .nil) (by kernel_rfl) (.cons [(some 13, Ent.t 89 (VA.k kbool false))] (run_skip rfl rfl rfl rfl rfl rfl NL.h0 rfl) (.cons (has rfl) .nil) (by kernel_rfl) (.cons [(some 13, Ent.t 89 (VA.k kbool false))] (run_skip rfl rfl rfl rfl rfl rfl NL.h0 rfl) (.cons (has rfl) .nil) (by kernel_rfl) (.cons [(some 13, Ent.t 89 (VA.k kbool false))] (OpSpec.run rfl rfl (op_pick_f rfl rfl (.t NL.h0) (.bool _)) rfl) (.cons (has rfl) .nil) (by kernel_rfl) (.cons [(some 18, Ent.t 94 (VA.k kbool false))] (OpSpec.run rfl rfl (op_assign rfl (.t NL.h0)) rfl) (.cons (has rfl) .nil) (by kernel_rfl) (.nil _))))))))))))))))))))) ?_
              refine ends_sub [Ent.t 4 (VA.k kbool false)] (.cons rfl .nil) ?_
              obtain rfl := Option.some.inj H
              exact ends_cut (.cons rfl .nil)
          refine ends_then ?_
          obtain rfl := Option.some.inj H
          exact goes_ret (ends_ret' rfl rfl (.t rfl (.nil _)))
    · rintro r' rfl a w hr
      obtain rfl := Option.some.inj H
      exact hr
theorem resolve_right.conF (k : Nat) (a0 : Node) (a1 : GM Int) (r : Bool) (H : resolve_right.f k a0 a1 = some r) : ConF Try.prog 35 [VA.k kNode a0, VA.k (kmap Try.prog 9 (kint .i64)) a1] [VA.k kbool r] := (resolve_right.con k a0 a1 r H).freeL (.cons (KFree.k KFree.bool _) .nil)
/-! smithy/resolve.Check -/
def resolve_Check.l0 (a0 : Plan) : Nat → ((GM Int) × Int) → Option (Except Int (GM Int))
  | 0, _ => none
  | k + 1, s6 => bif icmp .lss s6.2 (a0.Nodes.length : Int) then ((idx a0.Nodes s6.2).bind fun x11 => (resolve_right.f k x11 s6.1).bind fun v13 => bif !v13 then (some (Except.error (7 : Int))) else ((gput s6.1 x11.Target (1 : Int)).bind fun x16 => resolve_Check.l0 a0 k (x16, IntKind.i64.wrap (s6.2 + (1 : Int))))) else (some (Except.ok s6.1))
def resolve_Check.l1 (a0 : Plan) (s7 : (GM Int)) : Nat → Int → Option (Except Int Unit)
  | 0, _ => none
  | k + 1, s18 => bif icmp .lss s18 (a0.Goals.length : Int) then ((idx a0.Goals s18).bind fun x23 => ((gget s7 (0 : Int) x23).bind fun x27 => bif icmp .neq x27 (1 : Int) then (some true) else ((sub a0.Goals (0 : Int) s18).bind fun x30 => (slices_Contains_string_string.f k x30 x23).bind fun v32 => some v32)).bind fun s25 => bif s25 then (some (Except.error (7 : Int))) else (resolve_Check.l1 a0 s7 k (IntKind.i64.wrap (s18 + (1 : Int))))) else (some (Except.ok ()))
def resolve_Check.f (k : Nat) (a0 : Plan) : Option Int := (bif icmp .gtr (a0.Nodes.length : Int) (256 : Int) then (some true) else (bif icmp .lss (a0.Goals.length : Int) (1 : Int) then (some true) else (some (icmp .gtr (a0.Goals.length : Int) (512 : Int))))).bind fun s1 => bif s1 then (some (7 : Int)) else ((resolve_Check.l0 a0 k ((gempty : GM Int), (0 : Int))).bind fun o9 => match o9 with | .error r' => some r' | .ok s7 => ((resolve_Check.l1 a0 s7 k (0 : Int)).bind fun o21 => match o21 with | .error r' => some r' | .ok s19 => (some (0 : Int))))
set_option maxRecDepth 100000 in
set_option maxHeartbeats 4000000 in
theorem resolve_Check.con (k : Nat) (a0 : Plan) (r : Int) (H : resolve_Check.f k a0 = some r) : Con Try.prog 29 [VA.k kPlan a0] [VA.k (kint .i64) r] := by
  unfold resolve_Check.f at H
  refine con_enter Try.func29 rfl rfl rfl (fun w0 S0 θ => ?_)
  refine goes_seq ?_
  refine goes_region ?_
  refine go3 (op_box 1 rfl (fun h => by first | rfl | cases h) (.t (has rfl))) rfl ?_
  refine go1 (op_assign rfl (.int _ _)) rfl ?_
  refine goesO_nil ?_
  refine ends_then ?_
  refine goes_seq ?_
  refine goes_seq ?_
  obtain ⟨s1, h2, H⟩ := bind_some H
  refine goes_cut [Ent.t 1 (VA.ptr 1 0), Ent.t 23 (VA.k kbool s1), Ent.h 1 (HE.box 69 kPlan a0)] ?_ ?_
  · replace H := h2; clear h2
    refine goes_region ?_
    refine go1 (op_fieldAddr rfl Try.underlying69 rfl tk67 (.t (has rfl))) rfl ?_
    refine go1 (op_load rfl fldPlan_Nodes tk67 (.t (has rfl)) (has rfl)) rfl ?_
    refine go1 (op_len rfl rfl Try.underlying67 (.t (has rfl))) rfl ?_
    refine go1 (op_icmp rfl rfl (.t (has rfl)) (.int _ _)) rfl ?_
    refine go1 (op_move rfl (.t (has rfl))) rfl ?_
    refine goesO_split H (fun hb3 H => ?_) (fun hb3 H => ?_)
    · skip
      refine goS rfl rfl rfl rfl rfl rfl hb3 ?_
      refine goS rfl rfl rfl rfl rfl rfl hb3 ?_
      refine goS rfl rfl rfl rfl rfl rfl hb3 ?_
      refine goS rfl rfl rfl rfl rfl rfl hb3 ?_
      refine go1 (op_pick_t rfl hb3 (.t (has rfl)) (.bool _)) rfl ?_
      refine go1 (op_move rfl (.t (has rfl))) rfl ?_
      refine goS rfl rfl rfl rfl rfl rfl rfl ?_
      refine goS rfl rfl rfl rfl rfl rfl rfl ?_
      refine goS rfl rfl rfl rfl rfl rfl rfl ?_
      refine goS rfl rfl rfl rfl rfl rfl rfl ?_
      refine go1 (op_pick_t rfl rfl (.t (has rfl)) (.bool _)) rfl ?_
      refine goesO_nil ?_
      obtain rfl := Option.some.inj H
      exact ends_cut (.cons rfl (.cons rfl (.cons rfl .nil)))
    · skip
      refine goG (op_fieldAddr rfl Try.underlying69 rfl tk22 (.t (has rfl))) rfl rfl rfl rfl hb3 ?_
      refine goG (op_load rfl fldPlan_Goals tk22 (.t (has rfl)) (has rfl)) rfl rfl rfl rfl hb3 ?_
      refine goG (op_len rfl rfl Try.underlying22 (.t (has rfl))) rfl rfl rfl rfl hb3 ?_
      refine goG (op_icmp rfl rfl (.t (has rfl)) (.int _ _)) rfl rfl rfl rfl hb3 ?_
      refine go1 (op_pick_f rfl hb3 (.t (has rfl)) (.t (has rfl))) rfl ?_
      refine go1 (op_move rfl (.t (has rfl))) rfl ?_
      refine goesO_split H (fun hb4 H => ?_) (fun hb4 H => ?_)
      · skip
        refine goS rfl rfl rfl rfl rfl rfl hb4 ?_
        refine goS rfl rfl rfl rfl rfl rfl hb4 ?_
        refine goS rfl rfl rfl rfl rfl rfl hb4 ?_
        refine goS rfl rfl rfl rfl rfl rfl hb4 ?_
        refine go1 (op_pick_t rfl hb4 (.t (has rfl)) (.bool _)) rfl ?_
        refine goesO_nil ?_
        obtain rfl := Option.some.inj H
        exact ends_cut (.cons rfl (.cons rfl (.cons rfl .nil)))
      · skip
        refine goG (op_fieldAddr rfl Try.underlying69 rfl tk22 (.t (has rfl))) rfl rfl rfl rfl hb4 ?_
        refine goG (op_load rfl fldPlan_Goals tk22 (.t (has rfl)) (has rfl)) rfl rfl rfl rfl hb4 ?_
        refine goG (op_len rfl rfl Try.underlying22 (.t (has rfl))) rfl rfl rfl rfl hb4 ?_
        refine goG (op_icmp rfl rfl (.t (has rfl)) (.int _ _)) rfl rfl rfl rfl hb4 ?_
        refine go1 (op_pick_f rfl hb4 (.t (has rfl)) (.t (has rfl))) rfl ?_
        refine goesO_nil ?_
        obtain rfl := Option.some.inj H
        exact ends_cut (.cons rfl (.cons rfl (.cons rfl .nil)))
  refine ends_then ?_
  refine goes_if (.t (has rfl)) H (fun hb5 H => ?_) (fun hb5 H => ?_)
  · skip
    refine goes_seq ?_
    refine goes_region ?_
    refine go1 (op_assign rfl (.int _ _)) rfl ?_
    refine goesO_nil ?_
    refine ends_then ?_
    obtain rfl := Option.some.inj H
    exact goes_ret (ends_then_ret (ends_ret' rfl rfl (.t rfl (.nil _))))
  · skip
    refine goes_skip ?_
    refine ends_then ?_
    refine goes_seq ?_
    refine goes_region ?_
    refine go3 (op_makeMap 9 (kint .i64) 24 rfl) rfl ?_
    refine go1 (op_assignA rfl plain_mp (.t (has rfl))) rfl ?_
    refine goesO_nil ?_
    refine ends_then ?_
    refine goes_seq ?_
    refine goes_seq ?_
    refine goes_region ?_
    refine go1 (op_fieldAddr rfl Try.underlying69 rfl tk67 (.t (has rfl))) rfl ?_
    refine go1 (op_load rfl fldPlan_Nodes tk67 (.t (has rfl)) (has rfl)) rfl ?_
    refine go1 (op_len rfl rfl Try.underlying67 (.t (has rfl))) rfl ?_
    refine go1 (op_move rfl (.int _ _)) rfl ?_
    refine goesO_nil ?_
    refine ends_then ?_
    obtain ⟨o9, h8, H⟩ := bind_some H
    refine goes_cutR (o := o9) (fun s7 : (GM Int) => [Ent.t 1 (VA.ptr 1 0), Ent.t 3 (VA.mp false 24), Ent.h 1 (HE.box 69 kPlan a0), Ent.h 24 (HE.map Try.prog 9 (kint .i64) s7)]) (fun r a w => bodyPost Try.prog Try.f29 (CPost w0 S0 θ [VA.k (kint .i64) r]) .ret a w) ?_ ?_ ?_
    · replace H := h8; clear h8
      refine goes_block ?_
      refine goes_loop (fun s6 : (GM Int) × Int => [Ent.t 1 (VA.ptr 1 0), Ent.t 3 (VA.mp false 24), Ent.t 26 (VA.k (kslice kNode) a0.Nodes), Ent.t 27 (VA.k (kint .i64) (a0.Nodes.length : Int)), Ent.t 28 (VA.k (kint .i64) s6.2), Ent.h 1 (HE.box 69 kPlan a0), Ent.h 24 (HE.map Try.prog 9 (kint .i64) s6.1)]) (fun k s6 => resolve_Check.l0 a0 k s6) (fun _ => rfl) H (.cons rfl (.cons rfl (.cons rfl (.cons rfl (.cons rfl (.cons rfl (.cons rfl .nil))))))) ?_
      intro k s6 H
      simp only [resolve_Check.l0] at H
      refine goes_seq ?_
      refine goes_region ?_
      refine go1 (op_icmp rfl rfl (.t (has rfl)) (.t (has rfl))) rfl ?_
      refine goesO_nil ?_
      refine ends_then ?_
      refine goes_seq ?_
      refine goes_if (.t (has rfl)) H (fun hb10 H => ?_) (fun hb10 H => ?_)
      · skip
        refine goes_skip ?_
        refine ends_then ?_
        refine goes_seq ?_
        refine goes_block ?_
        refine goes_seq ?_
        refine goes_region ?_
        obtain ⟨x11, h12, H⟩ := bind_some H
        refine go1 (op_indexAddr rfl Try.underlying67 tk27 h12 (.t (has rfl)) (.t (has rfl))) rfl ?_
        refine go1 (op_loadp rfl tk27 (.t (has rfl))) rfl ?_
        refine go3 (op_alloc 5 rfl zk27) rfl ?_
        refine go1 (op_store (Fld.whole kNode) tk27 (.t (has rfl)) (has rfl) (.t (has rfl))) rfl ?_
        refine goesO_nil ?_
        refine ends_then ?_
        refine goes_seq ?_
        refine goes_seq ?_
        refine goes_region ?_
        refine go1 (op_load rfl (Fld.whole kNode) tk27 (.t (has rfl)) (has rfl)) rfl ?_
        refine go1 (op_moveA rfl plain_mp (.t (has rfl))) rfl ?_
        obtain ⟨v13, h14, H⟩ := bind_some H
        refine go1 (op_callF' rfl enters35 (resolve_right.conF _ _ _ _ h14) rfl (.cons (ArgB.k (.t (has rfl))) (.cons (ArgB.mp (.t (has rfl)) (has rfl)) .nil))) rfl ?_
        refine go1 (op_not rfl (.t (has rfl))) rfl ?_
        refine goesO_nil ?_
        refine ends_then ?_
        refine goes_if (.t (has rfl)) H (fun hb15 H => ?_) (fun hb15 H => ?_)
        · skip
          refine goes_seq ?_
          refine goes_region ?_
          refine go1 (op_assign rfl (.int _ _)) rfl ?_
          refine goesO_nil ?_
          refine ends_then ?_
          obtain rfl := Option.some.inj H
          refine goes_ret (ends_then_ret (ends_block_ret (ends_then_ret (ends_then_ret (ends_block_ret (ends_cutR_ret rfl ?_))))))
          exact ends_ret' rfl rfl (.t rfl (.nil _))
        · skip
          refine goes_skip ?_
          refine ends_then ?_
          refine goes_region ?_
          refine go1 (op_moveA rfl plain_mp (.t (has rfl))) rfl ?_
          refine go1 (op_fieldAddr rfl Try.underlying27 rfl tk9 (.t (has rfl))) rfl ?_
          refine go1 (op_load rfl fldNode_Target tk9 (.t (has rfl)) (has rfl)) rfl ?_
          obtain ⟨x16, h17, H⟩ := bind_some H
          refine go1 (op_mapUpdate xmt74 h17 (.t (has rfl)) (has rfl) (.t (has rfl)) (.int _ _)) rfl ?_
          refine goesO_nil ?_
          refine ends_block ?_
          refine ends_then ?_
          refine goes_region ?_
          refine go1 (op_add rfl (.t (has rfl)) (.int _ _)) rfl ?_
          refine go1 (op_move rfl (.t (has rfl))) rfl ?_
          refine goesO_nil ?_
          exact loop_next _ H (.cons rfl (.cons rfl (.cons rfl (.cons rfl (.cons rfl (.cons rfl (.cons rfl .nil)))))))
      · skip
        refine goes_exit (ends_then_exit (ends_then_exit (ends_block_exit ?_)))
        obtain rfl := Option.some.inj H
        exact ends_cutR rfl (.cons rfl (.cons rfl (.cons rfl (.cons rfl .nil))))
    · rintro s7 rfl
      clear h8
      dsimp only at H
      refine ends_then ?_
      refine goes_seq ?_
      refine goes_seq ?_
      refine goes_region ?_
      refine go1 (op_fieldAddr rfl Try.underlying69 rfl tk22 (.t (has rfl))) rfl ?_
      refine go1 (op_load rfl fldPlan_Goals tk22 (.t (has rfl)) (has rfl)) rfl ?_
      refine go1 (op_len rfl rfl Try.underlying22 (.t (has rfl))) rfl ?_
      refine go1 (op_move rfl (.int _ _)) rfl ?_
      refine goesO_nil ?_
      refine ends_then ?_
      obtain ⟨o21, h20, H⟩ := bind_some H
      refine goes_cutR (o := o21) (fun s19 : Unit => []) (fun r a w => bodyPost Try.prog Try.f29 (CPost w0 S0 θ [VA.k (kint .i64) r]) .ret a w) ?_ ?_ ?_
      · replace H := h20; clear h20
        refine goes_block ?_
        refine goes_loop (fun s18 : Int => [Ent.t 1 (VA.ptr 1 0), Ent.t 3 (VA.mp false 24), Ent.t 41 (VA.k (kslice kstr) a0.Goals), Ent.t 42 (VA.k (kint .i64) (a0.Goals.length : Int)), Ent.t 43 (VA.k (kint .i64) s18), Ent.h 1 (HE.box 69 kPlan a0), Ent.h 24 (HE.map Try.prog 9 (kint .i64) s7)]) (fun k s18 => resolve_Check.l1 a0 s7 k s18) (fun _ => rfl) H (.cons rfl (.cons rfl (.cons rfl (.cons rfl (.cons rfl (.cons rfl (.cons rfl .nil))))))) ?_
        intro k s18 H
        simp only [resolve_Check.l1] at H
        refine goes_seq ?_
        refine goes_region ?_
        refine go1 (op_icmp rfl rfl (.t (has rfl)) (.t (has rfl))) rfl ?_
        refine goesO_nil ?_
        refine ends_then ?_
        refine goes_seq ?_
        refine goes_if (.t (has rfl)) H (fun hb22 H => ?_) (fun hb22 H => ?_)
        · skip
          refine goes_skip ?_
          refine ends_then ?_
          refine goes_seq ?_
          refine goes_block ?_
          refine goes_seq ?_
          refine goes_region ?_
          refine go1 (op_move rfl (.t (has rfl))) rfl ?_
          obtain ⟨x23, h24, H⟩ := bind_some H
          refine go1 (op_indexAddr rfl Try.underlying22 tk9 h24 (.t (has rfl)) (.t (has rfl))) rfl ?_
          refine go1 (op_loadp rfl tk9 (.t (has rfl))) rfl ?_
          refine go1 (op_assign rfl (.t (has rfl))) rfl ?_
          refine go1 (op_assign rfl (.t (has rfl))) rfl ?_
          refine goesO_nil ?_
          refine ends_then ?_
          refine goes_seq ?_
          obtain ⟨s25, h26, H⟩ := bind_some H
          refine goes_cut [Ent.t 1 (VA.ptr 1 0), Ent.t 3 (VA.mp false 24), Ent.t 41 (VA.k (kslice kstr) a0.Goals), Ent.t 42 (VA.k (kint .i64) (a0.Goals.length : Int)), Ent.t 43 (VA.k (kint .i64) s18), Ent.t 59 (VA.k kbool s25), Ent.h 1 (HE.box 69 kPlan a0), Ent.h 24 (HE.map Try.prog 9 (kint .i64) s7)] ?_ ?_
          · replace H := h26; clear h26
            refine goes_region ?_
            refine go1 (op_moveA rfl plain_mp (.t (has rfl))) rfl ?_
            refine go1 (op_move rfl (.t (has rfl))) rfl ?_
            obtain ⟨x27, h28, H⟩ := bind_some H
            refine go1 (op_lookup rfl xmt74 h28 (.t (has rfl)) (has rfl) (.t (has rfl))) rfl ?_
            refine go1 (op_icmp rfl rfl (.t (has rfl)) (.int _ _)) rfl ?_
            refine go1 (op_move rfl (.t (has rfl))) rfl ?_
            refine goesO_split H (fun hb29 H => ?_) (fun hb29 H => ?_)
            · skip
              refine goS rfl rfl rfl rfl rfl rfl hb29 ?_
              refine goS rfl rfl rfl rfl rfl rfl hb29 ?_
              refine goS rfl rfl rfl rfl rfl rfl hb29 ?_
              refine goS rfl rfl rfl rfl rfl rfl hb29 ?_
              refine goS rfl rfl rfl rfl rfl rfl hb29 ?_
              refine goS rfl rfl rfl rfl rfl rfl hb29 ?_
              refine go1 (op_pick_t rfl hb29 (.t (has rfl)) (.bool _)) rfl ?_
              refine goesO_nil ?_
              obtain rfl := Option.some.inj H
              exact ends_cut (.cons rfl (.cons rfl (.cons rfl (.cons rfl (.cons rfl (.cons rfl (.cons rfl (.cons rfl .nil))))))))
            · skip
              refine goG (op_fieldAddr rfl Try.underlying69 rfl tk22 (.t (has rfl))) rfl rfl rfl rfl hb29 ?_
              refine goG (op_load rfl fldPlan_Goals tk22 (.t (has rfl)) (has rfl)) rfl rfl rfl rfl hb29 ?_
              refine goG (op_move rfl (.t (has rfl))) rfl rfl rfl rfl hb29 ?_
              obtain ⟨x30, h31, H⟩ := bind_some H
              refine goG (op_slice (l := none) (h := some _) rfl Try.underlying22 tk9 h31 (.t (has rfl)) trivial (.t (has rfl))) rfl rfl rfl rfl hb29 ?_
              refine goG (op_move rfl (.t (has rfl))) rfl rfl rfl rfl hb29 ?_
              obtain ⟨v32, h33, H⟩ := bind_some H
              refine goG (op_call' rfl enters36 (slices_Contains_string_string.con _ _ _ _ h33) rfl (.cons (ArgP.k (.t (has rfl))) (.cons (ArgP.k (.t (has rfl))) .nil))) rfl rfl rfl rfl hb29 ?_
              refine go1 (op_pick_f rfl hb29 (.t (has rfl)) (.t (has rfl))) rfl ?_
              refine goesO_nil ?_
              obtain rfl := Option.some.inj H
              exact ends_cut (.cons rfl (.cons rfl (.cons rfl (.cons rfl (.cons rfl (.cons rfl (.cons rfl (.cons rfl .nil))))))))
          refine ends_then ?_
          refine goes_if (.t (has rfl)) H (fun hb34 H => ?_) (fun hb34 H => ?_)
          · skip
            refine goes_seq ?_
            refine goes_region ?_
            refine go1 (op_assign rfl (.int _ _)) rfl ?_
            refine goesO_nil ?_
            refine ends_then ?_
            obtain rfl := Option.some.inj H
            refine goes_ret (ends_block_ret (ends_then_ret (ends_then_ret (ends_block_ret (ends_cutR_ret rfl ?_)))))
            exact ends_ret' rfl rfl (.t rfl (.nil _))
          · skip
            refine goes_skip ?_
            refine ends_block ?_
            refine ends_then ?_
            refine goes_region ?_
            refine go1 (op_add rfl (.t (has rfl)) (.int _ _)) rfl ?_
            refine go1 (op_move rfl (.t (has rfl))) rfl ?_
            refine goesO_nil ?_
            exact loop_next _ H (.cons rfl (.cons rfl (.cons rfl (.cons rfl (.cons rfl (.cons rfl (.cons rfl .nil)))))))
        · skip
          refine goes_exit (ends_then_exit (ends_then_exit (ends_block_exit ?_)))
          obtain rfl := Option.some.inj H
          exact ends_cutR rfl .nil
      · rintro s19 rfl
        clear h20
        dsimp only at H
        refine ends_then ?_
        refine goes_seq ?_
        refine goes_region ?_
        refine go1 (op_assign rfl (.int _ _)) rfl ?_
        refine goesO_nil ?_
        refine ends_then ?_
        obtain rfl := Option.some.inj H
        exact goes_ret (ends_ret' rfl rfl (.t rfl (.nil _)))
      · rintro r' rfl a w hr
        obtain rfl := Option.some.inj H
        exact hr
    · rintro r' rfl a w hr
      obtain rfl := Option.some.inj H
      exact hr
theorem resolve_Check.conF (k : Nat) (a0 : Plan) (r : Int) (H : resolve_Check.f k a0 = some r) : ConF Try.prog 29 [VA.k kPlan a0] [VA.k (kint .i64) r] := (resolve_Check.con k a0 r H).freeL (.cons (KFree.k (KFree.int .i64) _) .nil)
/-! smithy/modes.alone -/
def modes_alone.l0 (a0 : Node) : Nat → ((List Node) × Int) → Option (List Node)
  | 0, _ => none
  | k + 1, s1 => bif icmp .lss s1.2 (a0.Needs.length : Int) then ((idx a0.Needs s1.2).bind fun x5 => (app 112 s1.1 ([(⟨x5, ([] : List ByteArray), ([] : List ByteArray), false, ByteArray.empty, ByteArray.empty, false, false, false, false⟩ : Node)])).bind fun x7 => modes_alone.l0 a0 k (x7, IntKind.i64.wrap (s1.2 + (1 : Int)))) else (some s1.1)
def modes_alone.f (k : Nat) (a0 : Node) : Option Int := (modes_alone.l0 a0 k (([] : List Node), (0 : Int))).bind fun s2 => (app 112 s2 ([a0])).bind fun x9 => (resolve_Check.f k (⟨x9, [a0.Target]⟩ : Plan)).bind fun v11 => some v11
set_option maxRecDepth 100000 in
set_option maxHeartbeats 4000000 in
theorem modes_alone.con (k : Nat) (a0 : Node) (r : Int) (H : modes_alone.f k a0 = some r) : Con Try.prog 18 [VA.k kNode a0] [VA.k (kint .i64) r] := by
  unfold modes_alone.f at H
  refine con_enter Try.func18 rfl rfl rfl (fun w0 S0 θ => ?_)
  refine goes_seq ?_
  refine goes_region ?_
  refine go3 (op_box 1 rfl (fun h => by first | rfl | cases h) (.t (has rfl))) rfl ?_
  refine go1 (op_assign rfl (.int _ _)) rfl ?_
  refine goesO_nil ?_
  refine ends_then ?_
  refine goes_seq ?_
  refine goes_region ?_
  refine go1 (op_fieldAddr rfl Try.underlying27 rfl tk9 (.t (has rfl))) rfl ?_
  refine go1 (op_load rfl fldNode_Target tk9 (.t (has rfl)) (has rfl)) rfl ?_
  refine go1 (op_buildSlice rfl at22 (fun h => by first | rfl | cases h) rfl rfl rfl (.cons (.t (has rfl)) (.nil _))) rfl ?_
  refine goesO_settle 8 rfl rfl ?_
  refine go1 (op_build_fl (pl := [(0, 1), (1, 1)]) rfl Try.underlying69 (by kernel_rfl) xzf69_0 (.cons [FA.v 0 (.slice none 0 0)] (FA.k 1 (kslice kstr) ([a0.Target])) [] rfl rfl rfl rfl (gives_k tk22) rfl (.t (has rfl)) (.nil _))) rfl ?_
  refine go3 (op_alloc_raw 3 rfl xaz69 rfl) rfl ?_
  refine goesO_by (fun a w hi => inv_raw 3 rfl hi) ?_
  refine go1 (op_store_fl (cellsOf_tk tk69) rfl (tk69).size (.t (has rfl)) (has rfl) (.t (has rfl))) rfl ?_
  refine goesO_by (fun a w hi => inv_split 3 rfl hi) ?_
  refine goesO_by (fun a w hi => inv_nilrow' 3 [] 0 [FA.k 1 (kslice kstr) ([a0.Target])] 100300 27 kNode rfl rfl rfl rfl rfl hi) ?_
  refine goesO_nil ?_
  refine ends_then ?_
  refine goes_seq ?_
  refine goes_seq ?_
  refine goes_region ?_
  refine go1 (op_fieldAddr rfl Try.underlying27 rfl tk22 (.t (has rfl))) rfl ?_
  refine go1 (op_load rfl fldNode_Needs tk22 (.t (has rfl)) (has rfl)) rfl ?_
  refine go1 (op_len rfl rfl Try.underlying22 (.t (has rfl))) rfl ?_
  refine go1 (op_move rfl (.int _ _)) rfl ?_
  refine goesO_nil ?_
  refine ends_then ?_
  obtain ⟨s2, h3, H⟩ := bind_some H
  refine goes_cut [Ent.t 1 (VA.ptr 1 0), Ent.t 3 (VA.ptr 3 0), Ent.h 1 (HE.box 27 kNode a0), Ent.h 3 (HE.boxf 69 2 [FA.rw 0 100300 (s2).length, FA.k 1 (kslice kstr) ([a0.Target])]), Ent.r 100300 27 kNode s2] ?_ ?_
  · replace H := h3; clear h3
    refine goes_block ?_
    refine goes_loop (fun s1 : (List Node) × Int => [Ent.t 1 (VA.ptr 1 0), Ent.t 3 (VA.ptr 3 0), Ent.t 11 (VA.k (kslice kstr) a0.Needs), Ent.t 12 (VA.k (kint .i64) (a0.Needs.length : Int)), Ent.t 13 (VA.k (kint .i64) s1.2), Ent.h 1 (HE.box 27 kNode a0), Ent.h 3 (HE.boxf 69 2 [FA.rw 0 100300 (s1.1).length, FA.k 1 (kslice kstr) ([a0.Target])]), Ent.r 100300 27 kNode s1.1]) (fun k s1 => modes_alone.l0 a0 k s1) (fun _ => rfl) H (.cons rfl (.cons rfl (.cons rfl (.cons rfl (.cons rfl (.cons rfl (.cons rfl (.cons rfl .nil)))))))) ?_
    intro k s1 H
    simp only [modes_alone.l0] at H
    refine goes_seq ?_
    refine goes_region ?_
    refine go1 (op_icmp rfl rfl (.t (has rfl)) (.t (has rfl))) rfl ?_
    refine goesO_nil ?_
    refine ends_then ?_
    refine goes_seq ?_
    refine goes_if (.t (has rfl)) H (fun hb4 H => ?_) (fun hb4 H => ?_)
    · skip
      refine goes_skip ?_
      refine ends_then ?_
      refine goes_seq ?_
      refine goes_block ?_
      refine goes_seq ?_
      refine goes_region ?_
      obtain ⟨x5, h6, H⟩ := bind_some H
      refine go1 (op_indexAddr rfl Try.underlying22 tk9 h6 (.t (has rfl)) (.t (has rfl))) rfl ?_
      refine go1 (op_loadp rfl tk9 (.t (has rfl))) rfl ?_
      refine go1 (op_assign rfl (.t (has rfl))) rfl ?_
      refine goesO_nil ?_
      refine ends_then ?_
      refine goes_region ?_
      refine go1 (op_fieldAddr rfl Try.underlying69 rfl tk67 (.t (has rfl))) rfl ?_
      refine go1 (op_loadf_rw (K := kNode) rfl tk67 (.t (has rfl)) (has rfl) (.head _)) rfl ?_
      refine go1 (op_move rfl (.t (has rfl))) rfl ?_
      refine go1 (op_build (pl := [(0, 1), (1, 1), (2, 1), (3, 1), (4, 1), (5, 1), (6, 1), (7, 1), (8, 1), (9, 1)]) rfl rfl Try.underlying27 (by kernel_rfl) zk27 (.cons rfl tk9 fldNode_Target (.t (has rfl)) (.nil _))) rfl ?_
      refine go1 (op_buildSlice rfl at67 (fun h => by first | rfl | cases h) rfl rfl rfl (.cons (.t (has rfl)) (.nil _))) rfl ?_
      refine goesO_release 18 100300 rfl rfl rfl ?_
      obtain ⟨x7, h8, H⟩ := bind_some H
      refine go2 (op_append rfl rfl at67 h8 (has rfl) (ReadsArg.own (.t (has rfl)))) rfl ?_
      refine go1 (op_fieldAddr rfl Try.underlying69 rfl tk67 (.t (has rfl))) rfl ?_
      refine goesO_by (fun a w hi => inv_boxw (fs' := [FA.any 0 1, FA.k 1 (kslice kstr) ([a0.Target])]) 3 rfl (.any (f := FA.rw 0 100300 (s1.1).length) (.head _) (.keep (.tail _ (.head _)) .nil)) hi) ?_
      refine goesO_number 22 100300 rfl rfl rfl ?_
      refine go1 (op_storef_rw (K := kNode) (f := FA.any 0 1) (off := 0) (id := 3) [] [FA.k 1 (kslice kstr) ([a0.Target])] tk67 rfl rfl rfl (.t (has rfl)) (has rfl) (.t (has rfl))) rfl ?_
      refine goesO_nil ?_
      refine ends_block ?_
      refine ends_then ?_
      refine goes_region ?_
      refine go1 (op_add rfl (.t (has rfl)) (.int _ _)) rfl ?_
      refine go1 (op_move rfl (.t (has rfl))) rfl ?_
      refine goesO_nil ?_
      exact loop_next _ H (.cons rfl (.cons rfl (.cons rfl (.cons rfl (.cons rfl (.cons rfl (.cons rfl (.cons rfl .nil))))))))
    · skip
      refine goes_exit (ends_then_exit (ends_then_exit (ends_block_exit ?_)))
      obtain rfl := Option.some.inj H
      exact ends_cut (.cons rfl (.cons rfl (.cons rfl (.cons rfl (.cons rfl .nil)))))
  refine ends_then ?_
  refine goes_seq ?_
  refine goes_region ?_
  refine go1 (op_fieldAddr rfl Try.underlying69 rfl tk67 (.t (has rfl))) rfl ?_
  refine go1 (op_loadf_rw (K := kNode) rfl tk67 (.t (has rfl)) (has rfl) (.head _)) rfl ?_
  refine go1 (op_load rfl (Fld.whole kNode) tk27 (.t (has rfl)) (has rfl)) rfl ?_
  refine go1 (op_buildSlice rfl at67 (fun h => by first | rfl | cases h) rfl rfl rfl (.cons (.t (has rfl)) (.nil _))) rfl ?_
  refine goesO_release 26 100300 rfl rfl rfl ?_
  obtain ⟨x9, h10, H⟩ := bind_some H
  refine go2 (op_append rfl rfl at67 h10 (has rfl) (ReadsArg.own (.t (has rfl)))) rfl ?_
  refine go1 (op_fieldAddr rfl Try.underlying69 rfl tk67 (.t (has rfl))) rfl ?_
  refine goesO_by (fun a w hi => inv_boxw (fs' := [FA.any 0 1, FA.k 1 (kslice kstr) ([a0.Target])]) 3 rfl (.any (f := FA.rw 0 100300 (s2).length) (.head _) (.keep (.tail _ (.head _)) .nil)) hi) ?_
  refine goesO_number 29 100300 rfl rfl rfl ?_
  refine go1 (op_storef_rw (K := kNode) (f := FA.any 0 1) (off := 0) (id := 3) [] [FA.k 1 (kslice kstr) ([a0.Target])] tk67 rfl rfl rfl (.t (has rfl)) (has rfl) (.t (has rfl))) rfl ?_
  refine goesO_nil ?_
  refine ends_then ?_
  refine goes_seq ?_
  refine goes_region ?_
  refine goesO_by (fun a w hi => inv_settle_r' 100300 rfl rfl hi) ?_
  refine goesO_by (fun a w hi => inv_field_k' (xs := x9) 3 [] 0 100300 [FA.k 1 (kslice kstr) ([a0.Target])] rfl rfl hi) ?_
  refine go1 (op_loadw (x := (⟨x9, [a0.Target]⟩ : Plan)) rfl tk69 (.t (has rfl)) (has rfl) (.iso (.pair (la := [FA.k 0 (kslice kNode) x9]) (lb := [FA.k 1 (kslice kstr) ([a0.Target])]) .leaf .leaf) rfl)) rfl ?_
  obtain ⟨v11, h12, H⟩ := bind_some H
  refine go1 (op_call' rfl enters29 (resolve_Check.con _ _ _ h12) rfl (.cons (ArgP.k (.t (has rfl))) .nil)) rfl ?_
  refine go1 (op_assign rfl (.t (has rfl))) rfl ?_
  refine goesO_nil ?_
  refine ends_then ?_
  obtain rfl := Option.some.inj H
  exact goes_ret (ends_ret' rfl rfl (.t rfl (.nil _)))
theorem modes_alone.conF (k : Nat) (a0 : Node) (r : Int) (H : modes_alone.f k a0 = some r) : ConF Try.prog 18 [VA.k kNode a0] [VA.k (kint .i64) r] := (modes_alone.con k a0 r H).freeL (.cons (KFree.k (KFree.int .i64) _) .nil)
end Go.Proofs.Ytmmjbobicnmilaa.F
