import Derived.Test.YtodogppelokapaaFKx2
set_option linter.unusedVariables false
set_option linter.unusedSimpArgs false
set_option linter.unnecessarySimpa false
set_option linter.deprecated false
namespace Go.Proofs.Ytodogppelokapaa.F
open Go Go.RowKit Go.Proofs.Ytodogppelokapaa.Sl
/-! smithy/macro.Check -/
def macro_Check.l0 (a0 : List Macro) : Nat → Int → Option (Except Int Unit)
  | 0, _ => none
  | k + 1, s2 => bif icmp .lss s2 (a0.length : Int) then ((idx a0 s2).bind fun x7 => (macro_one.f k x7).bind fun v9 => bif icmp .neq v9 (0 : Int) then (some (Except.error v9)) else (macro_Check.l0 a0 k (IntKind.i64.wrap (s2 + (1 : Int))))) else (some (Except.ok ()))
def macro_Check.l1 (a0 : List Macro) : Nat → Int → Option (Except Int Unit)
  | 0, _ => none
  | k + 1, s12 => bif icmp .lss s12 (a0.length : Int) then ((bif icmp .gtr s12 (0 : Int) then ((idx a0 (IntKind.i64.wrap (s12 - (1 : Int)))).bind fun x20 => (idx a0 s12).bind fun x22 => (macro_byName.f x20 x22).bind fun v24 => some (icmp .geq v24 (0 : Int))) else (some false)).bind fun s17 => bif s17 then (some (Except.error (5 : Int))) else (macro_Check.l1 a0 k (IntKind.i64.wrap (s12 + (1 : Int))))) else (some (Except.ok ()))
def macro_Check.f (k : Nat) (a0 : List Macro) : Option Int := bif icmp .gtr (a0.length : Int) (256 : Int) then (some (2 : Int)) else ((macro_Check.l0 a0 k (0 : Int)).bind fun o5 => match o5 with | .error r' => some r' | .ok s3 => ((macro_Check.l1 a0 k (0 : Int)).bind fun o15 => match o15 with | .error r' => some r' | .ok s13 => (some (0 : Int))))
set_option maxRecDepth 100000 in
set_option maxHeartbeats 4000000 in
theorem macro_Check.con (k : Nat) (a0 : List Macro) (r : Int) (H : macro_Check.f k a0 = some r) : Con Try.prog 10 [VA.k (kslice kMacro) a0] [VA.k (kint .i64) r] := by
  unfold macro_Check.f at H
  refine con_enter Try.func10 rfl rfl rfl (fun w0 S0 θ => ?_)
  refine goes_seq ?_
  refine goes_region ?_
  refine go1 (op_assign rfl (.int _ _)) rfl ?_
  refine goesO_nil ?_
  refine ends_then ?_
  refine goes_seq ?_
  refine goes_seq ?_
  refine goes_region ?_
  refine go1 (op_move rfl (.t (has rfl))) rfl ?_
  refine go1 (op_len rfl rfl Try.underlying22 (.t (has rfl))) rfl ?_
  refine go1 (op_icmp rfl rfl (.t (has rfl)) (.int _ _)) rfl ?_
  refine goesO_nil ?_
  refine ends_then ?_
  refine goes_if (.t (has rfl)) H (fun hb1 H => ?_) (fun hb1 H => ?_)
  · skip
    refine goes_seq ?_
    refine goes_region ?_
    refine go1 (op_assign rfl (.int _ _)) rfl ?_
    refine goesO_nil ?_
    refine ends_then ?_
    obtain rfl := Option.some.inj H
    exact goes_ret (ends_then_ret (ends_ret' rfl rfl (.t rfl (.nil _))))
  · skip
    refine goes_skip ?_
    refine ends_then ?_
    refine goes_seq ?_
    refine goes_seq ?_
    refine goes_region ?_
    refine go1 (op_move rfl (.t (has rfl))) rfl ?_
    refine go1 (op_len rfl rfl Try.underlying22 (.t (has rfl))) rfl ?_
    refine go1 (op_move rfl (.int _ _)) rfl ?_
    refine goesO_nil ?_
    refine ends_then ?_
    obtain ⟨o5, h4, H⟩ := bind_some H
    refine goes_cutR (o := o5) (fun s3 : Unit => [Ent.t 0 (VA.k (kslice kMacro) a0)]) (fun r a w => bodyPost Try.prog Try.f10 (CPost w0 S0 θ [VA.k (kint .i64) r]) .ret a w) ?_ ?_ ?_
    · replace H := h4; clear h4
      refine goes_block ?_
      refine goes_loop (fun s2 : Int => [Ent.t 0 (VA.k (kslice kMacro) a0), Ent.t 10 (VA.k (kslice kMacro) a0), Ent.t 11 (VA.k (kint .i64) (a0.length : Int)), Ent.t 12 (VA.k (kint .i64) s2)]) (fun k s2 => macro_Check.l0 a0 k s2) (fun _ => rfl) H (.cons rfl (.cons rfl (.cons rfl (.cons rfl .nil)))) ?_
      intro k s2 H
      simp only [macro_Check.l0] at H
      refine goes_seq ?_
      refine goes_region ?_
      refine go1 (op_icmp rfl rfl (.t (has rfl)) (.t (has rfl))) rfl ?_
      refine goesO_nil ?_
      refine ends_then ?_
      refine goes_seq ?_
      refine goes_if (.t (has rfl)) H (fun hb6 H => ?_) (fun hb6 H => ?_)
      · skip
        refine goes_skip ?_
        refine ends_then ?_
        refine goes_seq ?_
        refine goes_block ?_
        refine goes_seq ?_
        refine goes_region ?_
        obtain ⟨x7, h8, H⟩ := bind_some H
        refine go1 (op_indexAddr rfl Try.underlying22 tk30 h8 (.t (has rfl)) (.t (has rfl))) rfl ?_
        refine go1 (op_loadp rfl tk30 (.t (has rfl))) rfl ?_
        refine go3 (op_alloc 4 rfl zk30) rfl ?_
        refine go1 (op_store (Fld.whole kMacro) tk30 (.t (has rfl)) (has rfl) (.t (has rfl))) rfl ?_
        refine goesO_nil ?_
        refine ends_then ?_
        refine goes_seq ?_
        refine goes_region ?_
        refine go1 (op_load rfl (Fld.whole kMacro) tk30 (.t (has rfl)) (has rfl)) rfl ?_
        obtain ⟨v9, h10, H⟩ := bind_some H
        refine go1 (op_call' rfl enters28 (macro_one.con _ _ _ h10) rfl (.cons (ArgP.k (.t (has rfl))) .nil)) rfl ?_
        refine go1 (op_assign rfl (.t (has rfl))) rfl ?_
        refine goesO_nil ?_
        refine ends_then ?_
        refine goes_seq ?_
        refine goes_region ?_
        refine go1 (op_move rfl (.t (has rfl))) rfl ?_
        refine go1 (op_icmp rfl rfl (.t (has rfl)) (.int _ _)) rfl ?_
        refine goesO_nil ?_
        refine ends_then ?_
        refine goes_if (.t (has rfl)) H (fun hb11 H => ?_) (fun hb11 H => ?_)
        · skip
          refine goes_seq ?_
          refine goes_region ?_
          refine go1 (op_move rfl (.t (has rfl))) rfl ?_
          refine go1 (op_assign rfl (.t (has rfl))) rfl ?_
          refine goesO_nil ?_
          refine ends_then ?_
          obtain rfl := Option.some.inj H
          refine goes_ret (ends_block_ret (ends_then_ret (ends_then_ret (ends_block_ret (ends_cutR_ret rfl ?_)))))
          exact ends_ret' rfl rfl (.t rfl (.nil _))
        · skip
          refine goes_skip ?_
          refine ends_block ?_
          refine ends_then ?_
          refine goes_region ?_
          refine go1 (op_add rfl (.t (has rfl)) (.int _ _)) rfl ?_
          refine go1 (op_move rfl (.t (has rfl))) rfl ?_
          refine goesO_nil ?_
          exact loop_next _ H (.cons rfl (.cons rfl (.cons rfl (.cons rfl .nil))))
      · skip
        refine goes_exit (ends_then_exit (ends_then_exit (ends_block_exit ?_)))
        obtain rfl := Option.some.inj H
        exact ends_cutR rfl (.cons rfl .nil)
    · rintro s3 rfl
      clear h4
      dsimp only at H
      refine ends_then ?_
      refine goes_seq ?_
      refine goes_seq ?_
      refine goes_region ?_
      refine go1 (op_move rfl (.t (has rfl))) rfl ?_
      refine go1 (op_len rfl rfl Try.underlying22 (.t (has rfl))) rfl ?_
      refine go1 (op_move rfl (.int _ _)) rfl ?_
      refine goesO_nil ?_
      refine ends_then ?_
      obtain ⟨o15, h14, H⟩ := bind_some H
      refine goes_cutR (o := o15) (fun s13 : Unit => []) (fun r a w => bodyPost Try.prog Try.f10 (CPost w0 S0 θ [VA.k (kint .i64) r]) .ret a w) ?_ ?_ ?_
      · replace H := h14; clear h14
        refine goes_block ?_
        refine goes_loop (fun s12 : Int => [Ent.t 0 (VA.k (kslice kMacro) a0), Ent.t 23 (VA.k (kint .i64) (a0.length : Int)), Ent.t 24 (VA.k (kint .i64) s12)]) (fun k s12 => macro_Check.l1 a0 k s12) (fun _ => rfl) H (.cons rfl (.cons rfl (.cons rfl .nil))) ?_
        intro k s12 H
        simp only [macro_Check.l1] at H
        refine goes_seq ?_
        refine goes_region ?_
        refine go1 (op_icmp rfl rfl (.t (has rfl)) (.t (has rfl))) rfl ?_
        refine goesO_nil ?_
        refine ends_then ?_
        refine goes_seq ?_
        refine goes_if (.t (has rfl)) H (fun hb16 H => ?_) (fun hb16 H => ?_)
        · skip
          refine goes_skip ?_
          refine ends_then ?_
          refine goes_seq ?_
          refine goes_block ?_
          refine goes_seq ?_
          refine goes_region ?_
          refine go1 (op_move rfl (.t (has rfl))) rfl ?_
          refine go1 (op_assign rfl (.t (has rfl))) rfl ?_
          refine goesO_nil ?_
          refine ends_then ?_
          refine goes_seq ?_
          obtain ⟨s17, h18, H⟩ := bind_some H
          refine goes_cut [Ent.t 0 (VA.k (kslice kMacro) a0), Ent.t 23 (VA.k (kint .i64) (a0.length : Int)), Ent.t 24 (VA.k (kint .i64) s12), Ent.t 41 (VA.k kbool s17)] ?_ ?_
          · replace H := h18; clear h18
            refine goes_split H (fun hb19 H => ?_) (fun hb19 H => ?_)
            · skip
              obtain ⟨x20, h21, H⟩ := bind_some H
              obtain ⟨x22, h23, H⟩ := bind_some H
              obtain ⟨v24, h25, H⟩ := bind_some H
              refine goes_drawn [[Ent.t 27 (VA.k (kint .i64) s12)], [Ent.t 28 (VA.k kbool (icmp .gtr s12 (0 : Int)))], [Ent.t 29 (VA.k kbool (icmp .gtr s12 (0 : Int)))], [Ent.t 30 (VA.k (kslice kMacro) a0)], [Ent.t 31 (VA.k (kint .i64) s12)], [Ent.t 32 (VA.k (kint .i64) (IntKind.i64.wrap (s12 - (1 : Int))))], [Ent.t 33 (VA.pt kMacro x20)], [Ent.t 34 (VA.k kMacro x20)], [Ent.t 35 (VA.k (kslice kMacro) a0)], [Ent.t 36 (VA.k (kint .i64) s12)], [Ent.t 37 (VA.pt kMacro x22)], [Ent.t 38 (VA.k kMacro x22)], [Ent.t 39 (VA.k (kint .i64) v24)], [Ent.t 40 (VA.k kbool (icmp .geq v24 (0 : Int)))], [Ent.t 41 (VA.k kbool (icmp .geq v24 (0 : Int)))]] mixed (by kernel_rfl) (by kernel_rfl) (.cons [(none, Ent.t 6 (VA.k (kint .i64) s12))] (OpSpec.run rfl rfl (op_move rfl (.t NL.h0)) rfl) (.cons (has rfl) .nil) (by kernel_rfl) (.cons [(some 0, Ent.t 27 (VA.k (kint .i64) s12))] (OpSpec.run rfl rfl (op_icmp rfl rfl (.t NL.h0) (.int _ _)) rfl) (.cons (has rfl) .nil) (by kernel_rfl) (.cons [(some 1, Ent.t 28 (VA.k kbool (icmp .gtr s12 (0 : Int))))] (OpSpec.run rfl rfl (op_move rfl (.t NL.h0)) rfl) (.cons (has rfl) .nil) (by kernel_rfl) (.cons [(some 2, Ent.t 29 (VA.k kbool (icmp .gtr s12 (0 : Int)))), (none, Ent.t 0 (VA.k (kslice kMacro) a0))] (OpSpec.runG rfl rfl rfl rfl NL.h0 hb19 (op_move rfl (.t (NL.hs NL.h0))) rfl) (.cons (has rfl) (.cons (has rfl) .nil)) (by kernel_rfl) (.cons [(some 2, Ent.t 29 (VA.k kbool (icmp .gtr s12 (0 : Int)))), (none, Ent.t 6 (VA.k (kint .i64) s12))] (OpSpec.runG rfl rfl rfl rfl NL.h0 hb19 (op_move rfl (.t (NL.hs NL.h0))) rfl) (.cons (has rfl) (.cons (has rfl) .nil)) (by kernel_rfl) (.cons [(some 2, Ent.t 29 (VA.k kbool (icmp .gtr s12 (0 : Int)))), (some 4, Ent.t 31 (VA.k (kint .i64) s12))] (OpSpec.runG rfl rfl rfl rfl NL.h0 hb19 (op_sub rfl (.t (NL.hs NL.h0)) (.int _ _)) rfl) (.cons (has rfl) (.cons (has rfl) .nil)) (by kernel_rfl) (.cons [(some 2, Ent.t 29 (VA.k kbool (icmp .gtr s12 (0 : Int)))), (some 3, Ent.t 30 (VA.k (kslice kMacro) a0)), (some 5, Ent.t 32 (VA.k (kint .i64) (IntKind.i64.wrap (s12 - (1 : Int)))))] (OpSpec.runG rfl rfl rfl rfl NL.h0 hb19 (op_indexAddr rfl Try.underlying22 tk30 h21 (.t (NL.hs NL.h0)) (.t (NL.hs (NL.hs NL.h0)))) rfl) (.cons (has rfl) (.cons (has rfl) (.cons (has rfl) .nil))) (by kernel_rfl) (.cons [(some 2, Ent.t 29 (VA.k kbool (icmp .gtr s12 (0 : Int)))), (some 6, Ent.t 33 (VA.pt kMacro x20))] (OpSpec.runG rfl rfl rfl rfl NL.h0 hb19 (op_loadp rfl tk30 (.t (NL.hs NL.h0))) rfl) (.cons (has rfl) (.cons (has rfl) .nil)) (by kernel_rfl) (.cons [(some 2, Ent.t 29 (VA.k kbool (icmp .gtr s12 (0 : Int)))), (none, Ent.t 0 (VA.k (kslice kMacro) a0))] (OpSpec.runG rfl rfl rfl rfl NL.h0 hb19 (op_move rfl (.t (NL.hs NL.h0))) rfl) (.cons (has rfl) (.cons (has rfl) .nil)) (by kernel_rfl) (.cons [(some 2, Ent.t 29 (VA.k kbool (icmp .gtr s12 (0 : Int)))), (none, Ent.t 6 (VA.k (kint .i64) s12))] (OpSpec.runG rfl rfl rfl rfl NL.h0 hb19 (op_move rfl (.t (NL.hs NL.h0))) rfl) (.cons (has rfl) (.cons (has rfl) .nil)) (by kernel_rfl) (.cons [(some 2, Ent.t 29 (VA.k kbool (icmp .gtr s12 (0 : Int)))), (some 8, Ent.t 35 (VA.k (kslice kMacro) a0)), (some 9, Ent.t 36 (VA.k (kint .i64) s12))] (OpSpec.runG rfl rfl rfl rfl NL.h0 hb19 (op_indexAddr rfl Try.underlying22 tk30 h23 (.t (NL.hs NL.h0)) (.t (NL.hs (NL.hs NL.h0)))) rfl) (.cons (has rfl) (.cons (has rfl) (.cons (has rfl) .nil))) (by kernel_rfl) (.cons [(some 2, Ent.t 29 (VA.k kbool (icmp .gtr s12 (0 : Int)))), (some 10, Ent.t 37 (VA.pt kMacro x22))] (OpSpec.runG rfl rfl rfl rfl NL.h0 hb19 (op_loadp rfl tk30 (.t (NL.hs NL.h0))) rfl) (.cons (has rfl) (.cons (has rfl) .nil)) (by kernel_rfl) (.cons [(some 2, Ent.t 29 (VA.k kbool (icmp .gtr s12 (0 : Int)))), (some 7, Ent.t 34 (VA.k kMacro x20)), (some 11, Ent.t 38 (VA.k kMacro x22))] (OpSpec.runG rfl rfl rfl rfl NL.h0 hb19 (op_call' rfl enters29 (macro_byName.con _ _ _ h25) rfl (.cons (ArgP.k (.t (NL.hs NL.h0))) (.cons (ArgP.k (.t (NL.hs (NL.hs NL.h0)))) .nil))) rfl) (.cons (has rfl) (.cons (has rfl) (.cons (has rfl) .nil))) (by kernel_rfl) (.cons [(some 2, Ent.t 29 (VA.k kbool (icmp .gtr s12 (0 : Int)))), (some 12, Ent.t 39 (VA.k (kint .i64) v24))] (OpSpec.runG rfl rfl rfl rfl NL.h0 hb19 (op_icmp rfl rfl (.t (NL.hs NL.h0)) (.int _ _)) rfl) (.cons (has rfl) (.cons (has rfl) .nil)) (by kernel_rfl) (.cons [(some 2, Ent.t 29 (VA.k kbool (icmp .gtr s12 (0 : Int)))), (some 13, Ent.t 40 (VA.k kbool (icmp .geq v24 (0 : Int))))] (OpSpec.run rfl rfl (op_pick_t rfl hb19 (.t NL.h0) (.t (NL.hs NL.h0))) rfl) (.cons (has rfl) (.cons (has rfl) .nil)) (by kernel_rfl) (.nil _)))))))))))))))) ?_
              refine ends_sub [Ent.t 0 (VA.k (kslice kMacro) a0), Ent.t 23 (VA.k (kint .i64) (a0.length : Int)), Ent.t 24 (VA.k (kint .i64) s12), Ent.t 30 (VA.k (kslice kMacro) a0), Ent.t 31 (VA.k (kint .i64) s12), Ent.t 32 (VA.k (kint .i64) (IntKind.i64.wrap (s12 - (1 : Int)))), Ent.t 33 (VA.pt kMacro x20), Ent.t 34 (VA.k kMacro x20), Ent.t 35 (VA.k (kslice kMacro) a0), Ent.t 36 (VA.k (kint .i64) s12), Ent.t 37 (VA.pt kMacro x22), Ent.t 38 (VA.k kMacro x22), Ent.t 39 (VA.k (kint .i64) v24), Ent.t 40 (VA.k kbool (icmp .geq v24 (0 : Int))), Ent.t 41 (VA.k kbool (icmp .geq v24 (0 : Int)))] (.cons rfl (.cons rfl (.cons rfl (.cons rfl (.cons rfl (.cons rfl (.cons rfl (.cons rfl (.cons rfl (.cons rfl (.cons rfl (.cons rfl (.cons rfl (.cons rfl (.cons rfl .nil))))))))))))))) ?_
              obtain rfl := Option.some.inj H
              exact ends_cut (.cons rfl (.cons rfl (.cons rfl (.cons rfl .nil))))
            · skip
              refine goes_drawn [[Ent.t 27 (VA.k (kint .i64) s12)], [Ent.t 28 (VA.k kbool (icmp .gtr s12 (0 : Int)))], [Ent.t 29 (VA.k kbool (icmp .gtr s12 (0 : Int)))], [Ent.t 30 (VA.v undef)], [Ent.t 31 (VA.v undef)], [Ent.t 32 (VA.v undef)], [Ent.t 33 (VA.v undef)], [Ent.t 34 (VA.v undef)], [Ent.t 35 (VA.v undef)], [Ent.t 36 (VA.v undef)], [Ent.t 37 (VA.v undef)], [Ent.t 38 (VA.v undef)], [Ent.t 39 (VA.v undef)], [Ent.t 40 (VA.v undef)], [Ent.t 41 (VA.k kbool false)]] mixed (by kernel_rfl) (by kernel_rfl) (.cons [(none, Ent.t 6 (VA.k (kint .i64) s12))] (OpSpec.run rfl rfl (op_move rfl (.t NL.h0)) rfl) (.cons (has rfl) .nil) (by kernel_rfl) (.cons [(some 0, Ent.t 27 (VA.k (kint .i64) s12))] (OpSpec.run rfl rfl (op_icmp rfl rfl (.t NL.h0) (.int _ _)) rfl) (.cons (has rfl) .nil) (by kernel_rfl) (.cons [(some 1, Ent.t 28 (VA.k kbool (icmp .gtr s12 (0 : Int))))] (OpSpec.run rfl rfl (op_move rfl (.t NL.h0)) rfl) (.cons (has rfl) .nil) (by kernel_rfl) (.cons [(some 2, Ent.t 29 (VA.k kbool (icmp .gtr s12 (0 : Int))))] (run_skip rfl rfl rfl rfl rfl rfl NL.h0 hb19) (.cons (has rfl) .nil) (by kernel_rfl) (.cons [(some 2, Ent.t 29 (VA.k kbool (icmp .gtr s12 (0 : Int))))] (run_skip rfl rfl rfl rfl rfl rfl NL.h0 hb19) (.cons (has rfl) .nil) (by kernel_rfl) (.cons [(some 2, Ent.t 29 (VA.k kbool (icmp .gtr s12 (0 : Int))))] (run_skip rfl rfl rfl rfl rfl rfl NL.h0 hb19) (.cons (has rfl) .nil) (by kernel_rfl) (.cons [(some 2, Ent.t 29 (VA.k kbool (icmp .gtr s12 (0 : Int))))] (run_skip rfl rfl rfl rfl rfl rfl NL.h0 hb19) (.cons (has rfl) .nil) (by kernel_rfl) (.cons [(some 2, Ent.t 29 (VA.k kbool (icmp .gtr s12 (0 : Int))))] (run_skip rfl rfl rfl rfl rfl rfl NL.h0 hb19) (.cons (has rfl) .nil) (by kernel_rfl) (.cons [(some 2, Ent.t 29 (VA.k kbool (icmp .gtr s12 (0 : Int))))] (run_skip rfl rfl rfl rfl rfl rfl NL.h0 hb19) (.cons (has rfl) .nil) (by kernel_rfl) (.cons [(some 2, Ent.t 29 (VA.k kbool (icmp .gtr s12 (0 : Int))))] (run_skip rfl rfl rfl rfl rfl rfl NL.h0 hb19) (.cons (has rfl) .nil) (by kernel_rfl) (.cons [(some 2, Ent.t 29 (VA.k kbool (icmp .gtr s12 (0 : Int))))] (run_skip rfl rfl rfl rfl rfl rfl NL.h0 hb19) (.cons (has rfl) .nil) (by kernel_rfl) (.cons [(some 2, Ent.t 29 (VA.k kbool (icmp .gtr s12 (0 : Int))))] (run_skip rfl rfl rfl rfl rfl rfl NL.h0 hb19) (.cons (has rfl) .nil) (by kernel_rfl) (.cons [(some 2, Ent.t 29 (VA.k kbool (icmp .gtr s12 (0 : Int))))] (run_skip rfl rfl rfl rfl rfl rfl NL.h0 hb19) (.cons (has rfl) .nil) (by kernel_rfl) (.cons [(some 2, Ent.t 29 (VA.k kbool (icmp .gtr s12 (0 : Int))))] (run_skip rfl rfl rfl rfl rfl rfl NL.h0 hb19) (.cons (has rfl) .nil) (by kernel_rfl) (.cons [(some 2, Ent.t 29 (VA.k kbool (icmp .gtr s12 (0 : Int))))] (OpSpec.run rfl rfl (op_pick_f rfl hb19 (.t NL.h0) (.bool _)) rfl) (.cons (has rfl) .nil) (by kernel_rfl) (.nil _)))))))))))))))) ?_
              refine ends_sub [Ent.t 0 (VA.k (kslice kMacro) a0), Ent.t 23 (VA.k (kint .i64) (a0.length : Int)), Ent.t 24 (VA.k (kint .i64) s12), Ent.t 41 (VA.k kbool false)] (.cons rfl (.cons rfl (.cons rfl (.cons rfl .nil)))) ?_
              obtain rfl := Option.some.inj H
              exact ends_cut (.cons rfl (.cons rfl (.cons rfl (.cons rfl .nil))))
          refine ends_then ?_
          refine goes_if (.t (has rfl)) H (fun hb26 H => ?_) (fun hb26 H => ?_)
          · skip
            refine goes_seq ?_
            refine goes_region ?_
            refine go1 (op_assign rfl (.int _ _)) rfl ?_
            refine goesO_nil ?_
            refine ends_then ?_
            obtain rfl := Option.some.inj H
            refine goes_ret (ends_block_ret (ends_then_ret (ends_then_ret (ends_block_ret (ends_cutR_ret rfl ?_)))))
            exact ends_ret' rfl rfl (.t rfl (.nil _))
          · skip
            refine goes_skip ?_
            refine ends_block ?_
            refine ends_then ?_
            refine goes_region ?_
            refine go1 (op_add rfl (.t (has rfl)) (.int _ _)) rfl ?_
            refine go1 (op_move rfl (.t (has rfl))) rfl ?_
            refine goesO_nil ?_
            exact loop_next _ H (.cons rfl (.cons rfl (.cons rfl .nil)))
        · skip
          refine goes_exit (ends_then_exit (ends_then_exit (ends_block_exit ?_)))
          obtain rfl := Option.some.inj H
          exact ends_cutR rfl .nil
      · rintro s13 rfl
        clear h14
        dsimp only at H
        refine ends_then ?_
        refine goes_seq ?_
        refine goes_region ?_
        refine go1 (op_assign rfl (.int _ _)) rfl ?_
        refine goesO_nil ?_
        refine ends_then ?_
        obtain rfl := Option.some.inj H
        exact goes_ret (ends_ret' rfl rfl (.t rfl (.nil _)))
      · rintro r' rfl a w hr
        obtain rfl := Option.some.inj H
        exact hr
    · rintro r' rfl a w hr
      obtain rfl := Option.some.inj H
      exact hr
theorem macro_Check.conF (k : Nat) (a0 : List Macro) (r : Int) (H : macro_Check.f k a0 = some r) : ConF Try.prog 10 [VA.k (kslice kMacro) a0] [VA.k (kint .i64) r] := (macro_Check.con k a0 r H).freeL (.cons (KFree.k (KFree.int .i64) _) .nil)
/-! slices.Clone[[]smithy/api.Macro,smithy/api.Macro] -/
def slices_Clone_api_Macro_api_Macro.f (a0 : List Macro) : Option (List Macro) := (app 40 ([] : List Macro) a0).bind fun x1 => some x1
set_option maxRecDepth 100000 in
set_option maxHeartbeats 4000000 in
theorem slices_Clone_api_Macro_api_Macro.con (a0 : List Macro) (r : List Macro) (H : slices_Clone_api_Macro_api_Macro.f a0 = some r) : Con Try.prog 33 [VA.k (kslice kMacro) a0] [VA.own 30 kMacro r] := by
  unfold slices_Clone_api_Macro_api_Macro.f at H
  refine con_enter Try.func33 rfl rfl rfl (fun w0 S0 θ => ?_)
  refine goes_seq ?_
  refine goes_region ?_
  refine go1 (op_assign_nil 30 kMacro (.inr rfl) rfl) rfl ?_
  refine goesO_nil ?_
  refine ends_then ?_
  refine goes_seq ?_
  refine goes_seq ?_
  refine goes_region ?_
  refine go1 (op_move rfl (.t (has rfl))) rfl ?_
  refine go1 (op_isnil rfl Try.underlying22 (.t (has rfl))) rfl ?_
  refine goesO_nil ?_
  refine ends_then ?_
  refine goes_ifnil (.t (has rfl)) (fun hnil => ?_) ?_
  · skip
    replace H : (some ([] : List Macro)) = some r := by subst hnil; simpa [app, room] using H
    refine goes_seq ?_
    refine goes_region ?_
    refine go1 (op_assign_nil 30 kMacro (.inr rfl) rfl) rfl ?_
    refine goesO_nil ?_
    refine ends_then ?_
    obtain rfl := Option.some.inj H
    exact goes_ret (ends_then_ret (ends_ret' rfl rfl (.t rfl (.nil _))))
  · skip
    refine goes_skip ?_
    refine ends_then ?_
    refine goes_seq ?_
    refine goes_region ?_
    refine go1 (op_buildSlice0 rfl at22) rfl ?_
    refine go1 (op_move rfl (.t (has rfl))) rfl ?_
    obtain ⟨x1, h2, H⟩ := bind_some H
    refine go2 (op_append rfl rfl at22 h2 (has rfl) (ReadsArg.k (.t (has rfl)))) rfl ?_
    refine go2 (op_mv (.inr rfl) rfl rfl (has rfl)) rfl ?_
    refine goesO_nil ?_
    refine ends_then ?_
    obtain rfl := Option.some.inj H
    exact goes_ret (ends_ret' rfl rfl (.t rfl (.nil _)))
theorem slices_Clone_api_Macro_api_Macro.conF (a0 : List Macro) (r : List Macro) (H : slices_Clone_api_Macro_api_Macro.f a0 = some r) : ConF Try.prog 33 [VA.k (kslice kMacro) a0] [VA.own 30 kMacro r] := (slices_Clone_api_Macro_api_Macro.con a0 r H).freeL (.cons (KFree.own kfreeMacro _ _) .nil)
/-! slices.BinarySearchFunc[[]smithy/api.Macro,smithy/api.Macro,smithy/api.Macro] -/
def slices_BinarySearchFunc_api_Macro_api_Macro_api_Macro.l0 (a0 : List Macro) (a1 : Macro) (a2 : Macro → Macro → Option Int) : Nat → (Int × Int) → Option Int
  | 0, _ => none
  | k + 1, s1 => bif icmp .lss s1.1 s1.2 then ((idx a0 (IntKind.i64.wrap ((IntKind.u64.wrap (IntKind.i64.wrap (s1.1 + s1.2))) / 2 ^ (Int.toNat (1 : Int))))).bind fun x5 => (a2 x5 a1).bind fun v7 => bif icmp .lss v7 (0 : Int) then (slices_BinarySearchFunc_api_Macro_api_Macro_api_Macro.l0 a0 a1 a2 k (IntKind.i64.wrap (IntKind.i64.wrap ((IntKind.u64.wrap (IntKind.i64.wrap (s1.1 + s1.2))) / 2 ^ (Int.toNat (1 : Int))) + (1 : Int)), s1.2)) else (slices_BinarySearchFunc_api_Macro_api_Macro_api_Macro.l0 a0 a1 a2 k (s1.1, IntKind.i64.wrap ((IntKind.u64.wrap (IntKind.i64.wrap (s1.1 + s1.2))) / 2 ^ (Int.toNat (1 : Int)))))) else (some s1.1)
def slices_BinarySearchFunc_api_Macro_api_Macro_api_Macro.f (k : Nat) (a0 : List Macro) (a1 : Macro) (a2 : Macro → Macro → Option Int) : Option (Int × Bool) := (slices_BinarySearchFunc_api_Macro_api_Macro_api_Macro.l0 a0 a1 a2 k ((0 : Int), (a0.length : Int))).bind fun s2 => (bif icmp .lss s2 (a0.length : Int) then ((idx a0 s2).bind fun x13 => (a2 x13 a1).bind fun v15 => some (icmp .eql v15 (0 : Int))) else (some false)).bind fun s10 => some (s2, s10)
set_option maxRecDepth 100000 in
set_option maxHeartbeats 4000000 in
theorem slices_BinarySearchFunc_api_Macro_api_Macro_api_Macro.con (F2 : FuncId) (pre2 caps2 : List VA) (k : Nat) (a0 : List Macro) (a1 : Macro) (a2 : Macro → Macro → Option Int) (hE2 : Enters Try.prog F2) (hp2 : ∀ (z0 : Macro) (z1 : Macro) r, a2 z0 z1 = some r → Con Try.prog F2 (pre2 ++ ([VA.k kMacro z0, VA.k kMacro z1] ++ caps2)) [VA.k (kint .i64) r]) (r : Int × Bool) (H : slices_BinarySearchFunc_api_Macro_api_Macro_api_Macro.f k a0 a1 a2 = some r) : Con Try.prog 47 [VA.k (kslice kMacro) a0, VA.k kMacro a1, VA.clo F2 pre2 caps2] [VA.k (kint .i64) r.1, VA.k kbool r.2] := by
  unfold slices_BinarySearchFunc_api_Macro_api_Macro_api_Macro.f at H
  refine con_enter Try.func47 rfl rfl rfl (fun w0 S0 θ => ?_)
  refine goes_seq ?_
  refine goes_region ?_
  refine go3 (op_box 4 rfl (fun h => by first | rfl | cases h) (.t (has rfl))) rfl ?_
  refine go1 (op_assign rfl (.int _ _)) rfl ?_
  refine go1 (op_assign rfl (.bool _)) rfl ?_
  refine goesO_nil ?_
  refine ends_then ?_
  refine goes_seq ?_
  refine goes_region ?_
  refine go1 (op_move rfl (.t (has rfl))) rfl ?_
  refine go1 (op_len rfl rfl Try.underlying22 (.t (has rfl))) rfl ?_
  refine go1 (op_assign rfl (.t (has rfl))) rfl ?_
  refine goesO_nil ?_
  refine ends_then ?_
  refine goes_seq ?_
  refine goes_region ?_
  refine go1 (op_move rfl (.t (has rfl))) rfl ?_
  refine go1 (op_assign rfl (.int _ _)) rfl ?_
  refine go1 (op_assign rfl (.t (has rfl))) rfl ?_
  refine goesO_nil ?_
  refine ends_then ?_
  refine goes_seq ?_
  obtain ⟨s2, h3, H⟩ := bind_some H
  refine goes_cut [Ent.t 0 (VA.k (kslice kMacro) a0), Ent.t 2 (VA.clo F2 pre2 caps2), Ent.t 4 (VA.ptr 4 0), Ent.t 8 (VA.k (kint .i64) (a0.length : Int)), Ent.t 9 (VA.k (kint .i64) s2), Ent.h 4 (HE.box 30 kMacro a1)] ?_ ?_
  · replace H := h3; clear h3
    refine goes_block ?_
    refine goes_loop (fun s1 : Int × Int => [Ent.t 0 (VA.k (kslice kMacro) a0), Ent.t 2 (VA.clo F2 pre2 caps2), Ent.t 4 (VA.ptr 4 0), Ent.t 8 (VA.k (kint .i64) (a0.length : Int)), Ent.t 9 (VA.k (kint .i64) s1.1), Ent.t 10 (VA.k (kint .i64) s1.2), Ent.h 4 (HE.box 30 kMacro a1)]) (fun k s1 => slices_BinarySearchFunc_api_Macro_api_Macro_api_Macro.l0 a0 a1 a2 k s1) (fun _ => rfl) H (.cons rfl (.cons rfl (.cons rfl (.cons rfl (.cons rfl (.cons rfl (.cons rfl .nil))))))) ?_
    intro k s1 H
    simp only [slices_BinarySearchFunc_api_Macro_api_Macro_api_Macro.l0] at H
    refine goes_seq ?_
    refine goes_seq ?_
    refine goes_region ?_
    refine go1 (op_move rfl (.t (has rfl))) rfl ?_
    refine go1 (op_move rfl (.t (has rfl))) rfl ?_
    refine go1 (op_icmp rfl rfl (.t (has rfl)) (.t (has rfl))) rfl ?_
    refine goesO_nil ?_
    refine ends_then ?_
    refine goes_if (.t (has rfl)) H (fun hb4 H => ?_) (fun hb4 H => ?_)
    · skip
      refine goes_skip ?_
      refine ends_then ?_
      refine goes_block ?_
      refine goes_seq ?_
      refine goes_region ?_
      refine go1 (op_move rfl (.t (has rfl))) rfl ?_
      refine go1 (op_move rfl (.t (has rfl))) rfl ?_
      refine go1 (op_add rfl (.t (has rfl)) (.t (has rfl))) rfl ?_
      refine go1 (op_conv rfl Try.underlying3 Try.underlying81 (.t (has rfl))) rfl ?_
      refine go1 (op_shr rfl (by decide) (by decide) (.t (has rfl)) (.int _ _)) rfl ?_
      refine go1 (op_conv rfl Try.underlying81 Try.underlying3 (.t (has rfl))) rfl ?_
      refine go1 (op_assign rfl (.t (has rfl))) rfl ?_
      refine goesO_nil ?_
      refine ends_then ?_
      refine goes_seq ?_
      obtain ⟨x5, h6, H⟩ := bind_some H
      obtain ⟨v7, h8, H⟩ := bind_some H
      refine goes_drawn [[Ent.t 24 (VA.clo F2 pre2 caps2)], [Ent.t 25 (VA.k (kslice kMacro) a0)], [Ent.t 26 (VA.k (kint .i64) (IntKind.i64.wrap ((IntKind.u64.wrap (IntKind.i64.wrap (s1.1 + s1.2))) / 2 ^ (Int.toNat (1 : Int)))))], [Ent.t 27 (VA.pt kMacro x5)], [Ent.t 28 (VA.k kMacro x5)], [Ent.t 29 (VA.k kMacro a1)], [Ent.t 30 (VA.k (kint .i64) v7)], [Ent.t 31 (VA.k kbool (icmp .lss v7 (0 : Int)))]] mixed (by kernel_rfl) (by kernel_rfl) (.cons [(none, Ent.t 2 (VA.clo F2 pre2 caps2))] (OpSpec.run rfl rfl (op_moveA rfl plain_clo (.t NL.h0)) rfl) (.cons (has rfl) .nil) (by kernel_rfl) (.cons [(none, Ent.t 0 (VA.k (kslice kMacro) a0))] (OpSpec.run rfl rfl (op_move rfl (.t NL.h0)) rfl) (.cons (has rfl) .nil) (by kernel_rfl) (.cons [(none, Ent.t 11 (VA.k (kint .i64) (IntKind.i64.wrap ((IntKind.u64.wrap (IntKind.i64.wrap (s1.1 + s1.2))) / 2 ^ (Int.toNat (1 : Int))))))] (OpSpec.run rfl rfl (op_move rfl (.t NL.h0)) rfl) (.cons (has rfl) .nil) (by kernel_rfl) (.cons [(some 1, Ent.t 25 (VA.k (kslice kMacro) a0)), (some 2, Ent.t 26 (VA.k (kint .i64) (IntKind.i64.wrap ((IntKind.u64.wrap (IntKind.i64.wrap (s1.1 + s1.2))) / 2 ^ (Int.toNat (1 : Int))))))] (OpSpec.run rfl rfl (op_indexAddr rfl Try.underlying22 tk30 h6 (.t NL.h0) (.t (NL.hs NL.h0))) rfl) (.cons (has rfl) (.cons (has rfl) .nil)) (by kernel_rfl) (.cons [(some 3, Ent.t 27 (VA.pt kMacro x5))] (OpSpec.run rfl rfl (op_loadp rfl tk30 (.t NL.h0)) rfl) (.cons (has rfl) .nil) (by kernel_rfl) (.cons [(none, Ent.t 4 (VA.ptr 4 0)), (none, Ent.h 4 (HE.box 30 kMacro a1))] (OpSpec.run rfl rfl (op_load rfl (Fld.whole kMacro) tk30 (.t NL.h0) (NL.hs NL.h0)) rfl) (.cons (has rfl) (.cons (has rfl) .nil)) (by kernel_rfl) (.cons [(some 4, Ent.t 28 (VA.k kMacro x5)), (some 5, Ent.t 29 (VA.k kMacro a1)), (some 0, Ent.t 24 (VA.clo F2 pre2 caps2))] (OpSpec.run rfl rfl (op_callv rfl (.t (NL.hs (NL.hs NL.h0))) hE2 (hp2 _ _ _ h8) rfl (.cons (ArgP.k (.t NL.h0)) (.cons (ArgP.k (.t (NL.hs NL.h0))) .nil))) rfl) (.cons (has rfl) (.cons (has rfl) (.cons (has rfl) .nil))) (by kernel_rfl) (.cons [(some 6, Ent.t 30 (VA.k (kint .i64) v7))] (OpSpec.run rfl rfl (op_icmp rfl rfl (.t NL.h0) (.int _ _)) rfl) (.cons (has rfl) .nil) (by kernel_rfl) (.nil _))))))))) ?_
      refine ends_sub [Ent.t 0 (VA.k (kslice kMacro) a0), Ent.t 2 (VA.clo F2 pre2 caps2), Ent.t 4 (VA.ptr 4 0), Ent.t 8 (VA.k (kint .i64) (a0.length : Int)), Ent.t 9 (VA.k (kint .i64) s1.1), Ent.t 10 (VA.k (kint .i64) s1.2), Ent.t 11 (VA.k (kint .i64) (IntKind.i64.wrap ((IntKind.u64.wrap (IntKind.i64.wrap (s1.1 + s1.2))) / 2 ^ (Int.toNat (1 : Int))))), Ent.t 31 (VA.k kbool (icmp .lss v7 (0 : Int))), Ent.h 4 (HE.box 30 kMacro a1)] (.cons rfl (.cons rfl (.cons rfl (.cons rfl (.cons rfl (.cons rfl (.cons rfl (.cons rfl (.cons rfl .nil))))))))) ?_
      refine ends_then ?_
      refine goes_if (.t (has rfl)) H (fun hb9 H => ?_) (fun hb9 H => ?_)
      · skip
        refine goes_region ?_
        refine go1 (op_move rfl (.t (has rfl))) rfl ?_
        refine go1 (op_add rfl (.t (has rfl)) (.int _ _)) rfl ?_
        refine go1 (op_assign rfl (.t (has rfl))) rfl ?_
        refine goesO_nil ?_
        refine ends_block ?_
        exact loop_next _ H (.cons rfl (.cons rfl (.cons rfl (.cons rfl (.cons rfl (.cons rfl (.cons rfl .nil)))))))
      · skip
        refine goes_region ?_
        refine go1 (op_move rfl (.t (has rfl))) rfl ?_
        refine go1 (op_assign rfl (.t (has rfl))) rfl ?_
        refine goesO_nil ?_
        refine ends_block ?_
        exact loop_next _ H (.cons rfl (.cons rfl (.cons rfl (.cons rfl (.cons rfl (.cons rfl (.cons rfl .nil)))))))
    · skip
      refine goes_exit (ends_then_exit (ends_then_exit (ends_block_exit ?_)))
      obtain rfl := Option.some.inj H
      exact ends_cut (.cons rfl (.cons rfl (.cons rfl (.cons rfl (.cons rfl (.cons rfl .nil))))))
  refine ends_then ?_
  refine goes_seq ?_
  obtain ⟨s10, h11, H⟩ := bind_some H
  refine goes_cut [Ent.t 6 (VA.k (kint .i64) s2), Ent.t 7 (VA.k kbool s10)] ?_ ?_
  · replace H := h11; clear h11
    refine goes_split H (fun hb12 H => ?_) (fun hb12 H => ?_)
    · skip
      obtain ⟨x13, h14, H⟩ := bind_some H
      obtain ⟨v15, h16, H⟩ := bind_some H
      refine goes_drawn [[Ent.t 35 (VA.k (kint .i64) s2)], [Ent.t 36 (VA.k (kint .i64) s2)], [Ent.t 37 (VA.k (kint .i64) (a0.length : Int))], [Ent.t 38 (VA.k kbool (icmp .lss s2 (a0.length : Int)))], [Ent.t 39 (VA.k kbool (icmp .lss s2 (a0.length : Int)))], [Ent.t 40 (VA.clo F2 pre2 caps2)], [Ent.t 41 (VA.k (kslice kMacro) a0)], [Ent.t 42 (VA.k (kint .i64) s2)], [Ent.t 43 (VA.pt kMacro x13)], [Ent.t 44 (VA.k kMacro x13)], [Ent.t 45 (VA.k kMacro a1)], [Ent.t 46 (VA.k (kint .i64) v15)], [Ent.t 47 (VA.k kbool (icmp .eql v15 (0 : Int)))], [Ent.t 48 (VA.k kbool (icmp .eql v15 (0 : Int)))], [Ent.t 6 (VA.k (kint .i64) s2)], [Ent.t 7 (VA.k kbool (icmp .eql v15 (0 : Int)))]] mixed (by kernel_rfl) (by kernel_rfl) (.cons [(none, Ent.t 9 (VA.k (kint .i64) s2))] (OpSpec.run rfl rfl (op_move rfl (.t NL.h0)) rfl) (.cons (has rfl) .nil) (by kernel_rfl) (.cons [(none, Ent.t 9 (VA.k (kint .i64) s2))] (OpSpec.run rfl rfl (op_move rfl (.t NL.h0)) rfl) (.cons (has rfl) .nil) (by kernel_rfl) (.cons [(none, Ent.t 8 (VA.k (kint .i64) (a0.length : Int)))] (OpSpec.run rfl rfl (op_move rfl (.t NL.h0)) rfl) (.cons (has rfl) .nil) (by kernel_rfl) (.cons [(some 1, Ent.t 36 (VA.k (kint .i64) s2)), (some 2, Ent.t 37 (VA.k (kint .i64) (a0.length : Int)))] (OpSpec.run rfl rfl (op_icmp rfl rfl (.t NL.h0) (.t (NL.hs NL.h0))) rfl) (.cons (has rfl) (.cons (has rfl) .nil)) (by kernel_rfl) (.cons [(some 3, Ent.t 38 (VA.k kbool (icmp .lss s2 (a0.length : Int))))] (OpSpec.run rfl rfl (op_move rfl (.t NL.h0)) rfl) (.cons (has rfl) .nil) (by kernel_rfl) (.cons [(some 4, Ent.t 39 (VA.k kbool (icmp .lss s2 (a0.length : Int)))), (none, Ent.t 2 (VA.clo F2 pre2 caps2))] (OpSpec.runG rfl rfl rfl rfl NL.h0 hb12 (op_moveA rfl plain_clo (.t (NL.hs NL.h0))) rfl) (.cons (has rfl) (.cons (has rfl) .nil)) (by kernel_rfl) (.cons [(some 4, Ent.t 39 (VA.k kbool (icmp .lss s2 (a0.length : Int)))), (none, Ent.t 0 (VA.k (kslice kMacro) a0))] (OpSpec.runG rfl rfl rfl rfl NL.h0 hb12 (op_move rfl (.t (NL.hs NL.h0))) rfl) (.cons (has rfl) (.cons (has rfl) .nil)) (by kernel_rfl) (.cons [(some 4, Ent.t 39 (VA.k kbool (icmp .lss s2 (a0.length : Int)))), (none, Ent.t 9 (VA.k (kint .i64) s2))] (OpSpec.runG rfl rfl rfl rfl NL.h0 hb12 (op_move rfl (.t (NL.hs NL.h0))) rfl) (.cons (has rfl) (.cons (has rfl) .nil)) (by kernel_rfl) (.cons [(some 4, Ent.t 39 (VA.k kbool (icmp .lss s2 (a0.length : Int)))), (some 6, Ent.t 41 (VA.k (kslice kMacro) a0)), (some 7, Ent.t 42 (VA.k (kint .i64) s2))] (OpSpec.runG rfl rfl rfl rfl NL.h0 hb12 (op_indexAddr rfl Try.underlying22 tk30 h14 (.t (NL.hs NL.h0)) (.t (NL.hs (NL.hs NL.h0)))) rfl) (.cons (has rfl) (.cons (has rfl) (.cons (has rfl) .nil))) (by kernel_rfl) (.cons [(some 4, Ent.t 39 (VA.k kbool (icmp .lss s2 (a0.length : Int)))), (some 8, Ent.t 43 (VA.pt kMacro x13))] (OpSpec.runG rfl rfl rfl rfl NL.h0 hb12 (op_loadp rfl tk30 (.t (NL.hs NL.h0))) rfl) (.cons (has rfl) (.cons (has rfl) .nil)) (by kernel_rfl) (.cons [(some 4, Ent.t 39 (VA.k kbool (icmp .lss s2 (a0.length : Int)))), (none, Ent.t 4 (VA.ptr 4 0)), (none, Ent.h 4 (HE.box 30 kMacro a1))] (OpSpec.runG rfl rfl rfl rfl NL.h0 hb12 (op_load rfl (Fld.whole kMacro) tk30 (.t (NL.hs NL.h0)) (NL.hs (NL.hs NL.h0))) rfl) (.cons (has rfl) (.cons (has rfl) (.cons (has rfl) .nil))) (by kernel_rfl) (.cons [(some 4, Ent.t 39 (VA.k kbool (icmp .lss s2 (a0.length : Int)))), (some 9, Ent.t 44 (VA.k kMacro x13)), (some 10, Ent.t 45 (VA.k kMacro a1)), (some 5, Ent.t 40 (VA.clo F2 pre2 caps2))] (OpSpec.runG rfl rfl rfl rfl NL.h0 hb12 (op_callv rfl (.t (NL.hs (NL.hs (NL.hs NL.h0)))) hE2 (hp2 _ _ _ h16) rfl (.cons (ArgP.k (.t (NL.hs NL.h0))) (.cons (ArgP.k (.t (NL.hs (NL.hs NL.h0)))) .nil))) rfl) (.cons (has rfl) (.cons (has rfl) (.cons (has rfl) (.cons (has rfl) .nil)))) (by kernel_rfl) (.cons [(some 4, Ent.t 39 (VA.k kbool (icmp .lss s2 (a0.length : Int)))), (some 11, Ent.t 46 (VA.k (kint .i64) v15))] (OpSpec.runG rfl rfl rfl rfl NL.h0 hb12 (op_icmp rfl rfl (.t (NL.hs NL.h0)) (.int _ _)) rfl) (.cons (has rfl) (.cons (has rfl) .nil)) (by kernel_rfl) (.cons [(some 4, Ent.t 39 (VA.k kbool (icmp .lss s2 (a0.length : Int)))), (some 12, Ent.t 47 (VA.k kbool (icmp .eql v15 (0 : Int))))] (OpSpec.run rfl rfl (op_pick_t rfl hb12 (.t NL.h0) (.t (NL.hs NL.h0))) rfl) (.cons (has rfl) (.cons (has rfl) .nil)) (by kernel_rfl) (.cons [(some 0, Ent.t 35 (VA.k (kint .i64) s2))] (OpSpec.run rfl rfl (op_assign rfl (.t NL.h0)) rfl) (.cons (has rfl) .nil) (by kernel_rfl) (.cons [(some 13, Ent.t 48 (VA.k kbool (icmp .eql v15 (0 : Int))))] (OpSpec.run rfl rfl (op_assign rfl (.t NL.h0)) rfl) (.cons (has rfl) .nil) (by kernel_rfl) (.nil _))))))))))))))))) ?_
      refine ends_sub [Ent.t 6 (VA.k (kint .i64) s2), Ent.t 7 (VA.k kbool (icmp .eql v15 (0 : Int)))] (.cons rfl (.cons rfl .nil)) ?_
      obtain rfl := Option.some.inj H
      exact ends_cut (.cons rfl (.cons rfl .nil))
    · skip
      refine goes_drawn [[Ent.t 35 (VA.k (kint .i64) s2)], [Ent.t 36 (VA.k (kint .i64) s2)], [Ent.t 37 (VA.k (kint .i64) (a0.length : Int))], [Ent.t 38 (VA.k kbool (icmp .lss s2 (a0.length : Int)))], [Ent.t 39 (VA.k kbool (icmp .lss s2 (a0.length : Int)))], [Ent.t 40 (VA.v undef)], [Ent.t 41 (VA.v undef)], [Ent.t 42 (VA.v undef)], [Ent.t 43 (VA.v undef)], [Ent.t 44 (VA.v undef)], [Ent.t 45 (VA.v undef)], [Ent.t 46 (VA.v undef)], [Ent.t 47 (VA.v undef)], [Ent.t 48 (VA.k kbool false)], [Ent.t 6 (VA.k (kint .i64) s2)], [Ent.t 7 (VA.k kbool false)]] mixed (by kernel_rfl) (by kernel_rfl) (.cons [(none, Ent.t 9 (VA.k (kint .i64) s2))] (OpSpec.run rfl rfl (op_move rfl (.t NL.h0)) rfl) (.cons (has rfl) .nil) (by kernel_rfl) (.cons [(none, Ent.t 9 (VA.k (kint .i64) s2))] (OpSpec.run rfl rfl (op_move rfl (.t NL.h0)) rfl) (.cons (has rfl) .nil) (by kernel_rfl) (.cons [(none, Ent.t 8 (VA.k (kint .i64) (a0.length : Int)))] (OpSpec.run rfl rfl (op_move rfl (.t NL.h0)) rfl) (.cons (has rfl) .nil) (by kernel_rfl) (.cons [(some 1, Ent.t 36 (VA.k (kint .i64) s2)), (some 2, Ent.t 37 (VA.k (kint .i64) (a0.length : Int)))] (OpSpec.run rfl rfl (op_icmp rfl rfl (.t NL.h0) (.t (NL.hs NL.h0))) rfl) (.cons (has rfl) (.cons (has rfl) .nil)) (by kernel_rfl) (.cons [(some 3, Ent.t 38 (VA.k kbool (icmp .lss s2 (a0.length : Int))))] (OpSpec.run rfl rfl (op_move rfl (.t NL.h0)) rfl) (.cons (has rfl) .nil) (by kernel_rfl) (.cons [(some 4, Ent.t 39 (VA.k kbool (icmp .lss s2 (a0.length : Int))))] (run_skip rfl rfl rfl rfl rfl rfl NL.h0 hb12) (.cons (has rfl) .nil) (by kernel_rfl) (.cons [(some 4, Ent.t 39 (VA.k kbool (icmp .lss s2 (a0.length : Int))))] (run_skip rfl rfl rfl rfl rfl rfl NL.h0 hb12) (.cons (has rfl) .nil) (by kernel_rfl) (.cons [(some 4, Ent.t 39 (VA.k kbool (icmp .lss s2 (a0.length : Int))))] (run_skip rfl rfl rfl rfl rfl rfl NL.h0 hb12) (.cons (has rfl) .nil) (by kernel_rfl) (.cons [(some 4, Ent.t 39 (VA.k kbool (icmp .lss s2 (a0.length : Int))))] (run_skip rfl rfl rfl rfl rfl rfl NL.h0 hb12) (.cons (has rfl) .nil) (by kernel_rfl) (.cons [(some 4, Ent.t 39 (VA.k kbool (icmp .lss s2 (a0.length : Int))))] (run_skip rfl rfl rfl rfl rfl rfl NL.h0 hb12) (.cons (has rfl) .nil) (by kernel_rfl) (.cons [(some 4, Ent.t 39 (VA.k kbool (icmp .lss s2 (a0.length : Int))))] (run_skip rfl rfl rfl rfl rfl rfl NL.h0 hb12) (.cons (has rfl) .nil) (by kernel_rfl) (.cons [(some 4, Ent.t 39 (VA.k kbool (icmp .lss s2 (a0.length : Int))))] (run_skip rfl rfl rfl rfl rfl rfl NL.h0 hb12) (.cons (has rfl) .nil) (by kernel_rfl) (.cons [(some 4, Ent.t 39 (VA.k kbool (icmp .lss s2 (a0.length : Int))))] (run_skip rfl rfl rfl rfl rfl rfl NL.h0 hb12) (.cons (has rfl) .nil) (by kernel_rfl) (.cons [(some 4, Ent.t 39 (VA.k kbool (icmp .lss s2 (a0.length : Int))))] (OpSpec.run rfl rfl (op_pick_f rfl hb12 (.t NL.h0) (.bool _)) rfl) (.cons (has rfl) .nil) (by kernel_rfl) (.cons [(some 0, Ent.t 35 (VA.k (kint .i64) s2))] (OpSpec.run rfl rfl (op_assign rfl (.t NL.h0)) rfl) (.cons (has rfl) .nil) (by kernel_rfl) (.cons [(some 13, Ent.t 48 (VA.k kbool false))] (OpSpec.run rfl rfl (op_assign rfl (.t NL.h0)) rfl) (.cons (has rfl) .nil) (by kernel_rfl) (.nil _))))))))))))))))) ?_
      refine ends_sub [Ent.t 6 (VA.k (kint .i64) s2), Ent.t 7 (VA.k kbool false)] (.cons rfl (.cons rfl .nil)) ?_
      obtain rfl := Option.some.inj H
      exact ends_cut (.cons rfl (.cons rfl .nil))
  refine ends_then ?_
  obtain rfl := Option.some.inj H
  exact goes_ret (ends_ret' rfl rfl (.t rfl (.t rfl (.nil _))))
theorem slices_BinarySearchFunc_api_Macro_api_Macro_api_Macro.conF (F2 : FuncId) (pre2 caps2 : List VA) (k : Nat) (a0 : List Macro) (a1 : Macro) (a2 : Macro → Macro → Option Int) (hE2 : Enters Try.prog F2) (hp2 : ∀ (z0 : Macro) (z1 : Macro) r, a2 z0 z1 = some r → Con Try.prog F2 (pre2 ++ ([VA.k kMacro z0, VA.k kMacro z1] ++ caps2)) [VA.k (kint .i64) r]) (r : Int × Bool) (H : slices_BinarySearchFunc_api_Macro_api_Macro_api_Macro.f k a0 a1 a2 = some r) : ConF Try.prog 47 [VA.k (kslice kMacro) a0, VA.k kMacro a1, VA.clo F2 pre2 caps2] [VA.k (kint .i64) r.1, VA.k kbool r.2] := (slices_BinarySearchFunc_api_Macro_api_Macro_api_Macro.con F2 pre2 caps2 k a0 a1 a2 hE2 hp2 r H).freeL (.cons (KFree.k (KFree.int .i64) _) (.cons (KFree.k KFree.bool _) .nil))
/-! smithy/macro.find -/
def macro_find.f (k : Nat) (a0 : List Macro) (a1 : ByteArray) : Option (Int × Bool) := (slices_BinarySearchFunc_api_Macro_api_Macro_api_Macro.f k a0 (⟨a1, ByteArray.empty, (0 : Int)⟩ : Macro) (fun (z0 : Macro) (z1 : Macro) => macro_byName.f z0 z1)).bind fun v1 => some (v1.1, v1.2)
set_option maxRecDepth 100000 in
set_option maxHeartbeats 4000000 in
theorem macro_find.con (k : Nat) (a0 : List Macro) (a1 : ByteArray) (r : Int × Bool) (H : macro_find.f k a0 a1 = some r) : Con Try.prog 34 [VA.k (kslice kMacro) a0, VA.k kstr a1] [VA.k (kint .i64) r.1, VA.k kbool r.2] := by
  unfold macro_find.f at H
  refine con_enter Try.func34 rfl rfl rfl (fun w0 S0 θ => ?_)
  refine goes_seq ?_
  refine goes_region ?_
  refine go1 (op_assign rfl (.int _ _)) rfl ?_
  refine go1 (op_assign rfl (.bool _)) rfl ?_
  refine goesO_nil ?_
  refine ends_then ?_
  refine goes_seq ?_
  refine goes_region ?_
  refine go1 (op_move rfl (.t (has rfl))) rfl ?_
  refine go1 (op_move rfl (.t (has rfl))) rfl ?_
  refine go1 (op_build (pl := [(0, 1), (1, 1), (2, 1)]) rfl rfl Try.underlying30 (by kernel_rfl) zk30 (.cons rfl tk9 fldMacro_Name (.t (has rfl)) (.nil _))) rfl ?_
  obtain ⟨v1, h2, H⟩ := bind_some H
  refine goN (op_calls' rfl enters47 (slices_BinarySearchFunc_api_Macro_api_Macro_api_Macro.con 29 ([]) ([]) _ _ _ (fun (z0 : Macro) (z1 : Macro) => macro_byName.f z0 z1) enters29 (fun z0 z1 r h => macro_byName.con z0 z1 r h) _ h2) rfl rfl (.cons (ArgP.k (.t (has rfl))) (.cons (ArgP.k (.t (has rfl))) (.cons ArgP.fn .nil)))) rfl ?_
  refine go1 (op_extract rfl plain_k (has rfl)) rfl ?_
  refine go1 (op_extract rfl plain_k (has rfl)) rfl ?_
  refine go1 (op_assign rfl (.t (has rfl))) rfl ?_
  refine go1 (op_assign rfl (.t (has rfl))) rfl ?_
  refine goesO_nil ?_
  refine ends_then ?_
  obtain rfl := Option.some.inj H
  exact goes_ret (ends_ret' rfl rfl (.t rfl (.t rfl (.nil _))))
theorem macro_find.conF (k : Nat) (a0 : List Macro) (a1 : ByteArray) (r : Int × Bool) (H : macro_find.f k a0 a1 = some r) : ConF Try.prog 34 [VA.k (kslice kMacro) a0, VA.k kstr a1] [VA.k (kint .i64) r.1, VA.k kbool r.2] := (macro_find.con k a0 a1 r H).freeL (.cons (KFree.k (KFree.int .i64) _) (.cons (KFree.k KFree.bool _) .nil))
/-! slices.Insert[[]smithy/api.Macro,smithy/api.Macro] -/
def slices_Insert_api_Macro_api_Macro.f (a0 : List Macro) (a1 : Int) (a2 : List Macro) : Option (List Macro) := match a2 with
  | [y] => bif decide (0 ≤ a1) && decide (a1 ≤ (a0.length : Int)) && room 40 (a0.length + 1) then some (a0.take a1.toNat ++ y :: a0.drop a1.toNat) else none
  | _ => none
theorem insAt30 : InsAt Try.prog 35 22 30 where
  cells := Ins30.insert_cells
  shift := Ins30.insert_shift30
  grow := Ins30.insert_grow30
  last := Ins30.insert_end30
theorem slices_Insert_api_Macro_api_Macro.con (a0 : List Macro) (a1 : Int) (a2 : List Macro) (r : List Macro) (H : slices_Insert_api_Macro_api_Macro.f a0 a1 a2 = some r) : ConE Try.prog 35 [] [Ent.r 900 30 kMacro a0, Ent.r 902 30 kMacro a2] [VA.rw 900 (a0).length, VA.k (kint .i64) a1, VA.rw 902 (a2).length] [VA.own 30 kMacro r] [] := by
  unfold slices_Insert_api_Macro_api_Macro.f at H
  match a2, H with
  | [y], H =>
    simp only at H
    cases hb : (decide (0 ≤ a1) && decide (a1 ≤ (a0.length : Int)) && room 40 (a0.length + 1)) with
    | false => rw [hb] at H; cases H
    | true =>
      rw [hb, cond_true] at H
      obtain rfl := Option.some.inj H
      simp only [Bool.and_eq_true, decide_eq_true_eq] at hb
      exact conE_insert insAt30 at22 kfreeMacro rfl a0 a1 y hb.1.1 hb.1.2 hb.2
theorem slices_Insert_api_Macro_api_Macro.conF (a0 : List Macro) (a1 : Int) (a2 : List Macro) (r : List Macro) (H : slices_Insert_api_Macro_api_Macro.f a0 a1 a2 = some r) : ConEF Try.prog 35 [] [Ent.r 900 30 kMacro a0, Ent.r 902 30 kMacro a2] [VA.rw 900 (a0).length, VA.k (kint .i64) a1, VA.rw 902 (a2).length] [VA.own 30 kMacro r] [] := (slices_Insert_api_Macro_api_Macro.con a0 a1 a2 r H).freeL (.cons (KFree.own kfreeMacro _ _) .nil) (fun e he => by cases he)
/-! smithy/macro.Define -/
def macro_Define.f (k : Nat) (a0 : List Macro) (a1 : Macro) : Option ((List Macro) × Int) := (macro_Check.f k a0).bind fun v1 => bif icmp .neq v1 (0 : Int) then (some (([] : List Macro), v1)) else ((macro_one.f k a1).bind fun v4 => bif icmp .neq v4 (0 : Int) then (some (([] : List Macro), v4)) else ((slices_Clone_api_Macro_api_Macro.f a0).bind fun v7 => (macro_find.f k v7 a1.Name).bind fun v9 => ((bif v9.2 then ((idx v7 v9.1).bind fun x17 => some (icmp .gtr x17.Level a1.Level)) else (some false)).bind fun s14 => bif s14 then (some (Except.ok v7)) else (bif v9.2 then ((idx v7 v9.1).bind fun x21 => some (Except.ok (v7.set v9.1.toNat a1))) else (bif icmp .geq (a0.length : Int) (256 : Int) then (some (Except.error (([] : List Macro), (2 : Int)))) else ((slices_Insert_api_Macro_api_Macro.f v7 v9.1 ([a1])).bind fun v24 => some (Except.ok v24))))).bind fun o13 => match o13 with | .error r' => some r' | .ok s11 => (some (s11, (0 : Int)))))
set_option maxRecDepth 100000 in
set_option maxHeartbeats 4000000 in
theorem macro_Define.con (k : Nat) (a0 : List Macro) (a1 : Macro) (r : (List Macro) × Int) (H : macro_Define.f k a0 a1 = some r) : Con Try.prog 16 [VA.k (kslice kMacro) a0, VA.k kMacro a1] [VA.own 30 kMacro r.1, VA.k (kint .i64) r.2] := by
  unfold macro_Define.f at H
  refine con_enter Try.func16 rfl rfl rfl (fun w0 S0 θ => ?_)
  refine goes_seq ?_
  refine goes_region ?_
  refine go3 (op_box 3 rfl (fun h => by first | rfl | cases h) (.t (has rfl))) rfl ?_
  refine go1 (op_assign_nil 30 kMacro (.inr rfl) rfl) rfl ?_
  refine go1 (op_assign rfl (.int _ _)) rfl ?_
  refine goesO_nil ?_
  refine ends_then ?_
  refine goes_seq ?_
  refine goes_seq ?_
  refine goes_region ?_
  refine go1 (op_move rfl (.t (has rfl))) rfl ?_
  obtain ⟨v1, h2, H⟩ := bind_some H
  refine go1 (op_call' rfl enters10 (macro_Check.con _ _ _ h2) rfl (.cons (ArgP.k (.t (has rfl))) .nil)) rfl ?_
  refine go1 (op_assign rfl (.t (has rfl))) rfl ?_
  refine goesO_nil ?_
  refine ends_then ?_
  refine goes_seq ?_
  refine goes_region ?_
  refine go1 (op_move rfl (.t (has rfl))) rfl ?_
  refine go1 (op_icmp rfl rfl (.t (has rfl)) (.int _ _)) rfl ?_
  refine goesO_nil ?_
  refine ends_then ?_
  refine goes_if (.t (has rfl)) H (fun hb3 H => ?_) (fun hb3 H => ?_)
  · skip
    refine goes_seq ?_
    refine goes_region ?_
    refine go1 (op_move rfl (.t (has rfl))) rfl ?_
    refine go1 (op_assign_nil 30 kMacro (.inr rfl) rfl) rfl ?_
    refine go1 (op_assign rfl (.t (has rfl))) rfl ?_
    refine goesO_nil ?_
    refine ends_then ?_
    obtain rfl := Option.some.inj H
    exact goes_ret (ends_then_ret (ends_ret' rfl rfl (.t rfl (.t rfl (.nil _)))))
  · skip
    refine goes_skip ?_
    refine ends_then ?_
    refine goes_seq ?_
    refine goes_seq ?_
    refine goes_region ?_
    refine go1 (op_load rfl (Fld.whole kMacro) tk30 (.t (has rfl)) (has rfl)) rfl ?_
    obtain ⟨v4, h5, H⟩ := bind_some H
    refine go1 (op_call' rfl enters28 (macro_one.con _ _ _ h5) rfl (.cons (ArgP.k (.t (has rfl))) .nil)) rfl ?_
    refine go1 (op_assign rfl (.t (has rfl))) rfl ?_
    refine goesO_nil ?_
    refine ends_then ?_
    refine goes_seq ?_
    refine goes_region ?_
    refine go1 (op_move rfl (.t (has rfl))) rfl ?_
    refine go1 (op_icmp rfl rfl (.t (has rfl)) (.int _ _)) rfl ?_
    refine goesO_nil ?_
    refine ends_then ?_
    refine goes_if (.t (has rfl)) H (fun hb6 H => ?_) (fun hb6 H => ?_)
    · skip
      refine goes_seq ?_
      refine goes_region ?_
      refine go1 (op_move rfl (.t (has rfl))) rfl ?_
      refine go1 (op_assign_nil 30 kMacro (.inr rfl) rfl) rfl ?_
      refine go1 (op_assign rfl (.t (has rfl))) rfl ?_
      refine goesO_nil ?_
      refine ends_then ?_
      obtain rfl := Option.some.inj H
      exact goes_ret (ends_then_ret (ends_ret' rfl rfl (.t rfl (.t rfl (.nil _)))))
    · skip
      refine goes_skip ?_
      refine ends_then ?_
      refine goes_seq ?_
      refine goes_region ?_
      refine go1 (op_move rfl (.t (has rfl))) rfl ?_
      obtain ⟨v7, h8, H⟩ := bind_some H
      refine go1 (op_call' rfl enters33 (slices_Clone_api_Macro_api_Macro.con _ _ h8) rfl (.cons (ArgP.k (.t (has rfl))) .nil)) rfl ?_
      refine go2 (op_mv (.inr rfl) rfl rfl (has rfl)) rfl ?_
      refine goesO_nil ?_
      refine ends_then ?_
      refine goes_seq ?_
      refine goes_region ?_
      refine go1 (op_same (.inl rfl) rfl rfl) rfl ?_
      refine go1 (op_fieldAddr rfl Try.underlying30 rfl tk9 (.t (has rfl))) rfl ?_
      refine go1 (op_load rfl fldMacro_Name tk9 (.t (has rfl)) (has rfl)) rfl ?_
      obtain ⟨v9, h10, H⟩ := bind_some H
      refine goN (op_callsF' rfl enters34 (macro_find.conF _ _ _ _ h10) rfl rfl (.cons (ArgB.owns rfl (has rfl) (has rfl)) (.cons (ArgB.k (.t (has rfl))) .nil))) rfl ?_
      refine go1 (op_same (.inl rfl) rfl rfl) rfl ?_
      refine go1 (op_extract_same rfl plain_k (has rfl) (has rfl)) rfl ?_
      refine go1 (op_extract_same rfl plain_k (has rfl) (has rfl)) rfl ?_
      refine go1 (op_assign rfl (.t (has rfl))) rfl ?_
      refine go1 (op_assign rfl (.t (has rfl))) rfl ?_
      refine goesO_nil ?_
      refine ends_then ?_
      refine goes_seq ?_
      obtain ⟨o13, h12, H⟩ := bind_some H
      refine goes_cutR (o := o13) (fun s11 : (List Macro) => [Ent.t 8 (VA.own 30 kMacro s11)]) (fun r a w => bodyPost Try.prog Try.f16 (CPost w0 S0 θ [VA.own 30 kMacro r.1, VA.k (kint .i64) r.2]) .ret a w) ?_ ?_ ?_
      · replace H := h12; clear h12
        refine goes_block ?_
        refine goes_seq ?_
        obtain ⟨s14, h15, H⟩ := bind_some H
        refine goes_cut [Ent.t 0 (VA.k (kslice kMacro) a0), Ent.t 3 (VA.ptr 3 0), Ent.t 8 (VA.own 30 kMacro v7), Ent.t 9 (VA.k (kint .i64) v9.1), Ent.t 10 (VA.k kbool v9.2), Ent.t 35 (VA.k kbool s14), Ent.h 3 (HE.box 30 kMacro a1)] ?_ ?_
        · replace H := h15; clear h15
          refine goes_split H (fun hb16 H => ?_) (fun hb16 H => ?_)
          · skip
            obtain ⟨x17, h18, H⟩ := bind_some H
            refine goes_drawn [[Ent.t 36 (VA.k kbool v9.2)], [Ent.t 37 (VA.k kbool v9.2)], [Ent.same 38 8], [Ent.t 39 (VA.k (kint .i64) v9.1)], [Ent.oe 40 8 (v9.1.toNat * kMacro.sz)], [Ent.oe 41 8 (v9.1.toNat * kMacro.sz + 2)], [Ent.t 42 (VA.k (kint .i64) x17.Level)], [Ent.t 43 (VA.ptr 3 2)], [Ent.t 44 (VA.k (kint .i64) a1.Level)], [Ent.t 45 (VA.k kbool (icmp .gtr x17.Level a1.Level))], [Ent.t 46 (VA.k kbool (icmp .gtr x17.Level a1.Level))], [Ent.t 35 (VA.k kbool (icmp .gtr x17.Level a1.Level))]] mixed (by kernel_rfl) (by kernel_rfl) (.cons [(none, Ent.t 10 (VA.k kbool v9.2))] (OpSpec.run rfl rfl (op_move rfl (.t NL.h0)) rfl) (.cons (has rfl) .nil) (by kernel_rfl) (.cons [(some 0, Ent.t 36 (VA.k kbool v9.2))] (OpSpec.run rfl rfl (op_move rfl (.t NL.h0)) rfl) (.cons (has rfl) .nil) (by kernel_rfl) (.cons [(some 1, Ent.t 37 (VA.k kbool v9.2))] (OpSpec.runG rfl rfl rfl rfl NL.h0 hb16 (op_same (.inl rfl) rfl rfl) rfl) (.cons (has rfl) .nil) (by kernel_rfl) (.cons [(some 1, Ent.t 37 (VA.k kbool v9.2)), (none, Ent.t 9 (VA.k (kint .i64) v9.1))] (OpSpec.runG rfl rfl rfl rfl NL.h0 hb16 (op_move rfl (.t (NL.hs NL.h0))) rfl) (.cons (has rfl) (.cons (has rfl) .nil)) (by kernel_rfl) (.cons [(some 1, Ent.t 37 (VA.k kbool v9.2)), (some 3, Ent.t 39 (VA.k (kint .i64) v9.1)), (some 2, Ent.same 38 8), (none, Ent.t 8 (VA.own 30 kMacro v7))] (OpSpec.runG rfl rfl rfl rfl NL.h0 hb16 (op_indexAddr_own rfl rfl Try.underlying22 tk30 h18 (.same (NL.hs (NL.hs NL.h0))) (NL.hs (NL.hs (NL.hs NL.h0))) (.t (NL.hs NL.h0))) rfl) (.cons (has rfl) (.cons (has rfl) (.cons (has rfl) (.cons (has rfl) .nil)))) (by kernel_rfl) (.cons [(some 1, Ent.t 37 (VA.k kbool v9.2)), (some 4, Ent.oe 40 8 (v9.1.toNat * kMacro.sz))] (OpSpec.runG rfl rfl rfl rfl NL.h0 hb16 (op_fieldAddr_oe rfl rfl Try.underlying30 rfl tk3 (NL.hs NL.h0)) rfl) (.cons (has rfl) (.cons (has rfl) .nil)) (by kernel_rfl) (.cons [(some 1, Ent.t 37 (VA.k kbool v9.2)), (none, Ent.t 8 (VA.own 30 kMacro v7)), (some 5, Ent.oe 41 8 (v9.1.toNat * kMacro.sz + 2))] (OpSpec.runG rfl rfl rfl rfl NL.h0 hb16 (op_load_oe (off := 2) rfl fldMacro_Level tk3 h18 (NL.hs NL.h0) (NL.hs (NL.hs NL.h0))) rfl) (.cons (has rfl) (.cons (has rfl) (.cons (has rfl) .nil))) (by kernel_rfl) (.cons [(some 1, Ent.t 37 (VA.k kbool v9.2)), (none, Ent.t 3 (VA.ptr 3 0))] (OpSpec.runG rfl rfl rfl rfl NL.h0 hb16 (op_fieldAddr rfl Try.underlying30 rfl tk3 (.t (NL.hs NL.h0))) rfl) (.cons (has rfl) (.cons (has rfl) .nil)) (by kernel_rfl) (.cons [(some 1, Ent.t 37 (VA.k kbool v9.2)), (some 7, Ent.t 43 (VA.ptr 3 2)), (none, Ent.h 3 (HE.box 30 kMacro a1))] (OpSpec.runG rfl rfl rfl rfl NL.h0 hb16 (op_load rfl fldMacro_Level tk3 (.t (NL.hs NL.h0)) (NL.hs (NL.hs NL.h0))) rfl) (.cons (has rfl) (.cons (has rfl) (.cons (has rfl) .nil))) (by kernel_rfl) (.cons [(some 1, Ent.t 37 (VA.k kbool v9.2)), (some 6, Ent.t 42 (VA.k (kint .i64) x17.Level)), (some 8, Ent.t 44 (VA.k (kint .i64) a1.Level))] (OpSpec.runG rfl rfl rfl rfl NL.h0 hb16 (op_icmp rfl rfl (.t (NL.hs NL.h0)) (.t (NL.hs (NL.hs NL.h0)))) rfl) (.cons (has rfl) (.cons (has rfl) (.cons (has rfl) .nil))) (by kernel_rfl) (.cons [(some 1, Ent.t 37 (VA.k kbool v9.2)), (some 9, Ent.t 45 (VA.k kbool (icmp .gtr x17.Level a1.Level)))] (OpSpec.run rfl rfl (op_pick_t rfl hb16 (.t NL.h0) (.t (NL.hs NL.h0))) rfl) (.cons (has rfl) (.cons (has rfl) .nil)) (by kernel_rfl) (.cons [(some 10, Ent.t 46 (VA.k kbool (icmp .gtr x17.Level a1.Level)))] (OpSpec.run rfl rfl (op_assign rfl (.t NL.h0)) rfl) (.cons (has rfl) .nil) (by kernel_rfl) (.nil _))))))))))))) ?_
            refine ends_sub [Ent.t 0 (VA.k (kslice kMacro) a0), Ent.t 3 (VA.ptr 3 0), Ent.t 8 (VA.own 30 kMacro v7), Ent.t 9 (VA.k (kint .i64) v9.1), Ent.t 10 (VA.k kbool v9.2), Ent.t 35 (VA.k kbool (icmp .gtr x17.Level a1.Level)), Ent.h 3 (HE.box 30 kMacro a1)] (.cons rfl (.cons rfl (.cons rfl (.cons rfl (.cons rfl (.cons rfl (.cons rfl .nil))))))) ?_
            obtain rfl := Option.some.inj H
            exact ends_cut (.cons rfl (.cons rfl (.cons rfl (.cons rfl (.cons rfl (.cons rfl (.cons rfl .nil)))))))
          · skip
            refine goes_drawn [[Ent.t 36 (VA.k kbool v9.2)], [Ent.t 37 (VA.k kbool v9.2)], [Ent.t 38 (VA.v undef)], [Ent.t 39 (VA.v undef)], [Ent.t 40 (VA.v undef)], [Ent.t 41 (VA.v undef)], [Ent.t 42 (VA.v undef)], [Ent.t 43 (VA.v undef)], [Ent.t 44 (VA.v undef)], [Ent.t 45 (VA.v undef)], [Ent.t 46 (VA.k kbool false)], [Ent.t 35 (VA.k kbool false)]] mixed (by kernel_rfl) (by kernel_rfl) (.cons [(none, Ent.t 10 (VA.k kbool v9.2))] (OpSpec.run rfl rfl (op_move rfl (.t NL.h0)) rfl) (.cons (has rfl) .nil) (by kernel_rfl) (.cons [(some 0, Ent.t 36 (VA.k kbool v9.2))] (OpSpec.run rfl rfl (op_move rfl (.t NL.h0)) rfl) (.cons (has rfl) .nil) (by kernel_rfl) (.cons [(some 1, Ent.t 37 (VA.k kbool v9.2))] (run_skip rfl rfl rfl rfl rfl rfl NL.h0 hb16) (.cons (has rfl) .nil) (by kernel_rfl) (.cons [(some 1, Ent.t 37 (VA.k kbool v9.2))] (run_skip rfl rfl rfl rfl rfl rfl NL.h0 hb16) (.cons (has rfl) .nil) (by kernel_rfl) (.cons [(some 1, Ent.t 37 (VA.k kbool v9.2))] (run_skip rfl rfl rfl rfl rfl rfl NL.h0 hb16) (.cons (has rfl) .nil) (by kernel_rfl) (.cons [(some 1, Ent.t 37 (VA.k kbool v9.2))] (run_skip rfl rfl rfl rfl rfl rfl NL.h0 hb16) (.cons (has rfl) .nil) (by kernel_rfl) (.cons [(some 1, Ent.t 37 (VA.k kbool v9.2))] (run_skip rfl rfl rfl rfl rfl rfl NL.h0 hb16) (.cons (has rfl) .nil) (by kernel_rfl) (.cons [(some 1, Ent.t 37 (VA.k kbool v9.2))] (run_skip rfl rfl rfl rfl rfl rfl NL.h0 hb16) (.cons (has rfl) .nil) (by kernel_rfl) (.cons [(some 1, Ent.t 37 (VA.k kbool v9.2))] (run_skip rfl rfl rfl rfl rfl rfl NL.h0 hb16) (.cons (has rfl) .nil) (by kernel_rfl) (.cons [(some 1, Ent.t 37 (VA.k kbool v9.2))] (run_skip rfl rfl rfl rfl rfl rfl NL.h0 hb16) (.cons (has rfl) .nil) (by kernel_rfl) (.cons [(some 1, Ent.t 37 (VA.k kbool v9.2))] (OpSpec.run rfl rfl (op_pick_f rfl hb16 (.t NL.h0) (.bool _)) rfl) (.cons (has rfl) .nil) (by kernel_rfl) (.cons [(some 10, Ent.t 46 (VA.k kbool false))] (OpSpec.run rfl rfl (op_assign rfl (.t NL.h0)) rfl) (.cons (has rfl) .nil) (by kernel_rfl) (.nil _))))))))))))) ?_
            refine ends_sub [Ent.t 0 (VA.k (kslice kMacro) a0), Ent.t 3 (VA.ptr 3 0), Ent.t 8 (VA.own 30 kMacro v7), Ent.t 9 (VA.k (kint .i64) v9.1), Ent.t 10 (VA.k kbool v9.2), Ent.t 35 (VA.k kbool false), Ent.h 3 (HE.box 30 kMacro a1)] (.cons rfl (.cons rfl (.cons rfl (.cons rfl (.cons rfl (.cons rfl (.cons rfl .nil))))))) ?_
            obtain rfl := Option.some.inj H
            exact ends_cut (.cons rfl (.cons rfl (.cons rfl (.cons rfl (.cons rfl (.cons rfl (.cons rfl .nil)))))))
        refine ends_then ?_
        refine goes_if (.t (has rfl)) H (fun hb19 H => ?_) (fun hb19 H => ?_)
        · skip
          refine goes_skip ?_
          refine ends_block ?_
          obtain rfl := Option.some.inj H
          exact ends_cutR rfl (.cons rfl .nil)
        · skip
          refine goes_seq ?_
          refine goes_region ?_
          refine go1 (op_move rfl (.t (has rfl))) rfl ?_
          refine go1 (op_assign rfl (.t (has rfl))) rfl ?_
          refine goesO_nil ?_
          refine ends_then ?_
          refine goes_if (.t (has rfl)) H (fun hb20 H => ?_) (fun hb20 H => ?_)
          · skip
            refine goes_region ?_
            refine go1 (op_same (.inl rfl) rfl rfl) rfl ?_
            refine go1 (op_move rfl (.t (has rfl))) rfl ?_
            refine go1 (op_load rfl (Fld.whole kMacro) tk30 (.t (has rfl)) (has rfl)) rfl ?_
            obtain ⟨x21, h22, H⟩ := bind_some H
            refine go1 (op_indexAddr_own rfl rfl Try.underlying22 tk30 h22 (.same (has rfl)) (has rfl) (.t (has rfl))) rfl ?_
            refine go1 (op_store_oe (off := 0) (Fld.whole kMacro) tk30 h22 (has rfl) (has rfl) (.t (has rfl))) rfl ?_
            refine goesO_nil ?_
            refine ends_block ?_
            obtain rfl := Option.some.inj H
            exact ends_cutR rfl (.cons rfl .nil)
          · skip
            refine goes_seq ?_
            refine goes_region ?_
            refine go1 (op_move rfl (.t (has rfl))) rfl ?_
            refine go1 (op_len rfl rfl Try.underlying22 (.t (has rfl))) rfl ?_
            refine go1 (op_icmp rfl rfl (.t (has rfl)) (.int _ _)) rfl ?_
            refine go1 (op_assign rfl (.t (has rfl))) rfl ?_
            refine goesO_nil ?_
            refine ends_then ?_
            refine goes_if (.t (has rfl)) H (fun hb23 H => ?_) (fun hb23 H => ?_)
            · skip
              refine goes_seq ?_
              refine goes_region ?_
              refine go1 (op_assign_nil 30 kMacro (.inr rfl) rfl) rfl ?_
              refine go1 (op_assign rfl (.int _ _)) rfl ?_
              refine goesO_nil ?_
              refine ends_then ?_
              obtain rfl := Option.some.inj H
              refine goes_ret (ends_block_ret (ends_cutR_ret rfl ?_))
              exact ends_ret' rfl rfl (.t rfl (.t rfl (.nil _)))
            · skip
              refine goes_region ?_
              refine goesO_number 8 900 rfl rfl rfl ?_
              refine go1 (op_moveA rfl plain_rw (.t (has rfl))) rfl ?_
              refine go1 (op_move rfl (.t (has rfl))) rfl ?_
              refine go1 (op_load rfl (Fld.whole kMacro) tk30 (.t (has rfl)) (has rfl)) rfl ?_
              refine go1 (op_buildSlice rfl at22 (fun h => by first | rfl | cases h) rfl rfl rfl (.cons (.t (has rfl)) (.nil _))) rfl ?_
              refine goesO_number 33 902 rfl rfl rfl ?_
              obtain ⟨v24, h25, H⟩ := bind_some H
              refine goN (op_callE [5000900, 5000902] [] rfl enters35 (slices_Insert_api_Macro_api_Macro.con _ _ _ _ h25) rfl (.cons (has rfl) (.cons (has rfl) .nil)) (.cons (ArgP.a plain_rw (.t (has rfl))) (.cons (ArgP.k (.t (has rfl))) (.cons (ArgP.a plain_rw (.t (has rfl))) .nil)))) rfl ?_
              refine go2 (op_mv (.inr rfl) rfl rfl (has rfl)) rfl ?_
              refine goesO_nil ?_
              refine ends_block ?_
              obtain rfl := Option.some.inj H
              exact ends_cutR rfl (.cons rfl .nil)
      · rintro s11 rfl
        clear h12
        dsimp only at H
        refine ends_then ?_
        refine goes_seq ?_
        refine goes_region ?_
        refine go2 (op_mv (.inl rfl) rfl rfl (has rfl)) rfl ?_
        refine go2 (op_mv (.inr rfl) rfl rfl (has rfl)) rfl ?_
        refine go1 (op_assign rfl (.int _ _)) rfl ?_
        refine goesO_nil ?_
        refine ends_then ?_
        obtain rfl := Option.some.inj H
        exact goes_ret (ends_ret' rfl rfl (.t rfl (.t rfl (.nil _))))
      · rintro r' rfl a w hr
        obtain rfl := Option.some.inj H
        exact hr
theorem macro_Define.conF (k : Nat) (a0 : List Macro) (a1 : Macro) (r : (List Macro) × Int) (H : macro_Define.f k a0 a1 = some r) : ConF Try.prog 16 [VA.k (kslice kMacro) a0, VA.k kMacro a1] [VA.own 30 kMacro r.1, VA.k (kint .i64) r.2] := (macro_Define.con k a0 a1 r H).freeL (.cons (KFree.own kfreeMacro _ _) (.cons (KFree.k (KFree.int .i64) _) .nil))
end Go.Proofs.Ytodogppelokapaa.F
