import Derived.Test.YtedgkcdofiildaaFWLx6
set_option linter.unusedVariables false
set_option linter.unusedSimpArgs false
set_option linter.unnecessarySimpa false
set_option linter.deprecated false
namespace Go.Proofs.Ytedgkcdofiildaa.F
open Go Go.RowKit Go.Proofs.Ytedgkcdofiildaa.Sl
/-! smithy/smithyref14.Fits -/
def smithyref14_Fits.l0 (a0 : Plan) (a1 : List ByteArray) : Nat → Int → Option (Except (Bool × Bool) Unit)
  | 0, _ => none
  | k + 1, s1 => bif icmp .lss s1 (a1.length : Int) then ((idx a1 s1).bind fun x6 => (smithyref12_Place.f k a0 x6).bind fun v8 => (idx a0.Nodes v8).bind fun x10 => ((sub a1 (0 : Int) s1).bind fun x14 => (idx a1 s1).bind fun x16 => (smithyref03_Has.f k x14 x16).bind fun v18 => bif v18 then (some true) else ((sub a1 (0 : Int) s1).bind fun x21 => (smithyref14_ready.f k x10 x21).bind fun v23 => some (!v23))).bind fun s12 => bif s12 then (some (Except.error (false, false))) else (smithyref14_Fits.l0 a0 a1 k (IntKind.i64.wrap (s1 + (1 : Int))))) else (some (Except.ok ()))
def smithyref14_Fits.f (k : Nat) (a0 : Plan) (a1 : List ByteArray) : Option (Bool × Bool) := (smithyref14_Fits.l0 a0 a1 k (0 : Int)).bind fun o4 => match o4 with | .error r' => some r' | .ok s2 => (some (true, icmp .eql (a1.length : Int) (a0.Nodes.length : Int)))
set_option maxRecDepth 100000 in
set_option maxHeartbeats 4000000 in
theorem smithyref14_Fits.con (k : Nat) (a0 : Plan) (a1 : List ByteArray) (r : Bool × Bool) (H : smithyref14_Fits.f k a0 a1 = some r) : Con Try.prog 14 [VA.k kPlan a0, VA.k (kslice kstr) a1] [VA.k kbool r.1, VA.k kbool r.2] := by
  unfold smithyref14_Fits.f at H
  refine con_enter Try.func14 rfl rfl rfl (fun w0 S0 θ => ?_)
  refine goes_seq ?_
  refine goes_region ?_
  refine go3 (op_box 2 rfl (fun h => by first | rfl | cases h) (.t (has rfl))) rfl ?_
  refine go1 (op_assign rfl (.bool _)) rfl ?_
  refine go1 (op_assign rfl (.bool _)) rfl ?_
  refine goesO_nil ?_
  refine ends_then ?_
  refine goes_seq ?_
  refine goes_seq ?_
  refine goes_region ?_
  refine go1 (op_assign rfl (.int _ _)) rfl ?_
  refine goesO_nil ?_
  refine ends_then ?_
  obtain ⟨o4, h3, H⟩ := bind_some H
  refine goes_cutR (o := o4) (fun s2 : Unit => [Ent.t 1 (VA.k (kslice kstr) a1), Ent.t 2 (VA.ptr 2 0), Ent.h 2 (HE.box 25 kPlan a0)]) (fun r a w => bodyPost Try.prog Try.f14 (CPost w0 S0 θ [VA.k kbool r.1, VA.k kbool r.2]) .ret a w) ?_ ?_ ?_
  · replace H := h3; clear h3
    refine goes_block ?_
    refine goes_loop (fun s1 : Int => [Ent.t 1 (VA.k (kslice kstr) a1), Ent.t 2 (VA.ptr 2 0), Ent.t 6 (VA.k (kint .i64) s1), Ent.h 2 (HE.box 25 kPlan a0)]) (fun k s1 => smithyref14_Fits.l0 a0 a1 k s1) (fun _ => rfl) H (.cons rfl (.cons rfl (.cons rfl (.cons rfl .nil)))) ?_
    intro k s1 H
    simp only [smithyref14_Fits.l0] at H
    refine goes_seq ?_
    refine goes_seq ?_
    refine goes_region ?_
    refine go1 (op_move rfl (.t (has rfl))) rfl ?_
    refine go1 (op_move rfl (.t (has rfl))) rfl ?_
    refine go1 (op_len rfl rfl Try.underlying23 (.t (has rfl))) rfl ?_
    refine go1 (op_icmp rfl rfl (.t (has rfl)) (.t (has rfl))) rfl ?_
    refine goesO_nil ?_
    refine ends_then ?_
    refine goes_if (.t (has rfl)) H (fun hb5 H => ?_) (fun hb5 H => ?_)
    · skip
      refine goes_skip ?_
      refine ends_then ?_
      refine goes_seq ?_
      refine goes_block ?_
      refine goes_seq ?_
      obtain ⟨x6, h7, H⟩ := bind_some H
      obtain ⟨v8, h9, H⟩ := bind_some H
      obtain ⟨x10, h11, H⟩ := bind_some H
      refine goes_drawn [[Ent.t 14 (VA.ptr 2 0)], [Ent.t 15 (VA.k (kslice kNode) a0.Nodes)], [Ent.t 16 (VA.k kPlan a0)], [Ent.t 17 (VA.k (kslice kstr) a1)], [Ent.t 18 (VA.k (kint .i64) s1)], [Ent.t 19 (VA.pt kstr x6)], [Ent.t 20 (VA.k kstr x6)], [Ent.t 21 (VA.k (kint .i64) v8)], [Ent.t 22 (VA.pt kNode x10)], [Ent.t 23 (VA.k kNode x10)], [Ent.t 7 (VA.ptr 7 0), Ent.h 7 (HE.box 48 kNode zeroNode), Ent.bind 7], [Ent.h 7 (HE.box 48 kNode x10)]] mixed (by kernel_rfl) (by kernel_rfl) (.cons [(none, Ent.t 2 (VA.ptr 2 0))] (OpSpec.run rfl rfl (op_fieldAddr rfl Try.underlying25 rfl tk22 (.t NL.h0)) rfl) (.cons (has rfl) .nil) (by kernel_rfl) (.cons [(some 0, Ent.t 14 (VA.ptr 2 0)), (none, Ent.h 2 (HE.box 25 kPlan a0))] (OpSpec.run rfl rfl (op_load rfl fldPlan_Nodes tk22 (.t NL.h0) (NL.hs NL.h0)) rfl) (.cons (has rfl) (.cons (has rfl) .nil)) (by kernel_rfl) (.cons [(none, Ent.t 2 (VA.ptr 2 0)), (none, Ent.h 2 (HE.box 25 kPlan a0))] (OpSpec.run rfl rfl (op_load rfl (Fld.whole kPlan) tk25 (.t NL.h0) (NL.hs NL.h0)) rfl) (.cons (has rfl) (.cons (has rfl) .nil)) (by kernel_rfl) (.cons [(none, Ent.t 1 (VA.k (kslice kstr) a1))] (OpSpec.run rfl rfl (op_move rfl (.t NL.h0)) rfl) (.cons (has rfl) .nil) (by kernel_rfl) (.cons [(none, Ent.t 6 (VA.k (kint .i64) s1))] (OpSpec.run rfl rfl (op_move rfl (.t NL.h0)) rfl) (.cons (has rfl) .nil) (by kernel_rfl) (.cons [(some 3, Ent.t 17 (VA.k (kslice kstr) a1)), (some 4, Ent.t 18 (VA.k (kint .i64) s1))] (OpSpec.run rfl rfl (op_indexAddr rfl Try.underlying23 tk9 h7 (.t NL.h0) (.t (NL.hs NL.h0))) rfl) (.cons (has rfl) (.cons (has rfl) .nil)) (by kernel_rfl) (.cons [(some 5, Ent.t 19 (VA.pt kstr x6))] (OpSpec.run rfl rfl (op_loadp rfl tk9 (.t NL.h0)) rfl) (.cons (has rfl) .nil) (by kernel_rfl) (.cons [(some 2, Ent.t 16 (VA.k kPlan a0)), (some 6, Ent.t 20 (VA.k kstr x6))] (OpSpec.run rfl rfl (op_call' rfl enters42 (smithyref12_Place.con _ _ _ _ h9) rfl (.cons (ArgP.k (.t NL.h0)) (.cons (ArgP.k (.t (NL.hs NL.h0))) .nil))) rfl) (.cons (has rfl) (.cons (has rfl) .nil)) (by kernel_rfl) (.cons [(some 1, Ent.t 15 (VA.k (kslice kNode) a0.Nodes)), (some 7, Ent.t 21 (VA.k (kint .i64) v8))] (OpSpec.run rfl rfl (op_indexAddr rfl Try.underlying22 tk48 h11 (.t NL.h0) (.t (NL.hs NL.h0))) rfl) (.cons (has rfl) (.cons (has rfl) .nil)) (by kernel_rfl) (.cons [(some 8, Ent.t 22 (VA.pt kNode x10))] (OpSpec.run rfl rfl (op_loadp rfl tk48 (.t NL.h0)) rfl) (.cons (has rfl) .nil) (by kernel_rfl) (.cons [] (OpSpec.run rfl rfl (op_alloc 7 rfl zk48) rfl) .nil (by kernel_rfl) (.cons [(some 10, Ent.t 7 (VA.ptr 7 0)), (some 9, Ent.t 23 (VA.k kNode x10)), (some 10, Ent.h 7 (HE.box 48 kNode zeroNode))] (OpSpec.run rfl rfl (op_store (Fld.whole kNode) tk48 (.t NL.h0) (NL.hs (NL.hs NL.h0)) (.t (NL.hs NL.h0))) rfl) (.cons (has rfl) (.cons (has rfl) (.cons (has rfl) .nil))) (by kernel_rfl) (.nil _))))))))))))) ?_
      refine ends_sub [Ent.t 1 (VA.k (kslice kstr) a1), Ent.t 2 (VA.ptr 2 0), Ent.t 6 (VA.k (kint .i64) s1), Ent.t 7 (VA.ptr 7 0), Ent.h 2 (HE.box 25 kPlan a0), Ent.h 7 (HE.box 48 kNode x10)] (.cons rfl (.cons rfl (.cons rfl (.cons rfl (.cons rfl (.cons rfl .nil)))))) ?_
      refine ends_then ?_
      refine goes_seq ?_
      obtain ⟨s12, h13, H⟩ := bind_some H
      refine goes_cut [Ent.t 1 (VA.k (kslice kstr) a1), Ent.t 2 (VA.ptr 2 0), Ent.t 6 (VA.k (kint .i64) s1), Ent.t 39 (VA.k kbool s12), Ent.h 2 (HE.box 25 kPlan a0)] ?_ ?_
      · replace H := h13; clear h13
        obtain ⟨x14, h15, H⟩ := bind_some H
        obtain ⟨x16, h17, H⟩ := bind_some H
        obtain ⟨v18, h19, H⟩ := bind_some H
        refine goes_split H (fun hb20 H => ?_) (fun hb20 H => ?_)
        · skip
          refine goes_drawn [[Ent.t 24 (VA.k (kslice kstr) a1)], [Ent.t 25 (VA.k (kint .i64) s1)], [Ent.t 26 (VA.k (kslice kstr) x14)], [Ent.t 27 (VA.k (kslice kstr) a1)], [Ent.t 28 (VA.k (kint .i64) s1)], [Ent.t 29 (VA.pt kstr x16)], [Ent.t 30 (VA.k kstr x16)], [Ent.t 31 (VA.k kbool v18)], [Ent.t 32 (VA.k kbool v18)], [Ent.t 33 (VA.v undef)], [Ent.t 34 (VA.v undef)], [Ent.t 35 (VA.v undef)], [Ent.t 36 (VA.v undef)], [Ent.t 37 (VA.v undef)], [Ent.t 38 (VA.v undef)], [Ent.t 39 (VA.k kbool true)]] mixed (by kernel_rfl) (by kernel_rfl) (.cons [(none, Ent.t 1 (VA.k (kslice kstr) a1))] (OpSpec.run rfl rfl (op_move rfl (.t NL.h0)) rfl) (.cons (has rfl) .nil) (by kernel_rfl) (.cons [(none, Ent.t 6 (VA.k (kint .i64) s1))] (OpSpec.run rfl rfl (op_move rfl (.t NL.h0)) rfl) (.cons (has rfl) .nil) (by kernel_rfl) (.cons [(some 0, Ent.t 24 (VA.k (kslice kstr) a1)), (some 1, Ent.t 25 (VA.k (kint .i64) s1))] (OpSpec.run rfl rfl (op_slice (l := none) (h := some _) rfl Try.underlying23 tk9 h15 (.t NL.h0) trivial (.t (NL.hs NL.h0))) rfl) (.cons (has rfl) (.cons (has rfl) .nil)) (by kernel_rfl) (.cons [(none, Ent.t 1 (VA.k (kslice kstr) a1))] (OpSpec.run rfl rfl (op_move rfl (.t NL.h0)) rfl) (.cons (has rfl) .nil) (by kernel_rfl) (.cons [(none, Ent.t 6 (VA.k (kint .i64) s1))] (OpSpec.run rfl rfl (op_move rfl (.t NL.h0)) rfl) (.cons (has rfl) .nil) (by kernel_rfl) (.cons [(some 3, Ent.t 27 (VA.k (kslice kstr) a1)), (some 4, Ent.t 28 (VA.k (kint .i64) s1))] (OpSpec.run rfl rfl (op_indexAddr rfl Try.underlying23 tk9 h17 (.t NL.h0) (.t (NL.hs NL.h0))) rfl) (.cons (has rfl) (.cons (has rfl) .nil)) (by kernel_rfl) (.cons [(some 5, Ent.t 29 (VA.pt kstr x16))] (OpSpec.run rfl rfl (op_loadp rfl tk9 (.t NL.h0)) rfl) (.cons (has rfl) .nil) (by kernel_rfl) (.cons [(some 2, Ent.t 26 (VA.k (kslice kstr) x14)), (some 6, Ent.t 30 (VA.k kstr x16))] (OpSpec.run rfl rfl (op_call' rfl enters33 (smithyref03_Has.con _ _ _ _ h19) rfl (.cons (ArgP.k (.t NL.h0)) (.cons (ArgP.k (.t (NL.hs NL.h0))) .nil))) rfl) (.cons (has rfl) (.cons (has rfl) .nil)) (by kernel_rfl) (.cons [(some 7, Ent.t 31 (VA.k kbool v18))] (OpSpec.run rfl rfl (op_move rfl (.t NL.h0)) rfl) (.cons (has rfl) .nil) (by kernel_rfl) (.cons [(some 8, Ent.t 32 (VA.k kbool v18))] (run_skip rfl rfl rfl rfl rfl rfl NL.h0 hb20) (.cons (has rfl) .nil) (by kernel_rfl) (.cons [(some 8, Ent.t 32 (VA.k kbool v18))] (run_skip rfl rfl rfl rfl rfl rfl NL.h0 hb20) (.cons (has rfl) .nil) (by kernel_rfl) (.cons [(some 8, Ent.t 32 (VA.k kbool v18))] (run_skip rfl rfl rfl rfl rfl rfl NL.h0 hb20) (.cons (has rfl) .nil) (by kernel_rfl) (.cons [(some 8, Ent.t 32 (VA.k kbool v18))] (run_skip rfl rfl rfl rfl rfl rfl NL.h0 hb20) (.cons (has rfl) .nil) (by kernel_rfl) (.cons [(some 8, Ent.t 32 (VA.k kbool v18))] (run_skip rfl rfl rfl rfl rfl rfl NL.h0 hb20) (.cons (has rfl) .nil) (by kernel_rfl) (.cons [(some 8, Ent.t 32 (VA.k kbool v18))] (run_skip rfl rfl rfl rfl rfl rfl NL.h0 hb20) (.cons (has rfl) .nil) (by kernel_rfl) (.cons [(some 8, Ent.t 32 (VA.k kbool v18))] (OpSpec.run rfl rfl (op_pick_t rfl hb20 (.t NL.h0) (.bool _)) rfl) (.cons (has rfl) .nil) (by kernel_rfl) (.nil _))))))))))))))))) ?_
          refine ends_sub [Ent.t 1 (VA.k (kslice kstr) a1), Ent.t 2 (VA.ptr 2 0), Ent.t 6 (VA.k (kint .i64) s1), Ent.t 39 (VA.k kbool true), Ent.h 2 (HE.box 25 kPlan a0)] (.cons rfl (.cons rfl (.cons rfl (.cons rfl (.cons rfl .nil))))) ?_
          obtain rfl := Option.some.inj H
          exact ends_cut (.cons rfl (.cons rfl (.cons rfl (.cons rfl (.cons rfl .nil)))))
        · skip
          obtain ⟨x21, h22, H⟩ := bind_some H
          obtain ⟨v23, h24, H⟩ := bind_some H
          refine goes_drawn [[Ent.t 24 (VA.k (kslice kstr) a1)], [Ent.t 25 (VA.k (kint .i64) s1)], [Ent.t 26 (VA.k (kslice kstr) x14)], [Ent.t 27 (VA.k (kslice kstr) a1)], [Ent.t 28 (VA.k (kint .i64) s1)], [Ent.t 29 (VA.pt kstr x16)], [Ent.t 30 (VA.k kstr x16)], [Ent.t 31 (VA.k kbool v18)], [Ent.t 32 (VA.k kbool v18)], [Ent.t 33 (VA.k kNode x10)], [Ent.t 34 (VA.k (kslice kstr) a1)], [Ent.t 35 (VA.k (kint .i64) s1)], [Ent.t 36 (VA.k (kslice kstr) x21)], [Ent.t 37 (VA.k kbool v23)], [Ent.t 38 (VA.k kbool (!v23))], [Ent.t 39 (VA.k kbool (!v23))]] mixed (by kernel_rfl) (by kernel_rfl) (.cons [(none, Ent.t 1 (VA.k (kslice kstr) a1))] (OpSpec.run rfl rfl (op_move rfl (.t NL.h0)) rfl) (.cons (has rfl) .nil) (by kernel_rfl) (.cons [(none, Ent.t 6 (VA.k (kint .i64) s1))] (OpSpec.run rfl rfl (op_move rfl (.t NL.h0)) rfl) (.cons (has rfl) .nil) (by kernel_rfl) (.cons [(some 0, Ent.t 24 (VA.k (kslice kstr) a1)), (some 1, Ent.t 25 (VA.k (kint .i64) s1))] (OpSpec.run rfl rfl (op_slice (l := none) (h := some _) rfl Try.underlying23 tk9 h15 (.t NL.h0) trivial (.t (NL.hs NL.h0))) rfl) (.cons (has rfl) (.cons (has rfl) .nil)) (by kernel_rfl) (.cons [(none, Ent.t 1 (VA.k (kslice kstr) a1))] (OpSpec.run rfl rfl (op_move rfl (.t NL.h0)) rfl) (.cons (has rfl) .nil) (by kernel_rfl) (.cons [(none, Ent.t 6 (VA.k (kint .i64) s1))] (OpSpec.run rfl rfl (op_move rfl (.t NL.h0)) rfl) (.cons (has rfl) .nil) (by kernel_rfl) (.cons [(some 3, Ent.t 27 (VA.k (kslice kstr) a1)), (some 4, Ent.t 28 (VA.k (kint .i64) s1))] (OpSpec.run rfl rfl (op_indexAddr rfl Try.underlying23 tk9 h17 (.t NL.h0) (.t (NL.hs NL.h0))) rfl) (.cons (has rfl) (.cons (has rfl) .nil)) (by kernel_rfl) (.cons [(some 5, Ent.t 29 (VA.pt kstr x16))] (OpSpec.run rfl rfl (op_loadp rfl tk9 (.t NL.h0)) rfl) (.cons (has rfl) .nil) (by kernel_rfl) (.cons [(some 2, Ent.t 26 (VA.k (kslice kstr) x14)), (some 6, Ent.t 30 (VA.k kstr x16))] (OpSpec.run rfl rfl (op_call' rfl enters33 (smithyref03_Has.con _ _ _ _ h19) rfl (.cons (ArgP.k (.t NL.h0)) (.cons (ArgP.k (.t (NL.hs NL.h0))) .nil))) rfl) (.cons (has rfl) (.cons (has rfl) .nil)) (by kernel_rfl) (.cons [(some 7, Ent.t 31 (VA.k kbool v18))] (OpSpec.run rfl rfl (op_move rfl (.t NL.h0)) rfl) (.cons (has rfl) .nil) (by kernel_rfl) (.cons [(some 8, Ent.t 32 (VA.k kbool v18)), (none, Ent.t 7 (VA.ptr 7 0)), (none, Ent.h 7 (HE.box 48 kNode x10))] (OpSpec.runG rfl rfl rfl rfl NL.h0 hb20 (op_load rfl (Fld.whole kNode) tk48 (.t (NL.hs NL.h0)) (NL.hs (NL.hs NL.h0))) rfl) (.cons (has rfl) (.cons (has rfl) (.cons (has rfl) .nil))) (by kernel_rfl) (.cons [(some 8, Ent.t 32 (VA.k kbool v18)), (none, Ent.t 1 (VA.k (kslice kstr) a1))] (OpSpec.runG rfl rfl rfl rfl NL.h0 hb20 (op_move rfl (.t (NL.hs NL.h0))) rfl) (.cons (has rfl) (.cons (has rfl) .nil)) (by kernel_rfl) (.cons [(some 8, Ent.t 32 (VA.k kbool v18)), (none, Ent.t 6 (VA.k (kint .i64) s1))] (OpSpec.runG rfl rfl rfl rfl NL.h0 hb20 (op_move rfl (.t (NL.hs NL.h0))) rfl) (.cons (has rfl) (.cons (has rfl) .nil)) (by kernel_rfl) (.cons [(some 8, Ent.t 32 (VA.k kbool v18)), (some 10, Ent.t 34 (VA.k (kslice kstr) a1)), (some 11, Ent.t 35 (VA.k (kint .i64) s1))] (OpSpec.runG rfl rfl rfl rfl NL.h0 hb20 (op_slice (l := none) (h := some _) rfl Try.underlying23 tk9 h22 (.t (NL.hs NL.h0)) trivial (.t (NL.hs (NL.hs NL.h0)))) rfl) (.cons (has rfl) (.cons (has rfl) (.cons (has rfl) .nil))) (by kernel_rfl) (.cons [(some 8, Ent.t 32 (VA.k kbool v18)), (some 9, Ent.t 33 (VA.k kNode x10)), (some 12, Ent.t 36 (VA.k (kslice kstr) x21))] (OpSpec.runG rfl rfl rfl rfl NL.h0 hb20 (op_call' rfl enters44 (smithyref14_ready.con _ _ _ _ h24) rfl (.cons (ArgP.k (.t (NL.hs NL.h0))) (.cons (ArgP.k (.t (NL.hs (NL.hs NL.h0)))) .nil))) rfl) (.cons (has rfl) (.cons (has rfl) (.cons (has rfl) .nil))) (by kernel_rfl) (.cons [(some 8, Ent.t 32 (VA.k kbool v18)), (some 13, Ent.t 37 (VA.k kbool v23))] (OpSpec.runG rfl rfl rfl rfl NL.h0 hb20 (op_not rfl (.t (NL.hs NL.h0))) rfl) (.cons (has rfl) (.cons (has rfl) .nil)) (by kernel_rfl) (.cons [(some 8, Ent.t 32 (VA.k kbool v18)), (some 14, Ent.t 38 (VA.k kbool (!v23)))] (OpSpec.run rfl rfl (op_pick_f rfl hb20 (.t NL.h0) (.t (NL.hs NL.h0))) rfl) (.cons (has rfl) (.cons (has rfl) .nil)) (by kernel_rfl) (.nil _))))))))))))))))) ?_
          refine ends_sub [Ent.t 1 (VA.k (kslice kstr) a1), Ent.t 2 (VA.ptr 2 0), Ent.t 6 (VA.k (kint .i64) s1), Ent.t 33 (VA.k kNode x10), Ent.t 34 (VA.k (kslice kstr) a1), Ent.t 35 (VA.k (kint .i64) s1), Ent.t 36 (VA.k (kslice kstr) x21), Ent.t 37 (VA.k kbool v23), Ent.t 38 (VA.k kbool (!v23)), Ent.t 39 (VA.k kbool (!v23)), Ent.h 2 (HE.box 25 kPlan a0)] (.cons rfl (.cons rfl (.cons rfl (.cons rfl (.cons rfl (.cons rfl (.cons rfl (.cons rfl (.cons rfl (.cons rfl (.cons rfl .nil))))))))))) ?_
          obtain rfl := Option.some.inj H
          exact ends_cut (.cons rfl (.cons rfl (.cons rfl (.cons rfl (.cons rfl .nil)))))
      refine ends_then ?_
      refine goes_if (.t (has rfl)) H (fun hb25 H => ?_) (fun hb25 H => ?_)
      · skip
        refine goes_seq ?_
        refine goes_region ?_
        refine go1 (op_assign rfl (.bool _)) rfl ?_
        refine go1 (op_assign rfl (.bool _)) rfl ?_
        refine goesO_nil ?_
        refine ends_then ?_
        obtain rfl := Option.some.inj H
        refine goes_ret (ends_block_ret (ends_then_ret (ends_then_ret (ends_block_ret (ends_cutR_ret rfl ?_)))))
        exact ends_ret' rfl rfl (.t rfl (.t rfl (.nil _)))
      · skip
        refine goes_skip ?_
        refine ends_block ?_
        refine ends_then ?_
        refine goes_region ?_
        refine go1 (op_move rfl (.t (has rfl))) rfl ?_
        refine go1 (op_add rfl (.t (has rfl)) (.int _ _)) rfl ?_
        refine go1 (op_assign rfl (.t (has rfl))) rfl ?_
        refine goesO_nil ?_
        exact loop_next _ H (.cons rfl (.cons rfl (.cons rfl (.cons rfl .nil))))
    · skip
      refine goes_exit (ends_then_exit (ends_then_exit (ends_block_exit ?_)))
      obtain rfl := Option.some.inj H
      exact ends_cutR rfl (.cons rfl (.cons rfl (.cons rfl .nil)))
  · rintro s2 rfl
    clear h3
    dsimp only at H
    refine ends_then ?_
    refine goes_seq ?_
    refine goes_drawn [[Ent.t 40 (VA.k (kslice kstr) a1)], [Ent.t 41 (VA.k (kint .i64) (a1.length : Int))], [Ent.t 42 (VA.ptr 2 0)], [Ent.t 43 (VA.k (kslice kNode) a0.Nodes)], [Ent.t 44 (VA.k (kint .i64) (a0.Nodes.length : Int))], [Ent.t 45 (VA.k kbool (icmp .eql (a1.length : Int) (a0.Nodes.length : Int)))], [Ent.t 4 (VA.k kbool true)], [Ent.t 5 (VA.k kbool (icmp .eql (a1.length : Int) (a0.Nodes.length : Int)))]] mixed (by kernel_rfl) (by kernel_rfl) (.cons [(none, Ent.t 1 (VA.k (kslice kstr) a1))] (OpSpec.run rfl rfl (op_move rfl (.t NL.h0)) rfl) (.cons (has rfl) .nil) (by kernel_rfl) (.cons [(some 0, Ent.t 40 (VA.k (kslice kstr) a1))] (OpSpec.run rfl rfl (op_len rfl rfl Try.underlying23 (.t NL.h0)) rfl) (.cons (has rfl) .nil) (by kernel_rfl) (.cons [(none, Ent.t 2 (VA.ptr 2 0))] (OpSpec.run rfl rfl (op_fieldAddr rfl Try.underlying25 rfl tk22 (.t NL.h0)) rfl) (.cons (has rfl) .nil) (by kernel_rfl) (.cons [(some 2, Ent.t 42 (VA.ptr 2 0)), (none, Ent.h 2 (HE.box 25 kPlan a0))] (OpSpec.run rfl rfl (op_load rfl fldPlan_Nodes tk22 (.t NL.h0) (NL.hs NL.h0)) rfl) (.cons (has rfl) (.cons (has rfl) .nil)) (by kernel_rfl) (.cons [(some 3, Ent.t 43 (VA.k (kslice kNode) a0.Nodes))] (OpSpec.run rfl rfl (op_len rfl rfl Try.underlying22 (.t NL.h0)) rfl) (.cons (has rfl) .nil) (by kernel_rfl) (.cons [(some 1, Ent.t 41 (VA.k (kint .i64) (a1.length : Int))), (some 4, Ent.t 44 (VA.k (kint .i64) (a0.Nodes.length : Int)))] (OpSpec.run rfl rfl (op_icmp rfl rfl (.t NL.h0) (.t (NL.hs NL.h0))) rfl) (.cons (has rfl) (.cons (has rfl) .nil)) (by kernel_rfl) (.cons [] (OpSpec.run rfl rfl (op_assign rfl (.bool _)) rfl) .nil (by kernel_rfl) (.cons [(some 5, Ent.t 45 (VA.k kbool (icmp .eql (a1.length : Int) (a0.Nodes.length : Int))))] (OpSpec.run rfl rfl (op_assign rfl (.t NL.h0)) rfl) (.cons (has rfl) .nil) (by kernel_rfl) (.nil _))))))))) ?_
    refine ends_sub [Ent.t 4 (VA.k kbool true), Ent.t 5 (VA.k kbool (icmp .eql (a1.length : Int) (a0.Nodes.length : Int)))] (.cons rfl (.cons rfl .nil)) ?_
    refine ends_then ?_
    obtain rfl := Option.some.inj H
    exact goes_ret (ends_ret' rfl rfl (.t rfl (.t rfl (.nil _))))
  · rintro r' rfl a w hr
    obtain rfl := Option.some.inj H
    exact hr
theorem smithyref14_Fits.conF (k : Nat) (a0 : Plan) (a1 : List ByteArray) (r : Bool × Bool) (H : smithyref14_Fits.f k a0 a1 = some r) : ConF Try.prog 14 [VA.k kPlan a0, VA.k (kslice kstr) a1] [VA.k kbool r.1, VA.k kbool r.2] := (smithyref14_Fits.con k a0 a1 r H).freeL (.cons (KFree.k KFree.bool _) (.cons (KFree.k KFree.bool _) .nil))
/-! smithy/smithyref14.Next -/
def smithyref14_Next.l0 (a0 : Plan) (a1 : List ByteArray) : Nat → ((List ByteArray) × Int) → Option (List ByteArray)
  | 0, _ => none
  | k + 1, s1 => bif icmp .lss s1.2 (a0.Nodes.length : Int) then ((((idx a0.Nodes s1.2).bind fun x9 => (smithyref03_Has.f k a1 x9.Target).bind fun v11 => bif !v11 then ((idx a0.Nodes s1.2).bind fun x14 => (smithyref14_ready.f k x14 a1).bind fun v16 => some v16) else (some false)).bind fun s7 => bif s7 then ((idx a0.Nodes s1.2).bind fun x19 => (app 16 s1.1 ([x19.Target])).bind fun x21 => some x21) else (some s1.1)).bind fun s5 => smithyref14_Next.l0 a0 a1 k (s5, IntKind.i64.wrap (s1.2 + (1 : Int)))) else (some s1.1)
def smithyref14_Next.f (k : Nat) (a0 : Plan) (a1 : List ByteArray) : Option (List ByteArray) := (smithyref14_Next.l0 a0 a1 k (([] : List ByteArray), (0 : Int))).bind fun s2 => some s2
set_option maxRecDepth 100000 in
set_option maxHeartbeats 4000000 in
theorem smithyref14_Next.con (k : Nat) (a0 : Plan) (a1 : List ByteArray) (r : List ByteArray) (H : smithyref14_Next.f k a0 a1 = some r) : Con Try.prog 16 [VA.k kPlan a0, VA.k (kslice kstr) a1] [VA.own 9 kstr r] := by
  unfold smithyref14_Next.f at H
  refine con_enter Try.func16 rfl rfl rfl (fun w0 S0 θ => ?_)
  refine goes_seq ?_
  refine goes_region ?_
  refine go3 (op_box 2 rfl (fun h => by first | rfl | cases h) (.t (has rfl))) rfl ?_
  refine go1 (op_assign_nil 9 kstr (.inr rfl) rfl) rfl ?_
  refine goesO_nil ?_
  refine ends_then ?_
  refine goes_seq ?_
  refine goes_region ?_
  refine go1 (op_assign_nil 9 kstr (.inr rfl) rfl) rfl ?_
  refine goesO_nil ?_
  refine ends_then ?_
  refine goes_seq ?_
  refine goes_seq ?_
  refine goes_region ?_
  refine go1 (op_assign rfl (.int _ _)) rfl ?_
  refine goesO_nil ?_
  refine ends_then ?_
  obtain ⟨s2, h3, H⟩ := bind_some H
  refine goes_cut [Ent.t 5 (VA.own 9 kstr s2)] ?_ ?_
  · replace H := h3; clear h3
    refine goes_block ?_
    refine goes_loop (fun s1 : (List ByteArray) × Int => [Ent.t 1 (VA.k (kslice kstr) a1), Ent.t 2 (VA.ptr 2 0), Ent.t 5 (VA.own 9 kstr s1.1), Ent.t 6 (VA.k (kint .i64) s1.2), Ent.h 2 (HE.box 25 kPlan a0)]) (fun k s1 => smithyref14_Next.l0 a0 a1 k s1) (fun _ => rfl) H (.cons rfl (.cons rfl (.cons rfl (.cons rfl (.cons rfl .nil))))) ?_
    intro k s1 H
    simp only [smithyref14_Next.l0] at H
    refine goes_seq ?_
    refine goes_seq ?_
    refine goes_region ?_
    refine go1 (op_move rfl (.t (has rfl))) rfl ?_
    refine go1 (op_fieldAddr rfl Try.underlying25 rfl tk22 (.t (has rfl))) rfl ?_
    refine go1 (op_load rfl fldPlan_Nodes tk22 (.t (has rfl)) (has rfl)) rfl ?_
    refine go1 (op_len rfl rfl Try.underlying22 (.t (has rfl))) rfl ?_
    refine go1 (op_icmp rfl rfl (.t (has rfl)) (.t (has rfl))) rfl ?_
    refine goesO_nil ?_
    refine ends_then ?_
    refine goes_if (.t (has rfl)) H (fun hb4 H => ?_) (fun hb4 H => ?_)
    · skip
      refine goes_skip ?_
      refine ends_then ?_
      refine goes_seq ?_
      obtain ⟨s5, h6, H⟩ := bind_some H
      refine goes_cut [Ent.t 1 (VA.k (kslice kstr) a1), Ent.t 2 (VA.ptr 2 0), Ent.t 5 (VA.own 9 kstr s5), Ent.t 6 (VA.k (kint .i64) s1.2), Ent.h 2 (HE.box 25 kPlan a0)] ?_ ?_
      · replace H := h6; clear h6
        refine goes_block ?_
        refine goes_seq ?_
        obtain ⟨s7, h8, H⟩ := bind_some H
        refine goes_cut [Ent.t 1 (VA.k (kslice kstr) a1), Ent.t 2 (VA.ptr 2 0), Ent.t 5 (VA.own 9 kstr s1.1), Ent.t 6 (VA.k (kint .i64) s1.2), Ent.t 31 (VA.k kbool s7), Ent.h 2 (HE.box 25 kPlan a0)] ?_ ?_
        · replace H := h8; clear h8
          refine goes_region ?_
          refine go1 (op_move rfl (.t (has rfl))) rfl ?_
          refine go1 (op_fieldAddr rfl Try.underlying25 rfl tk22 (.t (has rfl))) rfl ?_
          refine go1 (op_load rfl fldPlan_Nodes tk22 (.t (has rfl)) (has rfl)) rfl ?_
          refine go1 (op_move rfl (.t (has rfl))) rfl ?_
          obtain ⟨x9, h10, H⟩ := bind_some H
          refine go1 (op_indexAddr rfl Try.underlying22 tk48 h10 (.t (has rfl)) (.t (has rfl))) rfl ?_
          refine go1 (op_fieldAddrp rfl fldNode_Target Try.underlying48 rfl tk9 (.t (has rfl))) rfl ?_
          refine go1 (op_loadp rfl tk9 (.t (has rfl))) rfl ?_
          obtain ⟨v11, h12, H⟩ := bind_some H
          refine go1 (op_call' rfl enters33 (smithyref03_Has.con _ _ _ _ h12) rfl (.cons (ArgP.k (.t (has rfl))) (.cons (ArgP.k (.t (has rfl))) .nil))) rfl ?_
          refine go1 (op_not rfl (.t (has rfl))) rfl ?_
          refine go1 (op_move rfl (.t (has rfl))) rfl ?_
          refine goesO_split H (fun hb13 H => ?_) (fun hb13 H => ?_)
          · skip
            refine goG (op_fieldAddr rfl Try.underlying25 rfl tk22 (.t (has rfl))) rfl rfl rfl rfl hb13 ?_
            refine goG (op_load rfl fldPlan_Nodes tk22 (.t (has rfl)) (has rfl)) rfl rfl rfl rfl hb13 ?_
            refine goG (op_move rfl (.t (has rfl))) rfl rfl rfl rfl hb13 ?_
            obtain ⟨x14, h15, H⟩ := bind_some H
            refine goG (op_indexAddr rfl Try.underlying22 tk48 h15 (.t (has rfl)) (.t (has rfl))) rfl rfl rfl rfl hb13 ?_
            refine goG (op_loadp rfl tk48 (.t (has rfl))) rfl rfl rfl rfl hb13 ?_
            refine goG (op_move rfl (.t (has rfl))) rfl rfl rfl rfl hb13 ?_
            obtain ⟨v16, h17, H⟩ := bind_some H
            refine goG (op_call' rfl enters44 (smithyref14_ready.con _ _ _ _ h17) rfl (.cons (ArgP.k (.t (has rfl))) (.cons (ArgP.k (.t (has rfl))) .nil))) rfl rfl rfl rfl hb13 ?_
            refine go1 (op_pick_t rfl hb13 (.t (has rfl)) (.t (has rfl))) rfl ?_
            refine goesO_nil ?_
            obtain rfl := Option.some.inj H
            exact ends_cut (.cons rfl (.cons rfl (.cons rfl (.cons rfl (.cons rfl (.cons rfl .nil))))))
          · skip
            refine goS rfl rfl rfl rfl rfl rfl hb13 ?_
            refine goS rfl rfl rfl rfl rfl rfl hb13 ?_
            refine goS rfl rfl rfl rfl rfl rfl hb13 ?_
            refine goS rfl rfl rfl rfl rfl rfl hb13 ?_
            refine goS rfl rfl rfl rfl rfl rfl hb13 ?_
            refine goS rfl rfl rfl rfl rfl rfl hb13 ?_
            refine goS rfl rfl rfl rfl rfl rfl hb13 ?_
            refine go1 (op_pick_f rfl hb13 (.t (has rfl)) (.bool _)) rfl ?_
            refine goesO_nil ?_
            obtain rfl := Option.some.inj H
            exact ends_cut (.cons rfl (.cons rfl (.cons rfl (.cons rfl (.cons rfl (.cons rfl .nil))))))
        refine ends_then ?_
        refine goes_if (.t (has rfl)) H (fun hb18 H => ?_) (fun hb18 H => ?_)
        · skip
          refine goes_region ?_
          refine go2 (op_mv (.inl rfl) rfl rfl (has rfl)) rfl ?_
          refine go1 (op_fieldAddr rfl Try.underlying25 rfl tk22 (.t (has rfl))) rfl ?_
          refine go1 (op_load rfl fldPlan_Nodes tk22 (.t (has rfl)) (has rfl)) rfl ?_
          refine go1 (op_move rfl (.t (has rfl))) rfl ?_
          obtain ⟨x19, h20, H⟩ := bind_some H
          refine go1 (op_indexAddr rfl Try.underlying22 tk48 h20 (.t (has rfl)) (.t (has rfl))) rfl ?_
          refine go1 (op_fieldAddrp rfl fldNode_Target Try.underlying48 rfl tk9 (.t (has rfl))) rfl ?_
          refine go1 (op_loadp rfl tk9 (.t (has rfl))) rfl ?_
          refine go1 (op_buildSlice rfl at23 (fun h => by first | rfl | cases h) rfl rfl rfl (.cons (.t (has rfl)) (.nil _))) rfl ?_
          obtain ⟨x21, h22, H⟩ := bind_some H
          refine go2 (op_append rfl rfl at23 h22 (has rfl) (ReadsArg.own (.t (has rfl)))) rfl ?_
          refine go2 (op_mv (.inr rfl) rfl rfl (has rfl)) rfl ?_
          refine goesO_nil ?_
          refine ends_block ?_
          obtain rfl := Option.some.inj H
          exact ends_cut (.cons rfl (.cons rfl (.cons rfl (.cons rfl (.cons rfl .nil)))))
        · skip
          refine goes_skip ?_
          refine ends_block ?_
          obtain rfl := Option.some.inj H
          exact ends_cut (.cons rfl (.cons rfl (.cons rfl (.cons rfl (.cons rfl .nil)))))
      refine ends_then ?_
      refine goes_region ?_
      refine go1 (op_move rfl (.t (has rfl))) rfl ?_
      refine go1 (op_add rfl (.t (has rfl)) (.int _ _)) rfl ?_
      refine go1 (op_assign rfl (.t (has rfl))) rfl ?_
      refine goesO_nil ?_
      exact loop_next _ H (.cons rfl (.cons rfl (.cons rfl (.cons rfl (.cons rfl .nil)))))
    · skip
      refine goes_exit (ends_then_exit (ends_then_exit (ends_block_exit ?_)))
      obtain rfl := Option.some.inj H
      exact ends_cut (.cons rfl .nil)
  refine ends_then ?_
  refine goes_seq ?_
  refine goes_region ?_
  refine go2 (op_mv (.inl rfl) rfl rfl (has rfl)) rfl ?_
  refine go2 (op_mv (.inr rfl) rfl rfl (has rfl)) rfl ?_
  refine goesO_nil ?_
  refine ends_then ?_
  obtain rfl := Option.some.inj H
  exact goes_ret (ends_ret' rfl rfl (.t rfl (.nil _)))
theorem smithyref14_Next.conF (k : Nat) (a0 : Plan) (a1 : List ByteArray) (r : List ByteArray) (H : smithyref14_Next.f k a0 a1 = some r) : ConF Try.prog 16 [VA.k kPlan a0, VA.k (kslice kstr) a1] [VA.own 9 kstr r] := (smithyref14_Next.con k a0 a1 r H).freeL (.cons (KFree.own KFree.str _ _) .nil)
/-! smithy/smithylaw14.WalkLists -/
def smithylaw14_WalkLists.f (k : Nat) (a0 : Plan) (a1 : List ByteArray) : Option Bool := (walk_Fits.f k a0 a1).bind fun v1 => (walk_Next.f k a0 a1).bind fun v3 => (smithyref14_Fit.f k a0 a1).bind fun v5 => (bif icmp .neq v1.2.2 v5 then (some true) else (bif icmp .neq v3.2 v5 then (some true) else ((smithylaw14_speaks.f k).bind fun v11 => some (!v11)))).bind fun s7 => bif s7 then (some false) else (bif icmp .neq v5 (0 : Int) then ((bif !v1.1 then (bif !v1.2.1 then (some (icmp .eql (v3.1.length : Int) (0 : Int))) else (some false)) else (some false)).bind fun s15 => some s15) else ((smithyref14_Fits.f k a0 a1).bind fun v19 => (bif (v1.1 == v19.1) then (bif (v1.2.1 == v19.2) then ((smithyref14_Next.f k a0 a1).bind fun v25 => (smithyplain_Texts.f k v3.1 v25).bind fun v27 => some v27) else (some false)) else (some false)).bind fun s21 => some s21))
set_option maxRecDepth 100000 in
set_option maxHeartbeats 4000000 in
theorem smithylaw14_WalkLists.con (k : Nat) (a0 : Plan) (a1 : List ByteArray) (r : Bool) (H : smithylaw14_WalkLists.f k a0 a1 = some r) : Con Try.prog 3 [VA.k kPlan a0, VA.k (kslice kstr) a1] [VA.k kbool r] := by
  unfold smithylaw14_WalkLists.f at H
  refine con_enter Try.func3 rfl rfl rfl (fun w0 S0 θ => ?_)
  refine goes_seq ?_
  refine goes_region ?_
  refine go3 (op_box 2 rfl (fun h => by first | rfl | cases h) (.t (has rfl))) rfl ?_
  refine go1 (op_assign rfl (.bool _)) rfl ?_
  refine goesO_nil ?_
  refine ends_then ?_
  refine goes_seq ?_
  refine goes_region ?_
  refine go1 (op_load rfl (Fld.whole kPlan) tk25 (.t (has rfl)) (has rfl)) rfl ?_
  refine go1 (op_move rfl (.t (has rfl))) rfl ?_
  obtain ⟨v1, h2, H⟩ := bind_some H
  refine goN (op_calls' rfl enters10 (walk_Fits.con _ _ _ _ h2) rfl rfl (.cons (ArgP.k (.t (has rfl))) (.cons (ArgP.k (.t (has rfl))) .nil))) rfl ?_
  refine go1 (op_same (.inl rfl) rfl rfl) rfl ?_
  refine go1 (op_extract_same rfl plain_k (has rfl) (has rfl)) rfl ?_
  refine go1 (op_extract_same rfl plain_k (has rfl) (has rfl)) rfl ?_
  refine go1 (op_extract_same rfl plain_k (has rfl) (has rfl)) rfl ?_
  refine go1 (op_assign rfl (.t (has rfl))) rfl ?_
  refine go1 (op_assign rfl (.t (has rfl))) rfl ?_
  refine go1 (op_assign rfl (.t (has rfl))) rfl ?_
  refine goesO_nil ?_
  refine ends_then ?_
  refine goes_seq ?_
  refine goes_region ?_
  refine go1 (op_load rfl (Fld.whole kPlan) tk25 (.t (has rfl)) (has rfl)) rfl ?_
  refine go1 (op_move rfl (.t (has rfl))) rfl ?_
  obtain ⟨v3, h4, H⟩ := bind_some H
  refine goN (op_calls' rfl enters11 (walk_Next.con _ _ _ _ h4) rfl rfl (.cons (ArgP.k (.t (has rfl))) (.cons (ArgP.k (.t (has rfl))) .nil))) rfl ?_
  refine go1 (op_same (.inl rfl) rfl rfl) rfl ?_
  refine go2 (op_extract_own_same rfl rfl rfl (has rfl) (has rfl)) rfl ?_
  refine go1 (op_extract_same rfl plain_k (has rfl) (has rfl)) rfl ?_
  refine go2 (op_mv (.inr rfl) rfl rfl (has rfl)) rfl ?_
  refine go1 (op_assign rfl (.t (has rfl))) rfl ?_
  refine goesO_nil ?_
  refine ends_then ?_
  refine goes_seq ?_
  refine goes_region ?_
  refine go1 (op_load rfl (Fld.whole kPlan) tk25 (.t (has rfl)) (has rfl)) rfl ?_
  refine go1 (op_move rfl (.t (has rfl))) rfl ?_
  obtain ⟨v5, h6, H⟩ := bind_some H
  refine go1 (op_call' rfl enters12 (smithyref14_Fit.con _ _ _ _ h6) rfl (.cons (ArgP.k (.t (has rfl))) (.cons (ArgP.k (.t (has rfl))) .nil))) rfl ?_
  refine go1 (op_assign rfl (.t (has rfl))) rfl ?_
  refine goesO_nil ?_
  refine ends_then ?_
  refine goes_seq ?_
  refine goes_seq ?_
  obtain ⟨s7, h8, H⟩ := bind_some H
  refine goes_cut [Ent.t 1 (VA.k (kslice kstr) a1), Ent.t 2 (VA.ptr 2 0), Ent.t 5 (VA.k kbool v1.1), Ent.t 6 (VA.k kbool v1.2.1), Ent.t 8 (VA.own 9 kstr v3.1), Ent.t 10 (VA.k (kint .i64) v5), Ent.t 40 (VA.k kbool s7), Ent.h 2 (HE.box 25 kPlan a0)] ?_ ?_
  · replace H := h8; clear h8
    refine goes_region ?_
    refine go1 (op_move rfl (.t (has rfl))) rfl ?_
    refine go1 (op_move rfl (.t (has rfl))) rfl ?_
    refine go1 (op_icmp rfl rfl (.t (has rfl)) (.t (has rfl))) rfl ?_
    refine go1 (op_move rfl (.t (has rfl))) rfl ?_
    refine goesO_split H (fun hb9 H => ?_) (fun hb9 H => ?_)
    · skip
      refine goS rfl rfl rfl rfl rfl rfl hb9 ?_
      refine goS rfl rfl rfl rfl rfl rfl hb9 ?_
      refine goS rfl rfl rfl rfl rfl rfl hb9 ?_
      refine go1 (op_pick_t rfl hb9 (.t (has rfl)) (.bool _)) rfl ?_
      refine go1 (op_move rfl (.t (has rfl))) rfl ?_
      refine goS rfl rfl rfl rfl rfl rfl rfl ?_
      refine goS rfl rfl rfl rfl rfl rfl rfl ?_
      refine go1 (op_pick_t rfl rfl (.t (has rfl)) (.bool _)) rfl ?_
      refine goesO_nil ?_
      obtain rfl := Option.some.inj H
      exact ends_cut (.cons rfl (.cons rfl (.cons rfl (.cons rfl (.cons rfl (.cons rfl (.cons rfl (.cons rfl .nil))))))))
    · skip
      refine goG (op_move rfl (.t (has rfl))) rfl rfl rfl rfl hb9 ?_
      refine goG (op_move rfl (.t (has rfl))) rfl rfl rfl rfl hb9 ?_
      refine goG (op_icmp rfl rfl (.t (has rfl)) (.t (has rfl))) rfl rfl rfl rfl hb9 ?_
      refine go1 (op_pick_f rfl hb9 (.t (has rfl)) (.t (has rfl))) rfl ?_
      refine go1 (op_move rfl (.t (has rfl))) rfl ?_
      refine goesO_split H (fun hb10 H => ?_) (fun hb10 H => ?_)
      · skip
        refine goS rfl rfl rfl rfl rfl rfl hb10 ?_
        refine goS rfl rfl rfl rfl rfl rfl hb10 ?_
        refine go1 (op_pick_t rfl hb10 (.t (has rfl)) (.bool _)) rfl ?_
        refine goesO_nil ?_
        obtain rfl := Option.some.inj H
        exact ends_cut (.cons rfl (.cons rfl (.cons rfl (.cons rfl (.cons rfl (.cons rfl (.cons rfl (.cons rfl .nil))))))))
      · skip
        obtain ⟨v11, h12, H⟩ := bind_some H
        refine goG (op_call' rfl enters13 (smithylaw14_speaks.con _  _ h12) rfl .nil) rfl rfl rfl rfl hb10 ?_
        refine goG (op_not rfl (.t (has rfl))) rfl rfl rfl rfl hb10 ?_
        refine go1 (op_pick_f rfl hb10 (.t (has rfl)) (.t (has rfl))) rfl ?_
        refine goesO_nil ?_
        obtain rfl := Option.some.inj H
        exact ends_cut (.cons rfl (.cons rfl (.cons rfl (.cons rfl (.cons rfl (.cons rfl (.cons rfl (.cons rfl .nil))))))))
  refine ends_then ?_
  refine goes_if (.t (has rfl)) H (fun hb13 H => ?_) (fun hb13 H => ?_)
  · skip
    refine goes_seq ?_
    refine goes_region ?_
    refine go1 (op_assign rfl (.bool _)) rfl ?_
    refine goesO_nil ?_
    refine ends_then ?_
    obtain rfl := Option.some.inj H
    exact goes_ret (ends_then_ret (ends_ret' rfl rfl (.t rfl (.nil _))))
  · skip
    refine goes_skip ?_
    refine ends_then ?_
    refine goes_seq ?_
    refine goes_seq ?_
    refine goes_region ?_
    refine go1 (op_move rfl (.t (has rfl))) rfl ?_
    refine go1 (op_icmp rfl rfl (.t (has rfl)) (.int _ _)) rfl ?_
    refine goesO_nil ?_
    refine ends_then ?_
    refine goes_if (.t (has rfl)) H (fun hb14 H => ?_) (fun hb14 H => ?_)
    · skip
      refine goes_seq ?_
      obtain ⟨s15, h16, H⟩ := bind_some H
      refine goes_cut [Ent.t 4 (VA.k kbool s15)] ?_ ?_
      · replace H := h16; clear h16
        refine goes_region ?_
        refine go1 (op_move rfl (.t (has rfl))) rfl ?_
        refine go1 (op_not rfl (.t (has rfl))) rfl ?_
        refine go1 (op_move rfl (.t (has rfl))) rfl ?_
        refine goesO_split H (fun hb17 H => ?_) (fun hb17 H => ?_)
        · skip
          refine goG (op_move rfl (.t (has rfl))) rfl rfl rfl rfl hb17 ?_
          refine goG (op_not rfl (.t (has rfl))) rfl rfl rfl rfl hb17 ?_
          refine go1 (op_pick_t rfl hb17 (.t (has rfl)) (.t (has rfl))) rfl ?_
          refine go1 (op_move rfl (.t (has rfl))) rfl ?_
          refine goesO_split H (fun hb18 H => ?_) (fun hb18 H => ?_)
          · skip
            refine goesO_settle 8 rfl rfl ?_
            refine goG (op_move rfl (.t (has rfl))) rfl rfl rfl rfl hb18 ?_
            refine goG (op_len rfl rfl Try.underlying23 (.t (has rfl))) rfl rfl rfl rfl hb18 ?_
            refine goG (op_icmp rfl rfl (.t (has rfl)) (.int _ _)) rfl rfl rfl rfl hb18 ?_
            refine go1 (op_pick_t rfl hb18 (.t (has rfl)) (.t (has rfl))) rfl ?_
            refine go1 (op_assign rfl (.t (has rfl))) rfl ?_
            refine goesO_nil ?_
            obtain rfl := Option.some.inj H
            exact ends_cut (.cons rfl .nil)
          · skip
            refine goS rfl rfl rfl rfl rfl rfl hb18 ?_
            refine goS rfl rfl rfl rfl rfl rfl hb18 ?_
            refine goS rfl rfl rfl rfl rfl rfl hb18 ?_
            refine go1 (op_pick_f rfl hb18 (.t (has rfl)) (.bool _)) rfl ?_
            refine go1 (op_assign rfl (.t (has rfl))) rfl ?_
            refine goesO_nil ?_
            obtain rfl := Option.some.inj H
            exact ends_cut (.cons rfl .nil)
        · skip
          refine goS rfl rfl rfl rfl rfl rfl hb17 ?_
          refine goS rfl rfl rfl rfl rfl rfl hb17 ?_
          refine go1 (op_pick_f rfl hb17 (.t (has rfl)) (.bool _)) rfl ?_
          refine go1 (op_move rfl (.t (has rfl))) rfl ?_
          refine goS rfl rfl rfl rfl rfl rfl rfl ?_
          refine goS rfl rfl rfl rfl rfl rfl rfl ?_
          refine goS rfl rfl rfl rfl rfl rfl rfl ?_
          refine go1 (op_pick_f rfl rfl (.t (has rfl)) (.bool _)) rfl ?_
          refine go1 (op_assign rfl (.t (has rfl))) rfl ?_
          refine goesO_nil ?_
          obtain rfl := Option.some.inj H
          exact ends_cut (.cons rfl .nil)
      refine ends_then ?_
      obtain rfl := Option.some.inj H
      exact goes_ret (ends_then_ret (ends_ret' rfl rfl (.t rfl (.nil _))))
    · skip
      refine goes_skip ?_
      refine ends_then ?_
      refine goes_seq ?_
      refine goes_region ?_
      refine go1 (op_load rfl (Fld.whole kPlan) tk25 (.t (has rfl)) (has rfl)) rfl ?_
      refine go1 (op_move rfl (.t (has rfl))) rfl ?_
      obtain ⟨v19, h20, H⟩ := bind_some H
      refine goN (op_calls' rfl enters14 (smithyref14_Fits.con _ _ _ _ h20) rfl rfl (.cons (ArgP.k (.t (has rfl))) (.cons (ArgP.k (.t (has rfl))) .nil))) rfl ?_
      refine go1 (op_same (.inl rfl) rfl rfl) rfl ?_
      refine go1 (op_extract_same rfl plain_k (has rfl) (has rfl)) rfl ?_
      refine go1 (op_extract_same rfl plain_k (has rfl) (has rfl)) rfl ?_
      refine go1 (op_assign rfl (.t (has rfl))) rfl ?_
      refine go1 (op_assign rfl (.t (has rfl))) rfl ?_
      refine goesO_nil ?_
      refine ends_then ?_
      refine goes_seq ?_
      obtain ⟨s21, h22, H⟩ := bind_some H
      refine goes_cut [Ent.t 4 (VA.k kbool s21)] ?_ ?_
      · replace H := h22; clear h22
        refine goes_region ?_
        refine go1 (op_move rfl (.t (has rfl))) rfl ?_
        refine go1 (op_move rfl (.t (has rfl))) rfl ?_
        refine go1 (op_beq rfl Try.underlying4 (.t (has rfl)) (.t (has rfl))) rfl ?_
        refine go1 (op_move rfl (.t (has rfl))) rfl ?_
        refine goesO_split H (fun hb23 H => ?_) (fun hb23 H => ?_)
        · skip
          refine goG (op_move rfl (.t (has rfl))) rfl rfl rfl rfl hb23 ?_
          refine goG (op_move rfl (.t (has rfl))) rfl rfl rfl rfl hb23 ?_
          refine goG (op_beq rfl Try.underlying4 (.t (has rfl)) (.t (has rfl))) rfl rfl rfl rfl hb23 ?_
          refine go1 (op_pick_t rfl hb23 (.t (has rfl)) (.t (has rfl))) rfl ?_
          refine go1 (op_move rfl (.t (has rfl))) rfl ?_
          refine goesO_split H (fun hb24 H => ?_) (fun hb24 H => ?_)
          · skip
            refine goesO_settle 8 rfl rfl ?_
            refine goG (op_move rfl (.t (has rfl))) rfl rfl rfl rfl hb24 ?_
            refine goG (op_load rfl (Fld.whole kPlan) tk25 (.t (has rfl)) (has rfl)) rfl rfl rfl rfl hb24 ?_
            refine goG (op_move rfl (.t (has rfl))) rfl rfl rfl rfl hb24 ?_
            obtain ⟨v25, h26, H⟩ := bind_some H
            refine goG (op_call' rfl enters16 (smithyref14_Next.con _ _ _ _ h26) rfl (.cons (ArgP.k (.t (has rfl))) (.cons (ArgP.k (.t (has rfl))) .nil))) rfl rfl rfl rfl hb24 ?_
            obtain ⟨v27, h28, H⟩ := bind_some H
            refine goG (op_callF' rfl enters15 (smithyplain_Texts.conF _ _ _ _ h28) rfl (.cons (ArgB.k (.t (has rfl))) (.cons (ArgB.own rfl (has rfl)) .nil))) rfl rfl rfl rfl hb24 ?_
            refine go1 (op_pick_t rfl hb24 (.t (has rfl)) (.t (has rfl))) rfl ?_
            refine go1 (op_assign rfl (.t (has rfl))) rfl ?_
            refine goesO_nil ?_
            obtain rfl := Option.some.inj H
            exact ends_cut (.cons rfl .nil)
          · skip
            refine goS rfl rfl rfl rfl rfl rfl hb24 ?_
            refine goS rfl rfl rfl rfl rfl rfl hb24 ?_
            refine goS rfl rfl rfl rfl rfl rfl hb24 ?_
            refine goS rfl rfl rfl rfl rfl rfl hb24 ?_
            refine goS rfl rfl rfl rfl rfl rfl hb24 ?_
            refine go1 (op_pick_f rfl hb24 (.t (has rfl)) (.bool _)) rfl ?_
            refine go1 (op_assign rfl (.t (has rfl))) rfl ?_
            refine goesO_nil ?_
            obtain rfl := Option.some.inj H
            exact ends_cut (.cons rfl .nil)
        · skip
          refine goS rfl rfl rfl rfl rfl rfl hb23 ?_
          refine goS rfl rfl rfl rfl rfl rfl hb23 ?_
          refine goS rfl rfl rfl rfl rfl rfl hb23 ?_
          refine go1 (op_pick_f rfl hb23 (.t (has rfl)) (.bool _)) rfl ?_
          refine go1 (op_move rfl (.t (has rfl))) rfl ?_
          refine goS rfl rfl rfl rfl rfl rfl rfl ?_
          refine goS rfl rfl rfl rfl rfl rfl rfl ?_
          refine goS rfl rfl rfl rfl rfl rfl rfl ?_
          refine goS rfl rfl rfl rfl rfl rfl rfl ?_
          refine goS rfl rfl rfl rfl rfl rfl rfl ?_
          refine go1 (op_pick_f rfl rfl (.t (has rfl)) (.bool _)) rfl ?_
          refine go1 (op_assign rfl (.t (has rfl))) rfl ?_
          refine goesO_nil ?_
          obtain rfl := Option.some.inj H
          exact ends_cut (.cons rfl .nil)
      refine ends_then ?_
      obtain rfl := Option.some.inj H
      exact goes_ret (ends_ret' rfl rfl (.t rfl (.nil _)))
theorem smithylaw14_WalkLists.conF (k : Nat) (a0 : Plan) (a1 : List ByteArray) (r : Bool) (H : smithylaw14_WalkLists.f k a0 a1 = some r) : ConF Try.prog 3 [VA.k kPlan a0, VA.k (kslice kstr) a1] [VA.k kbool r] := (smithylaw14_WalkLists.con k a0 a1 r H).freeL (.cons (KFree.k KFree.bool _) .nil)
end Go.Proofs.Ytedgkcdofiildaa.F
