import Derived.Test.YtmmjbobicnmilaaFKx1
set_option linter.unusedVariables false
set_option linter.unusedSimpArgs false
set_option linter.unnecessarySimpa false
set_option linter.deprecated false
namespace Go.Proofs.Ytmmjbobicnmilaa.F
open Go Go.RowKit Go.Proofs.Ytmmjbobicnmilaa.Sl
/-! smithy/modes.Of -/
def modes_Of.f (k : Nat) (a0 : Options) (a1 : Node) (a2 : Flags) : Option (Mode × Int) := (modes_Check.f k a0).bind fun v1 => bif icmp .neq v1 (0 : Int) then (some ((⟨false, false, false⟩ : Mode), v1)) else ((modes_alone.f k a1).bind fun v4 => bif icmp .neq v4 (0 : Int) then (some ((⟨false, false, false⟩ : Mode), v4)) else ((bif a2.Always then (bif a2.Ignore then (some (⟨false, true, true⟩ : Mode)) else (bif a0.Ignore then (some (⟨false, true, true⟩ : Mode)) else (some (⟨false, true, a1.Ignore⟩ : Mode)))) else ((modes_set.f k ([a0.Dry, a0.Touch, a0.Query])).bind fun v12 => bif a2.Ignore then (some (⟨false, icmp .eql v12 (0 : Int), true⟩ : Mode)) else (bif a0.Ignore then (some (⟨false, icmp .eql v12 (0 : Int), true⟩ : Mode)) else (some (⟨false, icmp .eql v12 (0 : Int), a1.Ignore⟩ : Mode))))).bind fun s7 => (bif a0.Dry then (some ({ s7 with Echo := true })) else (bif s7.Run then ((modes_set.f k ([a2.Silent, a0.Silent, a1.Silent])).bind fun v20 => some ({ s7 with Echo := icmp .eql v20 (0 : Int) })) else (some ({ s7 with Echo := false })))).bind fun s16 => some (s16, (0 : Int))))
set_option maxRecDepth 100000 in
set_option maxHeartbeats 4000000 in
theorem modes_Of.con (k : Nat) (a0 : Options) (a1 : Node) (a2 : Flags) (r : Mode × Int) (H : modes_Of.f k a0 a1 a2 = some r) : Con Try.prog 6 [VA.k kOptions a0, VA.k kNode a1, VA.k kFlags a2] [VA.k kMode r.1, VA.k (kint .i64) r.2] := by
  unfold modes_Of.f at H
  refine con_enter Try.func6 rfl rfl rfl (fun w0 S0 θ => ?_)
  refine goes_seq ?_
  refine goes_region ?_
  refine go3 (op_box 3 rfl (fun h => by first | rfl | cases h) (.t (has rfl))) rfl ?_
  refine go3 (op_box 4 rfl (fun h => by first | rfl | cases h) (.t (has rfl))) rfl ?_
  refine go3 (op_box 5 rfl (fun h => by first | rfl | cases h) (.t (has rfl))) rfl ?_
  refine go3 (op_alloc 6 rfl zk31) rfl ?_
  refine go1 (op_assign rfl (.int _ _)) rfl ?_
  refine goesO_nil ?_
  refine ends_then ?_
  refine goes_seq ?_
  refine goes_seq ?_
  refine goes_region ?_
  refine go1 (op_load rfl (Fld.whole kOptions) tk25 (.t (has rfl)) (has rfl)) rfl ?_
  obtain ⟨v1, h2, H⟩ := bind_some H
  refine go1 (op_call' rfl enters17 (modes_Check.con _ _ _ h2) rfl (.cons (ArgP.k (.t (has rfl))) .nil)) rfl ?_
  refine go1 (op_assign rfl (.t (has rfl))) rfl ?_
  refine goesO_nil ?_
  refine ends_then ?_
  refine goes_seq ?_
  refine goes_region ?_
  refine go1 (op_move rfl (.t (has rfl))) rfl ?_
  refine go1 (op_icmp rfl rfl (.t (has rfl)) (.int _ _)) rfl ?_
  refine goesO_nil ?_
  refine ends_then ?_
  refine goes_if (.t (has rfl)) H (fun hb3 H => ?_) (fun hb3 H => ?_)
  · skip
    refine goes_seq ?_
    refine goes_region ?_
    refine go1 (op_build (pl := [(0, 1), (1, 1), (2, 1)]) rfl rfl Try.underlying31 (by kernel_rfl) zk31 (.nil _)) rfl ?_
    refine go1 (op_move rfl (.t (has rfl))) rfl ?_
    refine go1 (op_store (Fld.whole kMode) tk31 (.t (has rfl)) (has rfl) (.t (has rfl))) rfl ?_
    refine go1 (op_assign rfl (.t (has rfl))) rfl ?_
    refine goesO_nil ?_
    refine ends_then ?_
    obtain rfl := Option.some.inj H
    exact goes_ret (ends_then_ret (ends_ret' rfl rfl (.c rfl rfl tk31 (.t rfl (.nil _)))))
  · skip
    refine goes_skip ?_
    refine ends_then ?_
    refine goes_seq ?_
    refine goes_seq ?_
    refine goes_region ?_
    refine go1 (op_load rfl (Fld.whole kNode) tk27 (.t (has rfl)) (has rfl)) rfl ?_
    obtain ⟨v4, h5, H⟩ := bind_some H
    refine go1 (op_call' rfl enters18 (modes_alone.con _ _ _ h5) rfl (.cons (ArgP.k (.t (has rfl))) .nil)) rfl ?_
    refine go1 (op_assign rfl (.t (has rfl))) rfl ?_
    refine goesO_nil ?_
    refine ends_then ?_
    refine goes_seq ?_
    refine goes_region ?_
    refine go1 (op_move rfl (.t (has rfl))) rfl ?_
    refine go1 (op_icmp rfl rfl (.t (has rfl)) (.int _ _)) rfl ?_
    refine goesO_nil ?_
    refine ends_then ?_
    refine goes_if (.t (has rfl)) H (fun hb6 H => ?_) (fun hb6 H => ?_)
    · skip
      refine goes_seq ?_
      refine goes_region ?_
      refine go1 (op_build (pl := [(0, 1), (1, 1), (2, 1)]) rfl rfl Try.underlying31 (by kernel_rfl) zk31 (.nil _)) rfl ?_
      refine go1 (op_move rfl (.t (has rfl))) rfl ?_
      refine go1 (op_store (Fld.whole kMode) tk31 (.t (has rfl)) (has rfl) (.t (has rfl))) rfl ?_
      refine go1 (op_assign rfl (.t (has rfl))) rfl ?_
      refine goesO_nil ?_
      refine ends_then ?_
      obtain rfl := Option.some.inj H
      exact goes_ret (ends_then_ret (ends_ret' rfl rfl (.c rfl rfl tk31 (.t rfl (.nil _)))))
    · skip
      refine goes_skip ?_
      refine ends_then ?_
      refine goes_seq ?_
      obtain ⟨s7, h8, H⟩ := bind_some H
      refine goes_cut [Ent.t 3 (VA.ptr 3 0), Ent.t 4 (VA.ptr 4 0), Ent.t 5 (VA.ptr 5 0), Ent.t 6 (VA.ptr 6 0), Ent.t 10 (VA.ptr 10 0), Ent.h 3 (HE.box 25 kOptions a0), Ent.h 4 (HE.box 27 kNode a1), Ent.h 5 (HE.box 29 kFlags a2), Ent.h 6 (HE.box 31 kMode zeroMode), Ent.h 10 (HE.box 31 kMode s7)] ?_ ?_
      · replace H := h8; clear h8
        refine goes_split H (fun hb9 H => ?_) (fun hb9 H => ?_)
        · skip
          refine goes_split H (fun hb10 H => ?_) (fun hb10 H => ?_)
          · skip
            refine goes_drawn [[Ent.t 23 (VA.ptr 5 2)], [Ent.t 24 (VA.k kbool a2.Always)], [Ent.t 25 (VA.k kbool a2.Always)], [Ent.t 26 (VA.v undef)], [Ent.t 27 (VA.v undef)], [Ent.t 28 (VA.v undef)], [Ent.t 29 (VA.v undef)], [Ent.t 30 (VA.v undef)], [Ent.t 31 (VA.v undef)], [Ent.t 32 (VA.v undef)], [Ent.t 33 (VA.v undef)], [Ent.t 34 (VA.v undef)], [Ent.t 35 (VA.k kbool true)], [Ent.t 36 (VA.ptr 5 0)], [Ent.t 37 (VA.k kbool a2.Ignore)], [Ent.t 38 (VA.k kbool a2.Ignore)], [Ent.t 39 (VA.v undef)], [Ent.t 40 (VA.v undef)], [Ent.t 41 (VA.k kbool true)], [Ent.t 42 (VA.k kbool true)], [Ent.t 43 (VA.v undef)], [Ent.t 44 (VA.v undef)], [Ent.t 45 (VA.k kbool true)], [Ent.t 46 (VA.k kMode (⟨false, true, true⟩ : Mode))], [Ent.t 10 (VA.ptr 10 0), Ent.h 10 (HE.box 31 kMode zeroMode), Ent.bind 10], [Ent.h 10 (HE.box 31 kMode (⟨false, true, true⟩ : Mode))]] mixed (by kernel_rfl) (by kernel_rfl) (.cons [(none, Ent.t 5 (VA.ptr 5 0))] (OpSpec.run rfl rfl (op_fieldAddr rfl Try.underlying29 rfl tk4 (.t NL.h0)) rfl) (.cons (has rfl) .nil) (by kernel_rfl) (.cons [(some 0, Ent.t 23 (VA.ptr 5 2)), (none, Ent.h 5 (HE.box 29 kFlags a2))] (OpSpec.run rfl rfl (op_load rfl fldFlags_Always tk4 (.t NL.h0) (NL.hs NL.h0)) rfl) (.cons (has rfl) (.cons (has rfl) .nil)) (by kernel_rfl) (.cons [(some 1, Ent.t 24 (VA.k kbool a2.Always))] (OpSpec.run rfl rfl (op_move rfl (.t NL.h0)) rfl) (.cons (has rfl) .nil) (by kernel_rfl) (.cons [(some 2, Ent.t 25 (VA.k kbool a2.Always))] (run_skip rfl rfl rfl rfl rfl rfl NL.h0 hb9) (.cons (has rfl) .nil) (by kernel_rfl) (.cons [(some 2, Ent.t 25 (VA.k kbool a2.Always))] (run_skip rfl rfl rfl rfl rfl rfl NL.h0 hb9) (.cons (has rfl) .nil) (by kernel_rfl) (.cons [(some 2, Ent.t 25 (VA.k kbool a2.Always))] (run_skip rfl rfl rfl rfl rfl rfl NL.h0 hb9) (.cons (has rfl) .nil) (by kernel_rfl) (.cons [(some 2, Ent.t 25 (VA.k kbool a2.Always))] (run_skip rfl rfl rfl rfl rfl rfl NL.h0 hb9) (.cons (has rfl) .nil) (by kernel_rfl) (.cons [(some 2, Ent.t 25 (VA.k kbool a2.Always))] (run_skip rfl rfl rfl rfl rfl rfl NL.h0 hb9) (.cons (has rfl) .nil) (by kernel_rfl) (.cons [(some 2, Ent.t 25 (VA.k kbool a2.Always))] (run_skip rfl rfl rfl rfl rfl rfl NL.h0 hb9) (.cons (has rfl) .nil) (by kernel_rfl) (.cons [(some 2, Ent.t 25 (VA.k kbool a2.Always))] (run_skip rfl rfl rfl rfl rfl rfl NL.h0 hb9) (.cons (has rfl) .nil) (by kernel_rfl) (.cons [(some 2, Ent.t 25 (VA.k kbool a2.Always))] (run_skip rfl rfl rfl rfl rfl rfl NL.h0 hb9) (.cons (has rfl) .nil) (by kernel_rfl) (.cons [(some 2, Ent.t 25 (VA.k kbool a2.Always))] (run_skip rfl rfl rfl rfl rfl rfl NL.h0 hb9) (.cons (has rfl) .nil) (by kernel_rfl) (.cons [(some 2, Ent.t 25 (VA.k kbool a2.Always))] (OpSpec.run rfl rfl (op_pick_t rfl hb9 (.t NL.h0) (.bool _)) rfl) (.cons (has rfl) .nil) (by kernel_rfl) (.cons [(none, Ent.t 5 (VA.ptr 5 0))] (OpSpec.run rfl rfl (op_fieldAddr rfl Try.underlying29 rfl tk4 (.t NL.h0)) rfl) (.cons (has rfl) .nil) (by kernel_rfl) (.cons [(some 13, Ent.t 36 (VA.ptr 5 0)), (none, Ent.h 5 (HE.box 29 kFlags a2))] (OpSpec.run rfl rfl (op_load rfl fldFlags_Ignore tk4 (.t NL.h0) (NL.hs NL.h0)) rfl) (.cons (has rfl) (.cons (has rfl) .nil)) (by kernel_rfl) (.cons [(some 14, Ent.t 37 (VA.k kbool a2.Ignore))] (OpSpec.run rfl rfl (op_move rfl (.t NL.h0)) rfl) (.cons (has rfl) .nil) (by kernel_rfl) (.cons [(some 15, Ent.t 38 (VA.k kbool a2.Ignore))] (run_skip rfl rfl rfl rfl rfl rfl NL.h0 hb10) (.cons (has rfl) .nil) (by kernel_rfl) (.cons [(some 15, Ent.t 38 (VA.k kbool a2.Ignore))] (run_skip rfl rfl rfl rfl rfl rfl NL.h0 hb10) (.cons (has rfl) .nil) (by kernel_rfl) (.cons [(some 15, Ent.t 38 (VA.k kbool a2.Ignore))] (OpSpec.run rfl rfl (op_pick_t rfl hb10 (.t NL.h0) (.bool _)) rfl) (.cons (has rfl) .nil) (by kernel_rfl) (.cons [(some 18, Ent.t 41 (VA.k kbool true))] (OpSpec.run rfl rfl (op_move rfl (.t NL.h0)) rfl) (.cons (has rfl) .nil) (by kernel_rfl) (.cons [(some 19, Ent.t 42 (VA.k kbool true))] (run_skip rfl rfl rfl rfl rfl rfl NL.h0 rfl) (.cons (has rfl) .nil) (by kernel_rfl) (.cons [(some 19, Ent.t 42 (VA.k kbool true))] (run_skip rfl rfl rfl rfl rfl rfl NL.h0 rfl) (.cons (has rfl) .nil) (by kernel_rfl) (.cons [(some 19, Ent.t 42 (VA.k kbool true))] (OpSpec.run rfl rfl (op_pick_t rfl rfl (.t NL.h0) (.bool _)) rfl) (.cons (has rfl) .nil) (by kernel_rfl) (.cons [(some 12, Ent.t 35 (VA.k kbool true)), (some 22, Ent.t 45 (VA.k kbool true))] (OpSpec.run rfl rfl (op_build (pl := [(0, 1), (1, 1), (2, 1)]) rfl rfl Try.underlying31 (by kernel_rfl) zk31 (.cons rfl tk4 fldMode_Run (.t NL.h0) (.cons rfl tk4 fldMode_Forgive (.t (NL.hs NL.h0)) (.nil _)))) rfl) (.cons (has rfl) (.cons (has rfl) .nil)) (by kernel_rfl) (.cons [] (OpSpec.run rfl rfl (op_alloc 10 rfl zk31) rfl) .nil (by kernel_rfl) (.cons [(some 24, Ent.t 10 (VA.ptr 10 0)), (some 23, Ent.t 46 (VA.k kMode (⟨false, true, true⟩ : Mode))), (some 24, Ent.h 10 (HE.box 31 kMode zeroMode))] (OpSpec.run rfl rfl (op_store (Fld.whole kMode) tk31 (.t NL.h0) (NL.hs (NL.hs NL.h0)) (.t (NL.hs NL.h0))) rfl) (.cons (has rfl) (.cons (has rfl) (.cons (has rfl) .nil))) (by kernel_rfl) (.nil _))))))))))))))))))))))))))) ?_
            refine ends_sub [Ent.t 3 (VA.ptr 3 0), Ent.t 4 (VA.ptr 4 0), Ent.t 5 (VA.ptr 5 0), Ent.t 6 (VA.ptr 6 0), Ent.t 10 (VA.ptr 10 0), Ent.h 3 (HE.box 25 kOptions a0), Ent.h 4 (HE.box 27 kNode a1), Ent.h 5 (HE.box 29 kFlags a2), Ent.h 6 (HE.box 31 kMode zeroMode), Ent.h 10 (HE.box 31 kMode (⟨false, true, true⟩ : Mode))] (.cons rfl (.cons rfl (.cons rfl (.cons rfl (.cons rfl (.cons rfl (.cons rfl (.cons rfl (.cons rfl (.cons rfl .nil)))))))))) ?_
            obtain rfl := Option.some.inj H
            exact ends_cut (.cons rfl (.cons rfl (.cons rfl (.cons rfl (.cons rfl (.cons rfl (.cons rfl (.cons rfl (.cons rfl (.cons rfl .nil))))))))))
          · skip
            refine goes_split H (fun hb11 H => ?_) (fun hb11 H => ?_)
            · skip
              refine goes_drawn [[Ent.t 23 (VA.ptr 5 2)], [Ent.t 24 (VA.k kbool a2.Always)], [Ent.t 25 (VA.k kbool a2.Always)], [Ent.t 26 (VA.v undef)], [Ent.t 27 (VA.v undef)], [Ent.t 28 (VA.v undef)], [Ent.t 29 (VA.v undef)], [Ent.t 30 (VA.v undef)], [Ent.t 31 (VA.v undef)], [Ent.t 32 (VA.v undef)], [Ent.t 33 (VA.v undef)], [Ent.t 34 (VA.v undef)], [Ent.t 35 (VA.k kbool true)], [Ent.t 36 (VA.ptr 5 0)], [Ent.t 37 (VA.k kbool a2.Ignore)], [Ent.t 38 (VA.k kbool a2.Ignore)], [Ent.t 39 (VA.ptr 3 4)], [Ent.t 40 (VA.k kbool a0.Ignore)], [Ent.t 41 (VA.k kbool a0.Ignore)], [Ent.t 42 (VA.k kbool a0.Ignore)], [Ent.t 43 (VA.v undef)], [Ent.t 44 (VA.v undef)], [Ent.t 45 (VA.k kbool true)], [Ent.t 46 (VA.k kMode (⟨false, true, true⟩ : Mode))], [Ent.t 10 (VA.ptr 10 0), Ent.h 10 (HE.box 31 kMode zeroMode), Ent.bind 10], [Ent.h 10 (HE.box 31 kMode (⟨false, true, true⟩ : Mode))]] mixed (by kernel_rfl) (by kernel_rfl) (.cons [(none, Ent.t 5 (VA.ptr 5 0))] (OpSpec.run rfl rfl (op_fieldAddr rfl Try.underlying29 rfl tk4 (.t NL.h0)) rfl) (.cons (has rfl) .nil) (by kernel_rfl) (.cons [(some 0, Ent.t 23 (VA.ptr 5 2)), (none, Ent.h 5 (HE.box 29 kFlags a2))] (OpSpec.run rfl rfl (op_load rfl fldFlags_Always tk4 (.t NL.h0) (NL.hs NL.h0)) rfl) (.cons (has rfl) (.cons (has rfl) .nil)) (by kernel_rfl) (.cons [(some 1, Ent.t 24 (VA.k kbool a2.Always))] (OpSpec.run rfl rfl (op_move rfl (.t NL.h0)) rfl) (.cons (has rfl) .nil) (by kernel_rfl) (.cons [(some 2, Ent.t 25 (VA.k kbool a2.Always))] (run_skip rfl rfl rfl rfl rfl rfl NL.h0 hb9) (.cons (has rfl) .nil) (by kernel_rfl) (.cons [(some 2, Ent.t 25 (VA.k kbool a2.Always))] (run_skip rfl rfl rfl rfl rfl rfl NL.h0 hb9) (.cons (has rfl) .nil) (by kernel_rfl) (.cons [(some 2, Ent.t 25 (VA.k kbool a2.Always))] (run_skip rfl rfl rfl rfl rfl rfl NL.h0 hb9) (.cons (has rfl) .nil) (by kernel_rfl) (.cons [(some 2, Ent.t 25 (VA.k kbool a2.Always))] (run_skip rfl rfl rfl rfl rfl rfl NL.h0 hb9) (.cons (has rfl) .nil) (by kernel_rfl) (.cons [(some 2, Ent.t 25 (VA.k kbool a2.Always))] (run_skip rfl rfl rfl rfl rfl rfl NL.h0 hb9) (.cons (has rfl) .nil) (by kernel_rfl) (.cons [(some 2, Ent.t 25 (VA.k kbool a2.Always))] (run_skip rfl rfl rfl rfl rfl rfl NL.h0 hb9) (.cons (has rfl) .nil) (by kernel_rfl) (.cons [(some 2, Ent.t 25 (VA.k kbool a2.Always))] (run_skip rfl rfl rfl rfl rfl rfl NL.h0 hb9) (.cons (has rfl) .nil) (by kernel_rfl) (.cons [(some 2, Ent.t 25 (VA.k kbool a2.Always))] (run_skip rfl rfl rfl rfl rfl rfl NL.h0 hb9) (.cons (has rfl) .nil) (by kernel_rfl) (.cons [(some 2, Ent.t 25 (VA.k kbool a2.Always))] (run_skip rfl rfl rfl rfl rfl rfl NL.h0 hb9) (.cons (has rfl) .nil) (by kernel_rfl) (.cons [(some 2, Ent.t 25 (VA.k kbool a2.Always))] (OpSpec.run rfl rfl (op_pick_t rfl hb9 (.t NL.h0) (.bool _)) rfl) (.cons (has rfl) .nil) (by kernel_rfl) (.cons [(none, Ent.t 5 (VA.ptr 5 0))] (OpSpec.run rfl rfl (op_fieldAddr rfl Try.underlying29 rfl tk4 (.t NL.h0)) rfl) (.cons (has rfl) .nil) (by kernel_rfl) (.cons [(some 13, Ent.t 36 (VA.ptr 5 0)), (none, Ent.h 5 (HE.box 29 kFlags a2))] (OpSpec.run rfl rfl (op_load rfl fldFlags_Ignore tk4 (.t NL.h0) (NL.hs NL.h0)) rfl) (.cons (has rfl) (.cons (has rfl) .nil)) (by kernel_rfl) (.cons [(some 14, Ent.t 37 (VA.k kbool a2.Ignore))] (OpSpec.run rfl rfl (op_move rfl (.t NL.h0)) rfl) (.cons (has rfl) .nil) (by kernel_rfl) (.cons [(some 15, Ent.t 38 (VA.k kbool a2.Ignore)), (none, Ent.t 3 (VA.ptr 3 0))] (OpSpec.runG rfl rfl rfl rfl NL.h0 hb10 (op_fieldAddr rfl Try.underlying25 rfl tk4 (.t (NL.hs NL.h0))) rfl) (.cons (has rfl) (.cons (has rfl) .nil)) (by kernel_rfl) (.cons [(some 15, Ent.t 38 (VA.k kbool a2.Ignore)), (some 16, Ent.t 39 (VA.ptr 3 4)), (none, Ent.h 3 (HE.box 25 kOptions a0))] (OpSpec.runG rfl rfl rfl rfl NL.h0 hb10 (op_load rfl fldOptions_Ignore tk4 (.t (NL.hs NL.h0)) (NL.hs (NL.hs NL.h0))) rfl) (.cons (has rfl) (.cons (has rfl) (.cons (has rfl) .nil))) (by kernel_rfl) (.cons [(some 15, Ent.t 38 (VA.k kbool a2.Ignore)), (some 17, Ent.t 40 (VA.k kbool a0.Ignore))] (OpSpec.run rfl rfl (op_pick_f rfl hb10 (.t NL.h0) (.t (NL.hs NL.h0))) rfl) (.cons (has rfl) (.cons (has rfl) .nil)) (by kernel_rfl) (.cons [(some 18, Ent.t 41 (VA.k kbool a0.Ignore))] (OpSpec.run rfl rfl (op_move rfl (.t NL.h0)) rfl) (.cons (has rfl) .nil) (by kernel_rfl) (.cons [(some 19, Ent.t 42 (VA.k kbool a0.Ignore))] (run_skip rfl rfl rfl rfl rfl rfl NL.h0 hb11) (.cons (has rfl) .nil) (by kernel_rfl) (.cons [(some 19, Ent.t 42 (VA.k kbool a0.Ignore))] (run_skip rfl rfl rfl rfl rfl rfl NL.h0 hb11) (.cons (has rfl) .nil) (by kernel_rfl) (.cons [(some 19, Ent.t 42 (VA.k kbool a0.Ignore))] (OpSpec.run rfl rfl (op_pick_t rfl hb11 (.t NL.h0) (.bool _)) rfl) (.cons (has rfl) .nil) (by kernel_rfl) (.cons [(some 12, Ent.t 35 (VA.k kbool true)), (some 22, Ent.t 45 (VA.k kbool true))] (OpSpec.run rfl rfl (op_build (pl := [(0, 1), (1, 1), (2, 1)]) rfl rfl Try.underlying31 (by kernel_rfl) zk31 (.cons rfl tk4 fldMode_Run (.t NL.h0) (.cons rfl tk4 fldMode_Forgive (.t (NL.hs NL.h0)) (.nil _)))) rfl) (.cons (has rfl) (.cons (has rfl) .nil)) (by kernel_rfl) (.cons [] (OpSpec.run rfl rfl (op_alloc 10 rfl zk31) rfl) .nil (by kernel_rfl) (.cons [(some 24, Ent.t 10 (VA.ptr 10 0)), (some 23, Ent.t 46 (VA.k kMode (⟨false, true, true⟩ : Mode))), (some 24, Ent.h 10 (HE.box 31 kMode zeroMode))] (OpSpec.run rfl rfl (op_store (Fld.whole kMode) tk31 (.t NL.h0) (NL.hs (NL.hs NL.h0)) (.t (NL.hs NL.h0))) rfl) (.cons (has rfl) (.cons (has rfl) (.cons (has rfl) .nil))) (by kernel_rfl) (.nil _))))))))))))))))))))))))))) ?_
              refine ends_sub [Ent.t 3 (VA.ptr 3 0), Ent.t 4 (VA.ptr 4 0), Ent.t 5 (VA.ptr 5 0), Ent.t 6 (VA.ptr 6 0), Ent.t 10 (VA.ptr 10 0), Ent.h 3 (HE.box 25 kOptions a0), Ent.h 4 (HE.box 27 kNode a1), Ent.h 5 (HE.box 29 kFlags a2), Ent.h 6 (HE.box 31 kMode zeroMode), Ent.h 10 (HE.box 31 kMode (⟨false, true, true⟩ : Mode))] (.cons rfl (.cons rfl (.cons rfl (.cons rfl (.cons rfl (.cons rfl (.cons rfl (.cons rfl (.cons rfl (.cons rfl .nil)))))))))) ?_
              obtain rfl := Option.some.inj H
              exact ends_cut (.cons rfl (.cons rfl (.cons rfl (.cons rfl (.cons rfl (.cons rfl (.cons rfl (.cons rfl (.cons rfl (.cons rfl .nil))))))))))
            · skip
              refine goes_drawn [[Ent.t 23 (VA.ptr 5 2)], [Ent.t 24 (VA.k kbool a2.Always)], [Ent.t 25 (VA.k kbool a2.Always)], [Ent.t 26 (VA.v undef)], [Ent.t 27 (VA.v undef)], [Ent.t 28 (VA.v undef)], [Ent.t 29 (VA.v undef)], [Ent.t 30 (VA.v undef)], [Ent.t 31 (VA.v undef)], [Ent.t 32 (VA.v undef)], [Ent.t 33 (VA.v undef)], [Ent.t 34 (VA.v undef)], [Ent.t 35 (VA.k kbool true)], [Ent.t 36 (VA.ptr 5 0)], [Ent.t 37 (VA.k kbool a2.Ignore)], [Ent.t 38 (VA.k kbool a2.Ignore)], [Ent.t 39 (VA.ptr 3 4)], [Ent.t 40 (VA.k kbool a0.Ignore)], [Ent.t 41 (VA.k kbool a0.Ignore)], [Ent.t 42 (VA.k kbool a0.Ignore)], [Ent.t 43 (VA.ptr 4 8)], [Ent.t 44 (VA.k kbool a1.Ignore)], [Ent.t 45 (VA.k kbool a1.Ignore)], [Ent.t 46 (VA.k kMode (⟨false, true, a1.Ignore⟩ : Mode))], [Ent.t 10 (VA.ptr 10 0), Ent.h 10 (HE.box 31 kMode zeroMode), Ent.bind 10], [Ent.h 10 (HE.box 31 kMode (⟨false, true, a1.Ignore⟩ : Mode))]] mixed (by kernel_rfl) (by kernel_rfl) (.cons [(none, Ent.t 5 (VA.ptr 5 0))] (OpSpec.run rfl rfl (op_fieldAddr rfl Try.underlying29 rfl tk4 (.t NL.h0)) rfl) (.cons (has rfl) .nil) (by kernel_rfl) (.cons [(some 0, Ent.t 23 (VA.ptr 5 2)), (none, Ent.h 5 (HE.box 29 kFlags a2))] (OpSpec.run rfl rfl (op_load rfl fldFlags_Always tk4 (.t NL.h0) (NL.hs NL.h0)) rfl) (.cons (has rfl) (.cons (has rfl) .nil)) (by kernel_rfl) (.cons [(some 1, Ent.t 24 (VA.k kbool a2.Always))] (OpSpec.run rfl rfl (op_move rfl (.t NL.h0)) rfl) (.cons (has rfl) .nil) (by kernel_rfl) (.cons [(some 2, Ent.t 25 (VA.k kbool a2.Always))] (run_skip rfl rfl rfl rfl rfl rfl NL.h0 hb9) (.cons (has rfl) .nil) (by kernel_rfl) (.cons [(some 2, Ent.t 25 (VA.k kbool a2.Always))] (run_skip rfl rfl rfl rfl rfl rfl NL.h0 hb9) (.cons (has rfl) .nil) (by kernel_rfl) (.cons [(some 2, Ent.t 25 (VA.k kbool a2.Always))] (run_skip rfl rfl rfl rfl rfl rfl NL.h0 hb9) (.cons (has rfl) .nil) (by kernel_rfl) (.cons [(some 2, Ent.t 25 (VA.k kbool a2.Always))] (run_skip rfl rfl rfl rfl rfl rfl NL.h0 hb9) (.cons (has rfl) .nil) (by kernel_rfl) (.cons [(some 2, Ent.t 25 (VA.k kbool a2.Always))] (run_skip rfl rfl rfl rfl rfl rfl NL.h0 hb9) (.cons (has rfl) .nil) (by kernel_rfl) (.cons [(some 2, Ent.t 25 (VA.k kbool a2.Always))] (run_skip rfl rfl rfl rfl rfl rfl NL.h0 hb9) (.cons (has rfl) .nil) (by kernel_rfl) (.cons [(some 2, Ent.t 25 (VA.k kbool a2.Always))] (run_skip rfl rfl rfl rfl rfl rfl NL.h0 hb9) (.cons (has rfl) .nil) (by kernel_rfl) (.cons [(some 2, Ent.t 25 (VA.k kbool a2.Always))] (run_skip rfl rfl rfl rfl rfl rfl NL.h0 hb9) (.cons (has rfl) .nil) (by kernel_rfl) (.cons [(some 2, Ent.t 25 (VA.k kbool a2.Always))] (run_skip rfl rfl rfl rfl rfl rfl NL.h0 hb9) (.cons (has rfl) .nil) (by kernel_rfl) (.cons [(some 2, Ent.t 25 (VA.k kbool a2.Always))] (OpSpec.run rfl rfl (op_pick_t rfl hb9 (.t NL.h0) (.bool _)) rfl) (.cons (has rfl) .nil) (by kernel_rfl) (.cons [(none, Ent.t 5 (VA.ptr 5 0))] (OpSpec.run rfl rfl (op_fieldAddr rfl Try.underlying29 rfl tk4 (.t NL.h0)) rfl) (.cons (has rfl) .nil) (by kernel_rfl) (.cons [(some 13, Ent.t 36 (VA.ptr 5 0)), (none, Ent.h 5 (HE.box 29 kFlags a2))] (OpSpec.run rfl rfl (op_load rfl fldFlags_Ignore tk4 (.t NL.h0) (NL.hs NL.h0)) rfl) (.cons (has rfl) (.cons (has rfl) .nil)) (by kernel_rfl) (.cons [(some 14, Ent.t 37 (VA.k kbool a2.Ignore))] (OpSpec.run rfl rfl (op_move rfl (.t NL.h0)) rfl) (.cons (has rfl) .nil) (by kernel_rfl) (.cons [(some 15, Ent.t 38 (VA.k kbool a2.Ignore)), (none, Ent.t 3 (VA.ptr 3 0))] (OpSpec.runG rfl rfl rfl rfl NL.h0 hb10 (op_fieldAddr rfl Try.underlying25 rfl tk4 (.t (NL.hs NL.h0))) rfl) (.cons (has rfl) (.cons (has rfl) .nil)) (by kernel_rfl) (.cons [(some 15, Ent.t 38 (VA.k kbool a2.Ignore)), (some 16, Ent.t 39 (VA.ptr 3 4)), (none, Ent.h 3 (HE.box 25 kOptions a0))] (OpSpec.runG rfl rfl rfl rfl NL.h0 hb10 (op_load rfl fldOptions_Ignore tk4 (.t (NL.hs NL.h0)) (NL.hs (NL.hs NL.h0))) rfl) (.cons (has rfl) (.cons (has rfl) (.cons (has rfl) .nil))) (by kernel_rfl) (.cons [(some 15, Ent.t 38 (VA.k kbool a2.Ignore)), (some 17, Ent.t 40 (VA.k kbool a0.Ignore))] (OpSpec.run rfl rfl (op_pick_f rfl hb10 (.t NL.h0) (.t (NL.hs NL.h0))) rfl) (.cons (has rfl) (.cons (has rfl) .nil)) (by kernel_rfl) (.cons [(some 18, Ent.t 41 (VA.k kbool a0.Ignore))] (OpSpec.run rfl rfl (op_move rfl (.t NL.h0)) rfl) (.cons (has rfl) .nil) (by kernel_rfl) (.cons [(some 19, Ent.t 42 (VA.k kbool a0.Ignore)), (none, Ent.t 4 (VA.ptr 4 0))] (OpSpec.runG rfl rfl rfl rfl NL.h0 hb11 (op_fieldAddr rfl Try.underlying27 rfl tk4 (.t (NL.hs NL.h0))) rfl) (.cons (has rfl) (.cons (has rfl) .nil)) (by kernel_rfl) (.cons [(some 19, Ent.t 42 (VA.k kbool a0.Ignore)), (some 20, Ent.t 43 (VA.ptr 4 8)), (none, Ent.h 4 (HE.box 27 kNode a1))] (OpSpec.runG rfl rfl rfl rfl NL.h0 hb11 (op_load rfl fldNode_Ignore tk4 (.t (NL.hs NL.h0)) (NL.hs (NL.hs NL.h0))) rfl) (.cons (has rfl) (.cons (has rfl) (.cons (has rfl) .nil))) (by kernel_rfl) (.cons [(some 19, Ent.t 42 (VA.k kbool a0.Ignore)), (some 21, Ent.t 44 (VA.k kbool a1.Ignore))] (OpSpec.run rfl rfl (op_pick_f rfl hb11 (.t NL.h0) (.t (NL.hs NL.h0))) rfl) (.cons (has rfl) (.cons (has rfl) .nil)) (by kernel_rfl) (.cons [(some 12, Ent.t 35 (VA.k kbool true)), (some 22, Ent.t 45 (VA.k kbool a1.Ignore))] (OpSpec.run rfl rfl (op_build (pl := [(0, 1), (1, 1), (2, 1)]) rfl rfl Try.underlying31 (by kernel_rfl) zk31 (.cons rfl tk4 fldMode_Run (.t NL.h0) (.cons rfl tk4 fldMode_Forgive (.t (NL.hs NL.h0)) (.nil _)))) rfl) (.cons (has rfl) (.cons (has rfl) .nil)) (by kernel_rfl) (.cons [] (OpSpec.run rfl rfl (op_alloc 10 rfl zk31) rfl) .nil (by kernel_rfl) (.cons [(some 24, Ent.t 10 (VA.ptr 10 0)), (some 23, Ent.t 46 (VA.k kMode (⟨false, true, a1.Ignore⟩ : Mode))), (some 24, Ent.h 10 (HE.box 31 kMode zeroMode))] (OpSpec.run rfl rfl (op_store (Fld.whole kMode) tk31 (.t NL.h0) (NL.hs (NL.hs NL.h0)) (.t (NL.hs NL.h0))) rfl) (.cons (has rfl) (.cons (has rfl) (.cons (has rfl) .nil))) (by kernel_rfl) (.nil _))))))))))))))))))))))))))) ?_
              refine ends_sub [Ent.t 3 (VA.ptr 3 0), Ent.t 4 (VA.ptr 4 0), Ent.t 5 (VA.ptr 5 0), Ent.t 6 (VA.ptr 6 0), Ent.t 10 (VA.ptr 10 0), Ent.h 3 (HE.box 25 kOptions a0), Ent.h 4 (HE.box 27 kNode a1), Ent.h 5 (HE.box 29 kFlags a2), Ent.h 6 (HE.box 31 kMode zeroMode), Ent.h 10 (HE.box 31 kMode (⟨false, true, a1.Ignore⟩ : Mode))] (.cons rfl (.cons rfl (.cons rfl (.cons rfl (.cons rfl (.cons rfl (.cons rfl (.cons rfl (.cons rfl (.cons rfl .nil)))))))))) ?_
              obtain rfl := Option.some.inj H
              exact ends_cut (.cons rfl (.cons rfl (.cons rfl (.cons rfl (.cons rfl (.cons rfl (.cons rfl (.cons rfl (.cons rfl (.cons rfl .nil))))))))))
        · skip
          obtain ⟨v12, h13, H⟩ := bind_some H
          refine goes_split H (fun hb14 H => ?_) (fun hb14 H => ?_)
          · skip
            refine goes_drawn [[Ent.t 23 (VA.ptr 5 2)], [Ent.t 24 (VA.k kbool a2.Always)], [Ent.t 25 (VA.k kbool a2.Always)], [Ent.t 26 (VA.ptr 3 0)], [Ent.t 27 (VA.k kbool a0.Dry)], [Ent.t 28 (VA.ptr 3 1)], [Ent.t 29 (VA.k kbool a0.Touch)], [Ent.t 30 (VA.ptr 3 2)], [Ent.t 31 (VA.k kbool a0.Query)], [Ent.t 32 (VA.own 4 kbool ([a0.Dry, a0.Touch, a0.Query]))], [Ent.t 33 (VA.k (kint .i64) v12)], [Ent.t 34 (VA.k kbool (icmp .eql v12 (0 : Int)))], [Ent.t 35 (VA.k kbool (icmp .eql v12 (0 : Int)))], [Ent.t 36 (VA.ptr 5 0)], [Ent.t 37 (VA.k kbool a2.Ignore)], [Ent.t 38 (VA.k kbool a2.Ignore)], [Ent.t 39 (VA.v undef)], [Ent.t 40 (VA.v undef)], [Ent.t 41 (VA.k kbool true)], [Ent.t 42 (VA.k kbool true)], [Ent.t 43 (VA.v undef)], [Ent.t 44 (VA.v undef)], [Ent.t 45 (VA.k kbool true)], [Ent.t 46 (VA.k kMode (⟨false, icmp .eql v12 (0 : Int), true⟩ : Mode))], [Ent.t 10 (VA.ptr 10 0), Ent.h 10 (HE.box 31 kMode zeroMode), Ent.bind 10], [Ent.h 10 (HE.box 31 kMode (⟨false, icmp .eql v12 (0 : Int), true⟩ : Mode))]] mixed (by kernel_rfl) (by kernel_rfl) (.cons [(none, Ent.t 5 (VA.ptr 5 0))] (OpSpec.run rfl rfl (op_fieldAddr rfl Try.underlying29 rfl tk4 (.t NL.h0)) rfl) (.cons (has rfl) .nil) (by kernel_rfl) (.cons [(some 0, Ent.t 23 (VA.ptr 5 2)), (none, Ent.h 5 (HE.box 29 kFlags a2))] (OpSpec.run rfl rfl (op_load rfl fldFlags_Always tk4 (.t NL.h0) (NL.hs NL.h0)) rfl) (.cons (has rfl) (.cons (has rfl) .nil)) (by kernel_rfl) (.cons [(some 1, Ent.t 24 (VA.k kbool a2.Always))] (OpSpec.run rfl rfl (op_move rfl (.t NL.h0)) rfl) (.cons (has rfl) .nil) (by kernel_rfl) (.cons [(some 2, Ent.t 25 (VA.k kbool a2.Always)), (none, Ent.t 3 (VA.ptr 3 0))] (OpSpec.runG rfl rfl rfl rfl NL.h0 hb9 (op_fieldAddr rfl Try.underlying25 rfl tk4 (.t (NL.hs NL.h0))) rfl) (.cons (has rfl) (.cons (has rfl) .nil)) (by kernel_rfl) (.cons [(some 2, Ent.t 25 (VA.k kbool a2.Always)), (some 3, Ent.t 26 (VA.ptr 3 0)), (none, Ent.h 3 (HE.box 25 kOptions a0))] (OpSpec.runG rfl rfl rfl rfl NL.h0 hb9 (op_load rfl fldOptions_Dry tk4 (.t (NL.hs NL.h0)) (NL.hs (NL.hs NL.h0))) rfl) (.cons (has rfl) (.cons (has rfl) (.cons (has rfl) .nil))) (by kernel_rfl) (.cons [(some 2, Ent.t 25 (VA.k kbool a2.Always)), (none, Ent.t 3 (VA.ptr 3 0))] (OpSpec.runG rfl rfl rfl rfl NL.h0 hb9 (op_fieldAddr rfl Try.underlying25 rfl tk4 (.t (NL.hs NL.h0))) rfl) (.cons (has rfl) (.cons (has rfl) .nil)) (by kernel_rfl) (.cons [(some 2, Ent.t 25 (VA.k kbool a2.Always)), (some 5, Ent.t 28 (VA.ptr 3 1)), (none, Ent.h 3 (HE.box 25 kOptions a0))] (OpSpec.runG rfl rfl rfl rfl NL.h0 hb9 (op_load rfl fldOptions_Touch tk4 (.t (NL.hs NL.h0)) (NL.hs (NL.hs NL.h0))) rfl) (.cons (has rfl) (.cons (has rfl) (.cons (has rfl) .nil))) (by kernel_rfl) (.cons [(some 2, Ent.t 25 (VA.k kbool a2.Always)), (none, Ent.t 3 (VA.ptr 3 0))] (OpSpec.runG rfl rfl rfl rfl NL.h0 hb9 (op_fieldAddr rfl Try.underlying25 rfl tk4 (.t (NL.hs NL.h0))) rfl) (.cons (has rfl) (.cons (has rfl) .nil)) (by kernel_rfl) (.cons [(some 2, Ent.t 25 (VA.k kbool a2.Always)), (some 7, Ent.t 30 (VA.ptr 3 2)), (none, Ent.h 3 (HE.box 25 kOptions a0))] (OpSpec.runG rfl rfl rfl rfl NL.h0 hb9 (op_load rfl fldOptions_Query tk4 (.t (NL.hs NL.h0)) (NL.hs (NL.hs NL.h0))) rfl) (.cons (has rfl) (.cons (has rfl) (.cons (has rfl) .nil))) (by kernel_rfl) (.cons [(some 2, Ent.t 25 (VA.k kbool a2.Always)), (some 4, Ent.t 27 (VA.k kbool a0.Dry)), (some 6, Ent.t 29 (VA.k kbool a0.Touch)), (some 8, Ent.t 31 (VA.k kbool a0.Query))] (OpSpec.runG rfl rfl rfl rfl NL.h0 hb9 (op_buildSlice rfl at64 (fun h => by first | rfl | cases h) rfl rfl rfl (.cons (.t (NL.hs NL.h0)) (.cons (.t (NL.hs (NL.hs NL.h0))) (.cons (.t (NL.hs (NL.hs (NL.hs NL.h0)))) (.nil _))))) rfl) (.cons (has rfl) (.cons (has rfl) (.cons (has rfl) (.cons (has rfl) .nil)))) (by kernel_rfl) (.cons [(some 2, Ent.t 25 (VA.k kbool a2.Always)), (some 9, Ent.t 32 (VA.own 4 kbool ([a0.Dry, a0.Touch, a0.Query])))] (OpSpec.runG rfl rfl rfl rfl NL.h0 hb9 (op_callF' rfl enters19 (modes_set.conF _ _ _ h13) rfl (.cons (ArgB.own rfl (NL.hs NL.h0)) .nil)) rfl) (.cons (has rfl) (.cons (has rfl) .nil)) (by kernel_rfl) (.cons [(some 2, Ent.t 25 (VA.k kbool a2.Always)), (some 10, Ent.t 33 (VA.k (kint .i64) v12))] (OpSpec.runG rfl rfl rfl rfl NL.h0 hb9 (op_icmp rfl rfl (.t (NL.hs NL.h0)) (.int _ _)) rfl) (.cons (has rfl) (.cons (has rfl) .nil)) (by kernel_rfl) (.cons [(some 2, Ent.t 25 (VA.k kbool a2.Always)), (some 11, Ent.t 34 (VA.k kbool (icmp .eql v12 (0 : Int))))] (OpSpec.run rfl rfl (op_pick_f rfl hb9 (.t NL.h0) (.t (NL.hs NL.h0))) rfl) (.cons (has rfl) (.cons (has rfl) .nil)) (by kernel_rfl) (.cons [(none, Ent.t 5 (VA.ptr 5 0))] (OpSpec.run rfl rfl (op_fieldAddr rfl Try.underlying29 rfl tk4 (.t NL.h0)) rfl) (.cons (has rfl) .nil) (by kernel_rfl) (.cons [(some 13, Ent.t 36 (VA.ptr 5 0)), (none, Ent.h 5 (HE.box 29 kFlags a2))] (OpSpec.run rfl rfl (op_load rfl fldFlags_Ignore tk4 (.t NL.h0) (NL.hs NL.h0)) rfl) (.cons (has rfl) (.cons (has rfl) .nil)) (by kernel_rfl) (.cons [(some 14, Ent.t 37 (VA.k kbool a2.Ignore))] (OpSpec.run rfl rfl (op_move rfl (.t NL.h0)) rfl) (.cons (has rfl) .nil) (by kernel_rfl) (.cons [(some 15, Ent.t 38 (VA.k kbool a2.Ignore))] (run_skip rfl rfl rfl rfl rfl rfl NL.h0 hb14) (.cons (has rfl) .nil) (by kernel_rfl) (.cons [(some 15, Ent.t 38 (VA.k kbool a2.Ignore))] (run_skip rfl rfl rfl rfl rfl rfl NL.h0 hb14) (.cons (has rfl) .nil) (by kernel_rfl) (.cons [(some 15, Ent.t 38 (VA.k kbool a2.Ignore))] (OpSpec.run rfl rfl (op_pick_t rfl hb14 (.t NL.h0) (.bool _)) rfl) (.cons (has rfl) .nil) (by kernel_rfl) (.cons [(some 18, Ent.t 41 (VA.k kbool true))] (OpSpec.run rfl rfl (op_move rfl (.t NL.h0)) rfl) (.cons (has rfl) .nil) (by kernel_rfl) (.cons [(some 19, Ent.t 42 (VA.k kbool true))] (run_skip rfl rfl rfl rfl rfl rfl NL.h0 rfl) (.cons (has rfl) .nil) (by kernel_rfl) (.cons [(some 19, Ent.t 42 (VA.k kbool true))] (run_skip rfl rfl rfl rfl rfl rfl NL.h0 rfl) (.cons (has rfl) .nil) (by kernel_rfl) (.cons [(some 19, Ent.t 42 (VA.k kbool true))] (OpSpec.run rfl rfl (op_pick_t rfl rfl (.t NL.h0) (.bool _)) rfl) (.cons (has rfl) .nil) (by kernel_rfl) (.cons [(some 12, Ent.t 35 (VA.k kbool (icmp .eql v12 (0 : Int)))), (some 22, Ent.t 45 (VA.k kbool true))] (OpSpec.run rfl rfl (op_build (pl := [(0, 1), (1, 1), (2, 1)]) rfl rfl Try.underlying31 (by kernel_rfl) zk31 (.cons rfl tk4 fldMode_Run (.t NL.h0) (.cons rfl tk4 fldMode_Forgive (.t (NL.hs NL.h0)) (.nil _)))) rfl) (.cons (has rfl) (.cons (has rfl) .nil)) (by kernel_rfl) (.cons [] (OpSpec.run rfl rfl (op_alloc 10 rfl zk31) rfl) .nil (by kernel_rfl) (.cons [(some 24, Ent.t 10 (VA.ptr 10 0)), (some 23, Ent.t 46 (VA.k kMode (⟨false, icmp .eql v12 (0 : Int), true⟩ : Mode))), (some 24, Ent.h 10 (HE.box 31 kMode zeroMode))] (OpSpec.run rfl rfl (op_store (Fld.whole kMode) tk31 (.t NL.h0) (NL.hs (NL.hs NL.h0)) (.t (NL.hs NL.h0))) rfl) (.cons (has rfl) (.cons (has rfl) (.cons (has rfl) .nil))) (by kernel_rfl) (.nil _))))))))))))))))))))))))))) ?_
            refine ends_sub [Ent.t 3 (VA.ptr 3 0), Ent.t 4 (VA.ptr 4 0), Ent.t 5 (VA.ptr 5 0), Ent.t 6 (VA.ptr 6 0), Ent.t 10 (VA.ptr 10 0), Ent.h 3 (HE.box 25 kOptions a0), Ent.h 4 (HE.box 27 kNode a1), Ent.h 5 (HE.box 29 kFlags a2), Ent.h 6 (HE.box 31 kMode zeroMode), Ent.h 10 (HE.box 31 kMode (⟨false, icmp .eql v12 (0 : Int), true⟩ : Mode))] (.cons rfl (.cons rfl (.cons rfl (.cons rfl (.cons rfl (.cons rfl (.cons rfl (.cons rfl (.cons rfl (.cons rfl .nil)))))))))) ?_
            obtain rfl := Option.some.inj H
            exact ends_cut (.cons rfl (.cons rfl (.cons rfl (.cons rfl (.cons rfl (.cons rfl (.cons rfl (.cons rfl (.cons rfl (.cons rfl .nil))))))))))
          · skip
            refine goes_split H (fun hb15 H => ?_) (fun hb15 H => ?_)
            · skip
              refine goes_drawn [[Ent.t 23 (VA.ptr 5 2)], [Ent.t 24 (VA.k kbool a2.Always)], [Ent.t 25 (VA.k kbool a2.Always)], [Ent.t 26 (VA.ptr 3 0)], [Ent.t 27 (VA.k kbool a0.Dry)], [Ent.t 28 (VA.ptr 3 1)], [Ent.t 29 (VA.k kbool a0.Touch)], [Ent.t 30 (VA.ptr 3 2)], [Ent.t 31 (VA.k kbool a0.Query)], [Ent.t 32 (VA.own 4 kbool ([a0.Dry, a0.Touch, a0.Query]))], [Ent.t 33 (VA.k (kint .i64) v12)], [Ent.t 34 (VA.k kbool (icmp .eql v12 (0 : Int)))], [Ent.t 35 (VA.k kbool (icmp .eql v12 (0 : Int)))], [Ent.t 36 (VA.ptr 5 0)], [Ent.t 37 (VA.k kbool a2.Ignore)], [Ent.t 38 (VA.k kbool a2.Ignore)], [Ent.t 39 (VA.ptr 3 4)], [Ent.t 40 (VA.k kbool a0.Ignore)], [Ent.t 41 (VA.k kbool a0.Ignore)], [Ent.t 42 (VA.k kbool a0.Ignore)], [Ent.t 43 (VA.v undef)], [Ent.t 44 (VA.v undef)], [Ent.t 45 (VA.k kbool true)], [Ent.t 46 (VA.k kMode (⟨false, icmp .eql v12 (0 : Int), true⟩ : Mode))], [Ent.t 10 (VA.ptr 10 0), Ent.h 10 (HE.box 31 kMode zeroMode), Ent.bind 10], [Ent.h 10 (HE.box 31 kMode (⟨false, icmp .eql v12 (0 : Int), true⟩ : Mode))]] mixed (by kernel_rfl) (by kernel_rfl) (.cons [(none, Ent.t 5 (VA.ptr 5 0))] (OpSpec.run rfl rfl (op_fieldAddr rfl Try.underlying29 rfl tk4 (.t NL.h0)) rfl) (.cons (has rfl) .nil) (by kernel_rfl) (.cons [(some 0, Ent.t 23 (VA.ptr 5 2)), (none, Ent.h 5 (HE.box 29 kFlags a2))] (OpSpec.run rfl rfl (op_load rfl fldFlags_Always tk4 (.t NL.h0) (NL.hs NL.h0)) rfl) (.cons (has rfl) (.cons (has rfl) .nil)) (by kernel_rfl) (.cons [(some 1, Ent.t 24 (VA.k kbool a2.Always))] (OpSpec.run rfl rfl (op_move rfl (.t NL.h0)) rfl) (.cons (has rfl) .nil) (by kernel_rfl) (.cons [(some 2, Ent.t 25 (VA.k kbool a2.Always)), (none, Ent.t 3 (VA.ptr 3 0))] (OpSpec.runG rfl rfl rfl rfl NL.h0 hb9 (op_fieldAddr rfl Try.underlying25 rfl tk4 (.t (NL.hs NL.h0))) rfl) (.cons (has rfl) (.cons (has rfl) .nil)) (by kernel_rfl) (.cons [(some 2, Ent.t 25 (VA.k kbool a2.Always)), (some 3, Ent.t 26 (VA.ptr 3 0)), (none, Ent.h 3 (HE.box 25 kOptions a0))] (OpSpec.runG rfl rfl rfl rfl NL.h0 hb9 (op_load rfl fldOptions_Dry tk4 (.t (NL.hs NL.h0)) (NL.hs (NL.hs NL.h0))) rfl) (.cons (has rfl) (.cons (has rfl) (.cons (has rfl) .nil))) (by kernel_rfl) (.cons [(some 2, Ent.t 25 (VA.k kbool a2.Always)), (none, Ent.t 3 (VA.ptr 3 0))] (OpSpec.runG rfl rfl rfl rfl NL.h0 hb9 (op_fieldAddr rfl Try.underlying25 rfl tk4 (.t (NL.hs NL.h0))) rfl) (.cons (has rfl) (.cons (has rfl) .nil)) (by kernel_rfl) (.cons [(some 2, Ent.t 25 (VA.k kbool a2.Always)), (some 5, Ent.t 28 (VA.ptr 3 1)), (none, Ent.h 3 (HE.box 25 kOptions a0))] (OpSpec.runG rfl rfl rfl rfl NL.h0 hb9 (op_load rfl fldOptions_Touch tk4 (.t (NL.hs NL.h0)) (NL.hs (NL.hs NL.h0))) rfl) (.cons (has rfl) (.cons (has rfl) (.cons (has rfl) .nil))) (by kernel_rfl) (.cons [(some 2, Ent.t 25 (VA.k kbool a2.Always)), (none, Ent.t 3 (VA.ptr 3 0))] (OpSpec.runG rfl rfl rfl rfl NL.h0 hb9 (op_fieldAddr rfl Try.underlying25 rfl tk4 (.t (NL.hs NL.h0))) rfl) (.cons (has rfl) (.cons (has rfl) .nil)) (by kernel_rfl) (.cons [(some 2, Ent.t 25 (VA.k kbool a2.Always)), (some 7, Ent.t 30 (VA.ptr 3 2)), (none, Ent.h 3 (HE.box 25 kOptions a0))] (OpSpec.runG rfl rfl rfl rfl NL.h0 hb9 (op_load rfl fldOptions_Query tk4 (.t (NL.hs NL.h0)) (NL.hs (NL.hs NL.h0))) rfl) (.cons (has rfl) (.cons (has rfl) (.cons (has rfl) .nil))) (by kernel_rfl) (.cons [(some 2, Ent.t 25 (VA.k kbool a2.Always)), (some 4, Ent.t 27 (VA.k kbool a0.Dry)), (some 6, Ent.t 29 (VA.k kbool a0.Touch)), (some 8, Ent.t 31 (VA.k kbool a0.Query))] (OpSpec.runG rfl rfl rfl rfl NL.h0 hb9 (op_buildSlice rfl at64 (fun h => by first | rfl | cases h) rfl rfl rfl (.cons (.t (NL.hs NL.h0)) (.cons (.t (NL.hs (NL.hs NL.h0))) (.cons (.t (NL.hs (NL.hs (NL.hs NL.h0)))) (.nil _))))) rfl) (.cons (has rfl) (.cons (has rfl) (.cons (has rfl) (.cons (has rfl) .nil)))) (by kernel_rfl) (.cons [(some 2, Ent.t 25 (VA.k kbool a2.Always)), (some 9, Ent.t 32 (VA.own 4 kbool ([a0.Dry, a0.Touch, a0.Query])))] (OpSpec.runG rfl rfl rfl rfl NL.h0 hb9 (op_callF' rfl enters19 (modes_set.conF _ _ _ h13) rfl (.cons (ArgB.own rfl (NL.hs NL.h0)) .nil)) rfl) (.cons (has rfl) (.cons (has rfl) .nil)) (by kernel_rfl) (.cons [(some 2, Ent.t 25 (VA.k kbool a2.Always)), (some 10, Ent.t 33 (VA.k (kint .i64) v12))] (OpSpec.runG rfl rfl rfl rfl NL.h0 hb9 (op_icmp rfl rfl (.t (NL.hs NL.h0)) (.int _ _)) rfl) (.cons (has rfl) (.cons (has rfl) .nil)) (by kernel_rfl) (.cons [(some 2, Ent.t 25 (VA.k kbool a2.Always)), (some 11, Ent.t 34 (VA.k kbool (icmp .eql v12 (0 : Int))))] (OpSpec.run rfl rfl (op_pick_f rfl hb9 (.t NL.h0) (.t (NL.hs NL.h0))) rfl) (.cons (has rfl) (.cons (has rfl) .nil)) (by kernel_rfl) (.cons [(none, Ent.t 5 (VA.ptr 5 0))] (OpSpec.run rfl rfl (op_fieldAddr rfl Try.underlying29 rfl tk4 (.t NL.h0)) rfl) (.cons (has rfl) .nil) (by kernel_rfl) (.cons [(some 13, Ent.t 36 (VA.ptr 5 0)), (none, Ent.h 5 (HE.box 29 kFlags a2))] (OpSpec.run rfl rfl (op_load rfl fldFlags_Ignore tk4 (.t NL.h0) (NL.hs NL.h0)) rfl) (.cons (has rfl) (.cons (has rfl) .nil)) (by kernel_rfl) (.cons [(some 14, Ent.t 37 (VA.k kbool a2.Ignore))] (OpSpec.run rfl rfl (op_move rfl (.t NL.h0)) rfl) (.cons (has rfl) .nil) (by kernel_rfl) (.cons [(some 15, Ent.t 38 (VA.k kbool a2.Ignore)), (none, Ent.t 3 (VA.ptr 3 0))] (OpSpec.runG rfl rfl rfl rfl NL.h0 hb14 (op_fieldAddr rfl Try.underlying25 rfl tk4 (.t (NL.hs NL.h0))) rfl) (.cons (has rfl) (.cons (has rfl) .nil)) (by kernel_rfl) (.cons [(some 15, Ent.t 38 (VA.k kbool a2.Ignore)), (some 16, Ent.t 39 (VA.ptr 3 4)), (none, Ent.h 3 (HE.box 25 kOptions a0))] (OpSpec.runG rfl rfl rfl rfl NL.h0 hb14 (op_load rfl fldOptions_Ignore tk4 (.t (NL.hs NL.h0)) (NL.hs (NL.hs NL.h0))) rfl) (.cons (has rfl) (.cons (has rfl) (.cons (has rfl) .nil))) (by kernel_rfl) (.cons [(some 15, Ent.t 38 (VA.k kbool a2.Ignore)), (some 17, Ent.t 40 (VA.k kbool a0.Ignore))] (OpSpec.run rfl rfl (op_pick_f rfl hb14 (.t NL.h0) (.t (NL.hs NL.h0))) rfl) (.cons (has rfl) (.cons (has rfl) .nil)) (by kernel_rfl) (.cons [(some 18, Ent.t 41 (VA.k kbool a0.Ignore))] (OpSpec.run rfl rfl (op_move rfl (.t NL.h0)) rfl) (.cons (has rfl) .nil) (by kernel_rfl) (.cons [(some 19, Ent.t 42 (VA.k kbool a0.Ignore))] (run_skip rfl rfl rfl rfl rfl rfl NL.h0 hb15) (.cons (has rfl) .nil) (by kernel_rfl) (.cons [(some 19, Ent.t 42 (VA.k kbool a0.Ignore))] (run_skip rfl rfl rfl rfl rfl rfl NL.h0 hb15) (.cons (has rfl) .nil) (by kernel_rfl) (.cons [(some 19, Ent.t 42 (VA.k kbool a0.Ignore))] (OpSpec.run rfl rfl (op_pick_t rfl hb15 (.t NL.h0) (.bool _)) rfl) (.cons (has rfl) .nil) (by kernel_rfl) (.cons [(some 12, Ent.t 35 (VA.k kbool (icmp .eql v12 (0 : Int)))), (some 22, Ent.t 45 (VA.k kbool true))] (OpSpec.run rfl rfl (op_build (pl := [(0, 1), (1, 1), (2, 1)]) rfl rfl Try.underlying31 (by kernel_rfl) zk31 (.cons rfl tk4 fldMode_Run (.t NL.h0) (.cons rfl tk4 fldMode_Forgive (.t (NL.hs NL.h0)) (.nil _)))) rfl) (.cons (has rfl) (.cons (has rfl) .nil)) (by kernel_rfl) (.cons [] (OpSpec.run rfl rfl (op_alloc 10 rfl zk31) rfl) .nil (by kernel_rfl) (.cons [(some 24, Ent.t 10 (VA.ptr 10 0)), (some 23, Ent.t 46 (VA.k kMode (⟨false, icmp .eql v12 (0 : Int), true⟩ : Mode))), (some 24, Ent.h 10 (HE.box 31 kMode zeroMode))] (OpSpec.run rfl rfl (op_store (Fld.whole kMode) tk31 (.t NL.h0) (NL.hs (NL.hs NL.h0)) (.t (NL.hs NL.h0))) rfl) (.cons (has rfl) (.cons (has rfl) (.cons (has rfl) .nil))) (by kernel_rfl) (.nil _))))))))))))))))))))))))))) ?_
              refine ends_sub [Ent.t 3 (VA.ptr 3 0), Ent.t 4 (VA.ptr 4 0), Ent.t 5 (VA.ptr 5 0), Ent.t 6 (VA.ptr 6 0), Ent.t 10 (VA.ptr 10 0), Ent.h 3 (HE.box 25 kOptions a0), Ent.h 4 (HE.box 27 kNode a1), Ent.h 5 (HE.box 29 kFlags a2), Ent.h 6 (HE.box 31 kMode zeroMode), Ent.h 10 (HE.box 31 kMode (⟨false, icmp .eql v12 (0 : Int), true⟩ : Mode))] (.cons rfl (.cons rfl (.cons rfl (.cons rfl (.cons rfl (.cons rfl (.cons rfl (.cons rfl (.cons rfl (.cons rfl .nil)))))))))) ?_
              obtain rfl := Option.some.inj H
              exact ends_cut (.cons rfl (.cons rfl (.cons rfl (.cons rfl (.cons rfl (.cons rfl (.cons rfl (.cons rfl (.cons rfl (.cons rfl .nil))))))))))
            · skip
              refine goes_drawn [[Ent.t 23 (VA.ptr 5 2)], [Ent.t 24 (VA.k kbool a2.Always)], [Ent.t 25 (VA.k kbool a2.Always)], [Ent.t 26 (VA.ptr 3 0)], [Ent.t 27 (VA.k kbool a0.Dry)], [Ent.t 28 (VA.ptr 3 1)], [Ent.t 29 (VA.k kbool a0.Touch)], [Ent.t 30 (VA.ptr 3 2)], [Ent.t 31 (VA.k kbool a0.Query)], [Ent.t 32 (VA.own 4 kbool ([a0.Dry, a0.Touch, a0.Query]))], [Ent.t 33 (VA.k (kint .i64) v12)], [Ent.t 34 (VA.k kbool (icmp .eql v12 (0 : Int)))], [Ent.t 35 (VA.k kbool (icmp .eql v12 (0 : Int)))], [Ent.t 36 (VA.ptr 5 0)], [Ent.t 37 (VA.k kbool a2.Ignore)], [Ent.t 38 (VA.k kbool a2.Ignore)], [Ent.t 39 (VA.ptr 3 4)], [Ent.t 40 (VA.k kbool a0.Ignore)], [Ent.t 41 (VA.k kbool a0.Ignore)], [Ent.t 42 (VA.k kbool a0.Ignore)], [Ent.t 43 (VA.ptr 4 8)], [Ent.t 44 (VA.k kbool a1.Ignore)], [Ent.t 45 (VA.k kbool a1.Ignore)], [Ent.t 46 (VA.k kMode (⟨false, icmp .eql v12 (0 : Int), a1.Ignore⟩ : Mode))], [Ent.t 10 (VA.ptr 10 0), Ent.h 10 (HE.box 31 kMode zeroMode), Ent.bind 10], [Ent.h 10 (HE.box 31 kMode (⟨false, icmp .eql v12 (0 : Int), a1.Ignore⟩ : Mode))]] mixed (by kernel_rfl) (by kernel_rfl) (.cons [(none, Ent.t 5 (VA.ptr 5 0))] (OpSpec.run rfl rfl (op_fieldAddr rfl Try.underlying29 rfl tk4 (.t NL.h0)) rfl) (.cons (has rfl) .nil) (by kernel_rfl) (.cons [(some 0, Ent.t 23 (VA.ptr 5 2)), (none, Ent.h 5 (HE.box 29 kFlags a2))] (OpSpec.run rfl rfl (op_load rfl fldFlags_Always tk4 (.t NL.h0) (NL.hs NL.h0)) rfl) (.cons (has rfl) (.cons (has rfl) .nil)) (by kernel_rfl) (.cons [(some 1, Ent.t 24 (VA.k kbool a2.Always))] (OpSpec.run rfl rfl (op_move rfl (.t NL.h0)) rfl) (.cons (has rfl) .nil) (by kernel_rfl) (.cons [(some 2, Ent.t 25 (VA.k kbool a2.Always)), (none, Ent.t 3 (VA.ptr 3 0))] (OpSpec.runG rfl rfl rfl rfl NL.h0 hb9 (op_fieldAddr rfl Try.underlying25 rfl tk4 (.t (NL.hs NL.h0))) rfl) (.cons (has rfl) (.cons (has rfl) .nil)) (by kernel_rfl) (.cons [(some 2, Ent.t 25 (VA.k kbool a2.Always)), (some 3, Ent.t 26 (VA.ptr 3 0)), (none, Ent.h 3 (HE.box 25 kOptions a0))] (OpSpec.runG rfl rfl rfl rfl NL.h0 hb9 (op_load rfl fldOptions_Dry tk4 (.t (NL.hs NL.h0)) (NL.hs (NL.hs NL.h0))) rfl) (.cons (has rfl) (.cons (has rfl) (.cons (has rfl) .nil))) (by kernel_rfl) (.cons [(some 2, Ent.t 25 (VA.k kbool a2.Always)), (none, Ent.t 3 (VA.ptr 3 0))] (OpSpec.runG rfl rfl rfl rfl NL.h0 hb9 (op_fieldAddr rfl Try.underlying25 rfl tk4 (.t (NL.hs NL.h0))) rfl) (.cons (has rfl) (.cons (has rfl) .nil)) (by kernel_rfl) (.cons [(some 2, Ent.t 25 (VA.k kbool a2.Always)), (some 5, Ent.t 28 (VA.ptr 3 1)), (none, Ent.h 3 (HE.box 25 kOptions a0))] (OpSpec.runG rfl rfl rfl rfl NL.h0 hb9 (op_load rfl fldOptions_Touch tk4 (.t (NL.hs NL.h0)) (NL.hs (NL.hs NL.h0))) rfl) (.cons (has rfl) (.cons (has rfl) (.cons (has rfl) .nil))) (by kernel_rfl) (.cons [(some 2, Ent.t 25 (VA.k kbool a2.Always)), (none, Ent.t 3 (VA.ptr 3 0))] (OpSpec.runG rfl rfl rfl rfl NL.h0 hb9 (op_fieldAddr rfl Try.underlying25 rfl tk4 (.t (NL.hs NL.h0))) rfl) (.cons (has rfl) (.cons (has rfl) .nil)) (by kernel_rfl) (.cons [(some 2, Ent.t 25 (VA.k kbool a2.Always)), (some 7, Ent.t 30 (VA.ptr 3 2)), (none, Ent.h 3 (HE.box 25 kOptions a0))] (OpSpec.runG rfl rfl rfl rfl NL.h0 hb9 (op_load rfl fldOptions_Query tk4 (.t (NL.hs NL.h0)) (NL.hs (NL.hs NL.h0))) rfl) (.cons (has rfl) (.cons (has rfl) (.cons (has rfl) .nil))) (by kernel_rfl) (.cons [(some 2, Ent.t 25 (VA.k kbool a2.Always)), (some 4, Ent.t 27 (VA.k kbool a0.Dry)), (some 6, Ent.t 29 (VA.k kbool a0.Touch)), (some 8, Ent.t 31 (VA.k kbool a0.Query))] (OpSpec.runG rfl rfl rfl rfl NL.h0 hb9 (op_buildSlice rfl at64 (fun h => by first | rfl | cases h) rfl rfl rfl (.cons (.t (NL.hs NL.h0)) (.cons (.t (NL.hs (NL.hs NL.h0))) (.cons (.t (NL.hs (NL.hs (NL.hs NL.h0)))) (.nil _))))) rfl) (.cons (has rfl) (.cons (has rfl) (.cons (has rfl) (.cons (has rfl) .nil)))) (by kernel_rfl) (.cons [(some 2, Ent.t 25 (VA.k kbool a2.Always)), (some 9, Ent.t 32 (VA.own 4 kbool ([a0.Dry, a0.Touch, a0.Query])))] (OpSpec.runG rfl rfl rfl rfl NL.h0 hb9 (op_callF' rfl enters19 (modes_set.conF _ _ _ h13) rfl (.cons (ArgB.own rfl (NL.hs NL.h0)) .nil)) rfl) (.cons (has rfl) (.cons (has rfl) .nil)) (by kernel_rfl) (.cons [(some 2, Ent.t 25 (VA.k kbool a2.Always)), (some 10, Ent.t 33 (VA.k (kint .i64) v12))] (OpSpec.runG rfl rfl rfl rfl NL.h0 hb9 (op_icmp rfl rfl (.t (NL.hs NL.h0)) (.int _ _)) rfl) (.cons (has rfl) (.cons (has rfl) .nil)) (by kernel_rfl) (.cons [(some 2, Ent.t 25 (VA.k kbool a2.Always)), (some 11, Ent.t 34 (VA.k kbool (icmp .eql v12 (0 : Int))))] (OpSpec.run rfl rfl (op_pick_f rfl hb9 (.t NL.h0) (.t (NL.hs NL.h0))) rfl) (.cons (has rfl) (.cons (has rfl) .nil)) (by kernel_rfl) (.cons [(none, Ent.t 5 (VA.ptr 5 0))] (OpSpec.run rfl rfl (op_fieldAddr rfl Try.underlying29 rfl tk4 (.t NL.h0)) rfl) (.cons (has rfl) .nil) (by kernel_rfl) (.cons [(some 13, Ent.t 36 (VA.ptr 5 0)), (none, Ent.h 5 (HE.box 29 kFlags a2))] (OpSpec.run rfl rfl (op_load rfl fldFlags_Ignore tk4 (.t NL.h0) (NL.hs NL.h0)) rfl) (.cons (has rfl) (.cons (has rfl) .nil)) (by kernel_rfl) (.cons [(some 14, Ent.t 37 (VA.k kbool a2.Ignore))] (OpSpec.run rfl rfl (op_move rfl (.t NL.h0)) rfl) (.cons (has rfl) .nil) (by kernel_rfl) (.cons [(some 15, Ent.t 38 (VA.k kbool a2.Ignore)), (none, Ent.t 3 (VA.ptr 3 0))] (OpSpec.runG rfl rfl rfl rfl NL.h0 hb14 (op_fieldAddr rfl Try.underlying25 rfl tk4 (.t (NL.hs NL.h0))) rfl) (.cons (has rfl) (.cons (has rfl) .nil)) (by kernel_rfl) (.cons [(some 15, Ent.t 38 (VA.k kbool a2.Ignore)), (some 16, Ent.t 39 (VA.ptr 3 4)), (none, Ent.h 3 (HE.box 25 kOptions a0))] (OpSpec.runG rfl rfl rfl rfl NL.h0 hb14 (op_load rfl fldOptions_Ignore tk4 (.t (NL.hs NL.h0)) (NL.hs (NL.hs NL.h0))) rfl) (.cons (has rfl) (.cons (has rfl) (.cons (has rfl) .nil))) (by kernel_rfl) (.cons [(some 15, Ent.t 38 (VA.k kbool a2.Ignore)), (some 17, Ent.t 40 (VA.k kbool a0.Ignore))] (OpSpec.run rfl rfl (op_pick_f rfl hb14 (.t NL.h0) (.t (NL.hs NL.h0))) rfl) (.cons (has rfl) (.cons (has rfl) .nil)) (by kernel_rfl) (.cons [(some 18, Ent.t 41 (VA.k kbool a0.Ignore))] (OpSpec.run rfl rfl (op_move rfl (.t NL.h0)) rfl) (.cons (has rfl) .nil) (by kernel_rfl) (.cons [(some 19, Ent.t 42 (VA.k kbool a0.Ignore)), (none, Ent.t 4 (VA.ptr 4 0))] (OpSpec.runG rfl rfl rfl rfl NL.h0 hb15 (op_fieldAddr rfl Try.underlying27 rfl tk4 (.t (NL.hs NL.h0))) rfl) (.cons (has rfl) (.cons (has rfl) .nil)) (by kernel_rfl) (.cons [(some 19, Ent.t 42 (VA.k kbool a0.Ignore)), (some 20, Ent.t 43 (VA.ptr 4 8)), (none, Ent.h 4 (HE.box 27 kNode a1))] (OpSpec.runG rfl rfl rfl rfl NL.h0 hb15 (op_load rfl fldNode_Ignore tk4 (.t (NL.hs NL.h0)) (NL.hs (NL.hs NL.h0))) rfl) (.cons (has rfl) (.cons (has rfl) (.cons (has rfl) .nil))) (by kernel_rfl) (.cons [(some 19, Ent.t 42 (VA.k kbool a0.Ignore)), (some 21, Ent.t 44 (VA.k kbool a1.Ignore))] (OpSpec.run rfl rfl (op_pick_f rfl hb15 (.t NL.h0) (.t (NL.hs NL.h0))) rfl) (.cons (has rfl) (.cons (has rfl) .nil)) (by kernel_rfl) (.cons [(some 12, Ent.t 35 (VA.k kbool (icmp .eql v12 (0 : Int)))), (some 22, Ent.t 45 (VA.k kbool a1.Ignore))] (OpSpec.run rfl rfl (op_build (pl := [(0, 1), (1, 1), (2, 1)]) rfl rfl Try.underlying31 (by kernel_rfl) zk31 (.cons rfl tk4 fldMode_Run (.t NL.h0) (.cons rfl tk4 fldMode_Forgive (.t (NL.hs NL.h0)) (.nil _)))) rfl) (.cons (has rfl) (.cons (has rfl) .nil)) (by kernel_rfl) (.cons [] (OpSpec.run rfl rfl (op_alloc 10 rfl zk31) rfl) .nil (by kernel_rfl) (.cons [(some 24, Ent.t 10 (VA.ptr 10 0)), (some 23, Ent.t 46 (VA.k kMode (⟨false, icmp .eql v12 (0 : Int), a1.Ignore⟩ : Mode))), (some 24, Ent.h 10 (HE.box 31 kMode zeroMode))] (OpSpec.run rfl rfl (op_store (Fld.whole kMode) tk31 (.t NL.h0) (NL.hs (NL.hs NL.h0)) (.t (NL.hs NL.h0))) rfl) (.cons (has rfl) (.cons (has rfl) (.cons (has rfl) .nil))) (by kernel_rfl) (.nil _))))))))))))))))))))))))))) ?_
              refine ends_sub [Ent.t 3 (VA.ptr 3 0), Ent.t 4 (VA.ptr 4 0), Ent.t 5 (VA.ptr 5 0), Ent.t 6 (VA.ptr 6 0), Ent.t 10 (VA.ptr 10 0), Ent.h 3 (HE.box 25 kOptions a0), Ent.h 4 (HE.box 27 kNode a1), Ent.h 5 (HE.box 29 kFlags a2), Ent.h 6 (HE.box 31 kMode zeroMode), Ent.h 10 (HE.box 31 kMode (⟨false, icmp .eql v12 (0 : Int), a1.Ignore⟩ : Mode))] (.cons rfl (.cons rfl (.cons rfl (.cons rfl (.cons rfl (.cons rfl (.cons rfl (.cons rfl (.cons rfl (.cons rfl .nil)))))))))) ?_
              obtain rfl := Option.some.inj H
              exact ends_cut (.cons rfl (.cons rfl (.cons rfl (.cons rfl (.cons rfl (.cons rfl (.cons rfl (.cons rfl (.cons rfl (.cons rfl .nil))))))))))
      refine ends_then ?_
      refine goes_seq ?_
      obtain ⟨s16, h17, H⟩ := bind_some H
      refine goes_cut [Ent.t 6 (VA.ptr 6 0), Ent.t 10 (VA.ptr 10 0), Ent.h 6 (HE.box 31 kMode zeroMode), Ent.h 10 (HE.box 31 kMode s16)] ?_ ?_
      · replace H := h17; clear h17
        refine goes_region ?_
        refine go1 (op_fieldAddr rfl Try.underlying25 rfl tk4 (.t (has rfl))) rfl ?_
        refine go1 (op_load rfl fldOptions_Dry tk4 (.t (has rfl)) (has rfl)) rfl ?_
        refine go1 (op_move rfl (.t (has rfl))) rfl ?_
        refine goesO_split H (fun hb18 H => ?_) (fun hb18 H => ?_)
        · skip
          refine goS rfl rfl rfl rfl rfl rfl hb18 ?_
          refine goS rfl rfl rfl rfl rfl rfl hb18 ?_
          refine goS rfl rfl rfl rfl rfl rfl hb18 ?_
          refine goSU rfl rfl rfl rfl rfl rfl ?_
          refine goSU rfl rfl rfl rfl rfl rfl ?_
          refine goSU rfl rfl rfl rfl rfl rfl ?_
          refine goSU rfl rfl rfl rfl rfl rfl ?_
          refine goSU rfl rfl rfl rfl rfl rfl ?_
          refine goSU rfl rfl rfl rfl rfl rfl ?_
          refine goSU rfl rfl rfl rfl rfl rfl ?_
          refine goSU rfl rfl rfl rfl rfl rfl ?_
          refine goSU rfl rfl rfl rfl rfl rfl ?_
          refine goS rfl rfl rfl rfl rfl rfl hb18 ?_
          refine go1 (op_pick_t rfl hb18 (.t (has rfl)) (.bool _)) rfl ?_
          refine go1 (op_fieldAddr rfl Try.underlying31 rfl tk4 (.t (has rfl))) rfl ?_
          refine go1 (op_store fldMode_Echo tk4 (.t (has rfl)) (has rfl) (.t (has rfl))) rfl ?_
          refine goesO_nil ?_
          obtain rfl := Option.some.inj H
          exact ends_cut (.cons rfl (.cons rfl (.cons rfl (.cons rfl .nil))))
        · skip
          refine goG (op_fieldAddr rfl Try.underlying31 rfl tk4 (.t (has rfl))) rfl rfl rfl rfl hb18 ?_
          refine goG (op_load rfl fldMode_Run tk4 (.t (has rfl)) (has rfl)) rfl rfl rfl rfl hb18 ?_
          refine goG (op_move rfl (.t (has rfl))) rfl rfl rfl rfl hb18 ?_
          refine goesO_split H (fun hb19 H => ?_) (fun hb19 H => ?_)
          · skip
            refine goG (op_fieldAddr rfl Try.underlying29 rfl tk4 (.t (has rfl))) rfl rfl rfl rfl hb19 ?_
            refine goG (op_load rfl fldFlags_Silent tk4 (.t (has rfl)) (has rfl)) rfl rfl rfl rfl hb19 ?_
            refine goG (op_fieldAddr rfl Try.underlying25 rfl tk4 (.t (has rfl))) rfl rfl rfl rfl hb19 ?_
            refine goG (op_load rfl fldOptions_Silent tk4 (.t (has rfl)) (has rfl)) rfl rfl rfl rfl hb19 ?_
            refine goG (op_fieldAddr rfl Try.underlying27 rfl tk4 (.t (has rfl))) rfl rfl rfl rfl hb19 ?_
            refine goG (op_load rfl fldNode_Silent tk4 (.t (has rfl)) (has rfl)) rfl rfl rfl rfl hb19 ?_
            refine goG (op_buildSlice rfl at64 (fun h => by first | rfl | cases h) rfl rfl rfl (.cons (.t (has rfl)) (.cons (.t (has rfl)) (.cons (.t (has rfl)) (.nil _))))) rfl rfl rfl rfl hb19 ?_
            obtain ⟨v20, h21, H⟩ := bind_some H
            refine goG (op_callF' rfl enters19 (modes_set.conF _ _ _ h21) rfl (.cons (ArgB.own rfl (has rfl)) .nil)) rfl rfl rfl rfl hb19 ?_
            refine goG (op_icmp rfl rfl (.t (has rfl)) (.int _ _)) rfl rfl rfl rfl hb19 ?_
            refine goG (op_pick_t rfl hb19 (.t (has rfl)) (.t (has rfl))) rfl rfl rfl rfl hb18 ?_
            refine go1 (op_pick_f rfl hb18 (.t (has rfl)) (.t (has rfl))) rfl ?_
            refine go1 (op_fieldAddr rfl Try.underlying31 rfl tk4 (.t (has rfl))) rfl ?_
            refine go1 (op_store fldMode_Echo tk4 (.t (has rfl)) (has rfl) (.t (has rfl))) rfl ?_
            refine goesO_nil ?_
            obtain rfl := Option.some.inj H
            exact ends_cut (.cons rfl (.cons rfl (.cons rfl (.cons rfl .nil))))
          · skip
            refine goS rfl rfl rfl rfl rfl rfl hb19 ?_
            refine goS rfl rfl rfl rfl rfl rfl hb19 ?_
            refine goS rfl rfl rfl rfl rfl rfl hb19 ?_
            refine goS rfl rfl rfl rfl rfl rfl hb19 ?_
            refine goS rfl rfl rfl rfl rfl rfl hb19 ?_
            refine goS rfl rfl rfl rfl rfl rfl hb19 ?_
            refine goS rfl rfl rfl rfl rfl rfl hb19 ?_
            refine goS rfl rfl rfl rfl rfl rfl hb19 ?_
            refine goS rfl rfl rfl rfl rfl rfl hb19 ?_
            refine goG (op_pick_f rfl hb19 (.t (has rfl)) (.bool _)) rfl rfl rfl rfl hb18 ?_
            refine go1 (op_pick_f rfl hb18 (.t (has rfl)) (.t (has rfl))) rfl ?_
            refine go1 (op_fieldAddr rfl Try.underlying31 rfl tk4 (.t (has rfl))) rfl ?_
            refine go1 (op_store fldMode_Echo tk4 (.t (has rfl)) (has rfl) (.t (has rfl))) rfl ?_
            refine goesO_nil ?_
            obtain rfl := Option.some.inj H
            exact ends_cut (.cons rfl (.cons rfl (.cons rfl (.cons rfl .nil))))
      refine ends_then ?_
      refine goes_seq ?_
      refine goes_region ?_
      refine go1 (op_load rfl (Fld.whole kMode) tk31 (.t (has rfl)) (has rfl)) rfl ?_
      refine go1 (op_store (Fld.whole kMode) tk31 (.t (has rfl)) (has rfl) (.t (has rfl))) rfl ?_
      refine go1 (op_assign rfl (.int _ _)) rfl ?_
      refine goesO_nil ?_
      refine ends_then ?_
      obtain rfl := Option.some.inj H
      exact goes_ret (ends_ret' rfl rfl (.c rfl rfl tk31 (.t rfl (.nil _))))
theorem modes_Of.conF (k : Nat) (a0 : Options) (a1 : Node) (a2 : Flags) (r : Mode × Int) (H : modes_Of.f k a0 a1 a2 = some r) : ConF Try.prog 6 [VA.k kOptions a0, VA.k kNode a1, VA.k kFlags a2] [VA.k kMode r.1, VA.k (kint .i64) r.2] := (modes_Of.con k a0 a1 a2 r H).freeL (.cons (KFree.k kfreeMode _) (.cons (KFree.k (KFree.int .i64) _) .nil))
/-! smithy/smithyref19.two -/
def smithyref19_two.f (a0 : Bool) (a1 : Bool) (a2 : Bool) : Option Bool := (bif a0 then (bif a1 then (some true) else (bif a2 then (some true) else (some false))) else (bif a1 then (some a2) else (some false))).bind fun s1 => some s1
set_option maxRecDepth 100000 in
set_option maxHeartbeats 4000000 in
theorem smithyref19_two.con (a0 : Bool) (a1 : Bool) (a2 : Bool) (r : Bool) (H : smithyref19_two.f a0 a1 a2 = some r) : Con Try.prog 20 [VA.k kbool a0, VA.k kbool a1, VA.k kbool a2] [VA.k kbool r] := by
  unfold smithyref19_two.f at H
  refine con_enter Try.func20 rfl rfl rfl (fun w0 S0 θ => ?_)
  refine goes_seq ?_
  refine goes_region ?_
  refine go1 (op_assign rfl (.bool _)) rfl ?_
  refine goesO_nil ?_
  refine ends_then ?_
  refine goes_seq ?_
  obtain ⟨s1, h2, H⟩ := bind_some H
  refine goes_cut [Ent.t 6 (VA.k kbool s1)] ?_ ?_
  · replace H := h2; clear h2
    refine goes_region ?_
    refine go1 (op_move rfl (.t (has rfl))) rfl ?_
    refine go1 (op_move rfl (.t (has rfl))) rfl ?_
    refine goesO_split H (fun hb3 H => ?_) (fun hb3 H => ?_)
    · skip
      refine goG (op_move rfl (.t (has rfl))) rfl rfl rfl rfl hb3 ?_
      refine go1 (op_pick_t rfl hb3 (.t (has rfl)) (.t (has rfl))) rfl ?_
      refine go1 (op_move rfl (.t (has rfl))) rfl ?_
      refine goesO_split H (fun hb4 H => ?_) (fun hb4 H => ?_)
      · skip
        refine goS rfl rfl rfl rfl rfl rfl hb4 ?_
        refine goS rfl rfl rfl rfl rfl rfl hb4 ?_
        refine goSU rfl rfl rfl rfl rfl rfl ?_
        refine goS rfl rfl rfl rfl rfl rfl hb4 ?_
        refine go1 (op_pick_t rfl hb4 (.t (has rfl)) (.bool _)) rfl ?_
        refine go1 (op_move rfl (.t (has rfl))) rfl ?_
        refine goS rfl rfl rfl rfl rfl rfl rfl ?_
        refine goS rfl rfl rfl rfl rfl rfl rfl ?_
        refine goSU rfl rfl rfl rfl rfl rfl ?_
        refine goS rfl rfl rfl rfl rfl rfl rfl ?_
        refine go1 (op_pick_t rfl rfl (.t (has rfl)) (.bool _)) rfl ?_
        refine go1 (op_assign rfl (.t (has rfl))) rfl ?_
        refine goesO_nil ?_
        obtain rfl := Option.some.inj H
        exact ends_cut (.cons rfl .nil)
      · skip
        refine goG (op_move rfl (.t (has rfl))) rfl rfl rfl rfl hb4 ?_
        refine goG (op_move rfl (.t (has rfl))) rfl rfl rfl rfl hb4 ?_
        refine goG (op_move rfl (.t (has rfl))) rfl rfl rfl rfl hb3 ?_
        refine goG (op_pick_t rfl hb3 (.t (has rfl)) (.t (has rfl))) rfl rfl rfl rfl hb4 ?_
        refine go1 (op_pick_f rfl hb4 (.t (has rfl)) (.t (has rfl))) rfl ?_
        refine go1 (op_move rfl (.t (has rfl))) rfl ?_
        refine goesO_split H (fun hb5 H => ?_) (fun hb5 H => ?_)
        · skip
          refine goS rfl rfl rfl rfl rfl rfl hb5 ?_
          refine goS rfl rfl rfl rfl rfl rfl hb5 ?_
          refine goSU rfl rfl rfl rfl rfl rfl ?_
          refine goS rfl rfl rfl rfl rfl rfl hb5 ?_
          refine go1 (op_pick_t rfl hb5 (.t (has rfl)) (.bool _)) rfl ?_
          refine go1 (op_assign rfl (.t (has rfl))) rfl ?_
          refine goesO_nil ?_
          obtain rfl := Option.some.inj H
          exact ends_cut (.cons rfl .nil)
        · skip
          refine goG (op_move rfl (.t (has rfl))) rfl rfl rfl rfl hb5 ?_
          refine goG (op_move rfl (.t (has rfl))) rfl rfl rfl rfl hb5 ?_
          refine goS rfl rfl rfl rfl rfl rfl hb4 ?_
          refine goG (op_pick_f rfl hb4 (.t (has rfl)) (.bool _)) rfl rfl rfl rfl hb5 ?_
          refine go1 (op_pick_f rfl hb5 (.t (has rfl)) (.t (has rfl))) rfl ?_
          refine go1 (op_assign rfl (.t (has rfl))) rfl ?_
          refine goesO_nil ?_
          obtain rfl := Option.some.inj H
          exact ends_cut (.cons rfl .nil)
    · skip
      refine goS rfl rfl rfl rfl rfl rfl hb3 ?_
      refine go1 (op_pick_f rfl hb3 (.t (has rfl)) (.bool _)) rfl ?_
      refine go1 (op_move rfl (.t (has rfl))) rfl ?_
      refine goG (op_move rfl (.t (has rfl))) rfl rfl rfl rfl rfl ?_
      refine goG (op_move rfl (.t (has rfl))) rfl rfl rfl rfl rfl ?_
      refine goS rfl rfl rfl rfl rfl rfl hb3 ?_
      refine goG (op_pick_f rfl hb3 (.t (has rfl)) (.bool _)) rfl rfl rfl rfl rfl ?_
      refine go1 (op_pick_f rfl rfl (.t (has rfl)) (.t (has rfl))) rfl ?_
      refine go1 (op_move rfl (.t (has rfl))) rfl ?_
      refine goG (op_move rfl (.t (has rfl))) rfl rfl rfl rfl rfl ?_
      refine goG (op_move rfl (.t (has rfl))) rfl rfl rfl rfl rfl ?_
      refine goesO_split H (fun hb6 H => ?_) (fun hb6 H => ?_)
      · skip
        refine goG (op_move rfl (.t (has rfl))) rfl rfl rfl rfl hb6 ?_
        refine goG (op_pick_t rfl hb6 (.t (has rfl)) (.t (has rfl))) rfl rfl rfl rfl rfl ?_
        refine go1 (op_pick_f rfl rfl (.t (has rfl)) (.t (has rfl))) rfl ?_
        refine go1 (op_assign rfl (.t (has rfl))) rfl ?_
        refine goesO_nil ?_
        obtain rfl := Option.some.inj H
        exact ends_cut (.cons rfl .nil)
      · skip
        refine goS rfl rfl rfl rfl rfl rfl hb6 ?_
        refine goG (op_pick_f rfl hb6 (.t (has rfl)) (.bool _)) rfl rfl rfl rfl rfl ?_
        refine go1 (op_pick_f rfl rfl (.t (has rfl)) (.t (has rfl))) rfl ?_
        refine go1 (op_assign rfl (.t (has rfl))) rfl ?_
        refine goesO_nil ?_
        obtain rfl := Option.some.inj H
        exact ends_cut (.cons rfl .nil)
  refine ends_then ?_
  obtain rfl := Option.some.inj H
  exact goes_ret (ends_ret' rfl rfl (.t rfl (.nil _)))
theorem smithyref19_two.conF (a0 : Bool) (a1 : Bool) (a2 : Bool) (r : Bool) (H : smithyref19_two.f a0 a1 a2 = some r) : ConF Try.prog 20 [VA.k kbool a0, VA.k kbool a1, VA.k kbool a2] [VA.k kbool r] := (smithyref19_two.con a0 a1 a2 r H).freeL (.cons (KFree.k KFree.bool _) .nil)
end Go.Proofs.Ytmmjbobicnmilaa.F
