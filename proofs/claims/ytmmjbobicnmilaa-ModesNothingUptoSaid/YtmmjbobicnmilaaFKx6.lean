import Derived.Test.YtmmjbobicnmilaaFKx5
set_option linter.unusedVariables false
set_option linter.unusedSimpArgs false
set_option linter.unnecessarySimpa false
set_option linter.deprecated false
namespace Go.Proofs.Ytmmjbobicnmilaa.F
open Go Go.RowKit Go.Proofs.Ytmmjbobicnmilaa.Sl
/-! smithy/smithyref19.asked -/
def smithyref19_asked.f (k : Nat) (a0 : Options) (a1 : Node) : Option Int := (smithyref19_Check.f k a0).bind fun v1 => (bif icmp .eql v1 (0 : Int) then ((smithyref12_Node.f k a1).bind fun v6 => some v6) else (some v1)).bind fun s3 => some s3
set_option maxRecDepth 100000 in
set_option maxHeartbeats 4000000 in
theorem smithyref19_asked.con (k : Nat) (a0 : Options) (a1 : Node) (r : Int) (H : smithyref19_asked.f k a0 a1 = some r) : Con Try.prog 25 [VA.k kOptions a0, VA.k kNode a1] [VA.k (kint .i64) r] := by
  unfold smithyref19_asked.f at H
  refine con_enter Try.func25 rfl rfl rfl (fun w0 S0 θ => ?_)
  refine goes_seq ?_
  refine goes_region ?_
  refine go3 (op_box 2 rfl (fun h => by first | rfl | cases h) (.t (has rfl))) rfl ?_
  refine go3 (op_box 3 rfl (fun h => by first | rfl | cases h) (.t (has rfl))) rfl ?_
  refine go1 (op_assign rfl (.int _ _)) rfl ?_
  refine goesO_nil ?_
  refine ends_then ?_
  refine goes_seq ?_
  refine goes_region ?_
  refine go1 (op_load rfl (Fld.whole kOptions) tk25 (.t (has rfl)) (has rfl)) rfl ?_
  obtain ⟨v1, h2, H⟩ := bind_some H
  refine go1 (op_call' rfl enters7 (smithyref19_Check.con _ _ _ h2) rfl (.cons (ArgP.k (.t (has rfl))) .nil)) rfl ?_
  refine go1 (op_assign rfl (.t (has rfl))) rfl ?_
  refine goesO_nil ?_
  refine ends_then ?_
  refine goes_seq ?_
  refine goes_seq ?_
  refine goes_region ?_
  refine go1 (op_move rfl (.t (has rfl))) rfl ?_
  refine go1 (op_icmp rfl rfl (.t (has rfl)) (.int _ _)) rfl ?_
  refine goesO_nil ?_
  refine ends_then ?_
  obtain ⟨s3, h4, H⟩ := bind_some H
  refine goes_cut [Ent.t 5 (VA.k (kint .i64) s3)] ?_ ?_
  · replace H := h4; clear h4
    refine goes_if (.t (has rfl)) H (fun hb5 H => ?_) (fun hb5 H => ?_)
    · skip
      refine goes_region ?_
      refine go1 (op_load rfl (Fld.whole kNode) tk27 (.t (has rfl)) (has rfl)) rfl ?_
      obtain ⟨v6, h7, H⟩ := bind_some H
      refine go1 (op_call' rfl enters8 (smithyref12_Node.con _ _ _ h7) rfl (.cons (ArgP.k (.t (has rfl))) .nil)) rfl ?_
      refine go1 (op_assign rfl (.t (has rfl))) rfl ?_
      refine goesO_nil ?_
      obtain rfl := Option.some.inj H
      exact ends_cut (.cons rfl .nil)
    · skip
      refine goes_skip ?_
      obtain rfl := Option.some.inj H
      exact ends_cut (.cons rfl .nil)
  refine ends_then ?_
  refine goes_seq ?_
  refine goes_region ?_
  refine go1 (op_move rfl (.t (has rfl))) rfl ?_
  refine go1 (op_assign rfl (.t (has rfl))) rfl ?_
  refine goesO_nil ?_
  refine ends_then ?_
  obtain rfl := Option.some.inj H
  exact goes_ret (ends_ret' rfl rfl (.t rfl (.nil _)))
theorem smithyref19_asked.conF (k : Nat) (a0 : Options) (a1 : Node) (r : Int) (H : smithyref19_asked.f k a0 a1 = some r) : ConF Try.prog 25 [VA.k kOptions a0, VA.k kNode a1] [VA.k (kint .i64) r] := (smithyref19_asked.con k a0 a1 r H).freeL (.cons (KFree.k (KFree.int .i64) _) .nil)
/-! smithy/smithyref19.Mode -/
def smithyref19_Mode.f (a0 : Options) (a1 : Node) (a2 : Flags) : Option Mode := (bif !a0.Dry then (bif !a0.Touch then (bif !a0.Query then (some true) else (some a2.Always)) else (some a2.Always)) else (some a2.Always)).bind fun s1 => (bif a0.Dry then (bif a2.Ignore then (some (⟨true, s1, true⟩ : Mode)) else (bif a0.Ignore then (some (⟨true, s1, true⟩ : Mode)) else (some (⟨true, s1, a1.Ignore⟩ : Mode)))) else (bif s1 then (bif !a2.Silent then (bif !a0.Silent then (bif a2.Ignore then (some (⟨!a1.Silent, s1, true⟩ : Mode)) else (bif a0.Ignore then (some (⟨!a1.Silent, s1, true⟩ : Mode)) else (some (⟨!a1.Silent, s1, a1.Ignore⟩ : Mode)))) else (bif a2.Ignore then (some (⟨false, s1, true⟩ : Mode)) else (bif a0.Ignore then (some (⟨false, s1, true⟩ : Mode)) else (some (⟨false, s1, a1.Ignore⟩ : Mode))))) else (bif a2.Ignore then (some (⟨false, s1, true⟩ : Mode)) else (bif a0.Ignore then (some (⟨false, s1, true⟩ : Mode)) else (some (⟨false, s1, a1.Ignore⟩ : Mode))))) else (bif a2.Ignore then (some (⟨false, s1, true⟩ : Mode)) else (bif a0.Ignore then (some (⟨false, s1, true⟩ : Mode)) else (some (⟨false, s1, a1.Ignore⟩ : Mode)))))).bind fun s6 => some s6
set_option maxRecDepth 100000 in
set_option maxHeartbeats 4000000 in
theorem smithyref19_Mode.con (a0 : Options) (a1 : Node) (a2 : Flags) (r : Mode) (H : smithyref19_Mode.f a0 a1 a2 = some r) : Con Try.prog 26 [VA.k kOptions a0, VA.k kNode a1, VA.k kFlags a2] [VA.k kMode r] := by
  unfold smithyref19_Mode.f at H
  refine con_enter Try.func26 rfl rfl rfl (fun w0 S0 θ => ?_)
  refine goes_seq ?_
  refine goes_region ?_
  refine go3 (op_box 3 rfl (fun h => by first | rfl | cases h) (.t (has rfl))) rfl ?_
  refine go3 (op_box 4 rfl (fun h => by first | rfl | cases h) (.t (has rfl))) rfl ?_
  refine go3 (op_box 5 rfl (fun h => by first | rfl | cases h) (.t (has rfl))) rfl ?_
  refine go3 (op_alloc 6 rfl zk31) rfl ?_
  refine goesO_nil ?_
  refine ends_then ?_
  refine goes_seq ?_
  obtain ⟨s1, h2, H⟩ := bind_some H
  refine goes_cut [Ent.t 3 (VA.ptr 3 0), Ent.t 4 (VA.ptr 4 0), Ent.t 5 (VA.ptr 5 0), Ent.t 6 (VA.ptr 6 0), Ent.t 7 (VA.k kbool s1), Ent.h 3 (HE.box 25 kOptions a0), Ent.h 4 (HE.box 27 kNode a1), Ent.h 5 (HE.box 29 kFlags a2), Ent.h 6 (HE.box 31 kMode zeroMode)] ?_ ?_
  · replace H := h2; clear h2
    refine goes_region ?_
    refine go1 (op_fieldAddr rfl Try.underlying25 rfl tk4 (.t (has rfl))) rfl ?_
    refine go1 (op_load rfl fldOptions_Dry tk4 (.t (has rfl)) (has rfl)) rfl ?_
    refine go1 (op_not rfl (.t (has rfl))) rfl ?_
    refine go1 (op_move rfl (.t (has rfl))) rfl ?_
    refine goesO_split H (fun hb3 H => ?_) (fun hb3 H => ?_)
    · skip
      refine goG (op_fieldAddr rfl Try.underlying25 rfl tk4 (.t (has rfl))) rfl rfl rfl rfl hb3 ?_
      refine goG (op_load rfl fldOptions_Touch tk4 (.t (has rfl)) (has rfl)) rfl rfl rfl rfl hb3 ?_
      refine goG (op_not rfl (.t (has rfl))) rfl rfl rfl rfl hb3 ?_
      refine go1 (op_pick_t rfl hb3 (.t (has rfl)) (.t (has rfl))) rfl ?_
      refine go1 (op_move rfl (.t (has rfl))) rfl ?_
      refine goesO_split H (fun hb4 H => ?_) (fun hb4 H => ?_)
      · skip
        refine goG (op_fieldAddr rfl Try.underlying25 rfl tk4 (.t (has rfl))) rfl rfl rfl rfl hb4 ?_
        refine goG (op_load rfl fldOptions_Query tk4 (.t (has rfl)) (has rfl)) rfl rfl rfl rfl hb4 ?_
        refine goG (op_not rfl (.t (has rfl))) rfl rfl rfl rfl hb4 ?_
        refine go1 (op_pick_t rfl hb4 (.t (has rfl)) (.t (has rfl))) rfl ?_
        refine go1 (op_move rfl (.t (has rfl))) rfl ?_
        refine goesO_split H (fun hb5 H => ?_) (fun hb5 H => ?_)
        · skip
          refine goS rfl rfl rfl rfl rfl rfl hb5 ?_
          refine goS rfl rfl rfl rfl rfl rfl hb5 ?_
          refine go1 (op_pick_t rfl hb5 (.t (has rfl)) (.bool _)) rfl ?_
          refine go1 (op_assign rfl (.t (has rfl))) rfl ?_
          refine goesO_nil ?_
          obtain rfl := Option.some.inj H
          exact ends_cut (.cons rfl (.cons rfl (.cons rfl (.cons rfl (.cons rfl (.cons rfl (.cons rfl (.cons rfl (.cons rfl .nil)))))))))
        · skip
          refine goG (op_fieldAddr rfl Try.underlying29 rfl tk4 (.t (has rfl))) rfl rfl rfl rfl hb5 ?_
          refine goG (op_load rfl fldFlags_Always tk4 (.t (has rfl)) (has rfl)) rfl rfl rfl rfl hb5 ?_
          refine go1 (op_pick_f rfl hb5 (.t (has rfl)) (.t (has rfl))) rfl ?_
          refine go1 (op_assign rfl (.t (has rfl))) rfl ?_
          refine goesO_nil ?_
          obtain rfl := Option.some.inj H
          exact ends_cut (.cons rfl (.cons rfl (.cons rfl (.cons rfl (.cons rfl (.cons rfl (.cons rfl (.cons rfl (.cons rfl .nil)))))))))
      · skip
        refine goS rfl rfl rfl rfl rfl rfl hb4 ?_
        refine goS rfl rfl rfl rfl rfl rfl hb4 ?_
        refine goS rfl rfl rfl rfl rfl rfl hb4 ?_
        refine go1 (op_pick_f rfl hb4 (.t (has rfl)) (.bool _)) rfl ?_
        refine go1 (op_move rfl (.t (has rfl))) rfl ?_
        refine goG (op_fieldAddr rfl Try.underlying29 rfl tk4 (.t (has rfl))) rfl rfl rfl rfl rfl ?_
        refine goG (op_load rfl fldFlags_Always tk4 (.t (has rfl)) (has rfl)) rfl rfl rfl rfl rfl ?_
        refine go1 (op_pick_f rfl rfl (.t (has rfl)) (.t (has rfl))) rfl ?_
        refine go1 (op_assign rfl (.t (has rfl))) rfl ?_
        refine goesO_nil ?_
        obtain rfl := Option.some.inj H
        exact ends_cut (.cons rfl (.cons rfl (.cons rfl (.cons rfl (.cons rfl (.cons rfl (.cons rfl (.cons rfl (.cons rfl .nil)))))))))
    · skip
      refine goS rfl rfl rfl rfl rfl rfl hb3 ?_
      refine goS rfl rfl rfl rfl rfl rfl hb3 ?_
      refine goS rfl rfl rfl rfl rfl rfl hb3 ?_
      refine go1 (op_pick_f rfl hb3 (.t (has rfl)) (.bool _)) rfl ?_
      refine go1 (op_move rfl (.t (has rfl))) rfl ?_
      refine goS rfl rfl rfl rfl rfl rfl rfl ?_
      refine goS rfl rfl rfl rfl rfl rfl rfl ?_
      refine goS rfl rfl rfl rfl rfl rfl rfl ?_
      refine go1 (op_pick_f rfl rfl (.t (has rfl)) (.bool _)) rfl ?_
      refine go1 (op_move rfl (.t (has rfl))) rfl ?_
      refine goG (op_fieldAddr rfl Try.underlying29 rfl tk4 (.t (has rfl))) rfl rfl rfl rfl rfl ?_
      refine goG (op_load rfl fldFlags_Always tk4 (.t (has rfl)) (has rfl)) rfl rfl rfl rfl rfl ?_
      refine go1 (op_pick_f rfl rfl (.t (has rfl)) (.t (has rfl))) rfl ?_
      refine go1 (op_assign rfl (.t (has rfl))) rfl ?_
      refine goesO_nil ?_
      obtain rfl := Option.some.inj H
      exact ends_cut (.cons rfl (.cons rfl (.cons rfl (.cons rfl (.cons rfl (.cons rfl (.cons rfl (.cons rfl (.cons rfl .nil)))))))))
  refine ends_then ?_
  refine goes_seq ?_
  obtain ⟨s6, h7, H⟩ := bind_some H
  refine goes_cut [Ent.t 6 (VA.ptr 6 0), Ent.h 6 (HE.box 31 kMode s6)] ?_ ?_
  · replace H := h7; clear h7
    refine goes_region ?_
    refine go1 (op_move rfl (.t (has rfl))) rfl ?_
    refine go1 (op_fieldAddr rfl Try.underlying25 rfl tk4 (.t (has rfl))) rfl ?_
    refine go1 (op_load rfl fldOptions_Dry tk4 (.t (has rfl)) (has rfl)) rfl ?_
    refine go1 (op_move rfl (.t (has rfl))) rfl ?_
    refine goesO_split H (fun hb8 H => ?_) (fun hb8 H => ?_)
    · skip
      refine goS rfl rfl rfl rfl rfl rfl hb8 ?_
      refine goS rfl rfl rfl rfl rfl rfl hb8 ?_
      refine goSU rfl rfl rfl rfl rfl rfl ?_
      refine goSU rfl rfl rfl rfl rfl rfl ?_
      refine goSU rfl rfl rfl rfl rfl rfl ?_
      refine goS rfl rfl rfl rfl rfl rfl hb8 ?_
      refine goS rfl rfl rfl rfl rfl rfl hb8 ?_
      refine goSU rfl rfl rfl rfl rfl rfl ?_
      refine goSU rfl rfl rfl rfl rfl rfl ?_
      refine goSU rfl rfl rfl rfl rfl rfl ?_
      refine goS rfl rfl rfl rfl rfl rfl hb8 ?_
      refine goS rfl rfl rfl rfl rfl rfl hb8 ?_
      refine goSU rfl rfl rfl rfl rfl rfl ?_
      refine goSU rfl rfl rfl rfl rfl rfl ?_
      refine goSU rfl rfl rfl rfl rfl rfl ?_
      refine goS rfl rfl rfl rfl rfl rfl hb8 ?_
      refine go1 (op_pick_t rfl hb8 (.t (has rfl)) (.bool _)) rfl ?_
      refine go1 (op_fieldAddr rfl Try.underlying29 rfl tk4 (.t (has rfl))) rfl ?_
      refine go1 (op_load rfl fldFlags_Ignore tk4 (.t (has rfl)) (has rfl)) rfl ?_
      refine go1 (op_move rfl (.t (has rfl))) rfl ?_
      refine goesO_split H (fun hb9 H => ?_) (fun hb9 H => ?_)
      · skip
        refine goS rfl rfl rfl rfl rfl rfl hb9 ?_
        refine goS rfl rfl rfl rfl rfl rfl hb9 ?_
        refine go1 (op_pick_t rfl hb9 (.t (has rfl)) (.bool _)) rfl ?_
        refine go1 (op_move rfl (.t (has rfl))) rfl ?_
        refine goS rfl rfl rfl rfl rfl rfl rfl ?_
        refine goS rfl rfl rfl rfl rfl rfl rfl ?_
        refine go1 (op_pick_t rfl rfl (.t (has rfl)) (.bool _)) rfl ?_
        refine go1 (op_build (pl := [(0, 1), (1, 1), (2, 1)]) rfl rfl Try.underlying31 (by kernel_rfl) zk31 (.cons rfl tk4 fldMode_Run (.t (has rfl)) (.cons rfl tk4 fldMode_Echo (.t (has rfl)) (.cons rfl tk4 fldMode_Forgive (.t (has rfl)) (.nil _))))) rfl ?_
        refine go1 (op_store (Fld.whole kMode) tk31 (.t (has rfl)) (has rfl) (.t (has rfl))) rfl ?_
        refine goesO_nil ?_
        obtain rfl := Option.some.inj H
        exact ends_cut (.cons rfl (.cons rfl .nil))
      · skip
        refine goG (op_fieldAddr rfl Try.underlying25 rfl tk4 (.t (has rfl))) rfl rfl rfl rfl hb9 ?_
        refine goG (op_load rfl fldOptions_Ignore tk4 (.t (has rfl)) (has rfl)) rfl rfl rfl rfl hb9 ?_
        refine go1 (op_pick_f rfl hb9 (.t (has rfl)) (.t (has rfl))) rfl ?_
        refine go1 (op_move rfl (.t (has rfl))) rfl ?_
        refine goesO_split H (fun hb10 H => ?_) (fun hb10 H => ?_)
        · skip
          refine goS rfl rfl rfl rfl rfl rfl hb10 ?_
          refine goS rfl rfl rfl rfl rfl rfl hb10 ?_
          refine go1 (op_pick_t rfl hb10 (.t (has rfl)) (.bool _)) rfl ?_
          refine go1 (op_build (pl := [(0, 1), (1, 1), (2, 1)]) rfl rfl Try.underlying31 (by kernel_rfl) zk31 (.cons rfl tk4 fldMode_Run (.t (has rfl)) (.cons rfl tk4 fldMode_Echo (.t (has rfl)) (.cons rfl tk4 fldMode_Forgive (.t (has rfl)) (.nil _))))) rfl ?_
          refine go1 (op_store (Fld.whole kMode) tk31 (.t (has rfl)) (has rfl) (.t (has rfl))) rfl ?_
          refine goesO_nil ?_
          obtain rfl := Option.some.inj H
          exact ends_cut (.cons rfl (.cons rfl .nil))
        · skip
          refine goG (op_fieldAddr rfl Try.underlying27 rfl tk4 (.t (has rfl))) rfl rfl rfl rfl hb10 ?_
          refine goG (op_load rfl fldNode_Ignore tk4 (.t (has rfl)) (has rfl)) rfl rfl rfl rfl hb10 ?_
          refine go1 (op_pick_f rfl hb10 (.t (has rfl)) (.t (has rfl))) rfl ?_
          refine go1 (op_build (pl := [(0, 1), (1, 1), (2, 1)]) rfl rfl Try.underlying31 (by kernel_rfl) zk31 (.cons rfl tk4 fldMode_Run (.t (has rfl)) (.cons rfl tk4 fldMode_Echo (.t (has rfl)) (.cons rfl tk4 fldMode_Forgive (.t (has rfl)) (.nil _))))) rfl ?_
          refine go1 (op_store (Fld.whole kMode) tk31 (.t (has rfl)) (has rfl) (.t (has rfl))) rfl ?_
          refine goesO_nil ?_
          obtain rfl := Option.some.inj H
          exact ends_cut (.cons rfl (.cons rfl .nil))
    · skip
      refine goG (op_move rfl (.t (has rfl))) rfl rfl rfl rfl hb8 ?_
      refine goG (op_move rfl (.t (has rfl))) rfl rfl rfl rfl hb8 ?_
      refine goesO_split H (fun hb11 H => ?_) (fun hb11 H => ?_)
      · skip
        refine goG (op_fieldAddr rfl Try.underlying29 rfl tk4 (.t (has rfl))) rfl rfl rfl rfl hb11 ?_
        refine goG (op_load rfl fldFlags_Silent tk4 (.t (has rfl)) (has rfl)) rfl rfl rfl rfl hb11 ?_
        refine goG (op_not rfl (.t (has rfl))) rfl rfl rfl rfl hb11 ?_
        refine goG (op_pick_t rfl hb11 (.t (has rfl)) (.t (has rfl))) rfl rfl rfl rfl hb8 ?_
        refine goG (op_move rfl (.t (has rfl))) rfl rfl rfl rfl hb8 ?_
        refine goesO_split H (fun hb12 H => ?_) (fun hb12 H => ?_)
        · skip
          refine goG (op_fieldAddr rfl Try.underlying25 rfl tk4 (.t (has rfl))) rfl rfl rfl rfl hb12 ?_
          refine goG (op_load rfl fldOptions_Silent tk4 (.t (has rfl)) (has rfl)) rfl rfl rfl rfl hb12 ?_
          refine goG (op_not rfl (.t (has rfl))) rfl rfl rfl rfl hb12 ?_
          refine goG (op_pick_t rfl hb12 (.t (has rfl)) (.t (has rfl))) rfl rfl rfl rfl hb8 ?_
          refine goG (op_move rfl (.t (has rfl))) rfl rfl rfl rfl hb8 ?_
          refine goesO_split H (fun hb13 H => ?_) (fun hb13 H => ?_)
          · skip
            refine goG (op_fieldAddr rfl Try.underlying27 rfl tk4 (.t (has rfl))) rfl rfl rfl rfl hb13 ?_
            refine goG (op_load rfl fldNode_Silent tk4 (.t (has rfl)) (has rfl)) rfl rfl rfl rfl hb13 ?_
            refine goG (op_not rfl (.t (has rfl))) rfl rfl rfl rfl hb13 ?_
            refine goG (op_pick_t rfl hb13 (.t (has rfl)) (.t (has rfl))) rfl rfl rfl rfl hb8 ?_
            refine go1 (op_pick_f rfl hb8 (.t (has rfl)) (.t (has rfl))) rfl ?_
            refine go1 (op_fieldAddr rfl Try.underlying29 rfl tk4 (.t (has rfl))) rfl ?_
            refine go1 (op_load rfl fldFlags_Ignore tk4 (.t (has rfl)) (has rfl)) rfl ?_
            refine go1 (op_move rfl (.t (has rfl))) rfl ?_
            refine goesO_split H (fun hb14 H => ?_) (fun hb14 H => ?_)
            · skip
              refine goS rfl rfl rfl rfl rfl rfl hb14 ?_
              refine goS rfl rfl rfl rfl rfl rfl hb14 ?_
              refine go1 (op_pick_t rfl hb14 (.t (has rfl)) (.bool _)) rfl ?_
              refine go1 (op_move rfl (.t (has rfl))) rfl ?_
              refine goS rfl rfl rfl rfl rfl rfl rfl ?_
              refine goS rfl rfl rfl rfl rfl rfl rfl ?_
              refine go1 (op_pick_t rfl rfl (.t (has rfl)) (.bool _)) rfl ?_
              refine go1 (op_build (pl := [(0, 1), (1, 1), (2, 1)]) rfl rfl Try.underlying31 (by kernel_rfl) zk31 (.cons rfl tk4 fldMode_Run (.t (has rfl)) (.cons rfl tk4 fldMode_Echo (.t (has rfl)) (.cons rfl tk4 fldMode_Forgive (.t (has rfl)) (.nil _))))) rfl ?_
              refine go1 (op_store (Fld.whole kMode) tk31 (.t (has rfl)) (has rfl) (.t (has rfl))) rfl ?_
              refine goesO_nil ?_
              obtain rfl := Option.some.inj H
              exact ends_cut (.cons rfl (.cons rfl .nil))
            · skip
              refine goG (op_fieldAddr rfl Try.underlying25 rfl tk4 (.t (has rfl))) rfl rfl rfl rfl hb14 ?_
              refine goG (op_load rfl fldOptions_Ignore tk4 (.t (has rfl)) (has rfl)) rfl rfl rfl rfl hb14 ?_
              refine go1 (op_pick_f rfl hb14 (.t (has rfl)) (.t (has rfl))) rfl ?_
              refine go1 (op_move rfl (.t (has rfl))) rfl ?_
              refine goesO_split H (fun hb15 H => ?_) (fun hb15 H => ?_)
              · skip
                refine goS rfl rfl rfl rfl rfl rfl hb15 ?_
                refine goS rfl rfl rfl rfl rfl rfl hb15 ?_
                refine go1 (op_pick_t rfl hb15 (.t (has rfl)) (.bool _)) rfl ?_
                refine go1 (op_build (pl := [(0, 1), (1, 1), (2, 1)]) rfl rfl Try.underlying31 (by kernel_rfl) zk31 (.cons rfl tk4 fldMode_Run (.t (has rfl)) (.cons rfl tk4 fldMode_Echo (.t (has rfl)) (.cons rfl tk4 fldMode_Forgive (.t (has rfl)) (.nil _))))) rfl ?_
                refine go1 (op_store (Fld.whole kMode) tk31 (.t (has rfl)) (has rfl) (.t (has rfl))) rfl ?_
                refine goesO_nil ?_
                obtain rfl := Option.some.inj H
                exact ends_cut (.cons rfl (.cons rfl .nil))
              · skip
                refine goG (op_fieldAddr rfl Try.underlying27 rfl tk4 (.t (has rfl))) rfl rfl rfl rfl hb15 ?_
                refine goG (op_load rfl fldNode_Ignore tk4 (.t (has rfl)) (has rfl)) rfl rfl rfl rfl hb15 ?_
                refine go1 (op_pick_f rfl hb15 (.t (has rfl)) (.t (has rfl))) rfl ?_
                refine go1 (op_build (pl := [(0, 1), (1, 1), (2, 1)]) rfl rfl Try.underlying31 (by kernel_rfl) zk31 (.cons rfl tk4 fldMode_Run (.t (has rfl)) (.cons rfl tk4 fldMode_Echo (.t (has rfl)) (.cons rfl tk4 fldMode_Forgive (.t (has rfl)) (.nil _))))) rfl ?_
                refine go1 (op_store (Fld.whole kMode) tk31 (.t (has rfl)) (has rfl) (.t (has rfl))) rfl ?_
                refine goesO_nil ?_
                obtain rfl := Option.some.inj H
                exact ends_cut (.cons rfl (.cons rfl .nil))
          · skip
            refine goS rfl rfl rfl rfl rfl rfl hb13 ?_
            refine goS rfl rfl rfl rfl rfl rfl hb13 ?_
            refine goS rfl rfl rfl rfl rfl rfl hb13 ?_
            refine goG (op_pick_f rfl hb13 (.t (has rfl)) (.bool _)) rfl rfl rfl rfl hb8 ?_
            refine go1 (op_pick_f rfl hb8 (.t (has rfl)) (.t (has rfl))) rfl ?_
            refine go1 (op_fieldAddr rfl Try.underlying29 rfl tk4 (.t (has rfl))) rfl ?_
            refine go1 (op_load rfl fldFlags_Ignore tk4 (.t (has rfl)) (has rfl)) rfl ?_
            refine go1 (op_move rfl (.t (has rfl))) rfl ?_
            refine goesO_split H (fun hb16 H => ?_) (fun hb16 H => ?_)
            · skip
              refine goS rfl rfl rfl rfl rfl rfl hb16 ?_
              refine goS rfl rfl rfl rfl rfl rfl hb16 ?_
              refine go1 (op_pick_t rfl hb16 (.t (has rfl)) (.bool _)) rfl ?_
              refine go1 (op_move rfl (.t (has rfl))) rfl ?_
              refine goS rfl rfl rfl rfl rfl rfl rfl ?_
              refine goS rfl rfl rfl rfl rfl rfl rfl ?_
              refine go1 (op_pick_t rfl rfl (.t (has rfl)) (.bool _)) rfl ?_
              refine go1 (op_build (pl := [(0, 1), (1, 1), (2, 1)]) rfl rfl Try.underlying31 (by kernel_rfl) zk31 (.cons rfl tk4 fldMode_Run (.t (has rfl)) (.cons rfl tk4 fldMode_Echo (.t (has rfl)) (.cons rfl tk4 fldMode_Forgive (.t (has rfl)) (.nil _))))) rfl ?_
              refine go1 (op_store (Fld.whole kMode) tk31 (.t (has rfl)) (has rfl) (.t (has rfl))) rfl ?_
              refine goesO_nil ?_
              obtain rfl := Option.some.inj H
              exact ends_cut (.cons rfl (.cons rfl .nil))
            · skip
              refine goG (op_fieldAddr rfl Try.underlying25 rfl tk4 (.t (has rfl))) rfl rfl rfl rfl hb16 ?_
              refine goG (op_load rfl fldOptions_Ignore tk4 (.t (has rfl)) (has rfl)) rfl rfl rfl rfl hb16 ?_
              refine go1 (op_pick_f rfl hb16 (.t (has rfl)) (.t (has rfl))) rfl ?_
              refine go1 (op_move rfl (.t (has rfl))) rfl ?_
              refine goesO_split H (fun hb17 H => ?_) (fun hb17 H => ?_)
              · skip
                refine goS rfl rfl rfl rfl rfl rfl hb17 ?_
                refine goS rfl rfl rfl rfl rfl rfl hb17 ?_
                refine go1 (op_pick_t rfl hb17 (.t (has rfl)) (.bool _)) rfl ?_
                refine go1 (op_build (pl := [(0, 1), (1, 1), (2, 1)]) rfl rfl Try.underlying31 (by kernel_rfl) zk31 (.cons rfl tk4 fldMode_Run (.t (has rfl)) (.cons rfl tk4 fldMode_Echo (.t (has rfl)) (.cons rfl tk4 fldMode_Forgive (.t (has rfl)) (.nil _))))) rfl ?_
                refine go1 (op_store (Fld.whole kMode) tk31 (.t (has rfl)) (has rfl) (.t (has rfl))) rfl ?_
                refine goesO_nil ?_
                obtain rfl := Option.some.inj H
                exact ends_cut (.cons rfl (.cons rfl .nil))
              · skip
                refine goG (op_fieldAddr rfl Try.underlying27 rfl tk4 (.t (has rfl))) rfl rfl rfl rfl hb17 ?_
                refine goG (op_load rfl fldNode_Ignore tk4 (.t (has rfl)) (has rfl)) rfl rfl rfl rfl hb17 ?_
                refine go1 (op_pick_f rfl hb17 (.t (has rfl)) (.t (has rfl))) rfl ?_
                refine go1 (op_build (pl := [(0, 1), (1, 1), (2, 1)]) rfl rfl Try.underlying31 (by kernel_rfl) zk31 (.cons rfl tk4 fldMode_Run (.t (has rfl)) (.cons rfl tk4 fldMode_Echo (.t (has rfl)) (.cons rfl tk4 fldMode_Forgive (.t (has rfl)) (.nil _))))) rfl ?_
                refine go1 (op_store (Fld.whole kMode) tk31 (.t (has rfl)) (has rfl) (.t (has rfl))) rfl ?_
                refine goesO_nil ?_
                obtain rfl := Option.some.inj H
                exact ends_cut (.cons rfl (.cons rfl .nil))
        · skip
          refine goS rfl rfl rfl rfl rfl rfl hb12 ?_
          refine goS rfl rfl rfl rfl rfl rfl hb12 ?_
          refine goS rfl rfl rfl rfl rfl rfl hb12 ?_
          refine goG (op_pick_f rfl hb12 (.t (has rfl)) (.bool _)) rfl rfl rfl rfl hb8 ?_
          refine goG (op_move rfl (.t (has rfl))) rfl rfl rfl rfl hb8 ?_
          refine goS rfl rfl rfl rfl rfl rfl rfl ?_
          refine goS rfl rfl rfl rfl rfl rfl rfl ?_
          refine goS rfl rfl rfl rfl rfl rfl rfl ?_
          refine goG (op_pick_f rfl rfl (.t (has rfl)) (.bool _)) rfl rfl rfl rfl hb8 ?_
          refine go1 (op_pick_f rfl hb8 (.t (has rfl)) (.t (has rfl))) rfl ?_
          refine go1 (op_fieldAddr rfl Try.underlying29 rfl tk4 (.t (has rfl))) rfl ?_
          refine go1 (op_load rfl fldFlags_Ignore tk4 (.t (has rfl)) (has rfl)) rfl ?_
          refine go1 (op_move rfl (.t (has rfl))) rfl ?_
          refine goesO_split H (fun hb18 H => ?_) (fun hb18 H => ?_)
          · skip
            refine goS rfl rfl rfl rfl rfl rfl hb18 ?_
            refine goS rfl rfl rfl rfl rfl rfl hb18 ?_
            refine go1 (op_pick_t rfl hb18 (.t (has rfl)) (.bool _)) rfl ?_
            refine go1 (op_move rfl (.t (has rfl))) rfl ?_
            refine goS rfl rfl rfl rfl rfl rfl rfl ?_
            refine goS rfl rfl rfl rfl rfl rfl rfl ?_
            refine go1 (op_pick_t rfl rfl (.t (has rfl)) (.bool _)) rfl ?_
            refine go1 (op_build (pl := [(0, 1), (1, 1), (2, 1)]) rfl rfl Try.underlying31 (by kernel_rfl) zk31 (.cons rfl tk4 fldMode_Run (.t (has rfl)) (.cons rfl tk4 fldMode_Echo (.t (has rfl)) (.cons rfl tk4 fldMode_Forgive (.t (has rfl)) (.nil _))))) rfl ?_
            refine go1 (op_store (Fld.whole kMode) tk31 (.t (has rfl)) (has rfl) (.t (has rfl))) rfl ?_
            refine goesO_nil ?_
            obtain rfl := Option.some.inj H
            exact ends_cut (.cons rfl (.cons rfl .nil))
          · skip
            refine goG (op_fieldAddr rfl Try.underlying25 rfl tk4 (.t (has rfl))) rfl rfl rfl rfl hb18 ?_
            refine goG (op_load rfl fldOptions_Ignore tk4 (.t (has rfl)) (has rfl)) rfl rfl rfl rfl hb18 ?_
            refine go1 (op_pick_f rfl hb18 (.t (has rfl)) (.t (has rfl))) rfl ?_
            refine go1 (op_move rfl (.t (has rfl))) rfl ?_
            refine goesO_split H (fun hb19 H => ?_) (fun hb19 H => ?_)
            · skip
              refine goS rfl rfl rfl rfl rfl rfl hb19 ?_
              refine goS rfl rfl rfl rfl rfl rfl hb19 ?_
              refine go1 (op_pick_t rfl hb19 (.t (has rfl)) (.bool _)) rfl ?_
              refine go1 (op_build (pl := [(0, 1), (1, 1), (2, 1)]) rfl rfl Try.underlying31 (by kernel_rfl) zk31 (.cons rfl tk4 fldMode_Run (.t (has rfl)) (.cons rfl tk4 fldMode_Echo (.t (has rfl)) (.cons rfl tk4 fldMode_Forgive (.t (has rfl)) (.nil _))))) rfl ?_
              refine go1 (op_store (Fld.whole kMode) tk31 (.t (has rfl)) (has rfl) (.t (has rfl))) rfl ?_
              refine goesO_nil ?_
              obtain rfl := Option.some.inj H
              exact ends_cut (.cons rfl (.cons rfl .nil))
            · skip
              refine goG (op_fieldAddr rfl Try.underlying27 rfl tk4 (.t (has rfl))) rfl rfl rfl rfl hb19 ?_
              refine goG (op_load rfl fldNode_Ignore tk4 (.t (has rfl)) (has rfl)) rfl rfl rfl rfl hb19 ?_
              refine go1 (op_pick_f rfl hb19 (.t (has rfl)) (.t (has rfl))) rfl ?_
              refine go1 (op_build (pl := [(0, 1), (1, 1), (2, 1)]) rfl rfl Try.underlying31 (by kernel_rfl) zk31 (.cons rfl tk4 fldMode_Run (.t (has rfl)) (.cons rfl tk4 fldMode_Echo (.t (has rfl)) (.cons rfl tk4 fldMode_Forgive (.t (has rfl)) (.nil _))))) rfl ?_
              refine go1 (op_store (Fld.whole kMode) tk31 (.t (has rfl)) (has rfl) (.t (has rfl))) rfl ?_
              refine goesO_nil ?_
              obtain rfl := Option.some.inj H
              exact ends_cut (.cons rfl (.cons rfl .nil))
      · skip
        refine goS rfl rfl rfl rfl rfl rfl hb11 ?_
        refine goS rfl rfl rfl rfl rfl rfl hb11 ?_
        refine goS rfl rfl rfl rfl rfl rfl hb11 ?_
        refine goG (op_pick_f rfl hb11 (.t (has rfl)) (.bool _)) rfl rfl rfl rfl hb8 ?_
        refine goG (op_move rfl (.t (has rfl))) rfl rfl rfl rfl hb8 ?_
        refine goS rfl rfl rfl rfl rfl rfl rfl ?_
        refine goS rfl rfl rfl rfl rfl rfl rfl ?_
        refine goS rfl rfl rfl rfl rfl rfl rfl ?_
        refine goG (op_pick_f rfl rfl (.t (has rfl)) (.bool _)) rfl rfl rfl rfl hb8 ?_
        refine goG (op_move rfl (.t (has rfl))) rfl rfl rfl rfl hb8 ?_
        refine goS rfl rfl rfl rfl rfl rfl rfl ?_
        refine goS rfl rfl rfl rfl rfl rfl rfl ?_
        refine goS rfl rfl rfl rfl rfl rfl rfl ?_
        refine goG (op_pick_f rfl rfl (.t (has rfl)) (.bool _)) rfl rfl rfl rfl hb8 ?_
        refine go1 (op_pick_f rfl hb8 (.t (has rfl)) (.t (has rfl))) rfl ?_
        refine go1 (op_fieldAddr rfl Try.underlying29 rfl tk4 (.t (has rfl))) rfl ?_
        refine go1 (op_load rfl fldFlags_Ignore tk4 (.t (has rfl)) (has rfl)) rfl ?_
        refine go1 (op_move rfl (.t (has rfl))) rfl ?_
        refine goesO_split H (fun hb20 H => ?_) (fun hb20 H => ?_)
        · skip
          refine goS rfl rfl rfl rfl rfl rfl hb20 ?_
          refine goS rfl rfl rfl rfl rfl rfl hb20 ?_
          refine go1 (op_pick_t rfl hb20 (.t (has rfl)) (.bool _)) rfl ?_
          refine go1 (op_move rfl (.t (has rfl))) rfl ?_
          refine goS rfl rfl rfl rfl rfl rfl rfl ?_
          refine goS rfl rfl rfl rfl rfl rfl rfl ?_
          refine go1 (op_pick_t rfl rfl (.t (has rfl)) (.bool _)) rfl ?_
          refine go1 (op_build (pl := [(0, 1), (1, 1), (2, 1)]) rfl rfl Try.underlying31 (by kernel_rfl) zk31 (.cons rfl tk4 fldMode_Run (.t (has rfl)) (.cons rfl tk4 fldMode_Echo (.t (has rfl)) (.cons rfl tk4 fldMode_Forgive (.t (has rfl)) (.nil _))))) rfl ?_
          refine go1 (op_store (Fld.whole kMode) tk31 (.t (has rfl)) (has rfl) (.t (has rfl))) rfl ?_
          refine goesO_nil ?_
          obtain rfl := Option.some.inj H
          exact ends_cut (.cons rfl (.cons rfl .nil))
        · skip
          refine goG (op_fieldAddr rfl Try.underlying25 rfl tk4 (.t (has rfl))) rfl rfl rfl rfl hb20 ?_
          refine goG (op_load rfl fldOptions_Ignore tk4 (.t (has rfl)) (has rfl)) rfl rfl rfl rfl hb20 ?_
          refine go1 (op_pick_f rfl hb20 (.t (has rfl)) (.t (has rfl))) rfl ?_
          refine go1 (op_move rfl (.t (has rfl))) rfl ?_
          refine goesO_split H (fun hb21 H => ?_) (fun hb21 H => ?_)
          · skip
            refine goS rfl rfl rfl rfl rfl rfl hb21 ?_
            refine goS rfl rfl rfl rfl rfl rfl hb21 ?_
            refine go1 (op_pick_t rfl hb21 (.t (has rfl)) (.bool _)) rfl ?_
            refine go1 (op_build (pl := [(0, 1), (1, 1), (2, 1)]) rfl rfl Try.underlying31 (by kernel_rfl) zk31 (.cons rfl tk4 fldMode_Run (.t (has rfl)) (.cons rfl tk4 fldMode_Echo (.t (has rfl)) (.cons rfl tk4 fldMode_Forgive (.t (has rfl)) (.nil _))))) rfl ?_
            refine go1 (op_store (Fld.whole kMode) tk31 (.t (has rfl)) (has rfl) (.t (has rfl))) rfl ?_
            refine goesO_nil ?_
            obtain rfl := Option.some.inj H
            exact ends_cut (.cons rfl (.cons rfl .nil))
          · skip
            refine goG (op_fieldAddr rfl Try.underlying27 rfl tk4 (.t (has rfl))) rfl rfl rfl rfl hb21 ?_
            refine goG (op_load rfl fldNode_Ignore tk4 (.t (has rfl)) (has rfl)) rfl rfl rfl rfl hb21 ?_
            refine go1 (op_pick_f rfl hb21 (.t (has rfl)) (.t (has rfl))) rfl ?_
            refine go1 (op_build (pl := [(0, 1), (1, 1), (2, 1)]) rfl rfl Try.underlying31 (by kernel_rfl) zk31 (.cons rfl tk4 fldMode_Run (.t (has rfl)) (.cons rfl tk4 fldMode_Echo (.t (has rfl)) (.cons rfl tk4 fldMode_Forgive (.t (has rfl)) (.nil _))))) rfl ?_
            refine go1 (op_store (Fld.whole kMode) tk31 (.t (has rfl)) (has rfl) (.t (has rfl))) rfl ?_
            refine goesO_nil ?_
            obtain rfl := Option.some.inj H
            exact ends_cut (.cons rfl (.cons rfl .nil))
  refine ends_then ?_
  obtain rfl := Option.some.inj H
  exact goes_ret (ends_ret' rfl rfl (.c rfl rfl tk31 (.nil _)))
theorem smithyref19_Mode.conF (a0 : Options) (a1 : Node) (a2 : Flags) (r : Mode) (H : smithyref19_Mode.f a0 a1 a2 = some r) : ConF Try.prog 26 [VA.k kOptions a0, VA.k kNode a1, VA.k kFlags a2] [VA.k kMode r] := (smithyref19_Mode.con a0 a1 a2 r H).freeL (.cons (KFree.k kfreeMode _) .nil)
/-! smithy/smithyref19.Of -/
def smithyref19_Of.f (k : Nat) (a0 : Options) (a1 : Node) (a2 : Flags) : Option (Mode × Int) := (smithyref19_asked.f k a0 a1).bind fun v1 => bif icmp .neq v1 (0 : Int) then (some ((⟨false, false, false⟩ : Mode), v1)) else ((smithyref19_Mode.f a0 a1 a2).bind fun v4 => some (v4, (0 : Int)))
set_option maxRecDepth 100000 in
set_option maxHeartbeats 4000000 in
theorem smithyref19_Of.con (k : Nat) (a0 : Options) (a1 : Node) (a2 : Flags) (r : Mode × Int) (H : smithyref19_Of.f k a0 a1 a2 = some r) : Con Try.prog 10 [VA.k kOptions a0, VA.k kNode a1, VA.k kFlags a2] [VA.k kMode r.1, VA.k (kint .i64) r.2] := by
  unfold smithyref19_Of.f at H
  refine con_enter Try.func10 rfl rfl rfl (fun w0 S0 θ => ?_)
  refine goes_seq ?_
  refine goes_region ?_
  refine go3 (op_box 3 rfl (fun h => by first | rfl | cases h) (.t (has rfl))) rfl ?_
  refine go3 (op_box 4 rfl (fun h => by first | rfl | cases h) (.t (has rfl))) rfl ?_
  refine go3 (op_box 5 rfl (fun h => by first | rfl | cases h) (.t (has rfl))) rfl ?_
  refine go3 (op_alloc 6 rfl zk31) rfl ?_
  refine go1 (op_assign rfl (.int _ _)) rfl ?_
  refine goesO_nil ?_
  refine ends_then ?_
  refine goes_seq ?_
  refine goes_seq ?_
  refine goes_region ?_
  refine go1 (op_load rfl (Fld.whole kOptions) tk25 (.t (has rfl)) (has rfl)) rfl ?_
  refine go1 (op_load rfl (Fld.whole kNode) tk27 (.t (has rfl)) (has rfl)) rfl ?_
  obtain ⟨v1, h2, H⟩ := bind_some H
  refine go1 (op_call' rfl enters25 (smithyref19_asked.con _ _ _ _ h2) rfl (.cons (ArgP.k (.t (has rfl))) (.cons (ArgP.k (.t (has rfl))) .nil))) rfl ?_
  refine go1 (op_assign rfl (.t (has rfl))) rfl ?_
  refine goesO_nil ?_
  refine ends_then ?_
  refine goes_seq ?_
  refine goes_region ?_
  refine go1 (op_move rfl (.t (has rfl))) rfl ?_
  refine go1 (op_icmp rfl rfl (.t (has rfl)) (.int _ _)) rfl ?_
  refine goesO_nil ?_
  refine ends_then ?_
  refine goes_if (.t (has rfl)) H (fun hb3 H => ?_) (fun hb3 H => ?_)
  · skip
    refine goes_seq ?_
    refine goes_region ?_
    refine go1 (op_build (pl := [(0, 1), (1, 1), (2, 1)]) rfl rfl Try.underlying31 (by kernel_rfl) zk31 (.nil _)) rfl ?_
    refine go1 (op_move rfl (.t (has rfl))) rfl ?_
    refine go1 (op_store (Fld.whole kMode) tk31 (.t (has rfl)) (has rfl) (.t (has rfl))) rfl ?_
    refine go1 (op_assign rfl (.t (has rfl))) rfl ?_
    refine goesO_nil ?_
    refine ends_then ?_
    obtain rfl := Option.some.inj H
    exact goes_ret (ends_then_ret (ends_ret' rfl rfl (.c rfl rfl tk31 (.t rfl (.nil _)))))
  · skip
    refine goes_skip ?_
    refine ends_then ?_
    refine goes_seq ?_
    refine goes_region ?_
    refine go1 (op_load rfl (Fld.whole kOptions) tk25 (.t (has rfl)) (has rfl)) rfl ?_
    refine go1 (op_load rfl (Fld.whole kNode) tk27 (.t (has rfl)) (has rfl)) rfl ?_
    refine go1 (op_load rfl (Fld.whole kFlags) tk29 (.t (has rfl)) (has rfl)) rfl ?_
    obtain ⟨v4, h5, H⟩ := bind_some H
    refine go1 (op_call' rfl enters26 (smithyref19_Mode.con _ _ _ _ h5) rfl (.cons (ArgP.k (.t (has rfl))) (.cons (ArgP.k (.t (has rfl))) (.cons (ArgP.k (.t (has rfl))) .nil)))) rfl ?_
    refine go1 (op_store (Fld.whole kMode) tk31 (.t (has rfl)) (has rfl) (.t (has rfl))) rfl ?_
    refine go1 (op_assign rfl (.int _ _)) rfl ?_
    refine goesO_nil ?_
    refine ends_then ?_
    obtain rfl := Option.some.inj H
    exact goes_ret (ends_ret' rfl rfl (.c rfl rfl tk31 (.t rfl (.nil _))))
theorem smithyref19_Of.conF (k : Nat) (a0 : Options) (a1 : Node) (a2 : Flags) (r : Mode × Int) (H : smithyref19_Of.f k a0 a1 a2 = some r) : ConF Try.prog 10 [VA.k kOptions a0, VA.k kNode a1, VA.k kFlags a2] [VA.k kMode r.1, VA.k (kint .i64) r.2] := (smithyref19_Of.con k a0 a1 a2 r H).freeL (.cons (KFree.k kfreeMode _) (.cons (KFree.k (KFree.int .i64) _) .nil))
/-! smithy/modes.Touches -/
def modes_Touches.f (k : Nat) (a0 : Options) (a1 : Node) : Option (Bool × Int) := (modes_Check.f k a0).bind fun v1 => bif icmp .neq v1 (0 : Int) then (some (false, v1)) else ((modes_alone.f k a1).bind fun v4 => bif icmp .neq v4 (0 : Int) then (some (false, v4)) else ((bif a0.Touch then (some (!a1.Phony)) else (some false)).bind fun s7 => some (s7, (0 : Int))))
set_option maxRecDepth 100000 in
set_option maxHeartbeats 4000000 in
theorem modes_Touches.con (k : Nat) (a0 : Options) (a1 : Node) (r : Bool × Int) (H : modes_Touches.f k a0 a1 = some r) : Con Try.prog 11 [VA.k kOptions a0, VA.k kNode a1] [VA.k kbool r.1, VA.k (kint .i64) r.2] := by
  unfold modes_Touches.f at H
  refine con_enter Try.func11 rfl rfl rfl (fun w0 S0 θ => ?_)
  refine goes_seq ?_
  refine goes_region ?_
  refine go3 (op_box 2 rfl (fun h => by first | rfl | cases h) (.t (has rfl))) rfl ?_
  refine go3 (op_box 3 rfl (fun h => by first | rfl | cases h) (.t (has rfl))) rfl ?_
  refine go1 (op_assign rfl (.bool _)) rfl ?_
  refine go1 (op_assign rfl (.int _ _)) rfl ?_
  refine goesO_nil ?_
  refine ends_then ?_
  refine goes_seq ?_
  refine goes_seq ?_
  refine goes_region ?_
  refine go1 (op_load rfl (Fld.whole kOptions) tk25 (.t (has rfl)) (has rfl)) rfl ?_
  obtain ⟨v1, h2, H⟩ := bind_some H
  refine go1 (op_call' rfl enters17 (modes_Check.con _ _ _ h2) rfl (.cons (ArgP.k (.t (has rfl))) .nil)) rfl ?_
  refine go1 (op_assign rfl (.t (has rfl))) rfl ?_
  refine goesO_nil ?_
  refine ends_then ?_
  refine goes_seq ?_
  refine goes_region ?_
  refine go1 (op_move rfl (.t (has rfl))) rfl ?_
  refine go1 (op_icmp rfl rfl (.t (has rfl)) (.int _ _)) rfl ?_
  refine goesO_nil ?_
  refine ends_then ?_
  refine goes_if (.t (has rfl)) H (fun hb3 H => ?_) (fun hb3 H => ?_)
  · skip
    refine goes_seq ?_
    refine goes_region ?_
    refine go1 (op_move rfl (.t (has rfl))) rfl ?_
    refine go1 (op_assign rfl (.bool _)) rfl ?_
    refine go1 (op_assign rfl (.t (has rfl))) rfl ?_
    refine goesO_nil ?_
    refine ends_then ?_
    obtain rfl := Option.some.inj H
    exact goes_ret (ends_then_ret (ends_ret' rfl rfl (.t rfl (.t rfl (.nil _)))))
  · skip
    refine goes_skip ?_
    refine ends_then ?_
    refine goes_seq ?_
    refine goes_seq ?_
    refine goes_region ?_
    refine go1 (op_load rfl (Fld.whole kNode) tk27 (.t (has rfl)) (has rfl)) rfl ?_
    obtain ⟨v4, h5, H⟩ := bind_some H
    refine go1 (op_call' rfl enters18 (modes_alone.con _ _ _ h5) rfl (.cons (ArgP.k (.t (has rfl))) .nil)) rfl ?_
    refine go1 (op_assign rfl (.t (has rfl))) rfl ?_
    refine goesO_nil ?_
    refine ends_then ?_
    refine goes_seq ?_
    refine goes_region ?_
    refine go1 (op_move rfl (.t (has rfl))) rfl ?_
    refine go1 (op_icmp rfl rfl (.t (has rfl)) (.int _ _)) rfl ?_
    refine goesO_nil ?_
    refine ends_then ?_
    refine goes_if (.t (has rfl)) H (fun hb6 H => ?_) (fun hb6 H => ?_)
    · skip
      refine goes_seq ?_
      refine goes_region ?_
      refine go1 (op_move rfl (.t (has rfl))) rfl ?_
      refine go1 (op_assign rfl (.bool _)) rfl ?_
      refine go1 (op_assign rfl (.t (has rfl))) rfl ?_
      refine goesO_nil ?_
      refine ends_then ?_
      obtain rfl := Option.some.inj H
      exact goes_ret (ends_then_ret (ends_ret' rfl rfl (.t rfl (.t rfl (.nil _)))))
    · skip
      refine goes_skip ?_
      refine ends_then ?_
      refine goes_seq ?_
      obtain ⟨s7, h8, H⟩ := bind_some H
      refine goes_cut [Ent.t 4 (VA.k kbool s7), Ent.t 5 (VA.k (kint .i64) (0 : Int))] ?_ ?_
      · replace H := h8; clear h8
        refine goes_region ?_
        refine go1 (op_fieldAddr rfl Try.underlying25 rfl tk4 (.t (has rfl))) rfl ?_
        refine go1 (op_load rfl fldOptions_Touch tk4 (.t (has rfl)) (has rfl)) rfl ?_
        refine go1 (op_move rfl (.t (has rfl))) rfl ?_
        refine goesO_split H (fun hb9 H => ?_) (fun hb9 H => ?_)
        · skip
          refine goG (op_fieldAddr rfl Try.underlying27 rfl tk4 (.t (has rfl))) rfl rfl rfl rfl hb9 ?_
          refine goG (op_load rfl fldNode_Phony tk4 (.t (has rfl)) (has rfl)) rfl rfl rfl rfl hb9 ?_
          refine goG (op_not rfl (.t (has rfl))) rfl rfl rfl rfl hb9 ?_
          refine go1 (op_pick_t rfl hb9 (.t (has rfl)) (.t (has rfl))) rfl ?_
          refine go1 (op_assign rfl (.t (has rfl))) rfl ?_
          refine go1 (op_assign rfl (.int _ _)) rfl ?_
          refine goesO_nil ?_
          obtain rfl := Option.some.inj H
          exact ends_cut (.cons rfl (.cons rfl .nil))
        · skip
          refine goS rfl rfl rfl rfl rfl rfl hb9 ?_
          refine goS rfl rfl rfl rfl rfl rfl hb9 ?_
          refine goS rfl rfl rfl rfl rfl rfl hb9 ?_
          refine go1 (op_pick_f rfl hb9 (.t (has rfl)) (.bool _)) rfl ?_
          refine go1 (op_assign rfl (.t (has rfl))) rfl ?_
          refine go1 (op_assign rfl (.int _ _)) rfl ?_
          refine goesO_nil ?_
          obtain rfl := Option.some.inj H
          exact ends_cut (.cons rfl (.cons rfl .nil))
      refine ends_then ?_
      obtain rfl := Option.some.inj H
      exact goes_ret (ends_ret' rfl rfl (.t rfl (.t rfl (.nil _))))
theorem modes_Touches.conF (k : Nat) (a0 : Options) (a1 : Node) (r : Bool × Int) (H : modes_Touches.f k a0 a1 = some r) : ConF Try.prog 11 [VA.k kOptions a0, VA.k kNode a1] [VA.k kbool r.1, VA.k (kint .i64) r.2] := (modes_Touches.con k a0 a1 r H).freeL (.cons (KFree.k KFree.bool _) (.cons (KFree.k (KFree.int .i64) _) .nil))
/-! smithy/smithyref19.Touches -/
def smithyref19_Touches.f (k : Nat) (a0 : Options) (a1 : Node) : Option (Bool × Int) := (smithyref19_asked.f k a0 a1).bind fun v1 => bif icmp .neq v1 (0 : Int) then (some (false, v1)) else ((bif a0.Touch then (some (!a1.Phony)) else (some false)).bind fun s4 => some (s4, (0 : Int)))
set_option maxRecDepth 100000 in
set_option maxHeartbeats 4000000 in
theorem smithyref19_Touches.con (k : Nat) (a0 : Options) (a1 : Node) (r : Bool × Int) (H : smithyref19_Touches.f k a0 a1 = some r) : Con Try.prog 12 [VA.k kOptions a0, VA.k kNode a1] [VA.k kbool r.1, VA.k (kint .i64) r.2] := by
  unfold smithyref19_Touches.f at H
  refine con_enter Try.func12 rfl rfl rfl (fun w0 S0 θ => ?_)
  refine goes_seq ?_
  refine goes_region ?_
  refine go3 (op_box 2 rfl (fun h => by first | rfl | cases h) (.t (has rfl))) rfl ?_
  refine go3 (op_box 3 rfl (fun h => by first | rfl | cases h) (.t (has rfl))) rfl ?_
  refine go1 (op_assign rfl (.bool _)) rfl ?_
  refine go1 (op_assign rfl (.int _ _)) rfl ?_
  refine goesO_nil ?_
  refine ends_then ?_
  refine goes_seq ?_
  refine goes_seq ?_
  refine goes_region ?_
  refine go1 (op_load rfl (Fld.whole kOptions) tk25 (.t (has rfl)) (has rfl)) rfl ?_
  refine go1 (op_load rfl (Fld.whole kNode) tk27 (.t (has rfl)) (has rfl)) rfl ?_
  obtain ⟨v1, h2, H⟩ := bind_some H
  refine go1 (op_call' rfl enters25 (smithyref19_asked.con _ _ _ _ h2) rfl (.cons (ArgP.k (.t (has rfl))) (.cons (ArgP.k (.t (has rfl))) .nil))) rfl ?_
  refine go1 (op_assign rfl (.t (has rfl))) rfl ?_
  refine goesO_nil ?_
  refine ends_then ?_
  refine goes_seq ?_
  refine goes_region ?_
  refine go1 (op_move rfl (.t (has rfl))) rfl ?_
  refine go1 (op_icmp rfl rfl (.t (has rfl)) (.int _ _)) rfl ?_
  refine goesO_nil ?_
  refine ends_then ?_
  refine goes_if (.t (has rfl)) H (fun hb3 H => ?_) (fun hb3 H => ?_)
  · skip
    refine goes_seq ?_
    refine goes_region ?_
    refine go1 (op_move rfl (.t (has rfl))) rfl ?_
    refine go1 (op_assign rfl (.bool _)) rfl ?_
    refine go1 (op_assign rfl (.t (has rfl))) rfl ?_
    refine goesO_nil ?_
    refine ends_then ?_
    obtain rfl := Option.some.inj H
    exact goes_ret (ends_then_ret (ends_ret' rfl rfl (.t rfl (.t rfl (.nil _)))))
  · skip
    refine goes_skip ?_
    refine ends_then ?_
    refine goes_seq ?_
    obtain ⟨s4, h5, H⟩ := bind_some H
    refine goes_cut [Ent.t 4 (VA.k kbool s4), Ent.t 5 (VA.k (kint .i64) (0 : Int))] ?_ ?_
    · replace H := h5; clear h5
      refine goes_region ?_
      refine go1 (op_fieldAddr rfl Try.underlying25 rfl tk4 (.t (has rfl))) rfl ?_
      refine go1 (op_load rfl fldOptions_Touch tk4 (.t (has rfl)) (has rfl)) rfl ?_
      refine go1 (op_move rfl (.t (has rfl))) rfl ?_
      refine goesO_split H (fun hb6 H => ?_) (fun hb6 H => ?_)
      · skip
        refine goG (op_fieldAddr rfl Try.underlying27 rfl tk4 (.t (has rfl))) rfl rfl rfl rfl hb6 ?_
        refine goG (op_load rfl fldNode_Phony tk4 (.t (has rfl)) (has rfl)) rfl rfl rfl rfl hb6 ?_
        refine goG (op_not rfl (.t (has rfl))) rfl rfl rfl rfl hb6 ?_
        refine go1 (op_pick_t rfl hb6 (.t (has rfl)) (.t (has rfl))) rfl ?_
        refine go1 (op_assign rfl (.t (has rfl))) rfl ?_
        refine go1 (op_assign rfl (.int _ _)) rfl ?_
        refine goesO_nil ?_
        obtain rfl := Option.some.inj H
        exact ends_cut (.cons rfl (.cons rfl .nil))
      · skip
        refine goS rfl rfl rfl rfl rfl rfl hb6 ?_
        refine goS rfl rfl rfl rfl rfl rfl hb6 ?_
        refine goS rfl rfl rfl rfl rfl rfl hb6 ?_
        refine go1 (op_pick_f rfl hb6 (.t (has rfl)) (.bool _)) rfl ?_
        refine go1 (op_assign rfl (.t (has rfl))) rfl ?_
        refine go1 (op_assign rfl (.int _ _)) rfl ?_
        refine goesO_nil ?_
        obtain rfl := Option.some.inj H
        exact ends_cut (.cons rfl (.cons rfl .nil))
    refine ends_then ?_
    obtain rfl := Option.some.inj H
    exact goes_ret (ends_ret' rfl rfl (.t rfl (.t rfl (.nil _))))
theorem smithyref19_Touches.conF (k : Nat) (a0 : Options) (a1 : Node) (r : Bool × Int) (H : smithyref19_Touches.f k a0 a1 = some r) : ConF Try.prog 12 [VA.k kOptions a0, VA.k kNode a1] [VA.k kbool r.1, VA.k (kint .i64) r.2] := (smithyref19_Touches.con k a0 a1 r H).freeL (.cons (KFree.k KFree.bool _) (.cons (KFree.k (KFree.int .i64) _) .nil))
/-! smithy/smithylaw19.small -/
def smithylaw19_small.f (k : Nat) : Option Bool := (modes_Of.f k (⟨false, false, false, false, false, false, (1 : Int), ([] : List ByteArray), ([] : List Macro), ([] : List ByteArray)⟩ : Options) (⟨(⟨#[116]⟩ : ByteArray), ([] : List ByteArray), ([] : List ByteArray), false, ByteArray.empty, ByteArray.empty, false, false, false, false⟩ : Node) (⟨false, false, false⟩ : Flags)).bind fun v1 => (modes_Of.f k (⟨true, false, false, false, false, false, (1 : Int), ([] : List ByteArray), ([] : List Macro), ([] : List ByteArray)⟩ : Options) (⟨(⟨#[116]⟩ : ByteArray), ([] : List ByteArray), ([] : List ByteArray), false, ByteArray.empty, ByteArray.empty, false, false, false, false⟩ : Node) (⟨false, true, false⟩ : Flags)).bind fun v3 => (bif icmp .eql v1.2 (0 : Int) then (bif icmp .eql v3.2 (0 : Int) then (bif eqMode v1.1 (⟨true, true, false⟩ : Mode) then (bif eqMode v3.1 (⟨true, false, false⟩ : Mode) then ((modes_Check.f k (⟨false, false, false, false, false, false, (0 : Int), ([] : List ByteArray), ([] : List Macro), ([] : List ByteArray)⟩ : Options)).bind fun v11 => some (icmp .eql v11 (1 : Int))) else (some false)) else (some false)) else (some false)) else (some false)).bind fun s5 => some s5
set_option maxRecDepth 100000 in
set_option maxHeartbeats 4000000 in
theorem smithylaw19_small.con (k : Nat) (r : Bool) (H : smithylaw19_small.f k = some r) : Con Try.prog 9 [] [VA.k kbool r] := by
  unfold smithylaw19_small.f at H
  refine con_enter Try.func9 rfl rfl rfl (fun w0 S0 θ => ?_)
  refine goes_seq ?_
  refine goes_region ?_
  refine go1 (op_assign rfl (.bool _)) rfl ?_
  refine goesO_nil ?_
  refine ends_then ?_
  refine goes_seq ?_
  refine goes_region ?_
  refine go1 (op_build (pl := [(0, 1), (1, 1), (2, 1), (3, 1), (4, 1), (5, 1), (6, 1), (7, 1), (8, 1), (9, 1)]) rfl rfl Try.underlying27 (by kernel_rfl) zk27 (.cons rfl tk9 fldNode_Target (.str _) (.nil _))) rfl ?_
  refine go3 (op_alloc 1 rfl zk27) rfl ?_
  refine go1 (op_store (Fld.whole kNode) tk27 (.t (has rfl)) (has rfl) (.t (has rfl))) rfl ?_
  refine goesO_nil ?_
  refine ends_then ?_
  refine goes_seq ?_
  refine goes_region ?_
  refine go1 (op_build (pl := [(0, 1), (1, 1), (2, 1), (3, 1), (4, 1), (5, 1), (6, 1), (7, 1), (8, 1), (9, 1)]) rfl rfl Try.underlying25 (by kernel_rfl) zk25 (.cons rfl tk3 fldOptions_Slots (.int _ _) (.nil _))) rfl ?_
  refine go1 (op_load rfl (Fld.whole kNode) tk27 (.t (has rfl)) (has rfl)) rfl ?_
  refine go1 (op_build (pl := [(0, 1), (1, 1), (2, 1)]) rfl rfl Try.underlying29 (by kernel_rfl) zk29 (.nil _)) rfl ?_
  obtain ⟨v1, h2, H⟩ := bind_some H
  refine goN (op_calls' rfl enters6 (modes_Of.con _ _ _ _ _ h2) rfl rfl (.cons (ArgP.k (.t (has rfl))) (.cons (ArgP.k (.t (has rfl))) (.cons (ArgP.k (.t (has rfl))) .nil)))) rfl ?_
  refine go1 (op_same (.inl rfl) rfl rfl) rfl ?_
  refine go1 (op_extract_same rfl plain_k (has rfl) (has rfl)) rfl ?_
  refine go1 (op_extract_same rfl plain_k (has rfl) (has rfl)) rfl ?_
  refine go3 (op_alloc 2 rfl zk31) rfl ?_
  refine go1 (op_store (Fld.whole kMode) tk31 (.t (has rfl)) (has rfl) (.t (has rfl))) rfl ?_
  refine go1 (op_assign rfl (.t (has rfl))) rfl ?_
  refine goesO_nil ?_
  refine ends_then ?_
  refine goes_seq ?_
  refine goes_region ?_
  refine go1 (op_build (pl := [(0, 1), (1, 1), (2, 1), (3, 1), (4, 1), (5, 1), (6, 1), (7, 1), (8, 1), (9, 1)]) rfl rfl Try.underlying25 (by kernel_rfl) zk25 (.cons rfl tk3 fldOptions_Slots (.int _ _) (.cons rfl tk4 fldOptions_Dry (.bool _) (.nil _)))) rfl ?_
  refine go1 (op_load rfl (Fld.whole kNode) tk27 (.t (has rfl)) (has rfl)) rfl ?_
  refine go1 (op_build (pl := [(0, 1), (1, 1), (2, 1)]) rfl rfl Try.underlying29 (by kernel_rfl) zk29 (.cons rfl tk4 fldFlags_Silent (.bool _) (.nil _))) rfl ?_
  obtain ⟨v3, h4, H⟩ := bind_some H
  refine goN (op_calls' rfl enters6 (modes_Of.con _ _ _ _ _ h4) rfl rfl (.cons (ArgP.k (.t (has rfl))) (.cons (ArgP.k (.t (has rfl))) (.cons (ArgP.k (.t (has rfl))) .nil)))) rfl ?_
  refine go1 (op_same (.inl rfl) rfl rfl) rfl ?_
  refine go1 (op_extract_same rfl plain_k (has rfl) (has rfl)) rfl ?_
  refine go1 (op_extract_same rfl plain_k (has rfl) (has rfl)) rfl ?_
  refine go3 (op_alloc 4 rfl zk31) rfl ?_
  refine go1 (op_store (Fld.whole kMode) tk31 (.t (has rfl)) (has rfl) (.t (has rfl))) rfl ?_
  refine go1 (op_assign rfl (.t (has rfl))) rfl ?_
  refine goesO_nil ?_
  refine ends_then ?_
  refine goes_seq ?_
  obtain ⟨s5, h6, H⟩ := bind_some H
  refine goes_cut [Ent.t 0 (VA.k kbool s5)] ?_ ?_
  · replace H := h6; clear h6
    refine goes_region ?_
    refine go1 (op_move rfl (.t (has rfl))) rfl ?_
    refine go1 (op_icmp rfl rfl (.t (has rfl)) (.int _ _)) rfl ?_
    refine go1 (op_move rfl (.t (has rfl))) rfl ?_
    refine goesO_split H (fun hb7 H => ?_) (fun hb7 H => ?_)
    · skip
      refine goG (op_move rfl (.t (has rfl))) rfl rfl rfl rfl hb7 ?_
      refine goG (op_icmp rfl rfl (.t (has rfl)) (.int _ _)) rfl rfl rfl rfl hb7 ?_
      refine go1 (op_pick_t rfl hb7 (.t (has rfl)) (.t (has rfl))) rfl ?_
      refine go1 (op_move rfl (.t (has rfl))) rfl ?_
      refine goesO_split H (fun hb8 H => ?_) (fun hb8 H => ?_)
      · skip
        refine goG (op_load rfl (Fld.whole kMode) tk31 (.t (has rfl)) (has rfl)) rfl rfl rfl rfl hb8 ?_
        refine goG (op_build (pl := [(0, 1), (1, 1), (2, 1)]) rfl rfl Try.underlying31 (by kernel_rfl) zk31 (.cons rfl tk4 fldMode_Echo (.bool _) (.cons rfl tk4 fldMode_Run (.bool _) (.nil _)))) rfl rfl rfl rfl hb8 ?_
        refine goG (op_seq rfl qk31 rfl rfl (by kernel_rfl) (.t (has rfl)) (.t (has rfl))) rfl rfl rfl rfl hb8 ?_
        refine go1 (op_pick_t rfl hb8 (.t (has rfl)) (.t (has rfl))) rfl ?_
        refine go1 (op_move rfl (.t (has rfl))) rfl ?_
        refine goesO_split H (fun hb9 H => ?_) (fun hb9 H => ?_)
        · skip
          refine goG (op_load rfl (Fld.whole kMode) tk31 (.t (has rfl)) (has rfl)) rfl rfl rfl rfl hb9 ?_
          refine goG (op_build (pl := [(0, 1), (1, 1), (2, 1)]) rfl rfl Try.underlying31 (by kernel_rfl) zk31 (.cons rfl tk4 fldMode_Echo (.bool _) (.nil _))) rfl rfl rfl rfl hb9 ?_
          refine goG (op_seq rfl qk31 rfl rfl (by kernel_rfl) (.t (has rfl)) (.t (has rfl))) rfl rfl rfl rfl hb9 ?_
          refine go1 (op_pick_t rfl hb9 (.t (has rfl)) (.t (has rfl))) rfl ?_
          refine go1 (op_move rfl (.t (has rfl))) rfl ?_
          refine goesO_split H (fun hb10 H => ?_) (fun hb10 H => ?_)
          · skip
            refine goG (op_build (pl := [(0, 1), (1, 1), (2, 1), (3, 1), (4, 1), (5, 1), (6, 1), (7, 1), (8, 1), (9, 1)]) rfl rfl Try.underlying25 (by kernel_rfl) zk25 (.nil _)) rfl rfl rfl rfl hb10 ?_
            obtain ⟨v11, h12, H⟩ := bind_some H
            refine goG (op_call' rfl enters17 (modes_Check.con _ _ _ h12) rfl (.cons (ArgP.k (.t (has rfl))) .nil)) rfl rfl rfl rfl hb10 ?_
            refine goG (op_icmp rfl rfl (.t (has rfl)) (.int _ _)) rfl rfl rfl rfl hb10 ?_
            refine go1 (op_pick_t rfl hb10 (.t (has rfl)) (.t (has rfl))) rfl ?_
            refine go1 (op_assign rfl (.t (has rfl))) rfl ?_
            refine goesO_nil ?_
            obtain rfl := Option.some.inj H
            exact ends_cut (.cons rfl .nil)
          · skip
            refine goS rfl rfl rfl rfl rfl rfl hb10 ?_
            refine goS rfl rfl rfl rfl rfl rfl hb10 ?_
            refine goS rfl rfl rfl rfl rfl rfl hb10 ?_
            refine go1 (op_pick_f rfl hb10 (.t (has rfl)) (.bool _)) rfl ?_
            refine go1 (op_assign rfl (.t (has rfl))) rfl ?_
            refine goesO_nil ?_
            obtain rfl := Option.some.inj H
            exact ends_cut (.cons rfl .nil)
        · skip
          refine goS rfl rfl rfl rfl rfl rfl hb9 ?_
          refine goS rfl rfl rfl rfl rfl rfl hb9 ?_
          refine goS rfl rfl rfl rfl rfl rfl hb9 ?_
          refine go1 (op_pick_f rfl hb9 (.t (has rfl)) (.bool _)) rfl ?_
          refine go1 (op_move rfl (.t (has rfl))) rfl ?_
          refine goS rfl rfl rfl rfl rfl rfl rfl ?_
          refine goS rfl rfl rfl rfl rfl rfl rfl ?_
          refine goS rfl rfl rfl rfl rfl rfl rfl ?_
          refine go1 (op_pick_f rfl rfl (.t (has rfl)) (.bool _)) rfl ?_
          refine go1 (op_assign rfl (.t (has rfl))) rfl ?_
          refine goesO_nil ?_
          obtain rfl := Option.some.inj H
          exact ends_cut (.cons rfl .nil)
      · skip
        refine goS rfl rfl rfl rfl rfl rfl hb8 ?_
        refine goS rfl rfl rfl rfl rfl rfl hb8 ?_
        refine goS rfl rfl rfl rfl rfl rfl hb8 ?_
        refine go1 (op_pick_f rfl hb8 (.t (has rfl)) (.bool _)) rfl ?_
        refine go1 (op_move rfl (.t (has rfl))) rfl ?_
        refine goS rfl rfl rfl rfl rfl rfl rfl ?_
        refine goS rfl rfl rfl rfl rfl rfl rfl ?_
        refine goS rfl rfl rfl rfl rfl rfl rfl ?_
        refine go1 (op_pick_f rfl rfl (.t (has rfl)) (.bool _)) rfl ?_
        refine go1 (op_move rfl (.t (has rfl))) rfl ?_
        refine goS rfl rfl rfl rfl rfl rfl rfl ?_
        refine goS rfl rfl rfl rfl rfl rfl rfl ?_
        refine goS rfl rfl rfl rfl rfl rfl rfl ?_
        refine go1 (op_pick_f rfl rfl (.t (has rfl)) (.bool _)) rfl ?_
        refine go1 (op_assign rfl (.t (has rfl))) rfl ?_
        refine goesO_nil ?_
        obtain rfl := Option.some.inj H
        exact ends_cut (.cons rfl .nil)
    · skip
      refine goS rfl rfl rfl rfl rfl rfl hb7 ?_
      refine goS rfl rfl rfl rfl rfl rfl hb7 ?_
      refine go1 (op_pick_f rfl hb7 (.t (has rfl)) (.bool _)) rfl ?_
      refine go1 (op_move rfl (.t (has rfl))) rfl ?_
      refine goS rfl rfl rfl rfl rfl rfl rfl ?_
      refine goS rfl rfl rfl rfl rfl rfl rfl ?_
      refine goS rfl rfl rfl rfl rfl rfl rfl ?_
      refine go1 (op_pick_f rfl rfl (.t (has rfl)) (.bool _)) rfl ?_
      refine go1 (op_move rfl (.t (has rfl))) rfl ?_
      refine goS rfl rfl rfl rfl rfl rfl rfl ?_
      refine goS rfl rfl rfl rfl rfl rfl rfl ?_
      refine goS rfl rfl rfl rfl rfl rfl rfl ?_
      refine go1 (op_pick_f rfl rfl (.t (has rfl)) (.bool _)) rfl ?_
      refine go1 (op_move rfl (.t (has rfl))) rfl ?_
      refine goS rfl rfl rfl rfl rfl rfl rfl ?_
      refine goS rfl rfl rfl rfl rfl rfl rfl ?_
      refine goS rfl rfl rfl rfl rfl rfl rfl ?_
      refine go1 (op_pick_f rfl rfl (.t (has rfl)) (.bool _)) rfl ?_
      refine go1 (op_assign rfl (.t (has rfl))) rfl ?_
      refine goesO_nil ?_
      obtain rfl := Option.some.inj H
      exact ends_cut (.cons rfl .nil)
  refine ends_then ?_
  obtain rfl := Option.some.inj H
  exact goes_ret (ends_ret' rfl rfl (.t rfl (.nil _)))
theorem smithylaw19_small.conF (k : Nat) (r : Bool) (H : smithylaw19_small.f k = some r) : ConF Try.prog 9 [] [VA.k kbool r] := (smithylaw19_small.con k r H).freeL (.cons (KFree.k KFree.bool _) .nil)
/-! smithy/smithylaw19.ModesOf -/
def smithylaw19_ModesOf.f (k : Nat) (a0 : Options) (a1 : Node) (a2 : Flags) : Option Bool := (modes_Of.f k a0 a1 a2).bind fun v1 => (smithyref19_Of.f k a0 a1 a2).bind fun v3 => (modes_Touches.f k a0 a1).bind fun v5 => (smithyref19_Touches.f k a0 a1).bind fun v7 => (bif eqMode v1.1 v3.1 then (bif icmp .eql v1.2 v3.2 then (bif (v5.1 == v7.1) then (bif icmp .eql v5.2 v7.2 then ((smithylaw19_small.f k).bind fun v15 => some v15) else (some false)) else (some false)) else (some false)) else (some false)).bind fun s9 => some s9
set_option maxRecDepth 100000 in
set_option maxHeartbeats 4000000 in
theorem smithylaw19_ModesOf.con (k : Nat) (a0 : Options) (a1 : Node) (a2 : Flags) (r : Bool) (H : smithylaw19_ModesOf.f k a0 a1 a2 = some r) : Con Try.prog 4 [VA.k kOptions a0, VA.k kNode a1, VA.k kFlags a2] [VA.k kbool r] := by
  unfold smithylaw19_ModesOf.f at H
  refine con_enter Try.func4 rfl rfl rfl (fun w0 S0 θ => ?_)
  refine goes_seq ?_
  refine goes_region ?_
  refine go3 (op_box 3 rfl (fun h => by first | rfl | cases h) (.t (has rfl))) rfl ?_
  refine go3 (op_box 4 rfl (fun h => by first | rfl | cases h) (.t (has rfl))) rfl ?_
  refine go3 (op_box 5 rfl (fun h => by first | rfl | cases h) (.t (has rfl))) rfl ?_
  refine go1 (op_assign rfl (.bool _)) rfl ?_
  refine goesO_nil ?_
  refine ends_then ?_
  refine goes_seq ?_
  refine goes_region ?_
  refine go1 (op_load rfl (Fld.whole kOptions) tk25 (.t (has rfl)) (has rfl)) rfl ?_
  refine go1 (op_load rfl (Fld.whole kNode) tk27 (.t (has rfl)) (has rfl)) rfl ?_
  refine go1 (op_load rfl (Fld.whole kFlags) tk29 (.t (has rfl)) (has rfl)) rfl ?_
  obtain ⟨v1, h2, H⟩ := bind_some H
  refine goN (op_calls' rfl enters6 (modes_Of.con _ _ _ _ _ h2) rfl rfl (.cons (ArgP.k (.t (has rfl))) (.cons (ArgP.k (.t (has rfl))) (.cons (ArgP.k (.t (has rfl))) .nil)))) rfl ?_
  refine go1 (op_same (.inl rfl) rfl rfl) rfl ?_
  refine go1 (op_extract_same rfl plain_k (has rfl) (has rfl)) rfl ?_
  refine go1 (op_extract_same rfl plain_k (has rfl) (has rfl)) rfl ?_
  refine go3 (op_alloc 7 rfl zk31) rfl ?_
  refine go1 (op_store (Fld.whole kMode) tk31 (.t (has rfl)) (has rfl) (.t (has rfl))) rfl ?_
  refine go1 (op_assign rfl (.t (has rfl))) rfl ?_
  refine goesO_nil ?_
  refine ends_then ?_
  refine goes_seq ?_
  refine goes_region ?_
  refine go1 (op_load rfl (Fld.whole kOptions) tk25 (.t (has rfl)) (has rfl)) rfl ?_
  refine go1 (op_load rfl (Fld.whole kNode) tk27 (.t (has rfl)) (has rfl)) rfl ?_
  refine go1 (op_load rfl (Fld.whole kFlags) tk29 (.t (has rfl)) (has rfl)) rfl ?_
  obtain ⟨v3, h4, H⟩ := bind_some H
  refine goN (op_calls' rfl enters10 (smithyref19_Of.con _ _ _ _ _ h4) rfl rfl (.cons (ArgP.k (.t (has rfl))) (.cons (ArgP.k (.t (has rfl))) (.cons (ArgP.k (.t (has rfl))) .nil)))) rfl ?_
  refine go1 (op_same (.inl rfl) rfl rfl) rfl ?_
  refine go1 (op_extract_same rfl plain_k (has rfl) (has rfl)) rfl ?_
  refine go1 (op_extract_same rfl plain_k (has rfl) (has rfl)) rfl ?_
  refine go3 (op_alloc 9 rfl zk31) rfl ?_
  refine go1 (op_store (Fld.whole kMode) tk31 (.t (has rfl)) (has rfl) (.t (has rfl))) rfl ?_
  refine go1 (op_assign rfl (.t (has rfl))) rfl ?_
  refine goesO_nil ?_
  refine ends_then ?_
  refine goes_seq ?_
  refine goes_region ?_
  refine go1 (op_load rfl (Fld.whole kOptions) tk25 (.t (has rfl)) (has rfl)) rfl ?_
  refine go1 (op_load rfl (Fld.whole kNode) tk27 (.t (has rfl)) (has rfl)) rfl ?_
  obtain ⟨v5, h6, H⟩ := bind_some H
  refine goN (op_calls' rfl enters11 (modes_Touches.con _ _ _ _ h6) rfl rfl (.cons (ArgP.k (.t (has rfl))) (.cons (ArgP.k (.t (has rfl))) .nil))) rfl ?_
  refine go1 (op_same (.inl rfl) rfl rfl) rfl ?_
  refine go1 (op_extract_same rfl plain_k (has rfl) (has rfl)) rfl ?_
  refine go1 (op_extract_same rfl plain_k (has rfl) (has rfl)) rfl ?_
  refine go1 (op_assign rfl (.t (has rfl))) rfl ?_
  refine go1 (op_assign rfl (.t (has rfl))) rfl ?_
  refine goesO_nil ?_
  refine ends_then ?_
  refine goes_seq ?_
  refine goes_region ?_
  refine go1 (op_load rfl (Fld.whole kOptions) tk25 (.t (has rfl)) (has rfl)) rfl ?_
  refine go1 (op_load rfl (Fld.whole kNode) tk27 (.t (has rfl)) (has rfl)) rfl ?_
  obtain ⟨v7, h8, H⟩ := bind_some H
  refine goN (op_calls' rfl enters12 (smithyref19_Touches.con _ _ _ _ h8) rfl rfl (.cons (ArgP.k (.t (has rfl))) (.cons (ArgP.k (.t (has rfl))) .nil))) rfl ?_
  refine go1 (op_same (.inl rfl) rfl rfl) rfl ?_
  refine go1 (op_extract_same rfl plain_k (has rfl) (has rfl)) rfl ?_
  refine go1 (op_extract_same rfl plain_k (has rfl) (has rfl)) rfl ?_
  refine go1 (op_assign rfl (.t (has rfl))) rfl ?_
  refine go1 (op_assign rfl (.t (has rfl))) rfl ?_
  refine goesO_nil ?_
  refine ends_then ?_
  refine goes_seq ?_
  obtain ⟨s9, h10, H⟩ := bind_some H
  refine goes_cut [Ent.t 6 (VA.k kbool s9)] ?_ ?_
  · replace H := h10; clear h10
    refine goes_region ?_
    refine go1 (op_load rfl (Fld.whole kMode) tk31 (.t (has rfl)) (has rfl)) rfl ?_
    refine go1 (op_load rfl (Fld.whole kMode) tk31 (.t (has rfl)) (has rfl)) rfl ?_
    refine go1 (op_seq rfl qk31 rfl rfl (by kernel_rfl) (.t (has rfl)) (.t (has rfl))) rfl ?_
    refine go1 (op_move rfl (.t (has rfl))) rfl ?_
    refine goesO_split H (fun hb11 H => ?_) (fun hb11 H => ?_)
    · skip
      refine goG (op_move rfl (.t (has rfl))) rfl rfl rfl rfl hb11 ?_
      refine goG (op_move rfl (.t (has rfl))) rfl rfl rfl rfl hb11 ?_
      refine goG (op_icmp rfl rfl (.t (has rfl)) (.t (has rfl))) rfl rfl rfl rfl hb11 ?_
      refine go1 (op_pick_t rfl hb11 (.t (has rfl)) (.t (has rfl))) rfl ?_
      refine go1 (op_move rfl (.t (has rfl))) rfl ?_
      refine goesO_split H (fun hb12 H => ?_) (fun hb12 H => ?_)
      · skip
        refine goG (op_move rfl (.t (has rfl))) rfl rfl rfl rfl hb12 ?_
        refine goG (op_move rfl (.t (has rfl))) rfl rfl rfl rfl hb12 ?_
        refine goG (op_beq rfl Try.underlying4 (.t (has rfl)) (.t (has rfl))) rfl rfl rfl rfl hb12 ?_
        refine go1 (op_pick_t rfl hb12 (.t (has rfl)) (.t (has rfl))) rfl ?_
        refine go1 (op_move rfl (.t (has rfl))) rfl ?_
        refine goesO_split H (fun hb13 H => ?_) (fun hb13 H => ?_)
        · skip
          refine goG (op_move rfl (.t (has rfl))) rfl rfl rfl rfl hb13 ?_
          refine goG (op_move rfl (.t (has rfl))) rfl rfl rfl rfl hb13 ?_
          refine goG (op_icmp rfl rfl (.t (has rfl)) (.t (has rfl))) rfl rfl rfl rfl hb13 ?_
          refine go1 (op_pick_t rfl hb13 (.t (has rfl)) (.t (has rfl))) rfl ?_
          refine go1 (op_move rfl (.t (has rfl))) rfl ?_
          refine goesO_split H (fun hb14 H => ?_) (fun hb14 H => ?_)
          · skip
            obtain ⟨v15, h16, H⟩ := bind_some H
            refine goG (op_call' rfl enters9 (smithylaw19_small.con _  _ h16) rfl .nil) rfl rfl rfl rfl hb14 ?_
            refine go1 (op_pick_t rfl hb14 (.t (has rfl)) (.t (has rfl))) rfl ?_
            refine go1 (op_assign rfl (.t (has rfl))) rfl ?_
            refine goesO_nil ?_
            obtain rfl := Option.some.inj H
            exact ends_cut (.cons rfl .nil)
          · skip
            refine goS rfl rfl rfl rfl rfl rfl hb14 ?_
            refine go1 (op_pick_f rfl hb14 (.t (has rfl)) (.bool _)) rfl ?_
            refine go1 (op_assign rfl (.t (has rfl))) rfl ?_
            refine goesO_nil ?_
            obtain rfl := Option.some.inj H
            exact ends_cut (.cons rfl .nil)
        · skip
          refine goS rfl rfl rfl rfl rfl rfl hb13 ?_
          refine goS rfl rfl rfl rfl rfl rfl hb13 ?_
          refine goS rfl rfl rfl rfl rfl rfl hb13 ?_
          refine go1 (op_pick_f rfl hb13 (.t (has rfl)) (.bool _)) rfl ?_
          refine go1 (op_move rfl (.t (has rfl))) rfl ?_
          refine goS rfl rfl rfl rfl rfl rfl rfl ?_
          refine go1 (op_pick_f rfl rfl (.t (has rfl)) (.bool _)) rfl ?_
          refine go1 (op_assign rfl (.t (has rfl))) rfl ?_
          refine goesO_nil ?_
          obtain rfl := Option.some.inj H
          exact ends_cut (.cons rfl .nil)
      · skip
        refine goS rfl rfl rfl rfl rfl rfl hb12 ?_
        refine goS rfl rfl rfl rfl rfl rfl hb12 ?_
        refine goS rfl rfl rfl rfl rfl rfl hb12 ?_
        refine go1 (op_pick_f rfl hb12 (.t (has rfl)) (.bool _)) rfl ?_
        refine go1 (op_move rfl (.t (has rfl))) rfl ?_
        refine goS rfl rfl rfl rfl rfl rfl rfl ?_
        refine goS rfl rfl rfl rfl rfl rfl rfl ?_
        refine goS rfl rfl rfl rfl rfl rfl rfl ?_
        refine go1 (op_pick_f rfl rfl (.t (has rfl)) (.bool _)) rfl ?_
        refine go1 (op_move rfl (.t (has rfl))) rfl ?_
        refine goS rfl rfl rfl rfl rfl rfl rfl ?_
        refine go1 (op_pick_f rfl rfl (.t (has rfl)) (.bool _)) rfl ?_
        refine go1 (op_assign rfl (.t (has rfl))) rfl ?_
        refine goesO_nil ?_
        obtain rfl := Option.some.inj H
        exact ends_cut (.cons rfl .nil)
    · skip
      refine goS rfl rfl rfl rfl rfl rfl hb11 ?_
      refine goS rfl rfl rfl rfl rfl rfl hb11 ?_
      refine goS rfl rfl rfl rfl rfl rfl hb11 ?_
      refine go1 (op_pick_f rfl hb11 (.t (has rfl)) (.bool _)) rfl ?_
      refine go1 (op_move rfl (.t (has rfl))) rfl ?_
      refine goS rfl rfl rfl rfl rfl rfl rfl ?_
      refine goS rfl rfl rfl rfl rfl rfl rfl ?_
      refine goS rfl rfl rfl rfl rfl rfl rfl ?_
      refine go1 (op_pick_f rfl rfl (.t (has rfl)) (.bool _)) rfl ?_
      refine go1 (op_move rfl (.t (has rfl))) rfl ?_
      refine goS rfl rfl rfl rfl rfl rfl rfl ?_
      refine goS rfl rfl rfl rfl rfl rfl rfl ?_
      refine goS rfl rfl rfl rfl rfl rfl rfl ?_
      refine go1 (op_pick_f rfl rfl (.t (has rfl)) (.bool _)) rfl ?_
      refine go1 (op_move rfl (.t (has rfl))) rfl ?_
      refine goS rfl rfl rfl rfl rfl rfl rfl ?_
      refine go1 (op_pick_f rfl rfl (.t (has rfl)) (.bool _)) rfl ?_
      refine go1 (op_assign rfl (.t (has rfl))) rfl ?_
      refine goesO_nil ?_
      obtain rfl := Option.some.inj H
      exact ends_cut (.cons rfl .nil)
  refine ends_then ?_
  obtain rfl := Option.some.inj H
  exact goes_ret (ends_ret' rfl rfl (.t rfl (.nil _)))
theorem smithylaw19_ModesOf.conF (k : Nat) (a0 : Options) (a1 : Node) (a2 : Flags) (r : Bool) (H : smithylaw19_ModesOf.f k a0 a1 a2 = some r) : ConF Try.prog 4 [VA.k kOptions a0, VA.k kNode a1, VA.k kFlags a2] [VA.k kbool r] := (smithylaw19_ModesOf.con k a0 a1 a2 r H).freeL (.cons (KFree.k KFree.bool _) .nil)
end Go.Proofs.Ytmmjbobicnmilaa.F
