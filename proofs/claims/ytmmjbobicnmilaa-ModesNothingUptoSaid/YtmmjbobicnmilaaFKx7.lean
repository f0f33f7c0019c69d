import Derived.Test.YtmmjbobicnmilaaFKx6
set_option linter.unusedVariables false
set_option linter.unusedSimpArgs false
set_option linter.unnecessarySimpa false
set_option linter.deprecated false
namespace Go.Proofs.Ytmmjbobicnmilaa.F
open Go Go.RowKit Go.Proofs.Ytmmjbobicnmilaa.Sl
/-! smithy/smithylaw19.ModesNothing -/
def smithylaw19_ModesNothing.f (k : Nat) (a0 : Options) (a1 : Node) (a2 : Flags) : Option Bool := (modes_Of.f k a0 a1 a2).bind fun v1 => bif icmp .neq v1.2 (0 : Int) then ((bif eqMode v1.1 (⟨false, false, false⟩ : Mode) then ((smithyref19_Check.f k a0).bind fun v7 => bif icmp .neq v7 (0 : Int) then ((smithylaw19_small.f k).bind fun v10 => some v10) else ((smithyref12_Node.f k a1).bind fun v12 => bif icmp .neq v12 (0 : Int) then ((smithylaw19_small.f k).bind fun v15 => some v15) else (some false))) else (some false)).bind fun s4 => some s4) else ((bif a0.Dry then (bif v1.1.Run then (some (!a2.Always)) else (some false)) else (bif a0.Touch then (bif v1.1.Run then (some (!a2.Always)) else (some false)) else (bif a0.Query then (bif v1.1.Run then (some (!a2.Always)) else (some false)) else (some false)))).bind fun s17 => bif s17 then (some false) else ((bif !a0.Dry then (bif !a0.Touch then (bif !a0.Query then (bif !v1.1.Run then (some true) else (bif v1.1.Echo then (some false) else (some false))) else (bif v1.1.Echo then (bif !v1.1.Run then (some (!a0.Dry)) else (some false)) else (some false))) else (bif v1.1.Echo then (bif !v1.1.Run then (some (!a0.Dry)) else (some false)) else (some false))) else (bif v1.1.Echo then (bif !v1.1.Run then (some (!a0.Dry)) else (some false)) else (some false))).bind fun s26 => bif s26 then (some false) else ((bif !a0.Ignore then (bif !a0.Silent then (bif !a0.Dry then (bif !a0.Touch then (bif !a0.Query then (bif !a1.Ignore then (bif !a1.Silent then (some (eqFlags a2 (⟨false, false, false⟩ : Flags))) else (some false)) else (some false)) else (some false)) else (some false)) else (some false)) else (some false)) else (some false)).bind fun s40 => (bif !s40 then ((smithylaw19_small.f k).bind fun v52 => some v52) else (bif eqMode v1.1 (⟨true, true, false⟩ : Mode) then ((smithylaw19_small.f k).bind fun v55 => some v55) else (some false))).bind fun s49 => some s49)))
set_option maxRecDepth 100000 in
set_option maxHeartbeats 4000000 in
theorem smithylaw19_ModesNothing.con (k : Nat) (a0 : Options) (a1 : Node) (a2 : Flags) (r : Bool) (H : smithylaw19_ModesNothing.f k a0 a1 a2 = some r) : Con Try.prog 3 [VA.k kOptions a0, VA.k kNode a1, VA.k kFlags a2] [VA.k kbool r] := by
  unfold smithylaw19_ModesNothing.f at H
  refine con_enter Try.func3 rfl rfl rfl (fun w0 S0 θ => ?_)
  refine goes_seq ?_
  refine goes_region ?_
  refine go3 (op_box 3 rfl (fun h => by first | rfl | cases h) (.t (has rfl))) rfl ?_
  refine go3 (op_box 4 rfl (fun h => by first | rfl | cases h) (.t (has rfl))) rfl ?_
  refine go3 (op_box 5 rfl (fun h => by first | rfl | cases h) (.t (has rfl))) rfl ?_
  refine go1 (op_assign rfl (.bool _)) rfl ?_
  refine goesO_nil ?_
  refine ends_then ?_
  refine goes_seq ?_
  refine goes_region ?_
  refine go1 (op_load rfl (Fld.whole kOptions) tk25 (.t (has rfl)) (has rfl)) rfl ?_
  refine go1 (op_load rfl (Fld.whole kNode) tk27 (.t (has rfl)) (has rfl)) rfl ?_
  refine go1 (op_load rfl (Fld.whole kFlags) tk29 (.t (has rfl)) (has rfl)) rfl ?_
  obtain ⟨v1, h2, H⟩ := bind_some H
  refine goN (op_calls' rfl enters6 (modes_Of.con _ _ _ _ _ h2) rfl rfl (.cons (ArgP.k (.t (has rfl))) (.cons (ArgP.k (.t (has rfl))) (.cons (ArgP.k (.t (has rfl))) .nil)))) rfl ?_
  refine go1 (op_same (.inl rfl) rfl rfl) rfl ?_
  refine go1 (op_extract_same rfl plain_k (has rfl) (has rfl)) rfl ?_
  refine go1 (op_extract_same rfl plain_k (has rfl) (has rfl)) rfl ?_
  refine go3 (op_alloc 7 rfl zk31) rfl ?_
  refine go1 (op_store (Fld.whole kMode) tk31 (.t (has rfl)) (has rfl) (.t (has rfl))) rfl ?_
  refine go1 (op_assign rfl (.t (has rfl))) rfl ?_
  refine goesO_nil ?_
  refine ends_then ?_
  refine goes_seq ?_
  refine goes_seq ?_
  refine goes_region ?_
  refine go1 (op_move rfl (.t (has rfl))) rfl ?_
  refine go1 (op_icmp rfl rfl (.t (has rfl)) (.int _ _)) rfl ?_
  refine goesO_nil ?_
  refine ends_then ?_
  refine goes_if (.t (has rfl)) H (fun hb3 H => ?_) (fun hb3 H => ?_)
  · skip
    refine goes_seq ?_
    obtain ⟨s4, h5, H⟩ := bind_some H
    refine goes_cut [Ent.t 6 (VA.k kbool s4)] ?_ ?_
    · replace H := h5; clear h5
      refine goes_region ?_
      refine go1 (op_load rfl (Fld.whole kMode) tk31 (.t (has rfl)) (has rfl)) rfl ?_
      refine go1 (op_build (pl := [(0, 1), (1, 1), (2, 1)]) rfl rfl Try.underlying31 (by kernel_rfl) zk31 (.nil _)) rfl ?_
      refine go1 (op_seq rfl qk31 rfl rfl (by kernel_rfl) (.t (has rfl)) (.t (has rfl))) rfl ?_
      refine go1 (op_move rfl (.t (has rfl))) rfl ?_
      refine goesO_split H (fun hb6 H => ?_) (fun hb6 H => ?_)
      · skip
        refine goG (op_load rfl (Fld.whole kOptions) tk25 (.t (has rfl)) (has rfl)) rfl rfl rfl rfl hb6 ?_
        obtain ⟨v7, h8, H⟩ := bind_some H
        refine goG (op_call' rfl enters7 (smithyref19_Check.con _ _ _ h8) rfl (.cons (ArgP.k (.t (has rfl))) .nil)) rfl rfl rfl rfl hb6 ?_
        refine goG (op_icmp rfl rfl (.t (has rfl)) (.int _ _)) rfl rfl rfl rfl hb6 ?_
        refine goG (op_move rfl (.t (has rfl))) rfl rfl rfl rfl hb6 ?_
        refine goesO_split H (fun hb9 H => ?_) (fun hb9 H => ?_)
        · skip
          refine goS rfl rfl rfl rfl rfl rfl hb9 ?_
          refine goS rfl rfl rfl rfl rfl rfl hb9 ?_
          refine goS rfl rfl rfl rfl rfl rfl hb9 ?_
          refine goG (op_pick_t rfl hb9 (.t (has rfl)) (.bool _)) rfl rfl rfl rfl hb6 ?_
          refine go1 (op_pick_t rfl hb6 (.t (has rfl)) (.t (has rfl))) rfl ?_
          refine go1 (op_move rfl (.t (has rfl))) rfl ?_
          obtain ⟨v10, h11, H⟩ := bind_some H
          refine goG (op_call' rfl enters9 (smithylaw19_small.con _  _ h11) rfl .nil) rfl rfl rfl rfl rfl ?_
          refine go1 (op_pick_t rfl rfl (.t (has rfl)) (.t (has rfl))) rfl ?_
          refine go1 (op_assign rfl (.t (has rfl))) rfl ?_
          refine goesO_nil ?_
          obtain rfl := Option.some.inj H
          exact ends_cut (.cons rfl .nil)
        · skip
          refine goG (op_load rfl (Fld.whole kNode) tk27 (.t (has rfl)) (has rfl)) rfl rfl rfl rfl hb9 ?_
          obtain ⟨v12, h13, H⟩ := bind_some H
          refine goG (op_call' rfl enters8 (smithyref12_Node.con _ _ _ h13) rfl (.cons (ArgP.k (.t (has rfl))) .nil)) rfl rfl rfl rfl hb9 ?_
          refine goG (op_icmp rfl rfl (.t (has rfl)) (.int _ _)) rfl rfl rfl rfl hb9 ?_
          refine goG (op_pick_f rfl hb9 (.t (has rfl)) (.t (has rfl))) rfl rfl rfl rfl hb6 ?_
          refine go1 (op_pick_t rfl hb6 (.t (has rfl)) (.t (has rfl))) rfl ?_
          refine go1 (op_move rfl (.t (has rfl))) rfl ?_
          refine goesO_split H (fun hb14 H => ?_) (fun hb14 H => ?_)
          · skip
            obtain ⟨v15, h16, H⟩ := bind_some H
            refine goG (op_call' rfl enters9 (smithylaw19_small.con _  _ h16) rfl .nil) rfl rfl rfl rfl hb14 ?_
            refine go1 (op_pick_t rfl hb14 (.t (has rfl)) (.t (has rfl))) rfl ?_
            refine go1 (op_assign rfl (.t (has rfl))) rfl ?_
            refine goesO_nil ?_
            obtain rfl := Option.some.inj H
            exact ends_cut (.cons rfl .nil)
          · skip
            refine goS rfl rfl rfl rfl rfl rfl hb14 ?_
            refine go1 (op_pick_f rfl hb14 (.t (has rfl)) (.bool _)) rfl ?_
            refine go1 (op_assign rfl (.t (has rfl))) rfl ?_
            refine goesO_nil ?_
            obtain rfl := Option.some.inj H
            exact ends_cut (.cons rfl .nil)
      · skip
        refine goS rfl rfl rfl rfl rfl rfl hb6 ?_
        refine goS rfl rfl rfl rfl rfl rfl hb6 ?_
        refine goS rfl rfl rfl rfl rfl rfl hb6 ?_
        refine goS rfl rfl rfl rfl rfl rfl hb6 ?_
        refine goSU rfl rfl rfl rfl rfl rfl ?_
        refine goSU rfl rfl rfl rfl rfl rfl ?_
        refine goSU rfl rfl rfl rfl rfl rfl ?_
        refine goS rfl rfl rfl rfl rfl rfl hb6 ?_
        refine go1 (op_pick_f rfl hb6 (.t (has rfl)) (.bool _)) rfl ?_
        refine go1 (op_move rfl (.t (has rfl))) rfl ?_
        refine goS rfl rfl rfl rfl rfl rfl rfl ?_
        refine go1 (op_pick_f rfl rfl (.t (has rfl)) (.bool _)) rfl ?_
        refine go1 (op_assign rfl (.t (has rfl))) rfl ?_
        refine goesO_nil ?_
        obtain rfl := Option.some.inj H
        exact ends_cut (.cons rfl .nil)
    refine ends_then ?_
    obtain rfl := Option.some.inj H
    exact goes_ret (ends_then_ret (ends_ret' rfl rfl (.t rfl (.nil _))))
  · skip
    refine goes_skip ?_
    refine ends_then ?_
    refine goes_seq ?_
    refine goes_seq ?_
    obtain ⟨s17, h18, H⟩ := bind_some H
    refine goes_cut [Ent.t 3 (VA.ptr 3 0), Ent.t 4 (VA.ptr 4 0), Ent.t 5 (VA.ptr 5 0), Ent.t 7 (VA.ptr 7 0), Ent.t 53 (VA.k kbool s17), Ent.h 3 (HE.box 25 kOptions a0), Ent.h 4 (HE.box 27 kNode a1), Ent.h 5 (HE.box 29 kFlags a2), Ent.h 7 (HE.box 31 kMode v1.1)] ?_ ?_
    · replace H := h18; clear h18
      refine goes_region ?_
      refine go1 (op_fieldAddr rfl Try.underlying25 rfl tk4 (.t (has rfl))) rfl ?_
      refine go1 (op_load rfl fldOptions_Dry tk4 (.t (has rfl)) (has rfl)) rfl ?_
      refine go1 (op_move rfl (.t (has rfl))) rfl ?_
      refine goesO_split H (fun hb19 H => ?_) (fun hb19 H => ?_)
      · skip
        refine goS rfl rfl rfl rfl rfl rfl hb19 ?_
        refine goS rfl rfl rfl rfl rfl rfl hb19 ?_
        refine go1 (op_pick_t rfl hb19 (.t (has rfl)) (.bool _)) rfl ?_
        refine go1 (op_move rfl (.t (has rfl))) rfl ?_
        refine goS rfl rfl rfl rfl rfl rfl rfl ?_
        refine goS rfl rfl rfl rfl rfl rfl rfl ?_
        refine go1 (op_pick_t rfl rfl (.t (has rfl)) (.bool _)) rfl ?_
        refine go1 (op_move rfl (.t (has rfl))) rfl ?_
        refine goG (op_fieldAddr rfl Try.underlying31 rfl tk4 (.t (has rfl))) rfl rfl rfl rfl rfl ?_
        refine goG (op_load rfl fldMode_Run tk4 (.t (has rfl)) (has rfl)) rfl rfl rfl rfl rfl ?_
        refine go1 (op_pick_t rfl rfl (.t (has rfl)) (.t (has rfl))) rfl ?_
        refine go1 (op_move rfl (.t (has rfl))) rfl ?_
        refine goesO_split H (fun hb20 H => ?_) (fun hb20 H => ?_)
        · skip
          refine goG (op_fieldAddr rfl Try.underlying29 rfl tk4 (.t (has rfl))) rfl rfl rfl rfl hb20 ?_
          refine goG (op_load rfl fldFlags_Always tk4 (.t (has rfl)) (has rfl)) rfl rfl rfl rfl hb20 ?_
          refine goG (op_not rfl (.t (has rfl))) rfl rfl rfl rfl hb20 ?_
          refine go1 (op_pick_t rfl hb20 (.t (has rfl)) (.t (has rfl))) rfl ?_
          refine goesO_nil ?_
          obtain rfl := Option.some.inj H
          exact ends_cut (.cons rfl (.cons rfl (.cons rfl (.cons rfl (.cons rfl (.cons rfl (.cons rfl (.cons rfl (.cons rfl .nil)))))))))
        · skip
          refine goS rfl rfl rfl rfl rfl rfl hb20 ?_
          refine goS rfl rfl rfl rfl rfl rfl hb20 ?_
          refine goS rfl rfl rfl rfl rfl rfl hb20 ?_
          refine go1 (op_pick_f rfl hb20 (.t (has rfl)) (.bool _)) rfl ?_
          refine goesO_nil ?_
          obtain rfl := Option.some.inj H
          exact ends_cut (.cons rfl (.cons rfl (.cons rfl (.cons rfl (.cons rfl (.cons rfl (.cons rfl (.cons rfl (.cons rfl .nil)))))))))
      · skip
        refine goG (op_fieldAddr rfl Try.underlying25 rfl tk4 (.t (has rfl))) rfl rfl rfl rfl hb19 ?_
        refine goG (op_load rfl fldOptions_Touch tk4 (.t (has rfl)) (has rfl)) rfl rfl rfl rfl hb19 ?_
        refine go1 (op_pick_f rfl hb19 (.t (has rfl)) (.t (has rfl))) rfl ?_
        refine go1 (op_move rfl (.t (has rfl))) rfl ?_
        refine goesO_split H (fun hb21 H => ?_) (fun hb21 H => ?_)
        · skip
          refine goS rfl rfl rfl rfl rfl rfl hb21 ?_
          refine goS rfl rfl rfl rfl rfl rfl hb21 ?_
          refine go1 (op_pick_t rfl hb21 (.t (has rfl)) (.bool _)) rfl ?_
          refine go1 (op_move rfl (.t (has rfl))) rfl ?_
          refine goG (op_fieldAddr rfl Try.underlying31 rfl tk4 (.t (has rfl))) rfl rfl rfl rfl rfl ?_
          refine goG (op_load rfl fldMode_Run tk4 (.t (has rfl)) (has rfl)) rfl rfl rfl rfl rfl ?_
          refine go1 (op_pick_t rfl rfl (.t (has rfl)) (.t (has rfl))) rfl ?_
          refine go1 (op_move rfl (.t (has rfl))) rfl ?_
          refine goesO_split H (fun hb22 H => ?_) (fun hb22 H => ?_)
          · skip
            refine goG (op_fieldAddr rfl Try.underlying29 rfl tk4 (.t (has rfl))) rfl rfl rfl rfl hb22 ?_
            refine goG (op_load rfl fldFlags_Always tk4 (.t (has rfl)) (has rfl)) rfl rfl rfl rfl hb22 ?_
            refine goG (op_not rfl (.t (has rfl))) rfl rfl rfl rfl hb22 ?_
            refine go1 (op_pick_t rfl hb22 (.t (has rfl)) (.t (has rfl))) rfl ?_
            refine goesO_nil ?_
            obtain rfl := Option.some.inj H
            exact ends_cut (.cons rfl (.cons rfl (.cons rfl (.cons rfl (.cons rfl (.cons rfl (.cons rfl (.cons rfl (.cons rfl .nil)))))))))
          · skip
            refine goS rfl rfl rfl rfl rfl rfl hb22 ?_
            refine goS rfl rfl rfl rfl rfl rfl hb22 ?_
            refine goS rfl rfl rfl rfl rfl rfl hb22 ?_
            refine go1 (op_pick_f rfl hb22 (.t (has rfl)) (.bool _)) rfl ?_
            refine goesO_nil ?_
            obtain rfl := Option.some.inj H
            exact ends_cut (.cons rfl (.cons rfl (.cons rfl (.cons rfl (.cons rfl (.cons rfl (.cons rfl (.cons rfl (.cons rfl .nil)))))))))
        · skip
          refine goG (op_fieldAddr rfl Try.underlying25 rfl tk4 (.t (has rfl))) rfl rfl rfl rfl hb21 ?_
          refine goG (op_load rfl fldOptions_Query tk4 (.t (has rfl)) (has rfl)) rfl rfl rfl rfl hb21 ?_
          refine go1 (op_pick_f rfl hb21 (.t (has rfl)) (.t (has rfl))) rfl ?_
          refine go1 (op_move rfl (.t (has rfl))) rfl ?_
          refine goesO_split H (fun hb23 H => ?_) (fun hb23 H => ?_)
          · skip
            refine goG (op_fieldAddr rfl Try.underlying31 rfl tk4 (.t (has rfl))) rfl rfl rfl rfl hb23 ?_
            refine goG (op_load rfl fldMode_Run tk4 (.t (has rfl)) (has rfl)) rfl rfl rfl rfl hb23 ?_
            refine go1 (op_pick_t rfl hb23 (.t (has rfl)) (.t (has rfl))) rfl ?_
            refine go1 (op_move rfl (.t (has rfl))) rfl ?_
            refine goesO_split H (fun hb24 H => ?_) (fun hb24 H => ?_)
            · skip
              refine goG (op_fieldAddr rfl Try.underlying29 rfl tk4 (.t (has rfl))) rfl rfl rfl rfl hb24 ?_
              refine goG (op_load rfl fldFlags_Always tk4 (.t (has rfl)) (has rfl)) rfl rfl rfl rfl hb24 ?_
              refine goG (op_not rfl (.t (has rfl))) rfl rfl rfl rfl hb24 ?_
              refine go1 (op_pick_t rfl hb24 (.t (has rfl)) (.t (has rfl))) rfl ?_
              refine goesO_nil ?_
              obtain rfl := Option.some.inj H
              exact ends_cut (.cons rfl (.cons rfl (.cons rfl (.cons rfl (.cons rfl (.cons rfl (.cons rfl (.cons rfl (.cons rfl .nil)))))))))
            · skip
              refine goS rfl rfl rfl rfl rfl rfl hb24 ?_
              refine goS rfl rfl rfl rfl rfl rfl hb24 ?_
              refine goS rfl rfl rfl rfl rfl rfl hb24 ?_
              refine go1 (op_pick_f rfl hb24 (.t (has rfl)) (.bool _)) rfl ?_
              refine goesO_nil ?_
              obtain rfl := Option.some.inj H
              exact ends_cut (.cons rfl (.cons rfl (.cons rfl (.cons rfl (.cons rfl (.cons rfl (.cons rfl (.cons rfl (.cons rfl .nil)))))))))
          · skip
            refine goS rfl rfl rfl rfl rfl rfl hb23 ?_
            refine goS rfl rfl rfl rfl rfl rfl hb23 ?_
            refine go1 (op_pick_f rfl hb23 (.t (has rfl)) (.bool _)) rfl ?_
            refine go1 (op_move rfl (.t (has rfl))) rfl ?_
            refine goS rfl rfl rfl rfl rfl rfl rfl ?_
            refine goS rfl rfl rfl rfl rfl rfl rfl ?_
            refine goS rfl rfl rfl rfl rfl rfl rfl ?_
            refine go1 (op_pick_f rfl rfl (.t (has rfl)) (.bool _)) rfl ?_
            refine goesO_nil ?_
            obtain rfl := Option.some.inj H
            exact ends_cut (.cons rfl (.cons rfl (.cons rfl (.cons rfl (.cons rfl (.cons rfl (.cons rfl (.cons rfl (.cons rfl .nil)))))))))
    refine ends_then ?_
    refine goes_if (.t (has rfl)) H (fun hb25 H => ?_) (fun hb25 H => ?_)
    · skip
      refine goes_seq ?_
      refine goes_region ?_
      refine go1 (op_assign rfl (.bool _)) rfl ?_
      refine goesO_nil ?_
      refine ends_then ?_
      obtain rfl := Option.some.inj H
      exact goes_ret (ends_then_ret (ends_ret' rfl rfl (.t rfl (.nil _))))
    · skip
      refine goes_skip ?_
      refine ends_then ?_
      refine goes_seq ?_
      refine goes_seq ?_
      obtain ⟨s26, h27, H⟩ := bind_some H
      refine goes_cut [Ent.t 3 (VA.ptr 3 0), Ent.t 4 (VA.ptr 4 0), Ent.t 5 (VA.ptr 5 0), Ent.t 7 (VA.ptr 7 0), Ent.t 85 (VA.k kbool s26), Ent.h 3 (HE.box 25 kOptions a0), Ent.h 4 (HE.box 27 kNode a1), Ent.h 5 (HE.box 29 kFlags a2), Ent.h 7 (HE.box 31 kMode v1.1)] ?_ ?_
      · replace H := h27; clear h27
        refine goes_region ?_
        refine go1 (op_fieldAddr rfl Try.underlying25 rfl tk4 (.t (has rfl))) rfl ?_
        refine go1 (op_load rfl fldOptions_Dry tk4 (.t (has rfl)) (has rfl)) rfl ?_
        refine go1 (op_not rfl (.t (has rfl))) rfl ?_
        refine go1 (op_move rfl (.t (has rfl))) rfl ?_
        refine goesO_split H (fun hb28 H => ?_) (fun hb28 H => ?_)
        · skip
          refine goG (op_fieldAddr rfl Try.underlying25 rfl tk4 (.t (has rfl))) rfl rfl rfl rfl hb28 ?_
          refine goG (op_load rfl fldOptions_Touch tk4 (.t (has rfl)) (has rfl)) rfl rfl rfl rfl hb28 ?_
          refine goG (op_not rfl (.t (has rfl))) rfl rfl rfl rfl hb28 ?_
          refine go1 (op_pick_t rfl hb28 (.t (has rfl)) (.t (has rfl))) rfl ?_
          refine go1 (op_move rfl (.t (has rfl))) rfl ?_
          refine goesO_split H (fun hb29 H => ?_) (fun hb29 H => ?_)
          · skip
            refine goG (op_fieldAddr rfl Try.underlying25 rfl tk4 (.t (has rfl))) rfl rfl rfl rfl hb29 ?_
            refine goG (op_load rfl fldOptions_Query tk4 (.t (has rfl)) (has rfl)) rfl rfl rfl rfl hb29 ?_
            refine goG (op_not rfl (.t (has rfl))) rfl rfl rfl rfl hb29 ?_
            refine go1 (op_pick_t rfl hb29 (.t (has rfl)) (.t (has rfl))) rfl ?_
            refine go1 (op_move rfl (.t (has rfl))) rfl ?_
            refine goesO_split H (fun hb30 H => ?_) (fun hb30 H => ?_)
            · skip
              refine goG (op_fieldAddr rfl Try.underlying31 rfl tk4 (.t (has rfl))) rfl rfl rfl rfl hb30 ?_
              refine goG (op_load rfl fldMode_Run tk4 (.t (has rfl)) (has rfl)) rfl rfl rfl rfl hb30 ?_
              refine goG (op_not rfl (.t (has rfl))) rfl rfl rfl rfl hb30 ?_
              refine go1 (op_pick_t rfl hb30 (.t (has rfl)) (.t (has rfl))) rfl ?_
              refine go1 (op_move rfl (.t (has rfl))) rfl ?_
              refine goesO_split H (fun hb31 H => ?_) (fun hb31 H => ?_)
              · skip
                refine goS rfl rfl rfl rfl rfl rfl hb31 ?_
                refine goS rfl rfl rfl rfl rfl rfl hb31 ?_
                refine goS rfl rfl rfl rfl rfl rfl hb31 ?_
                refine goSU rfl rfl rfl rfl rfl rfl ?_
                refine goSU rfl rfl rfl rfl rfl rfl ?_
                refine goSU rfl rfl rfl rfl rfl rfl ?_
                refine goS rfl rfl rfl rfl rfl rfl hb31 ?_
                refine goS rfl rfl rfl rfl rfl rfl hb31 ?_
                refine goSU rfl rfl rfl rfl rfl rfl ?_
                refine goSU rfl rfl rfl rfl rfl rfl ?_
                refine goSU rfl rfl rfl rfl rfl rfl ?_
                refine goS rfl rfl rfl rfl rfl rfl hb31 ?_
                refine go1 (op_pick_t rfl hb31 (.t (has rfl)) (.bool _)) rfl ?_
                refine goesO_nil ?_
                obtain rfl := Option.some.inj H
                exact ends_cut (.cons rfl (.cons rfl (.cons rfl (.cons rfl (.cons rfl (.cons rfl (.cons rfl (.cons rfl (.cons rfl .nil)))))))))
              · skip
                refine goG (op_fieldAddr rfl Try.underlying31 rfl tk4 (.t (has rfl))) rfl rfl rfl rfl hb31 ?_
                refine goG (op_load rfl fldMode_Echo tk4 (.t (has rfl)) (has rfl)) rfl rfl rfl rfl hb31 ?_
                refine goG (op_move rfl (.t (has rfl))) rfl rfl rfl rfl hb31 ?_
                refine goesO_split H (fun hb32 H => ?_) (fun hb32 H => ?_)
                · skip
                  refine goG (op_fieldAddr rfl Try.underlying31 rfl tk4 (.t (has rfl))) rfl rfl rfl rfl hb32 ?_
                  refine goG (op_load rfl fldMode_Run tk4 (.t (has rfl)) (has rfl)) rfl rfl rfl rfl hb32 ?_
                  refine goG (op_not rfl (.t (has rfl))) rfl rfl rfl rfl hb32 ?_
                  refine goG (op_pick_t rfl hb32 (.t (has rfl)) (.t (has rfl))) rfl rfl rfl rfl hb31 ?_
                  refine goG (op_move rfl (.t (has rfl))) rfl rfl rfl rfl hb31 ?_
                  refine goS rfl rfl rfl rfl rfl rfl hb31 ?_
                  refine goS rfl rfl rfl rfl rfl rfl hb31 ?_
                  refine goS rfl rfl rfl rfl rfl rfl hb31 ?_
                  refine goG (op_pick_f rfl hb31 (.t (has rfl)) (.bool _)) rfl rfl rfl rfl hb31 ?_
                  refine go1 (op_pick_f rfl hb31 (.t (has rfl)) (.t (has rfl))) rfl ?_
                  refine goesO_nil ?_
                  obtain rfl := Option.some.inj H
                  exact ends_cut (.cons rfl (.cons rfl (.cons rfl (.cons rfl (.cons rfl (.cons rfl (.cons rfl (.cons rfl (.cons rfl .nil)))))))))
                · skip
                  refine goS rfl rfl rfl rfl rfl rfl hb32 ?_
                  refine goS rfl rfl rfl rfl rfl rfl hb32 ?_
                  refine goS rfl rfl rfl rfl rfl rfl hb32 ?_
                  refine goG (op_pick_f rfl hb32 (.t (has rfl)) (.bool _)) rfl rfl rfl rfl hb31 ?_
                  refine goG (op_move rfl (.t (has rfl))) rfl rfl rfl rfl hb31 ?_
                  refine goS rfl rfl rfl rfl rfl rfl rfl ?_
                  refine goS rfl rfl rfl rfl rfl rfl rfl ?_
                  refine goS rfl rfl rfl rfl rfl rfl rfl ?_
                  refine goG (op_pick_f rfl rfl (.t (has rfl)) (.bool _)) rfl rfl rfl rfl hb31 ?_
                  refine go1 (op_pick_f rfl hb31 (.t (has rfl)) (.t (has rfl))) rfl ?_
                  refine goesO_nil ?_
                  obtain rfl := Option.some.inj H
                  exact ends_cut (.cons rfl (.cons rfl (.cons rfl (.cons rfl (.cons rfl (.cons rfl (.cons rfl (.cons rfl (.cons rfl .nil)))))))))
            · skip
              refine goS rfl rfl rfl rfl rfl rfl hb30 ?_
              refine goS rfl rfl rfl rfl rfl rfl hb30 ?_
              refine goS rfl rfl rfl rfl rfl rfl hb30 ?_
              refine go1 (op_pick_f rfl hb30 (.t (has rfl)) (.bool _)) rfl ?_
              refine go1 (op_move rfl (.t (has rfl))) rfl ?_
              refine goG (op_fieldAddr rfl Try.underlying31 rfl tk4 (.t (has rfl))) rfl rfl rfl rfl rfl ?_
              refine goG (op_load rfl fldMode_Echo tk4 (.t (has rfl)) (has rfl)) rfl rfl rfl rfl rfl ?_
              refine goG (op_move rfl (.t (has rfl))) rfl rfl rfl rfl rfl ?_
              refine goesO_split H (fun hb33 H => ?_) (fun hb33 H => ?_)
              · skip
                refine goG (op_fieldAddr rfl Try.underlying31 rfl tk4 (.t (has rfl))) rfl rfl rfl rfl hb33 ?_
                refine goG (op_load rfl fldMode_Run tk4 (.t (has rfl)) (has rfl)) rfl rfl rfl rfl hb33 ?_
                refine goG (op_not rfl (.t (has rfl))) rfl rfl rfl rfl hb33 ?_
                refine goG (op_pick_t rfl hb33 (.t (has rfl)) (.t (has rfl))) rfl rfl rfl rfl rfl ?_
                refine goG (op_move rfl (.t (has rfl))) rfl rfl rfl rfl rfl ?_
                refine goesO_split H (fun hb34 H => ?_) (fun hb34 H => ?_)
                · skip
                  refine goG (op_fieldAddr rfl Try.underlying25 rfl tk4 (.t (has rfl))) rfl rfl rfl rfl hb34 ?_
                  refine goG (op_load rfl fldOptions_Dry tk4 (.t (has rfl)) (has rfl)) rfl rfl rfl rfl hb34 ?_
                  refine goG (op_not rfl (.t (has rfl))) rfl rfl rfl rfl hb34 ?_
                  refine goG (op_pick_t rfl hb34 (.t (has rfl)) (.t (has rfl))) rfl rfl rfl rfl rfl ?_
                  refine go1 (op_pick_f rfl rfl (.t (has rfl)) (.t (has rfl))) rfl ?_
                  refine goesO_nil ?_
                  obtain rfl := Option.some.inj H
                  exact ends_cut (.cons rfl (.cons rfl (.cons rfl (.cons rfl (.cons rfl (.cons rfl (.cons rfl (.cons rfl (.cons rfl .nil)))))))))
                · skip
                  refine goS rfl rfl rfl rfl rfl rfl hb34 ?_
                  refine goS rfl rfl rfl rfl rfl rfl hb34 ?_
                  refine goS rfl rfl rfl rfl rfl rfl hb34 ?_
                  refine goG (op_pick_f rfl hb34 (.t (has rfl)) (.bool _)) rfl rfl rfl rfl rfl ?_
                  refine go1 (op_pick_f rfl rfl (.t (has rfl)) (.t (has rfl))) rfl ?_
                  refine goesO_nil ?_
                  obtain rfl := Option.some.inj H
                  exact ends_cut (.cons rfl (.cons rfl (.cons rfl (.cons rfl (.cons rfl (.cons rfl (.cons rfl (.cons rfl (.cons rfl .nil)))))))))
              · skip
                refine goS rfl rfl rfl rfl rfl rfl hb33 ?_
                refine goS rfl rfl rfl rfl rfl rfl hb33 ?_
                refine goS rfl rfl rfl rfl rfl rfl hb33 ?_
                refine goG (op_pick_f rfl hb33 (.t (has rfl)) (.bool _)) rfl rfl rfl rfl rfl ?_
                refine goG (op_move rfl (.t (has rfl))) rfl rfl rfl rfl rfl ?_
                refine goS rfl rfl rfl rfl rfl rfl rfl ?_
                refine goS rfl rfl rfl rfl rfl rfl rfl ?_
                refine goS rfl rfl rfl rfl rfl rfl rfl ?_
                refine goG (op_pick_f rfl rfl (.t (has rfl)) (.bool _)) rfl rfl rfl rfl rfl ?_
                refine go1 (op_pick_f rfl rfl (.t (has rfl)) (.t (has rfl))) rfl ?_
                refine goesO_nil ?_
                obtain rfl := Option.some.inj H
                exact ends_cut (.cons rfl (.cons rfl (.cons rfl (.cons rfl (.cons rfl (.cons rfl (.cons rfl (.cons rfl (.cons rfl .nil)))))))))
          · skip
            refine goS rfl rfl rfl rfl rfl rfl hb29 ?_
            refine goS rfl rfl rfl rfl rfl rfl hb29 ?_
            refine goS rfl rfl rfl rfl rfl rfl hb29 ?_
            refine go1 (op_pick_f rfl hb29 (.t (has rfl)) (.bool _)) rfl ?_
            refine go1 (op_move rfl (.t (has rfl))) rfl ?_
            refine goS rfl rfl rfl rfl rfl rfl rfl ?_
            refine goS rfl rfl rfl rfl rfl rfl rfl ?_
            refine goS rfl rfl rfl rfl rfl rfl rfl ?_
            refine go1 (op_pick_f rfl rfl (.t (has rfl)) (.bool _)) rfl ?_
            refine go1 (op_move rfl (.t (has rfl))) rfl ?_
            refine goG (op_fieldAddr rfl Try.underlying31 rfl tk4 (.t (has rfl))) rfl rfl rfl rfl rfl ?_
            refine goG (op_load rfl fldMode_Echo tk4 (.t (has rfl)) (has rfl)) rfl rfl rfl rfl rfl ?_
            refine goG (op_move rfl (.t (has rfl))) rfl rfl rfl rfl rfl ?_
            refine goesO_split H (fun hb35 H => ?_) (fun hb35 H => ?_)
            · skip
              refine goG (op_fieldAddr rfl Try.underlying31 rfl tk4 (.t (has rfl))) rfl rfl rfl rfl hb35 ?_
              refine goG (op_load rfl fldMode_Run tk4 (.t (has rfl)) (has rfl)) rfl rfl rfl rfl hb35 ?_
              refine goG (op_not rfl (.t (has rfl))) rfl rfl rfl rfl hb35 ?_
              refine goG (op_pick_t rfl hb35 (.t (has rfl)) (.t (has rfl))) rfl rfl rfl rfl rfl ?_
              refine goG (op_move rfl (.t (has rfl))) rfl rfl rfl rfl rfl ?_
              refine goesO_split H (fun hb36 H => ?_) (fun hb36 H => ?_)
              · skip
                refine goG (op_fieldAddr rfl Try.underlying25 rfl tk4 (.t (has rfl))) rfl rfl rfl rfl hb36 ?_
                refine goG (op_load rfl fldOptions_Dry tk4 (.t (has rfl)) (has rfl)) rfl rfl rfl rfl hb36 ?_
                refine goG (op_not rfl (.t (has rfl))) rfl rfl rfl rfl hb36 ?_
                refine goG (op_pick_t rfl hb36 (.t (has rfl)) (.t (has rfl))) rfl rfl rfl rfl rfl ?_
                refine go1 (op_pick_f rfl rfl (.t (has rfl)) (.t (has rfl))) rfl ?_
                refine goesO_nil ?_
                obtain rfl := Option.some.inj H
                exact ends_cut (.cons rfl (.cons rfl (.cons rfl (.cons rfl (.cons rfl (.cons rfl (.cons rfl (.cons rfl (.cons rfl .nil)))))))))
              · skip
                refine goS rfl rfl rfl rfl rfl rfl hb36 ?_
                refine goS rfl rfl rfl rfl rfl rfl hb36 ?_
                refine goS rfl rfl rfl rfl rfl rfl hb36 ?_
                refine goG (op_pick_f rfl hb36 (.t (has rfl)) (.bool _)) rfl rfl rfl rfl rfl ?_
                refine go1 (op_pick_f rfl rfl (.t (has rfl)) (.t (has rfl))) rfl ?_
                refine goesO_nil ?_
                obtain rfl := Option.some.inj H
                exact ends_cut (.cons rfl (.cons rfl (.cons rfl (.cons rfl (.cons rfl (.cons rfl (.cons rfl (.cons rfl (.cons rfl .nil)))))))))
            · skip
              refine goS rfl rfl rfl rfl rfl rfl hb35 ?_
              refine goS rfl rfl rfl rfl rfl rfl hb35 ?_
              refine goS rfl rfl rfl rfl rfl rfl hb35 ?_
              refine goG (op_pick_f rfl hb35 (.t (has rfl)) (.bool _)) rfl rfl rfl rfl rfl ?_
              refine goG (op_move rfl (.t (has rfl))) rfl rfl rfl rfl rfl ?_
              refine goS rfl rfl rfl rfl rfl rfl rfl ?_
              refine goS rfl rfl rfl rfl rfl rfl rfl ?_
              refine goS rfl rfl rfl rfl rfl rfl rfl ?_
              refine goG (op_pick_f rfl rfl (.t (has rfl)) (.bool _)) rfl rfl rfl rfl rfl ?_
              refine go1 (op_pick_f rfl rfl (.t (has rfl)) (.t (has rfl))) rfl ?_
              refine goesO_nil ?_
              obtain rfl := Option.some.inj H
              exact ends_cut (.cons rfl (.cons rfl (.cons rfl (.cons rfl (.cons rfl (.cons rfl (.cons rfl (.cons rfl (.cons rfl .nil)))))))))
        · skip
          refine goS rfl rfl rfl rfl rfl rfl hb28 ?_
          refine goS rfl rfl rfl rfl rfl rfl hb28 ?_
          refine goS rfl rfl rfl rfl rfl rfl hb28 ?_
          refine go1 (op_pick_f rfl hb28 (.t (has rfl)) (.bool _)) rfl ?_
          refine go1 (op_move rfl (.t (has rfl))) rfl ?_
          refine goS rfl rfl rfl rfl rfl rfl rfl ?_
          refine goS rfl rfl rfl rfl rfl rfl rfl ?_
          refine goS rfl rfl rfl rfl rfl rfl rfl ?_
          refine go1 (op_pick_f rfl rfl (.t (has rfl)) (.bool _)) rfl ?_
          refine go1 (op_move rfl (.t (has rfl))) rfl ?_
          refine goS rfl rfl rfl rfl rfl rfl rfl ?_
          refine goS rfl rfl rfl rfl rfl rfl rfl ?_
          refine goS rfl rfl rfl rfl rfl rfl rfl ?_
          refine go1 (op_pick_f rfl rfl (.t (has rfl)) (.bool _)) rfl ?_
          refine go1 (op_move rfl (.t (has rfl))) rfl ?_
          refine goG (op_fieldAddr rfl Try.underlying31 rfl tk4 (.t (has rfl))) rfl rfl rfl rfl rfl ?_
          refine goG (op_load rfl fldMode_Echo tk4 (.t (has rfl)) (has rfl)) rfl rfl rfl rfl rfl ?_
          refine goG (op_move rfl (.t (has rfl))) rfl rfl rfl rfl rfl ?_
          refine goesO_split H (fun hb37 H => ?_) (fun hb37 H => ?_)
          · skip
            refine goG (op_fieldAddr rfl Try.underlying31 rfl tk4 (.t (has rfl))) rfl rfl rfl rfl hb37 ?_
            refine goG (op_load rfl fldMode_Run tk4 (.t (has rfl)) (has rfl)) rfl rfl rfl rfl hb37 ?_
            refine goG (op_not rfl (.t (has rfl))) rfl rfl rfl rfl hb37 ?_
            refine goG (op_pick_t rfl hb37 (.t (has rfl)) (.t (has rfl))) rfl rfl rfl rfl rfl ?_
            refine goG (op_move rfl (.t (has rfl))) rfl rfl rfl rfl rfl ?_
            refine goesO_split H (fun hb38 H => ?_) (fun hb38 H => ?_)
            · skip
              refine goG (op_fieldAddr rfl Try.underlying25 rfl tk4 (.t (has rfl))) rfl rfl rfl rfl hb38 ?_
              refine goG (op_load rfl fldOptions_Dry tk4 (.t (has rfl)) (has rfl)) rfl rfl rfl rfl hb38 ?_
              refine goG (op_not rfl (.t (has rfl))) rfl rfl rfl rfl hb38 ?_
              refine goG (op_pick_t rfl hb38 (.t (has rfl)) (.t (has rfl))) rfl rfl rfl rfl rfl ?_
              refine go1 (op_pick_f rfl rfl (.t (has rfl)) (.t (has rfl))) rfl ?_
              refine goesO_nil ?_
              obtain rfl := Option.some.inj H
              exact ends_cut (.cons rfl (.cons rfl (.cons rfl (.cons rfl (.cons rfl (.cons rfl (.cons rfl (.cons rfl (.cons rfl .nil)))))))))
            · skip
              refine goS rfl rfl rfl rfl rfl rfl hb38 ?_
              refine goS rfl rfl rfl rfl rfl rfl hb38 ?_
              refine goS rfl rfl rfl rfl rfl rfl hb38 ?_
              refine goG (op_pick_f rfl hb38 (.t (has rfl)) (.bool _)) rfl rfl rfl rfl rfl ?_
              refine go1 (op_pick_f rfl rfl (.t (has rfl)) (.t (has rfl))) rfl ?_
              refine goesO_nil ?_
              obtain rfl := Option.some.inj H
              exact ends_cut (.cons rfl (.cons rfl (.cons rfl (.cons rfl (.cons rfl (.cons rfl (.cons rfl (.cons rfl (.cons rfl .nil)))))))))
          · skip
            refine goS rfl rfl rfl rfl rfl rfl hb37 ?_
            refine goS rfl rfl rfl rfl rfl rfl hb37 ?_
            refine goS rfl rfl rfl rfl rfl rfl hb37 ?_
            refine goG (op_pick_f rfl hb37 (.t (has rfl)) (.bool _)) rfl rfl rfl rfl rfl ?_
            refine goG (op_move rfl (.t (has rfl))) rfl rfl rfl rfl rfl ?_
            refine goS rfl rfl rfl rfl rfl rfl rfl ?_
            refine goS rfl rfl rfl rfl rfl rfl rfl ?_
            refine goS rfl rfl rfl rfl rfl rfl rfl ?_
            refine goG (op_pick_f rfl rfl (.t (has rfl)) (.bool _)) rfl rfl rfl rfl rfl ?_
            refine go1 (op_pick_f rfl rfl (.t (has rfl)) (.t (has rfl))) rfl ?_
            refine goesO_nil ?_
            obtain rfl := Option.some.inj H
            exact ends_cut (.cons rfl (.cons rfl (.cons rfl (.cons rfl (.cons rfl (.cons rfl (.cons rfl (.cons rfl (.cons rfl .nil)))))))))
      refine ends_then ?_
      refine goes_if (.t (has rfl)) H (fun hb39 H => ?_) (fun hb39 H => ?_)
      · skip
        refine goes_seq ?_
        refine goes_region ?_
        refine go1 (op_assign rfl (.bool _)) rfl ?_
        refine goesO_nil ?_
        refine ends_then ?_
        obtain rfl := Option.some.inj H
        exact goes_ret (ends_then_ret (ends_ret' rfl rfl (.t rfl (.nil _))))
      · skip
        refine goes_skip ?_
        refine ends_then ?_
        refine goes_seq ?_
        obtain ⟨s40, h41, H⟩ := bind_some H
        refine goes_cut [Ent.t 7 (VA.ptr 7 0), Ent.t 9 (VA.k kbool s40), Ent.h 7 (HE.box 31 kMode v1.1)] ?_ ?_
        · replace H := h41; clear h41
          refine goes_region ?_
          refine go1 (op_fieldAddr rfl Try.underlying25 rfl tk4 (.t (has rfl))) rfl ?_
          refine go1 (op_load rfl fldOptions_Ignore tk4 (.t (has rfl)) (has rfl)) rfl ?_
          refine go1 (op_not rfl (.t (has rfl))) rfl ?_
          refine go1 (op_move rfl (.t (has rfl))) rfl ?_
          refine goesO_split H (fun hb42 H => ?_) (fun hb42 H => ?_)
          · skip
            refine goG (op_fieldAddr rfl Try.underlying25 rfl tk4 (.t (has rfl))) rfl rfl rfl rfl hb42 ?_
            refine goG (op_load rfl fldOptions_Silent tk4 (.t (has rfl)) (has rfl)) rfl rfl rfl rfl hb42 ?_
            refine goG (op_not rfl (.t (has rfl))) rfl rfl rfl rfl hb42 ?_
            refine go1 (op_pick_t rfl hb42 (.t (has rfl)) (.t (has rfl))) rfl ?_
            refine go1 (op_move rfl (.t (has rfl))) rfl ?_
            refine goesO_split H (fun hb43 H => ?_) (fun hb43 H => ?_)
            · skip
              refine goG (op_fieldAddr rfl Try.underlying25 rfl tk4 (.t (has rfl))) rfl rfl rfl rfl hb43 ?_
              refine goG (op_load rfl fldOptions_Dry tk4 (.t (has rfl)) (has rfl)) rfl rfl rfl rfl hb43 ?_
              refine goG (op_not rfl (.t (has rfl))) rfl rfl rfl rfl hb43 ?_
              refine go1 (op_pick_t rfl hb43 (.t (has rfl)) (.t (has rfl))) rfl ?_
              refine go1 (op_move rfl (.t (has rfl))) rfl ?_
              refine goesO_split H (fun hb44 H => ?_) (fun hb44 H => ?_)
              · skip
                refine goG (op_fieldAddr rfl Try.underlying25 rfl tk4 (.t (has rfl))) rfl rfl rfl rfl hb44 ?_
                refine goG (op_load rfl fldOptions_Touch tk4 (.t (has rfl)) (has rfl)) rfl rfl rfl rfl hb44 ?_
                refine goG (op_not rfl (.t (has rfl))) rfl rfl rfl rfl hb44 ?_
                refine go1 (op_pick_t rfl hb44 (.t (has rfl)) (.t (has rfl))) rfl ?_
                refine go1 (op_move rfl (.t (has rfl))) rfl ?_
                refine goesO_split H (fun hb45 H => ?_) (fun hb45 H => ?_)
                · skip
                  refine goG (op_fieldAddr rfl Try.underlying25 rfl tk4 (.t (has rfl))) rfl rfl rfl rfl hb45 ?_
                  refine goG (op_load rfl fldOptions_Query tk4 (.t (has rfl)) (has rfl)) rfl rfl rfl rfl hb45 ?_
                  refine goG (op_not rfl (.t (has rfl))) rfl rfl rfl rfl hb45 ?_
                  refine go1 (op_pick_t rfl hb45 (.t (has rfl)) (.t (has rfl))) rfl ?_
                  refine go1 (op_move rfl (.t (has rfl))) rfl ?_
                  refine goesO_split H (fun hb46 H => ?_) (fun hb46 H => ?_)
                  · skip
                    refine goG (op_fieldAddr rfl Try.underlying27 rfl tk4 (.t (has rfl))) rfl rfl rfl rfl hb46 ?_
                    refine goG (op_load rfl fldNode_Ignore tk4 (.t (has rfl)) (has rfl)) rfl rfl rfl rfl hb46 ?_
                    refine goG (op_not rfl (.t (has rfl))) rfl rfl rfl rfl hb46 ?_
                    refine go1 (op_pick_t rfl hb46 (.t (has rfl)) (.t (has rfl))) rfl ?_
                    refine go1 (op_move rfl (.t (has rfl))) rfl ?_
                    refine goesO_split H (fun hb47 H => ?_) (fun hb47 H => ?_)
                    · skip
                      refine goG (op_fieldAddr rfl Try.underlying27 rfl tk4 (.t (has rfl))) rfl rfl rfl rfl hb47 ?_
                      refine goG (op_load rfl fldNode_Silent tk4 (.t (has rfl)) (has rfl)) rfl rfl rfl rfl hb47 ?_
                      refine goG (op_not rfl (.t (has rfl))) rfl rfl rfl rfl hb47 ?_
                      refine go1 (op_pick_t rfl hb47 (.t (has rfl)) (.t (has rfl))) rfl ?_
                      refine go1 (op_move rfl (.t (has rfl))) rfl ?_
                      refine goesO_split H (fun hb48 H => ?_) (fun hb48 H => ?_)
                      · skip
                        refine goG (op_load rfl (Fld.whole kFlags) tk29 (.t (has rfl)) (has rfl)) rfl rfl rfl rfl hb48 ?_
                        refine goG (op_build (pl := [(0, 1), (1, 1), (2, 1)]) rfl rfl Try.underlying29 (by kernel_rfl) zk29 (.nil _)) rfl rfl rfl rfl hb48 ?_
                        refine goG (op_seq rfl qk29 rfl rfl (by kernel_rfl) (.t (has rfl)) (.t (has rfl))) rfl rfl rfl rfl hb48 ?_
                        refine go1 (op_pick_t rfl hb48 (.t (has rfl)) (.t (has rfl))) rfl ?_
                        refine go1 (op_assign rfl (.t (has rfl))) rfl ?_
                        refine goesO_nil ?_
                        obtain rfl := Option.some.inj H
                        exact ends_cut (.cons rfl (.cons rfl (.cons rfl .nil)))
                      · skip
                        refine goS rfl rfl rfl rfl rfl rfl hb48 ?_
                        refine goS rfl rfl rfl rfl rfl rfl hb48 ?_
                        refine goS rfl rfl rfl rfl rfl rfl hb48 ?_
                        refine go1 (op_pick_f rfl hb48 (.t (has rfl)) (.bool _)) rfl ?_
                        refine go1 (op_assign rfl (.t (has rfl))) rfl ?_
                        refine goesO_nil ?_
                        obtain rfl := Option.some.inj H
                        exact ends_cut (.cons rfl (.cons rfl (.cons rfl .nil)))
                    · skip
                      refine goS rfl rfl rfl rfl rfl rfl hb47 ?_
                      refine goS rfl rfl rfl rfl rfl rfl hb47 ?_
                      refine goS rfl rfl rfl rfl rfl rfl hb47 ?_
                      refine go1 (op_pick_f rfl hb47 (.t (has rfl)) (.bool _)) rfl ?_
                      refine go1 (op_move rfl (.t (has rfl))) rfl ?_
                      refine goS rfl rfl rfl rfl rfl rfl rfl ?_
                      refine goS rfl rfl rfl rfl rfl rfl rfl ?_
                      refine goS rfl rfl rfl rfl rfl rfl rfl ?_
                      refine go1 (op_pick_f rfl rfl (.t (has rfl)) (.bool _)) rfl ?_
                      refine go1 (op_assign rfl (.t (has rfl))) rfl ?_
                      refine goesO_nil ?_
                      obtain rfl := Option.some.inj H
                      exact ends_cut (.cons rfl (.cons rfl (.cons rfl .nil)))
                  · skip
                    refine goS rfl rfl rfl rfl rfl rfl hb46 ?_
                    refine goS rfl rfl rfl rfl rfl rfl hb46 ?_
                    refine goS rfl rfl rfl rfl rfl rfl hb46 ?_
                    refine go1 (op_pick_f rfl hb46 (.t (has rfl)) (.bool _)) rfl ?_
                    refine go1 (op_move rfl (.t (has rfl))) rfl ?_
                    refine goS rfl rfl rfl rfl rfl rfl rfl ?_
                    refine goS rfl rfl rfl rfl rfl rfl rfl ?_
                    refine goS rfl rfl rfl rfl rfl rfl rfl ?_
                    refine go1 (op_pick_f rfl rfl (.t (has rfl)) (.bool _)) rfl ?_
                    refine go1 (op_move rfl (.t (has rfl))) rfl ?_
                    refine goS rfl rfl rfl rfl rfl rfl rfl ?_
                    refine goS rfl rfl rfl rfl rfl rfl rfl ?_
                    refine goS rfl rfl rfl rfl rfl rfl rfl ?_
                    refine go1 (op_pick_f rfl rfl (.t (has rfl)) (.bool _)) rfl ?_
                    refine go1 (op_assign rfl (.t (has rfl))) rfl ?_
                    refine goesO_nil ?_
                    obtain rfl := Option.some.inj H
                    exact ends_cut (.cons rfl (.cons rfl (.cons rfl .nil)))
                · skip
                  refine goS rfl rfl rfl rfl rfl rfl hb45 ?_
                  refine goS rfl rfl rfl rfl rfl rfl hb45 ?_
                  refine goS rfl rfl rfl rfl rfl rfl hb45 ?_
                  refine go1 (op_pick_f rfl hb45 (.t (has rfl)) (.bool _)) rfl ?_
                  refine go1 (op_move rfl (.t (has rfl))) rfl ?_
                  refine goS rfl rfl rfl rfl rfl rfl rfl ?_
                  refine goS rfl rfl rfl rfl rfl rfl rfl ?_
                  refine goS rfl rfl rfl rfl rfl rfl rfl ?_
                  refine go1 (op_pick_f rfl rfl (.t (has rfl)) (.bool _)) rfl ?_
                  refine go1 (op_move rfl (.t (has rfl))) rfl ?_
                  refine goS rfl rfl rfl rfl rfl rfl rfl ?_
                  refine goS rfl rfl rfl rfl rfl rfl rfl ?_
                  refine goS rfl rfl rfl rfl rfl rfl rfl ?_
                  refine go1 (op_pick_f rfl rfl (.t (has rfl)) (.bool _)) rfl ?_
                  refine go1 (op_move rfl (.t (has rfl))) rfl ?_
                  refine goS rfl rfl rfl rfl rfl rfl rfl ?_
                  refine goS rfl rfl rfl rfl rfl rfl rfl ?_
                  refine goS rfl rfl rfl rfl rfl rfl rfl ?_
                  refine go1 (op_pick_f rfl rfl (.t (has rfl)) (.bool _)) rfl ?_
                  refine go1 (op_assign rfl (.t (has rfl))) rfl ?_
                  refine goesO_nil ?_
                  obtain rfl := Option.some.inj H
                  exact ends_cut (.cons rfl (.cons rfl (.cons rfl .nil)))
              · skip
                refine goS rfl rfl rfl rfl rfl rfl hb44 ?_
                refine goS rfl rfl rfl rfl rfl rfl hb44 ?_
                refine goS rfl rfl rfl rfl rfl rfl hb44 ?_
                refine go1 (op_pick_f rfl hb44 (.t (has rfl)) (.bool _)) rfl ?_
                refine go1 (op_move rfl (.t (has rfl))) rfl ?_
                refine goS rfl rfl rfl rfl rfl rfl rfl ?_
                refine goS rfl rfl rfl rfl rfl rfl rfl ?_
                refine goS rfl rfl rfl rfl rfl rfl rfl ?_
                refine go1 (op_pick_f rfl rfl (.t (has rfl)) (.bool _)) rfl ?_
                refine go1 (op_move rfl (.t (has rfl))) rfl ?_
                refine goS rfl rfl rfl rfl rfl rfl rfl ?_
                refine goS rfl rfl rfl rfl rfl rfl rfl ?_
                refine goS rfl rfl rfl rfl rfl rfl rfl ?_
                refine go1 (op_pick_f rfl rfl (.t (has rfl)) (.bool _)) rfl ?_
                refine go1 (op_move rfl (.t (has rfl))) rfl ?_
                refine goS rfl rfl rfl rfl rfl rfl rfl ?_
                refine goS rfl rfl rfl rfl rfl rfl rfl ?_
                refine goS rfl rfl rfl rfl rfl rfl rfl ?_
                refine go1 (op_pick_f rfl rfl (.t (has rfl)) (.bool _)) rfl ?_
                refine go1 (op_move rfl (.t (has rfl))) rfl ?_
                refine goS rfl rfl rfl rfl rfl rfl rfl ?_
                refine goS rfl rfl rfl rfl rfl rfl rfl ?_
                refine goS rfl rfl rfl rfl rfl rfl rfl ?_
                refine go1 (op_pick_f rfl rfl (.t (has rfl)) (.bool _)) rfl ?_
                refine go1 (op_assign rfl (.t (has rfl))) rfl ?_
                refine goesO_nil ?_
                obtain rfl := Option.some.inj H
                exact ends_cut (.cons rfl (.cons rfl (.cons rfl .nil)))
            · skip
              refine goS rfl rfl rfl rfl rfl rfl hb43 ?_
              refine goS rfl rfl rfl rfl rfl rfl hb43 ?_
              refine goS rfl rfl rfl rfl rfl rfl hb43 ?_
              refine go1 (op_pick_f rfl hb43 (.t (has rfl)) (.bool _)) rfl ?_
              refine go1 (op_move rfl (.t (has rfl))) rfl ?_
              refine goS rfl rfl rfl rfl rfl rfl rfl ?_
              refine goS rfl rfl rfl rfl rfl rfl rfl ?_
              refine goS rfl rfl rfl rfl rfl rfl rfl ?_
              refine go1 (op_pick_f rfl rfl (.t (has rfl)) (.bool _)) rfl ?_
              refine go1 (op_move rfl (.t (has rfl))) rfl ?_
              refine goS rfl rfl rfl rfl rfl rfl rfl ?_
              refine goS rfl rfl rfl rfl rfl rfl rfl ?_
              refine goS rfl rfl rfl rfl rfl rfl rfl ?_
              refine go1 (op_pick_f rfl rfl (.t (has rfl)) (.bool _)) rfl ?_
              refine go1 (op_move rfl (.t (has rfl))) rfl ?_
              refine goS rfl rfl rfl rfl rfl rfl rfl ?_
              refine goS rfl rfl rfl rfl rfl rfl rfl ?_
              refine goS rfl rfl rfl rfl rfl rfl rfl ?_
              refine go1 (op_pick_f rfl rfl (.t (has rfl)) (.bool _)) rfl ?_
              refine go1 (op_move rfl (.t (has rfl))) rfl ?_
              refine goS rfl rfl rfl rfl rfl rfl rfl ?_
              refine goS rfl rfl rfl rfl rfl rfl rfl ?_
              refine goS rfl rfl rfl rfl rfl rfl rfl ?_
              refine go1 (op_pick_f rfl rfl (.t (has rfl)) (.bool _)) rfl ?_
              refine go1 (op_move rfl (.t (has rfl))) rfl ?_
              refine goS rfl rfl rfl rfl rfl rfl rfl ?_
              refine goS rfl rfl rfl rfl rfl rfl rfl ?_
              refine goS rfl rfl rfl rfl rfl rfl rfl ?_
              refine go1 (op_pick_f rfl rfl (.t (has rfl)) (.bool _)) rfl ?_
              refine go1 (op_assign rfl (.t (has rfl))) rfl ?_
              refine goesO_nil ?_
              obtain rfl := Option.some.inj H
              exact ends_cut (.cons rfl (.cons rfl (.cons rfl .nil)))
          · skip
            refine goS rfl rfl rfl rfl rfl rfl hb42 ?_
            refine goS rfl rfl rfl rfl rfl rfl hb42 ?_
            refine goS rfl rfl rfl rfl rfl rfl hb42 ?_
            refine go1 (op_pick_f rfl hb42 (.t (has rfl)) (.bool _)) rfl ?_
            refine go1 (op_move rfl (.t (has rfl))) rfl ?_
            refine goS rfl rfl rfl rfl rfl rfl rfl ?_
            refine goS rfl rfl rfl rfl rfl rfl rfl ?_
            refine goS rfl rfl rfl rfl rfl rfl rfl ?_
            refine go1 (op_pick_f rfl rfl (.t (has rfl)) (.bool _)) rfl ?_
            refine go1 (op_move rfl (.t (has rfl))) rfl ?_
            refine goS rfl rfl rfl rfl rfl rfl rfl ?_
            refine goS rfl rfl rfl rfl rfl rfl rfl ?_
            refine goS rfl rfl rfl rfl rfl rfl rfl ?_
            refine go1 (op_pick_f rfl rfl (.t (has rfl)) (.bool _)) rfl ?_
            refine go1 (op_move rfl (.t (has rfl))) rfl ?_
            refine goS rfl rfl rfl rfl rfl rfl rfl ?_
            refine goS rfl rfl rfl rfl rfl rfl rfl ?_
            refine goS rfl rfl rfl rfl rfl rfl rfl ?_
            refine go1 (op_pick_f rfl rfl (.t (has rfl)) (.bool _)) rfl ?_
            refine go1 (op_move rfl (.t (has rfl))) rfl ?_
            refine goS rfl rfl rfl rfl rfl rfl rfl ?_
            refine goS rfl rfl rfl rfl rfl rfl rfl ?_
            refine goS rfl rfl rfl rfl rfl rfl rfl ?_
            refine go1 (op_pick_f rfl rfl (.t (has rfl)) (.bool _)) rfl ?_
            refine go1 (op_move rfl (.t (has rfl))) rfl ?_
            refine goS rfl rfl rfl rfl rfl rfl rfl ?_
            refine goS rfl rfl rfl rfl rfl rfl rfl ?_
            refine goS rfl rfl rfl rfl rfl rfl rfl ?_
            refine go1 (op_pick_f rfl rfl (.t (has rfl)) (.bool _)) rfl ?_
            refine go1 (op_move rfl (.t (has rfl))) rfl ?_
            refine goS rfl rfl rfl rfl rfl rfl rfl ?_
            refine goS rfl rfl rfl rfl rfl rfl rfl ?_
            refine goS rfl rfl rfl rfl rfl rfl rfl ?_
            refine go1 (op_pick_f rfl rfl (.t (has rfl)) (.bool _)) rfl ?_
            refine go1 (op_assign rfl (.t (has rfl))) rfl ?_
            refine goesO_nil ?_
            obtain rfl := Option.some.inj H
            exact ends_cut (.cons rfl (.cons rfl (.cons rfl .nil)))
        refine ends_then ?_
        refine goes_seq ?_
        obtain ⟨s49, h50, H⟩ := bind_some H
        refine goes_cut [Ent.t 6 (VA.k kbool s49)] ?_ ?_
        · replace H := h50; clear h50
          refine goes_region ?_
          refine go1 (op_move rfl (.t (has rfl))) rfl ?_
          refine go1 (op_not rfl (.t (has rfl))) rfl ?_
          refine go1 (op_move rfl (.t (has rfl))) rfl ?_
          refine goesO_split H (fun hb51 H => ?_) (fun hb51 H => ?_)
          · skip
            refine goS rfl rfl rfl rfl rfl rfl hb51 ?_
            refine goS rfl rfl rfl rfl rfl rfl hb51 ?_
            refine goS rfl rfl rfl rfl rfl rfl hb51 ?_
            refine go1 (op_pick_t rfl hb51 (.t (has rfl)) (.bool _)) rfl ?_
            refine go1 (op_move rfl (.t (has rfl))) rfl ?_
            obtain ⟨v52, h53, H⟩ := bind_some H
            refine goG (op_call' rfl enters9 (smithylaw19_small.con _  _ h53) rfl .nil) rfl rfl rfl rfl rfl ?_
            refine go1 (op_pick_t rfl rfl (.t (has rfl)) (.t (has rfl))) rfl ?_
            refine go1 (op_assign rfl (.t (has rfl))) rfl ?_
            refine goesO_nil ?_
            obtain rfl := Option.some.inj H
            exact ends_cut (.cons rfl .nil)
          · skip
            refine goG (op_load rfl (Fld.whole kMode) tk31 (.t (has rfl)) (has rfl)) rfl rfl rfl rfl hb51 ?_
            refine goG (op_build (pl := [(0, 1), (1, 1), (2, 1)]) rfl rfl Try.underlying31 (by kernel_rfl) zk31 (.cons rfl tk4 fldMode_Echo (.bool _) (.cons rfl tk4 fldMode_Run (.bool _) (.nil _)))) rfl rfl rfl rfl hb51 ?_
            refine goG (op_seq rfl qk31 rfl rfl (by kernel_rfl) (.t (has rfl)) (.t (has rfl))) rfl rfl rfl rfl hb51 ?_
            refine go1 (op_pick_f rfl hb51 (.t (has rfl)) (.t (has rfl))) rfl ?_
            refine go1 (op_move rfl (.t (has rfl))) rfl ?_
            refine goesO_split H (fun hb54 H => ?_) (fun hb54 H => ?_)
            · skip
              obtain ⟨v55, h56, H⟩ := bind_some H
              refine goG (op_call' rfl enters9 (smithylaw19_small.con _  _ h56) rfl .nil) rfl rfl rfl rfl hb54 ?_
              refine go1 (op_pick_t rfl hb54 (.t (has rfl)) (.t (has rfl))) rfl ?_
              refine go1 (op_assign rfl (.t (has rfl))) rfl ?_
              refine goesO_nil ?_
              obtain rfl := Option.some.inj H
              exact ends_cut (.cons rfl .nil)
            · skip
              refine goS rfl rfl rfl rfl rfl rfl hb54 ?_
              refine go1 (op_pick_f rfl hb54 (.t (has rfl)) (.bool _)) rfl ?_
              refine go1 (op_assign rfl (.t (has rfl))) rfl ?_
              refine goesO_nil ?_
              obtain rfl := Option.some.inj H
              exact ends_cut (.cons rfl .nil)
        refine ends_then ?_
        obtain rfl := Option.some.inj H
        exact goes_ret (ends_ret' rfl rfl (.t rfl (.nil _)))
theorem smithylaw19_ModesNothing.conF (k : Nat) (a0 : Options) (a1 : Node) (a2 : Flags) (r : Bool) (H : smithylaw19_ModesNothing.f k a0 a1 a2 = some r) : ConF Try.prog 3 [VA.k kOptions a0, VA.k kNode a1, VA.k kFlags a2] [VA.k kbool r] := (smithylaw19_ModesNothing.con k a0 a1 a2 r H).freeL (.cons (KFree.k KFree.bool _) .nil)
end Go.Proofs.Ytmmjbobicnmilaa.F
