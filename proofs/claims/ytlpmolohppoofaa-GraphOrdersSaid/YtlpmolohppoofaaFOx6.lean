import Derived.Test.YtlpmolohppoofaaFOx5
set_option linter.unusedVariables false
set_option linter.unusedSimpArgs false
set_option linter.unnecessarySimpa false
set_option linter.deprecated false
namespace Go.Proofs.Ytlpmolohppoofaa.F
open Go Go.RowKit Go.Proofs.Ytlpmolohppoofaa.Sl
/-! smithy/smithylaw10.GraphOrders -/
def smithylaw10_GraphOrders.l1 (v1 : (List ByteArray) × Int) (s38 : Int) (v59 : (List ByteArray)) : Nat → Int → Option (Except Bool Unit)
  | 0, _ => none
  | k + 1, s61 => bif icmp .lss s61 (v59.length : Int) then ((sub v1.1 (0 : Int) s38).bind fun x66 => (idx v59 s61).bind fun x68 => (smithyref03_Has.f k x66 x68).bind fun v70 => bif !v70 then (some (Except.error false)) else (smithylaw10_GraphOrders.l1 v1 s38 v59 k (IntKind.i64.wrap (s61 + (1 : Int))))) else (some (Except.ok ()))
def smithylaw10_GraphOrders.l0 (a0 : Make) (v1 : (List ByteArray) × Int) (v29 : (List ByteArray) × Int) : Nat → Int → Option (Except Bool Unit)
  | 0, _ => none
  | k + 1, s38 => bif icmp .lss s38 (v1.1.length : Int) then (((idx v1.1 s38).bind fun x45 => (smithyref03_Has.f k v29.1 x45).bind fun v47 => bif !v47 then (some true) else ((sub v1.1 (0 : Int) s38).bind fun x50 => (idx v1.1 s38).bind fun x52 => (smithyref03_Has.f k x50 x52).bind fun v54 => some v54)).bind fun s43 => bif s43 then (some (Except.error false)) else ((idx v1.1 s38).bind fun x57 => (smithyref10_Needs.f k a0 x57).bind fun v59 => (smithylaw10_GraphOrders.l1 v1 s38 v59 k (0 : Int)).bind fun o64 => match o64 with | .error r' => some (Except.error r') | .ok s62 => (smithylaw10_GraphOrders.l0 a0 v1 v29 k (IntKind.i64.wrap (s38 + (1 : Int)))))) else (some (Except.ok ()))
def smithylaw10_GraphOrders.f (k : Nat) (a0 : Make) (a1 : List ByteArray) : Option Bool := (graph_Order.f k a0 a1).bind fun v1 => (graph_Ring.f k a0 a1).bind fun v3 => ((smithyref09_Right.f k a0).bind fun v7 => bif !v7 then (some true) else ((smithyref02_List.f k a1).bind fun v10 => some (icmp .neq v10 (0 : Int)))).bind fun s5 => bif s5 then ((bif icmp .neq v1.2 (0 : Int) then (bif icmp .neq v3.2.2 (0 : Int) then (bif !v3.2.1 then ((smithylaw10_speaks.f k).bind fun v18 => some v18) else (some false)) else (some false)) else (some false)).bind fun s13 => some s13) else (bif v3.2.1 then ((bif icmp .eql v1.2 (100 : Int) then (bif icmp .eql (v1.1.length : Int) (0 : Int) then (bif icmp .gtr (v3.1.length : Int) (0 : Int) then (bif icmp .eql v3.2.2 (0 : Int) then ((smithylaw10_speaks.f k).bind fun v27 => some v27) else (some false)) else (some false)) else (some false)) else (some false)).bind fun s21 => some s21) else ((graph_Reach.f k a0 a1).bind fun v29 => (bif icmp .neq v1.2 (0 : Int) then (some true) else (bif icmp .neq v3.2.2 (0 : Int) then (some true) else (bif icmp .neq v29.2 (0 : Int) then (some true) else (bif icmp .neq (v1.1.length : Int) (v29.1.length : Int) then (some true) else (some (icmp .neq (v3.1.length : Int) (0 : Int))))))).bind fun s31 => bif s31 then (some false) else ((smithylaw10_GraphOrders.l0 a0 v1 v29 k (0 : Int)).bind fun o41 => match o41 with | .error r' => some r' | .ok s39 => ((smithylaw10_speaks.f k).bind fun v73 => some v73))))
set_option maxRecDepth 100000 in
set_option maxHeartbeats 4000000 in
theorem smithylaw10_GraphOrders.con (k : Nat) (a0 : Make) (a1 : List ByteArray) (r : Bool) (H : smithylaw10_GraphOrders.f k a0 a1 = some r) : Con Try.prog 4 [VA.k kMake a0, VA.k (kslice kstr) a1] [VA.k kbool r] := by
  unfold smithylaw10_GraphOrders.f at H
  refine con_enter Try.func4 rfl rfl rfl (fun w0 S0 θ => ?_)
  refine goes_seq ?_
  refine goes_region ?_
  refine go3 (op_box 2 rfl (fun h => by first | rfl | cases h) (.t (has rfl))) rfl ?_
  refine go1 (op_assign rfl (.bool _)) rfl ?_
  refine goesO_nil ?_
  refine ends_then ?_
  refine goes_seq ?_
  refine goes_region ?_
  refine go1 (op_load rfl (Fld.whole kMake) tk29 (.t (has rfl)) (has rfl)) rfl ?_
  refine go1 (op_move rfl (.t (has rfl))) rfl ?_
  obtain ⟨v1, h2, H⟩ := bind_some H
  refine goN (op_calls' rfl enters11 (graph_Order.con _ _ _ _ h2) rfl rfl (.cons (ArgP.k (.t (has rfl))) (.cons (ArgP.k (.t (has rfl))) .nil))) rfl ?_
  refine go1 (op_same (.inl rfl) rfl rfl) rfl ?_
  refine go2 (op_extract_own_same rfl rfl rfl (has rfl) (has rfl)) rfl ?_
  refine go1 (op_extract_same rfl plain_k (has rfl) (has rfl)) rfl ?_
  refine go2 (op_mv (.inr rfl) rfl rfl (has rfl)) rfl ?_
  refine go1 (op_assign rfl (.t (has rfl))) rfl ?_
  refine goesO_nil ?_
  refine ends_then ?_
  refine goes_seq ?_
  refine goes_region ?_
  refine go1 (op_load rfl (Fld.whole kMake) tk29 (.t (has rfl)) (has rfl)) rfl ?_
  refine go1 (op_move rfl (.t (has rfl))) rfl ?_
  obtain ⟨v3, h4, H⟩ := bind_some H
  refine goN (op_calls' rfl enters12 (graph_Ring.con _ _ _ _ h4) rfl rfl (.cons (ArgP.k (.t (has rfl))) (.cons (ArgP.k (.t (has rfl))) .nil))) rfl ?_
  refine go1 (op_same (.inl rfl) rfl rfl) rfl ?_
  refine go1 (op_extract_same rfl plain_k (has rfl) (has rfl)) rfl ?_
  refine go1 (op_extract_same rfl plain_k (has rfl) (has rfl)) rfl ?_
  refine go1 (op_extract_same rfl plain_k (has rfl) (has rfl)) rfl ?_
  refine go1 (op_assign rfl (.t (has rfl))) rfl ?_
  refine go1 (op_assign rfl (.t (has rfl))) rfl ?_
  refine go1 (op_assign rfl (.t (has rfl))) rfl ?_
  refine goesO_nil ?_
  refine ends_then ?_
  refine goes_seq ?_
  refine goes_seq ?_
  obtain ⟨s5, h6, H⟩ := bind_some H
  refine goes_cut [Ent.t 1 (VA.k (kslice kstr) a1), Ent.t 2 (VA.ptr 2 0), Ent.t 5 (VA.own 9 kstr v1.1), Ent.t 6 (VA.k (kint .i64) v1.2), Ent.t 7 (VA.k (kslice kstr) v3.1), Ent.t 8 (VA.k kbool v3.2.1), Ent.t 9 (VA.k (kint .i64) v3.2.2), Ent.t 35 (VA.k kbool s5), Ent.h 2 (HE.box 29 kMake a0)] ?_ ?_
  · replace H := h6; clear h6
    refine goes_region ?_
    refine go1 (op_load rfl (Fld.whole kMake) tk29 (.t (has rfl)) (has rfl)) rfl ?_
    obtain ⟨v7, h8, H⟩ := bind_some H
    refine go1 (op_call' rfl enters13 (smithyref09_Right.con _ _ _ h8) rfl (.cons (ArgP.k (.t (has rfl))) .nil)) rfl ?_
    refine go1 (op_not rfl (.t (has rfl))) rfl ?_
    refine go1 (op_move rfl (.t (has rfl))) rfl ?_
    refine goesO_split H (fun hb9 H => ?_) (fun hb9 H => ?_)
    · skip
      refine goS rfl rfl rfl rfl rfl rfl hb9 ?_
      refine goS rfl rfl rfl rfl rfl rfl hb9 ?_
      refine goS rfl rfl rfl rfl rfl rfl hb9 ?_
      refine go1 (op_pick_t rfl hb9 (.t (has rfl)) (.bool _)) rfl ?_
      refine goesO_nil ?_
      obtain rfl := Option.some.inj H
      exact ends_cut (.cons rfl (.cons rfl (.cons rfl (.cons rfl (.cons rfl (.cons rfl (.cons rfl (.cons rfl (.cons rfl .nil)))))))))
    · skip
      refine goG (op_move rfl (.t (has rfl))) rfl rfl rfl rfl hb9 ?_
      obtain ⟨v10, h11, H⟩ := bind_some H
      refine goG (op_call' rfl enters14 (smithyref02_List.con _ _ _ h11) rfl (.cons (ArgP.k (.t (has rfl))) .nil)) rfl rfl rfl rfl hb9 ?_
      refine goG (op_icmp rfl rfl (.t (has rfl)) (.int _ _)) rfl rfl rfl rfl hb9 ?_
      refine go1 (op_pick_f rfl hb9 (.t (has rfl)) (.t (has rfl))) rfl ?_
      refine goesO_nil ?_
      obtain rfl := Option.some.inj H
      exact ends_cut (.cons rfl (.cons rfl (.cons rfl (.cons rfl (.cons rfl (.cons rfl (.cons rfl (.cons rfl (.cons rfl .nil)))))))))
  refine ends_then ?_
  refine goes_if (.t (has rfl)) H (fun hb12 H => ?_) (fun hb12 H => ?_)
  · skip
    refine goes_seq ?_
    obtain ⟨s13, h14, H⟩ := bind_some H
    refine goes_cut [Ent.t 4 (VA.k kbool s13)] ?_ ?_
    · replace H := h14; clear h14
      refine goes_region ?_
      refine go1 (op_move rfl (.t (has rfl))) rfl ?_
      refine go1 (op_icmp rfl rfl (.t (has rfl)) (.int _ _)) rfl ?_
      refine go1 (op_move rfl (.t (has rfl))) rfl ?_
      refine goesO_split H (fun hb15 H => ?_) (fun hb15 H => ?_)
      · skip
        refine goG (op_move rfl (.t (has rfl))) rfl rfl rfl rfl hb15 ?_
        refine goG (op_icmp rfl rfl (.t (has rfl)) (.int _ _)) rfl rfl rfl rfl hb15 ?_
        refine go1 (op_pick_t rfl hb15 (.t (has rfl)) (.t (has rfl))) rfl ?_
        refine go1 (op_move rfl (.t (has rfl))) rfl ?_
        refine goesO_split H (fun hb16 H => ?_) (fun hb16 H => ?_)
        · skip
          refine goG (op_move rfl (.t (has rfl))) rfl rfl rfl rfl hb16 ?_
          refine goG (op_not rfl (.t (has rfl))) rfl rfl rfl rfl hb16 ?_
          refine go1 (op_pick_t rfl hb16 (.t (has rfl)) (.t (has rfl))) rfl ?_
          refine go1 (op_move rfl (.t (has rfl))) rfl ?_
          refine goesO_split H (fun hb17 H => ?_) (fun hb17 H => ?_)
          · skip
            obtain ⟨v18, h19, H⟩ := bind_some H
            refine goG (op_call' rfl enters7 (smithylaw10_speaks.con _  _ h19) rfl .nil) rfl rfl rfl rfl hb17 ?_
            refine go1 (op_pick_t rfl hb17 (.t (has rfl)) (.t (has rfl))) rfl ?_
            refine go1 (op_assign rfl (.t (has rfl))) rfl ?_
            refine goesO_nil ?_
            obtain rfl := Option.some.inj H
            exact ends_cut (.cons rfl .nil)
          · skip
            refine goS rfl rfl rfl rfl rfl rfl hb17 ?_
            refine go1 (op_pick_f rfl hb17 (.t (has rfl)) (.bool _)) rfl ?_
            refine go1 (op_assign rfl (.t (has rfl))) rfl ?_
            refine goesO_nil ?_
            obtain rfl := Option.some.inj H
            exact ends_cut (.cons rfl .nil)
        · skip
          refine goS rfl rfl rfl rfl rfl rfl hb16 ?_
          refine goS rfl rfl rfl rfl rfl rfl hb16 ?_
          refine go1 (op_pick_f rfl hb16 (.t (has rfl)) (.bool _)) rfl ?_
          refine go1 (op_move rfl (.t (has rfl))) rfl ?_
          refine goS rfl rfl rfl rfl rfl rfl rfl ?_
          refine go1 (op_pick_f rfl rfl (.t (has rfl)) (.bool _)) rfl ?_
          refine go1 (op_assign rfl (.t (has rfl))) rfl ?_
          refine goesO_nil ?_
          obtain rfl := Option.some.inj H
          exact ends_cut (.cons rfl .nil)
      · skip
        refine goS rfl rfl rfl rfl rfl rfl hb15 ?_
        refine goS rfl rfl rfl rfl rfl rfl hb15 ?_
        refine go1 (op_pick_f rfl hb15 (.t (has rfl)) (.bool _)) rfl ?_
        refine go1 (op_move rfl (.t (has rfl))) rfl ?_
        refine goS rfl rfl rfl rfl rfl rfl rfl ?_
        refine goS rfl rfl rfl rfl rfl rfl rfl ?_
        refine go1 (op_pick_f rfl rfl (.t (has rfl)) (.bool _)) rfl ?_
        refine go1 (op_move rfl (.t (has rfl))) rfl ?_
        refine goS rfl rfl rfl rfl rfl rfl rfl ?_
        refine go1 (op_pick_f rfl rfl (.t (has rfl)) (.bool _)) rfl ?_
        refine go1 (op_assign rfl (.t (has rfl))) rfl ?_
        refine goesO_nil ?_
        obtain rfl := Option.some.inj H
        exact ends_cut (.cons rfl .nil)
    refine ends_then ?_
    obtain rfl := Option.some.inj H
    exact goes_ret (ends_then_ret (ends_ret' rfl rfl (.t rfl (.nil _))))
  · skip
    refine goes_skip ?_
    refine ends_then ?_
    refine goes_seq ?_
    refine goes_seq ?_
    refine goes_region ?_
    refine go1 (op_move rfl (.t (has rfl))) rfl ?_
    refine goesO_nil ?_
    refine ends_then ?_
    refine goes_if (.t (has rfl)) H (fun hb20 H => ?_) (fun hb20 H => ?_)
    · skip
      refine goes_seq ?_
      obtain ⟨s21, h22, H⟩ := bind_some H
      refine goes_cut [Ent.t 4 (VA.k kbool s21)] ?_ ?_
      · replace H := h22; clear h22
        refine goes_region ?_
        refine go1 (op_move rfl (.t (has rfl))) rfl ?_
        refine go1 (op_icmp rfl rfl (.t (has rfl)) (.int _ _)) rfl ?_
        refine go1 (op_move rfl (.t (has rfl))) rfl ?_
        refine goesO_split H (fun hb23 H => ?_) (fun hb23 H => ?_)
        · skip
          refine goesO_settle 5 rfl rfl ?_
          refine goG (op_move rfl (.t (has rfl))) rfl rfl rfl rfl hb23 ?_
          refine goG (op_len rfl rfl Try.underlying25 (.t (has rfl))) rfl rfl rfl rfl hb23 ?_
          refine goG (op_icmp rfl rfl (.t (has rfl)) (.int _ _)) rfl rfl rfl rfl hb23 ?_
          refine go1 (op_pick_t rfl hb23 (.t (has rfl)) (.t (has rfl))) rfl ?_
          refine go1 (op_move rfl (.t (has rfl))) rfl ?_
          refine goesO_split H (fun hb24 H => ?_) (fun hb24 H => ?_)
          · skip
            refine goG (op_move rfl (.t (has rfl))) rfl rfl rfl rfl hb24 ?_
            refine goG (op_len rfl rfl Try.underlying25 (.t (has rfl))) rfl rfl rfl rfl hb24 ?_
            refine goG (op_icmp rfl rfl (.t (has rfl)) (.int _ _)) rfl rfl rfl rfl hb24 ?_
            refine go1 (op_pick_t rfl hb24 (.t (has rfl)) (.t (has rfl))) rfl ?_
            refine go1 (op_move rfl (.t (has rfl))) rfl ?_
            refine goesO_split H (fun hb25 H => ?_) (fun hb25 H => ?_)
            · skip
              refine goG (op_move rfl (.t (has rfl))) rfl rfl rfl rfl hb25 ?_
              refine goG (op_icmp rfl rfl (.t (has rfl)) (.int _ _)) rfl rfl rfl rfl hb25 ?_
              refine go1 (op_pick_t rfl hb25 (.t (has rfl)) (.t (has rfl))) rfl ?_
              refine go1 (op_move rfl (.t (has rfl))) rfl ?_
              refine goesO_split H (fun hb26 H => ?_) (fun hb26 H => ?_)
              · skip
                obtain ⟨v27, h28, H⟩ := bind_some H
                refine goG (op_call' rfl enters7 (smithylaw10_speaks.con _  _ h28) rfl .nil) rfl rfl rfl rfl hb26 ?_
                refine go1 (op_pick_t rfl hb26 (.t (has rfl)) (.t (has rfl))) rfl ?_
                refine go1 (op_assign rfl (.t (has rfl))) rfl ?_
                refine goesO_nil ?_
                obtain rfl := Option.some.inj H
                exact ends_cut (.cons rfl .nil)
              · skip
                refine goS rfl rfl rfl rfl rfl rfl hb26 ?_
                refine go1 (op_pick_f rfl hb26 (.t (has rfl)) (.bool _)) rfl ?_
                refine go1 (op_assign rfl (.t (has rfl))) rfl ?_
                refine goesO_nil ?_
                obtain rfl := Option.some.inj H
                exact ends_cut (.cons rfl .nil)
            · skip
              refine goS rfl rfl rfl rfl rfl rfl hb25 ?_
              refine goS rfl rfl rfl rfl rfl rfl hb25 ?_
              refine go1 (op_pick_f rfl hb25 (.t (has rfl)) (.bool _)) rfl ?_
              refine go1 (op_move rfl (.t (has rfl))) rfl ?_
              refine goS rfl rfl rfl rfl rfl rfl rfl ?_
              refine go1 (op_pick_f rfl rfl (.t (has rfl)) (.bool _)) rfl ?_
              refine go1 (op_assign rfl (.t (has rfl))) rfl ?_
              refine goesO_nil ?_
              obtain rfl := Option.some.inj H
              exact ends_cut (.cons rfl .nil)
          · skip
            refine goS rfl rfl rfl rfl rfl rfl hb24 ?_
            refine goS rfl rfl rfl rfl rfl rfl hb24 ?_
            refine goS rfl rfl rfl rfl rfl rfl hb24 ?_
            refine go1 (op_pick_f rfl hb24 (.t (has rfl)) (.bool _)) rfl ?_
            refine go1 (op_move rfl (.t (has rfl))) rfl ?_
            refine goS rfl rfl rfl rfl rfl rfl rfl ?_
            refine goS rfl rfl rfl rfl rfl rfl rfl ?_
            refine go1 (op_pick_f rfl rfl (.t (has rfl)) (.bool _)) rfl ?_
            refine go1 (op_move rfl (.t (has rfl))) rfl ?_
            refine goS rfl rfl rfl rfl rfl rfl rfl ?_
            refine go1 (op_pick_f rfl rfl (.t (has rfl)) (.bool _)) rfl ?_
            refine go1 (op_assign rfl (.t (has rfl))) rfl ?_
            refine goesO_nil ?_
            obtain rfl := Option.some.inj H
            exact ends_cut (.cons rfl .nil)
        · skip
          refine goS rfl rfl rfl rfl rfl rfl hb23 ?_
          refine goS rfl rfl rfl rfl rfl rfl hb23 ?_
          refine goS rfl rfl rfl rfl rfl rfl hb23 ?_
          refine go1 (op_pick_f rfl hb23 (.t (has rfl)) (.bool _)) rfl ?_
          refine go1 (op_move rfl (.t (has rfl))) rfl ?_
          refine goS rfl rfl rfl rfl rfl rfl rfl ?_
          refine goS rfl rfl rfl rfl rfl rfl rfl ?_
          refine goS rfl rfl rfl rfl rfl rfl rfl ?_
          refine go1 (op_pick_f rfl rfl (.t (has rfl)) (.bool _)) rfl ?_
          refine go1 (op_move rfl (.t (has rfl))) rfl ?_
          refine goS rfl rfl rfl rfl rfl rfl rfl ?_
          refine goS rfl rfl rfl rfl rfl rfl rfl ?_
          refine go1 (op_pick_f rfl rfl (.t (has rfl)) (.bool _)) rfl ?_
          refine go1 (op_move rfl (.t (has rfl))) rfl ?_
          refine goS rfl rfl rfl rfl rfl rfl rfl ?_
          refine go1 (op_pick_f rfl rfl (.t (has rfl)) (.bool _)) rfl ?_
          refine go1 (op_assign rfl (.t (has rfl))) rfl ?_
          refine goesO_nil ?_
          obtain rfl := Option.some.inj H
          exact ends_cut (.cons rfl .nil)
      refine ends_then ?_
      obtain rfl := Option.some.inj H
      exact goes_ret (ends_then_ret (ends_ret' rfl rfl (.t rfl (.nil _))))
    · skip
      refine goes_skip ?_
      refine ends_then ?_
      refine goes_seq ?_
      refine goes_region ?_
      refine go1 (op_load rfl (Fld.whole kMake) tk29 (.t (has rfl)) (has rfl)) rfl ?_
      refine go1 (op_move rfl (.t (has rfl))) rfl ?_
      obtain ⟨v29, h30, H⟩ := bind_some H
      refine goN (op_calls' rfl enters15 (graph_Reach.con _ _ _ _ h30) rfl rfl (.cons (ArgP.k (.t (has rfl))) (.cons (ArgP.k (.t (has rfl))) .nil))) rfl ?_
      refine go1 (op_same (.inl rfl) rfl rfl) rfl ?_
      refine go2 (op_extract_own_same rfl rfl rfl (has rfl) (has rfl)) rfl ?_
      refine go1 (op_extract_same rfl plain_k (has rfl) (has rfl)) rfl ?_
      refine go2 (op_mv (.inr rfl) rfl rfl (has rfl)) rfl ?_
      refine go1 (op_assign rfl (.t (has rfl))) rfl ?_
      refine goesO_nil ?_
      refine ends_then ?_
      refine goes_seq ?_
      refine goes_seq ?_
      obtain ⟨s31, h32, H⟩ := bind_some H
      refine goes_cut [Ent.t 2 (VA.ptr 2 0), Ent.t 5 (VA.k (kslice kstr) v1.1), Ent.t 10 (VA.k (kslice kstr) v29.1), Ent.t 96 (VA.k kbool s31), Ent.h 2 (HE.box 29 kMake a0)] ?_ ?_
      · replace H := h32; clear h32
        refine goes_region ?_
        refine go1 (op_move rfl (.t (has rfl))) rfl ?_
        refine go1 (op_icmp rfl rfl (.t (has rfl)) (.int _ _)) rfl ?_
        refine go1 (op_move rfl (.t (has rfl))) rfl ?_
        refine goesO_split H (fun hb33 H => ?_) (fun hb33 H => ?_)
        · skip
          refine goS rfl rfl rfl rfl rfl rfl hb33 ?_
          refine goS rfl rfl rfl rfl rfl rfl hb33 ?_
          refine go1 (op_pick_t rfl hb33 (.t (has rfl)) (.bool _)) rfl ?_
          refine go1 (op_move rfl (.t (has rfl))) rfl ?_
          refine goS rfl rfl rfl rfl rfl rfl rfl ?_
          refine goS rfl rfl rfl rfl rfl rfl rfl ?_
          refine go1 (op_pick_t rfl rfl (.t (has rfl)) (.bool _)) rfl ?_
          refine go1 (op_move rfl (.t (has rfl))) rfl ?_
          refine goS rfl rfl rfl rfl rfl rfl rfl ?_
          refine goS rfl rfl rfl rfl rfl rfl rfl ?_
          refine goS rfl rfl rfl rfl rfl rfl rfl ?_
          refine goS rfl rfl rfl rfl rfl rfl rfl ?_
          refine goS rfl rfl rfl rfl rfl rfl rfl ?_
          refine go1 (op_pick_t rfl rfl (.t (has rfl)) (.bool _)) rfl ?_
          refine go1 (op_move rfl (.t (has rfl))) rfl ?_
          refine goS rfl rfl rfl rfl rfl rfl rfl ?_
          refine goS rfl rfl rfl rfl rfl rfl rfl ?_
          refine goS rfl rfl rfl rfl rfl rfl rfl ?_
          refine go1 (op_pick_t rfl rfl (.t (has rfl)) (.bool _)) rfl ?_
          refine goesO_nil ?_
          refine ends_settle 5 rfl rfl ?_
          refine ends_settle 10 rfl rfl ?_
          obtain rfl := Option.some.inj H
          exact ends_cut (.cons rfl (.cons rfl (.cons rfl (.cons rfl (.cons rfl .nil)))))
        · skip
          refine goG (op_move rfl (.t (has rfl))) rfl rfl rfl rfl hb33 ?_
          refine goG (op_icmp rfl rfl (.t (has rfl)) (.int _ _)) rfl rfl rfl rfl hb33 ?_
          refine go1 (op_pick_f rfl hb33 (.t (has rfl)) (.t (has rfl))) rfl ?_
          refine go1 (op_move rfl (.t (has rfl))) rfl ?_
          refine goesO_split H (fun hb34 H => ?_) (fun hb34 H => ?_)
          · skip
            refine goS rfl rfl rfl rfl rfl rfl hb34 ?_
            refine goS rfl rfl rfl rfl rfl rfl hb34 ?_
            refine go1 (op_pick_t rfl hb34 (.t (has rfl)) (.bool _)) rfl ?_
            refine go1 (op_move rfl (.t (has rfl))) rfl ?_
            refine goS rfl rfl rfl rfl rfl rfl rfl ?_
            refine goS rfl rfl rfl rfl rfl rfl rfl ?_
            refine goS rfl rfl rfl rfl rfl rfl rfl ?_
            refine goS rfl rfl rfl rfl rfl rfl rfl ?_
            refine goS rfl rfl rfl rfl rfl rfl rfl ?_
            refine go1 (op_pick_t rfl rfl (.t (has rfl)) (.bool _)) rfl ?_
            refine go1 (op_move rfl (.t (has rfl))) rfl ?_
            refine goS rfl rfl rfl rfl rfl rfl rfl ?_
            refine goS rfl rfl rfl rfl rfl rfl rfl ?_
            refine goS rfl rfl rfl rfl rfl rfl rfl ?_
            refine go1 (op_pick_t rfl rfl (.t (has rfl)) (.bool _)) rfl ?_
            refine goesO_nil ?_
            refine ends_settle 5 rfl rfl ?_
            refine ends_settle 10 rfl rfl ?_
            obtain rfl := Option.some.inj H
            exact ends_cut (.cons rfl (.cons rfl (.cons rfl (.cons rfl (.cons rfl .nil)))))
          · skip
            refine goG (op_move rfl (.t (has rfl))) rfl rfl rfl rfl hb34 ?_
            refine goG (op_icmp rfl rfl (.t (has rfl)) (.int _ _)) rfl rfl rfl rfl hb34 ?_
            refine go1 (op_pick_f rfl hb34 (.t (has rfl)) (.t (has rfl))) rfl ?_
            refine go1 (op_move rfl (.t (has rfl))) rfl ?_
            refine goesO_split H (fun hb35 H => ?_) (fun hb35 H => ?_)
            · skip
              refine goS rfl rfl rfl rfl rfl rfl hb35 ?_
              refine goS rfl rfl rfl rfl rfl rfl hb35 ?_
              refine goS rfl rfl rfl rfl rfl rfl hb35 ?_
              refine goS rfl rfl rfl rfl rfl rfl hb35 ?_
              refine goS rfl rfl rfl rfl rfl rfl hb35 ?_
              refine go1 (op_pick_t rfl hb35 (.t (has rfl)) (.bool _)) rfl ?_
              refine go1 (op_move rfl (.t (has rfl))) rfl ?_
              refine goS rfl rfl rfl rfl rfl rfl rfl ?_
              refine goS rfl rfl rfl rfl rfl rfl rfl ?_
              refine goS rfl rfl rfl rfl rfl rfl rfl ?_
              refine go1 (op_pick_t rfl rfl (.t (has rfl)) (.bool _)) rfl ?_
              refine goesO_nil ?_
              refine ends_settle 5 rfl rfl ?_
              refine ends_settle 10 rfl rfl ?_
              obtain rfl := Option.some.inj H
              exact ends_cut (.cons rfl (.cons rfl (.cons rfl (.cons rfl (.cons rfl .nil)))))
            · skip
              refine goesO_settle 5 rfl rfl ?_
              refine goG (op_move rfl (.t (has rfl))) rfl rfl rfl rfl hb35 ?_
              refine goG (op_len rfl rfl Try.underlying25 (.t (has rfl))) rfl rfl rfl rfl hb35 ?_
              refine goesO_settle 10 rfl rfl ?_
              refine goG (op_move rfl (.t (has rfl))) rfl rfl rfl rfl hb35 ?_
              refine goG (op_len rfl rfl Try.underlying25 (.t (has rfl))) rfl rfl rfl rfl hb35 ?_
              refine goG (op_icmp rfl rfl (.t (has rfl)) (.t (has rfl))) rfl rfl rfl rfl hb35 ?_
              refine go1 (op_pick_f rfl hb35 (.t (has rfl)) (.t (has rfl))) rfl ?_
              refine go1 (op_move rfl (.t (has rfl))) rfl ?_
              refine goesO_split H (fun hb36 H => ?_) (fun hb36 H => ?_)
              · skip
                refine goS rfl rfl rfl rfl rfl rfl hb36 ?_
                refine goS rfl rfl rfl rfl rfl rfl hb36 ?_
                refine goS rfl rfl rfl rfl rfl rfl hb36 ?_
                refine go1 (op_pick_t rfl hb36 (.t (has rfl)) (.bool _)) rfl ?_
                refine goesO_nil ?_
                obtain rfl := Option.some.inj H
                exact ends_cut (.cons rfl (.cons rfl (.cons rfl (.cons rfl (.cons rfl .nil)))))
              · skip
                refine goG (op_move rfl (.t (has rfl))) rfl rfl rfl rfl hb36 ?_
                refine goG (op_len rfl rfl Try.underlying25 (.t (has rfl))) rfl rfl rfl rfl hb36 ?_
                refine goG (op_icmp rfl rfl (.t (has rfl)) (.int _ _)) rfl rfl rfl rfl hb36 ?_
                refine go1 (op_pick_f rfl hb36 (.t (has rfl)) (.t (has rfl))) rfl ?_
                refine goesO_nil ?_
                obtain rfl := Option.some.inj H
                exact ends_cut (.cons rfl (.cons rfl (.cons rfl (.cons rfl (.cons rfl .nil)))))
      refine ends_then ?_
      refine goes_if (.t (has rfl)) H (fun hb37 H => ?_) (fun hb37 H => ?_)
      · skip
        refine goes_seq ?_
        refine goes_region ?_
        refine go1 (op_assign rfl (.bool _)) rfl ?_
        refine goesO_nil ?_
        refine ends_then ?_
        obtain rfl := Option.some.inj H
        exact goes_ret (ends_then_ret (ends_ret' rfl rfl (.t rfl (.nil _))))
      · skip
        refine goes_skip ?_
        refine ends_then ?_
        refine goes_seq ?_
        refine goes_seq ?_
        refine goes_region ?_
        refine go1 (op_assign rfl (.int _ _)) rfl ?_
        refine goesO_nil ?_
        refine ends_then ?_
        obtain ⟨o41, h40, H⟩ := bind_some H
        refine goes_cutR (o := o41) (fun s39 : Unit => []) (fun r a w => bodyPost Try.prog Try.f4 (CPost w0 S0 θ [VA.k kbool r]) .ret a w) ?_ ?_ ?_
        · replace H := h40; clear h40
          refine goes_block ?_
          refine goes_loop (fun s38 : Int => [Ent.t 2 (VA.ptr 2 0), Ent.t 5 (VA.k (kslice kstr) v1.1), Ent.t 10 (VA.k (kslice kstr) v29.1), Ent.t 12 (VA.k (kint .i64) s38), Ent.h 2 (HE.box 29 kMake a0)]) (fun k s38 => smithylaw10_GraphOrders.l0 a0 v1 v29 k s38) (fun _ => rfl) H (.cons rfl (.cons rfl (.cons rfl (.cons rfl (.cons rfl .nil))))) ?_
          intro k s38 H
          simp only [smithylaw10_GraphOrders.l0] at H
          refine goes_seq ?_
          refine goes_seq ?_
          refine goes_region ?_
          refine go1 (op_move rfl (.t (has rfl))) rfl ?_
          refine go1 (op_move rfl (.t (has rfl))) rfl ?_
          refine go1 (op_len rfl rfl Try.underlying25 (.t (has rfl))) rfl ?_
          refine go1 (op_icmp rfl rfl (.t (has rfl)) (.t (has rfl))) rfl ?_
          refine goesO_nil ?_
          refine ends_then ?_
          refine goes_if (.t (has rfl)) H (fun hb42 H => ?_) (fun hb42 H => ?_)
          · skip
            refine goes_skip ?_
            refine ends_then ?_
            refine goes_seq ?_
            refine goes_block ?_
            refine goes_seq ?_
            refine goes_seq ?_
            obtain ⟨s43, h44, H⟩ := bind_some H
            refine goes_cut [Ent.t 2 (VA.ptr 2 0), Ent.t 5 (VA.k (kslice kstr) v1.1), Ent.t 10 (VA.k (kslice kstr) v29.1), Ent.t 12 (VA.k (kint .i64) s38), Ent.t 119 (VA.k kbool s43), Ent.h 2 (HE.box 29 kMake a0)] ?_ ?_
            · replace H := h44; clear h44
              obtain ⟨x45, h46, H⟩ := bind_some H
              obtain ⟨v47, h48, H⟩ := bind_some H
              refine goes_split H (fun hb49 H => ?_) (fun hb49 H => ?_)
              · skip
                refine goes_drawn [[Ent.t 103 (VA.k (kslice kstr) v29.1)], [Ent.t 104 (VA.k (kslice kstr) v1.1)], [Ent.t 105 (VA.k (kint .i64) s38)], [Ent.t 106 (VA.pt kstr x45)], [Ent.t 107 (VA.k kstr x45)], [Ent.t 108 (VA.k kbool v47)], [Ent.t 109 (VA.k kbool (!v47))], [Ent.t 110 (VA.k kbool (!v47))], [Ent.t 111 (VA.v undef)], [Ent.t 112 (VA.v undef)], [Ent.t 113 (VA.v undef)], [Ent.t 114 (VA.v undef)], [Ent.t 115 (VA.v undef)], [Ent.t 116 (VA.v undef)], [Ent.t 117 (VA.v undef)], [Ent.t 118 (VA.v undef)], [Ent.t 119 (VA.k kbool true)]] mixed (by kernel_rfl) (by kernel_rfl) (.cons [(none, Ent.t 10 (VA.k (kslice kstr) v29.1))] (OpSpec.run rfl rfl (op_move rfl (.t NL.h0)) rfl) (.cons (has rfl) .nil) (by kernel_rfl) (.cons [(none, Ent.t 5 (VA.k (kslice kstr) v1.1))] (OpSpec.run rfl rfl (op_move rfl (.t NL.h0)) rfl) (.cons (has rfl) .nil) (by kernel_rfl) (.cons [(none, Ent.t 12 (VA.k (kint .i64) s38))] (OpSpec.run rfl rfl (op_move rfl (.t NL.h0)) rfl) (.cons (has rfl) .nil) (by kernel_rfl) (.cons [(some 1, Ent.t 104 (VA.k (kslice kstr) v1.1)), (some 2, Ent.t 105 (VA.k (kint .i64) s38))] (OpSpec.run rfl rfl (op_indexAddr rfl Try.underlying25 tk9 h46 (.t NL.h0) (.t (NL.hs NL.h0))) rfl) (.cons (has rfl) (.cons (has rfl) .nil)) (by kernel_rfl) (.cons [(some 3, Ent.t 106 (VA.pt kstr x45))] (OpSpec.run rfl rfl (op_loadp rfl tk9 (.t NL.h0)) rfl) (.cons (has rfl) .nil) (by kernel_rfl) (.cons [(some 0, Ent.t 103 (VA.k (kslice kstr) v29.1)), (some 4, Ent.t 107 (VA.k kstr x45))] (OpSpec.run rfl rfl (op_call' rfl enters10 (smithyref03_Has.con _ _ _ _ h48) rfl (.cons (ArgP.k (.t NL.h0)) (.cons (ArgP.k (.t (NL.hs NL.h0))) .nil))) rfl) (.cons (has rfl) (.cons (has rfl) .nil)) (by kernel_rfl) (.cons [(some 5, Ent.t 108 (VA.k kbool v47))] (OpSpec.run rfl rfl (op_not rfl (.t NL.h0)) rfl) (.cons (has rfl) .nil) (by kernel_rfl) (.cons [(some 6, Ent.t 109 (VA.k kbool (!v47)))] (OpSpec.run rfl rfl (op_move rfl (.t NL.h0)) rfl) (.cons (has rfl) .nil) (by kernel_rfl) (.cons [(some 7, Ent.t 110 (VA.k kbool (!v47)))] (run_skip rfl rfl rfl rfl rfl rfl NL.h0 hb49) (.cons (has rfl) .nil) (by kernel_rfl) (.cons [(some 7, Ent.t 110 (VA.k kbool (!v47)))] (run_skip rfl rfl rfl rfl rfl rfl NL.h0 hb49) (.cons (has rfl) .nil) (by kernel_rfl) (.cons [(some 7, Ent.t 110 (VA.k kbool (!v47)))] (run_skip rfl rfl rfl rfl rfl rfl NL.h0 hb49) (.cons (has rfl) .nil) (by kernel_rfl) (.cons [(some 7, Ent.t 110 (VA.k kbool (!v47)))] (run_skip rfl rfl rfl rfl rfl rfl NL.h0 hb49) (.cons (has rfl) .nil) (by kernel_rfl) (.cons [(some 7, Ent.t 110 (VA.k kbool (!v47)))] (run_skip rfl rfl rfl rfl rfl rfl NL.h0 hb49) (.cons (has rfl) .nil) (by kernel_rfl) (.cons [(some 7, Ent.t 110 (VA.k kbool (!v47)))] (run_skip rfl rfl rfl rfl rfl rfl NL.h0 hb49) (.cons (has rfl) .nil) (by kernel_rfl) (.cons [(some 7, Ent.t 110 (VA.k kbool (!v47)))] (run_skip rfl rfl rfl rfl rfl rfl NL.h0 hb49) (.cons (has rfl) .nil) (by kernel_rfl) (.cons [(some 7, Ent.t 110 (VA.k kbool (!v47)))] (run_skip rfl rfl rfl rfl rfl rfl NL.h0 hb49) (.cons (has rfl) .nil) (by kernel_rfl) (.cons [(some 7, Ent.t 110 (VA.k kbool (!v47)))] (OpSpec.run rfl rfl (op_pick_t rfl hb49 (.t NL.h0) (.bool _)) rfl) (.cons (has rfl) .nil) (by kernel_rfl) (.nil _)))))))))))))))))) ?_
                refine ends_sub [Ent.t 2 (VA.ptr 2 0), Ent.t 5 (VA.k (kslice kstr) v1.1), Ent.t 10 (VA.k (kslice kstr) v29.1), Ent.t 12 (VA.k (kint .i64) s38), Ent.t 119 (VA.k kbool true), Ent.h 2 (HE.box 29 kMake a0)] (.cons rfl (.cons rfl (.cons rfl (.cons rfl (.cons rfl (.cons rfl .nil)))))) ?_
                obtain rfl := Option.some.inj H
                exact ends_cut (.cons rfl (.cons rfl (.cons rfl (.cons rfl (.cons rfl (.cons rfl .nil))))))
              · skip
                obtain ⟨x50, h51, H⟩ := bind_some H
                obtain ⟨x52, h53, H⟩ := bind_some H
                obtain ⟨v54, h55, H⟩ := bind_some H
                refine goes_drawn [[Ent.t 103 (VA.k (kslice kstr) v29.1)], [Ent.t 104 (VA.k (kslice kstr) v1.1)], [Ent.t 105 (VA.k (kint .i64) s38)], [Ent.t 106 (VA.pt kstr x45)], [Ent.t 107 (VA.k kstr x45)], [Ent.t 108 (VA.k kbool v47)], [Ent.t 109 (VA.k kbool (!v47))], [Ent.t 110 (VA.k kbool (!v47))], [Ent.t 111 (VA.k (kslice kstr) v1.1)], [Ent.t 112 (VA.k (kint .i64) s38)], [Ent.t 113 (VA.k (kslice kstr) x50)], [Ent.t 114 (VA.k (kslice kstr) v1.1)], [Ent.t 115 (VA.k (kint .i64) s38)], [Ent.t 116 (VA.pt kstr x52)], [Ent.t 117 (VA.k kstr x52)], [Ent.t 118 (VA.k kbool v54)], [Ent.t 119 (VA.k kbool v54)]] mixed (by kernel_rfl) (by kernel_rfl) (.cons [(none, Ent.t 10 (VA.k (kslice kstr) v29.1))] (OpSpec.run rfl rfl (op_move rfl (.t NL.h0)) rfl) (.cons (has rfl) .nil) (by kernel_rfl) (.cons [(none, Ent.t 5 (VA.k (kslice kstr) v1.1))] (OpSpec.run rfl rfl (op_move rfl (.t NL.h0)) rfl) (.cons (has rfl) .nil) (by kernel_rfl) (.cons [(none, Ent.t 12 (VA.k (kint .i64) s38))] (OpSpec.run rfl rfl (op_move rfl (.t NL.h0)) rfl) (.cons (has rfl) .nil) (by kernel_rfl) (.cons [(some 1, Ent.t 104 (VA.k (kslice kstr) v1.1)), (some 2, Ent.t 105 (VA.k (kint .i64) s38))] (OpSpec.run rfl rfl (op_indexAddr rfl Try.underlying25 tk9 h46 (.t NL.h0) (.t (NL.hs NL.h0))) rfl) (.cons (has rfl) (.cons (has rfl) .nil)) (by kernel_rfl) (.cons [(some 3, Ent.t 106 (VA.pt kstr x45))] (OpSpec.run rfl rfl (op_loadp rfl tk9 (.t NL.h0)) rfl) (.cons (has rfl) .nil) (by kernel_rfl) (.cons [(some 0, Ent.t 103 (VA.k (kslice kstr) v29.1)), (some 4, Ent.t 107 (VA.k kstr x45))] (OpSpec.run rfl rfl (op_call' rfl enters10 (smithyref03_Has.con _ _ _ _ h48) rfl (.cons (ArgP.k (.t NL.h0)) (.cons (ArgP.k (.t (NL.hs NL.h0))) .nil))) rfl) (.cons (has rfl) (.cons (has rfl) .nil)) (by kernel_rfl) (.cons [(some 5, Ent.t 108 (VA.k kbool v47))] (OpSpec.run rfl rfl (op_not rfl (.t NL.h0)) rfl) (.cons (has rfl) .nil) (by kernel_rfl) (.cons [(some 6, Ent.t 109 (VA.k kbool (!v47)))] (OpSpec.run rfl rfl (op_move rfl (.t NL.h0)) rfl) (.cons (has rfl) .nil) (by kernel_rfl) (.cons [(some 7, Ent.t 110 (VA.k kbool (!v47))), (none, Ent.t 5 (VA.k (kslice kstr) v1.1))] (OpSpec.runG rfl rfl rfl rfl NL.h0 hb49 (op_move rfl (.t (NL.hs NL.h0))) rfl) (.cons (has rfl) (.cons (has rfl) .nil)) (by kernel_rfl) (.cons [(some 7, Ent.t 110 (VA.k kbool (!v47))), (none, Ent.t 12 (VA.k (kint .i64) s38))] (OpSpec.runG rfl rfl rfl rfl NL.h0 hb49 (op_move rfl (.t (NL.hs NL.h0))) rfl) (.cons (has rfl) (.cons (has rfl) .nil)) (by kernel_rfl) (.cons [(some 7, Ent.t 110 (VA.k kbool (!v47))), (some 8, Ent.t 111 (VA.k (kslice kstr) v1.1)), (some 9, Ent.t 112 (VA.k (kint .i64) s38))] (OpSpec.runG rfl rfl rfl rfl NL.h0 hb49 (op_slice (l := none) (h := some _) rfl Try.underlying25 tk9 h51 (.t (NL.hs NL.h0)) trivial (.t (NL.hs (NL.hs NL.h0)))) rfl) (.cons (has rfl) (.cons (has rfl) (.cons (has rfl) .nil))) (by kernel_rfl) (.cons [(some 7, Ent.t 110 (VA.k kbool (!v47))), (none, Ent.t 5 (VA.k (kslice kstr) v1.1))] (OpSpec.runG rfl rfl rfl rfl NL.h0 hb49 (op_move rfl (.t (NL.hs NL.h0))) rfl) (.cons (has rfl) (.cons (has rfl) .nil)) (by kernel_rfl) (.cons [(some 7, Ent.t 110 (VA.k kbool (!v47))), (none, Ent.t 12 (VA.k (kint .i64) s38))] (OpSpec.runG rfl rfl rfl rfl NL.h0 hb49 (op_move rfl (.t (NL.hs NL.h0))) rfl) (.cons (has rfl) (.cons (has rfl) .nil)) (by kernel_rfl) (.cons [(some 7, Ent.t 110 (VA.k kbool (!v47))), (some 11, Ent.t 114 (VA.k (kslice kstr) v1.1)), (some 12, Ent.t 115 (VA.k (kint .i64) s38))] (OpSpec.runG rfl rfl rfl rfl NL.h0 hb49 (op_indexAddr rfl Try.underlying25 tk9 h53 (.t (NL.hs NL.h0)) (.t (NL.hs (NL.hs NL.h0)))) rfl) (.cons (has rfl) (.cons (has rfl) (.cons (has rfl) .nil))) (by kernel_rfl) (.cons [(some 7, Ent.t 110 (VA.k kbool (!v47))), (some 13, Ent.t 116 (VA.pt kstr x52))] (OpSpec.runG rfl rfl rfl rfl NL.h0 hb49 (op_loadp rfl tk9 (.t (NL.hs NL.h0))) rfl) (.cons (has rfl) (.cons (has rfl) .nil)) (by kernel_rfl) (.cons [(some 7, Ent.t 110 (VA.k kbool (!v47))), (some 10, Ent.t 113 (VA.k (kslice kstr) x50)), (some 14, Ent.t 117 (VA.k kstr x52))] (OpSpec.runG rfl rfl rfl rfl NL.h0 hb49 (op_call' rfl enters10 (smithyref03_Has.con _ _ _ _ h55) rfl (.cons (ArgP.k (.t (NL.hs NL.h0))) (.cons (ArgP.k (.t (NL.hs (NL.hs NL.h0)))) .nil))) rfl) (.cons (has rfl) (.cons (has rfl) (.cons (has rfl) .nil))) (by kernel_rfl) (.cons [(some 7, Ent.t 110 (VA.k kbool (!v47))), (some 15, Ent.t 118 (VA.k kbool v54))] (OpSpec.run rfl rfl (op_pick_f rfl hb49 (.t NL.h0) (.t (NL.hs NL.h0))) rfl) (.cons (has rfl) (.cons (has rfl) .nil)) (by kernel_rfl) (.nil _)))))))))))))))))) ?_
                refine ends_sub [Ent.t 2 (VA.ptr 2 0), Ent.t 5 (VA.k (kslice kstr) v1.1), Ent.t 10 (VA.k (kslice kstr) v29.1), Ent.t 12 (VA.k (kint .i64) s38), Ent.t 111 (VA.k (kslice kstr) v1.1), Ent.t 112 (VA.k (kint .i64) s38), Ent.t 113 (VA.k (kslice kstr) x50), Ent.t 114 (VA.k (kslice kstr) v1.1), Ent.t 115 (VA.k (kint .i64) s38), Ent.t 116 (VA.pt kstr x52), Ent.t 117 (VA.k kstr x52), Ent.t 118 (VA.k kbool v54), Ent.t 119 (VA.k kbool v54), Ent.h 2 (HE.box 29 kMake a0)] (.cons rfl (.cons rfl (.cons rfl (.cons rfl (.cons rfl (.cons rfl (.cons rfl (.cons rfl (.cons rfl (.cons rfl (.cons rfl (.cons rfl (.cons rfl (.cons rfl .nil)))))))))))))) ?_
                obtain rfl := Option.some.inj H
                exact ends_cut (.cons rfl (.cons rfl (.cons rfl (.cons rfl (.cons rfl (.cons rfl .nil))))))
            refine ends_then ?_
            refine goes_if (.t (has rfl)) H (fun hb56 H => ?_) (fun hb56 H => ?_)
            · skip
              refine goes_seq ?_
              refine goes_region ?_
              refine go1 (op_assign rfl (.bool _)) rfl ?_
              refine goesO_nil ?_
              refine ends_then ?_
              obtain rfl := Option.some.inj H
              refine goes_ret (ends_then_ret (ends_block_ret (ends_then_ret (ends_then_ret (ends_block_ret (ends_cutR_ret rfl ?_))))))
              exact ends_ret' rfl rfl (.t rfl (.nil _))
            · skip
              refine goes_skip ?_
              refine ends_then ?_
              refine goes_seq ?_
              obtain ⟨x57, h58, H⟩ := bind_some H
              obtain ⟨v59, h60, H⟩ := bind_some H
              refine goes_drawn [[Ent.t 120 (VA.k kMake a0)], [Ent.t 121 (VA.k (kslice kstr) v1.1)], [Ent.t 122 (VA.k (kint .i64) s38)], [Ent.t 123 (VA.pt kstr x57)], [Ent.t 124 (VA.k kstr x57)], [Ent.t 125 (VA.k (kslice kstr) v59)], [Ent.t 13 (VA.k (kslice kstr) v59)]] mixed (by kernel_rfl) (by kernel_rfl) (.cons [(none, Ent.t 2 (VA.ptr 2 0)), (none, Ent.h 2 (HE.box 29 kMake a0))] (OpSpec.run rfl rfl (op_load rfl (Fld.whole kMake) tk29 (.t NL.h0) (NL.hs NL.h0)) rfl) (.cons (has rfl) (.cons (has rfl) .nil)) (by kernel_rfl) (.cons [(none, Ent.t 5 (VA.k (kslice kstr) v1.1))] (OpSpec.run rfl rfl (op_move rfl (.t NL.h0)) rfl) (.cons (has rfl) .nil) (by kernel_rfl) (.cons [(none, Ent.t 12 (VA.k (kint .i64) s38))] (OpSpec.run rfl rfl (op_move rfl (.t NL.h0)) rfl) (.cons (has rfl) .nil) (by kernel_rfl) (.cons [(some 1, Ent.t 121 (VA.k (kslice kstr) v1.1)), (some 2, Ent.t 122 (VA.k (kint .i64) s38))] (OpSpec.run rfl rfl (op_indexAddr rfl Try.underlying25 tk9 h58 (.t NL.h0) (.t (NL.hs NL.h0))) rfl) (.cons (has rfl) (.cons (has rfl) .nil)) (by kernel_rfl) (.cons [(some 3, Ent.t 123 (VA.pt kstr x57))] (OpSpec.run rfl rfl (op_loadp rfl tk9 (.t NL.h0)) rfl) (.cons (has rfl) .nil) (by kernel_rfl) (.cons [(some 0, Ent.t 120 (VA.k kMake a0)), (some 4, Ent.t 124 (VA.k kstr x57))] (OpSpec.run rfl rfl (op_call' rfl enters8 (smithyref10_Needs.con _ _ _ _ h60) rfl (.cons (ArgP.k (.t NL.h0)) (.cons (ArgP.k (.t (NL.hs NL.h0))) .nil))) rfl) (.cons (has rfl) (.cons (has rfl) .nil)) (by kernel_rfl) (.cons [(some 5, Ent.t 125 (VA.k (kslice kstr) v59))] (OpSpec.run rfl rfl (op_assign rfl (.t NL.h0)) rfl) (.cons (has rfl) .nil) (by kernel_rfl) (.nil _)))))))) ?_
              refine ends_sub [Ent.t 2 (VA.ptr 2 0), Ent.t 5 (VA.k (kslice kstr) v1.1), Ent.t 10 (VA.k (kslice kstr) v29.1), Ent.t 12 (VA.k (kint .i64) s38), Ent.t 13 (VA.k (kslice kstr) v59), Ent.h 2 (HE.box 29 kMake a0)] (.cons rfl (.cons rfl (.cons rfl (.cons rfl (.cons rfl (.cons rfl .nil)))))) ?_
              refine ends_then ?_
              refine goes_seq ?_
              refine goes_region ?_
              refine go1 (op_assign rfl (.int _ _)) rfl ?_
              refine goesO_nil ?_
              refine ends_then ?_
              obtain ⟨o64, h63, H⟩ := bind_some H
              refine goes_cutR (o := o64) (fun s62 : Unit => [Ent.t 2 (VA.ptr 2 0), Ent.t 5 (VA.k (kslice kstr) v1.1), Ent.t 10 (VA.k (kslice kstr) v29.1), Ent.t 12 (VA.k (kint .i64) s38), Ent.h 2 (HE.box 29 kMake a0)]) (fun r a w => bodyPost Try.prog Try.f4 (CPost w0 S0 θ [VA.k kbool r]) .ret a w) ?_ ?_ ?_
              · replace H := h63; clear h63
                refine goes_block ?_
                refine goes_loop (fun s61 : Int => [Ent.t 2 (VA.ptr 2 0), Ent.t 5 (VA.k (kslice kstr) v1.1), Ent.t 10 (VA.k (kslice kstr) v29.1), Ent.t 12 (VA.k (kint .i64) s38), Ent.t 13 (VA.k (kslice kstr) v59), Ent.t 14 (VA.k (kint .i64) s61), Ent.h 2 (HE.box 29 kMake a0)]) (fun k s61 => smithylaw10_GraphOrders.l1 v1 s38 v59 k s61) (fun _ => rfl) H (.cons rfl (.cons rfl (.cons rfl (.cons rfl (.cons rfl (.cons rfl (.cons rfl .nil))))))) ?_
                intro k s61 H
                simp only [smithylaw10_GraphOrders.l1] at H
                refine goes_seq ?_
                refine goes_seq ?_
                refine goes_region ?_
                refine go1 (op_move rfl (.t (has rfl))) rfl ?_
                refine go1 (op_move rfl (.t (has rfl))) rfl ?_
                refine go1 (op_len rfl rfl Try.underlying25 (.t (has rfl))) rfl ?_
                refine go1 (op_icmp rfl rfl (.t (has rfl)) (.t (has rfl))) rfl ?_
                refine goesO_nil ?_
                refine ends_then ?_
                refine goes_if (.t (has rfl)) H (fun hb65 H => ?_) (fun hb65 H => ?_)
                · skip
                  refine goes_skip ?_
                  refine ends_then ?_
                  refine goes_seq ?_
                  refine goes_block ?_
                  refine goes_seq ?_
                  obtain ⟨x66, h67, H⟩ := bind_some H
                  obtain ⟨x68, h69, H⟩ := bind_some H
                  obtain ⟨v70, h71, H⟩ := bind_some H
                  refine goes_drawn [[Ent.t 132 (VA.k (kslice kstr) v1.1)], [Ent.t 133 (VA.k (kint .i64) s38)], [Ent.t 134 (VA.k (kslice kstr) x66)], [Ent.t 135 (VA.k (kslice kstr) v59)], [Ent.t 136 (VA.k (kint .i64) s61)], [Ent.t 137 (VA.pt kstr x68)], [Ent.t 138 (VA.k kstr x68)], [Ent.t 139 (VA.k kbool v70)], [Ent.t 140 (VA.k kbool (!v70))]] mixed (by kernel_rfl) (by kernel_rfl) (.cons [(none, Ent.t 5 (VA.k (kslice kstr) v1.1))] (OpSpec.run rfl rfl (op_move rfl (.t NL.h0)) rfl) (.cons (has rfl) .nil) (by kernel_rfl) (.cons [(none, Ent.t 12 (VA.k (kint .i64) s38))] (OpSpec.run rfl rfl (op_move rfl (.t NL.h0)) rfl) (.cons (has rfl) .nil) (by kernel_rfl) (.cons [(some 0, Ent.t 132 (VA.k (kslice kstr) v1.1)), (some 1, Ent.t 133 (VA.k (kint .i64) s38))] (OpSpec.run rfl rfl (op_slice (l := none) (h := some _) rfl Try.underlying25 tk9 h67 (.t NL.h0) trivial (.t (NL.hs NL.h0))) rfl) (.cons (has rfl) (.cons (has rfl) .nil)) (by kernel_rfl) (.cons [(none, Ent.t 13 (VA.k (kslice kstr) v59))] (OpSpec.run rfl rfl (op_move rfl (.t NL.h0)) rfl) (.cons (has rfl) .nil) (by kernel_rfl) (.cons [(none, Ent.t 14 (VA.k (kint .i64) s61))] (OpSpec.run rfl rfl (op_move rfl (.t NL.h0)) rfl) (.cons (has rfl) .nil) (by kernel_rfl) (.cons [(some 3, Ent.t 135 (VA.k (kslice kstr) v59)), (some 4, Ent.t 136 (VA.k (kint .i64) s61))] (OpSpec.run rfl rfl (op_indexAddr rfl Try.underlying25 tk9 h69 (.t NL.h0) (.t (NL.hs NL.h0))) rfl) (.cons (has rfl) (.cons (has rfl) .nil)) (by kernel_rfl) (.cons [(some 5, Ent.t 137 (VA.pt kstr x68))] (OpSpec.run rfl rfl (op_loadp rfl tk9 (.t NL.h0)) rfl) (.cons (has rfl) .nil) (by kernel_rfl) (.cons [(some 2, Ent.t 134 (VA.k (kslice kstr) x66)), (some 6, Ent.t 138 (VA.k kstr x68))] (OpSpec.run rfl rfl (op_call' rfl enters10 (smithyref03_Has.con _ _ _ _ h71) rfl (.cons (ArgP.k (.t NL.h0)) (.cons (ArgP.k (.t (NL.hs NL.h0))) .nil))) rfl) (.cons (has rfl) (.cons (has rfl) .nil)) (by kernel_rfl) (.cons [(some 7, Ent.t 139 (VA.k kbool v70))] (OpSpec.run rfl rfl (op_not rfl (.t NL.h0)) rfl) (.cons (has rfl) .nil) (by kernel_rfl) (.nil _)))))))))) ?_
                  refine ends_sub [Ent.t 2 (VA.ptr 2 0), Ent.t 5 (VA.k (kslice kstr) v1.1), Ent.t 10 (VA.k (kslice kstr) v29.1), Ent.t 12 (VA.k (kint .i64) s38), Ent.t 13 (VA.k (kslice kstr) v59), Ent.t 14 (VA.k (kint .i64) s61), Ent.t 140 (VA.k kbool (!v70)), Ent.h 2 (HE.box 29 kMake a0)] (.cons rfl (.cons rfl (.cons rfl (.cons rfl (.cons rfl (.cons rfl (.cons rfl (.cons rfl .nil)))))))) ?_
                  refine ends_then ?_
                  refine goes_if (.t (has rfl)) H (fun hb72 H => ?_) (fun hb72 H => ?_)
                  · skip
                    refine goes_seq ?_
                    refine goes_region ?_
                    refine go1 (op_assign rfl (.bool _)) rfl ?_
                    refine goesO_nil ?_
                    refine ends_then ?_
                    obtain rfl := Option.some.inj H
                    refine goes_ret (ends_block_ret (ends_then_ret (ends_then_ret (ends_block_ret (ends_cutR_ret rfl ?_)))))
                    exact ends_ret' rfl rfl (.t rfl (.nil _))
                  · skip
                    refine goes_skip ?_
                    refine ends_block ?_
                    refine ends_then ?_
                    refine goes_region ?_
                    refine go1 (op_move rfl (.t (has rfl))) rfl ?_
                    refine go1 (op_add rfl (.t (has rfl)) (.int _ _)) rfl ?_
                    refine go1 (op_assign rfl (.t (has rfl))) rfl ?_
                    refine goesO_nil ?_
                    exact loop_next _ H (.cons rfl (.cons rfl (.cons rfl (.cons rfl (.cons rfl (.cons rfl (.cons rfl .nil)))))))
                · skip
                  refine goes_exit (ends_then_exit (ends_then_exit (ends_block_exit ?_)))
                  obtain rfl := Option.some.inj H
                  exact ends_cutR rfl (.cons rfl (.cons rfl (.cons rfl (.cons rfl (.cons rfl .nil)))))
              · rintro s62 rfl
                clear h63
                dsimp only at H
                refine ends_block ?_
                refine ends_then ?_
                refine goes_region ?_
                refine go1 (op_move rfl (.t (has rfl))) rfl ?_
                refine go1 (op_add rfl (.t (has rfl)) (.int _ _)) rfl ?_
                refine go1 (op_assign rfl (.t (has rfl))) rfl ?_
                refine goesO_nil ?_
                exact loop_next _ H (.cons rfl (.cons rfl (.cons rfl (.cons rfl (.cons rfl .nil)))))
              · rintro r' rfl a w hr
                obtain rfl := Option.some.inj H
                exact ⟨_, rfl, hr⟩
          · skip
            refine goes_exit (ends_then_exit (ends_then_exit (ends_block_exit ?_)))
            obtain rfl := Option.some.inj H
            exact ends_cutR rfl .nil
        · rintro s39 rfl
          clear h40
          dsimp only at H
          refine ends_then ?_
          refine goes_seq ?_
          refine goes_region ?_
          obtain ⟨v73, h74, H⟩ := bind_some H
          refine go1 (op_call' rfl enters7 (smithylaw10_speaks.con _  _ h74) rfl .nil) rfl ?_
          refine go1 (op_assign rfl (.t (has rfl))) rfl ?_
          refine goesO_nil ?_
          refine ends_then ?_
          obtain rfl := Option.some.inj H
          exact goes_ret (ends_ret' rfl rfl (.t rfl (.nil _)))
        · rintro r' rfl a w hr
          obtain rfl := Option.some.inj H
          exact hr
end Go.Proofs.Ytlpmolohppoofaa.F
