import Derived.Test.YtlpmolohppoofaaFDx2
set_option linter.unusedVariables false
set_option linter.unusedSimpArgs false
set_option linter.unnecessarySimpa false
set_option linter.deprecated false
namespace Go.Proofs.Ytlpmolohppoofaa.F
open Go Go.RowKit Go.Proofs.Ytlpmolohppoofaa.Sl
/-! smithy/smithylaw10.speaks -/
def smithylaw10_speaks.f (k : Nat) : Option Bool := (graph_Order.f k (⟨([] : List Macro), [(⟨(⟨#[97]⟩ : ByteArray), [(⟨#[98]⟩ : ByteArray), (⟨#[99]⟩ : ByteArray)], ([] : List ByteArray), false⟩ : Rule), (⟨(⟨#[98]⟩ : ByteArray), [(⟨#[100]⟩ : ByteArray)], ([] : List ByteArray), false⟩ : Rule), (⟨(⟨#[99]⟩ : ByteArray), [(⟨#[100]⟩ : ByteArray)], ([] : List ByteArray), false⟩ : Rule)], ([] : List Infer), zeroSpecial, ByteArray.empty⟩ : Make) ([(⟨#[97]⟩ : ByteArray)])).bind fun v1 => (graph_Users.f k (⟨([] : List Macro), [(⟨(⟨#[97]⟩ : ByteArray), [(⟨#[98]⟩ : ByteArray), (⟨#[99]⟩ : ByteArray)], ([] : List ByteArray), false⟩ : Rule), (⟨(⟨#[98]⟩ : ByteArray), [(⟨#[100]⟩ : ByteArray)], ([] : List ByteArray), false⟩ : Rule), (⟨(⟨#[99]⟩ : ByteArray), [(⟨#[100]⟩ : ByteArray)], ([] : List ByteArray), false⟩ : Rule)], ([] : List Infer), zeroSpecial, ByteArray.empty⟩ : Make) (⟨#[100]⟩ : ByteArray)).bind fun v3 => (graph_Depth.f k (⟨([] : List Macro), [(⟨(⟨#[97]⟩ : ByteArray), [(⟨#[98]⟩ : ByteArray), (⟨#[99]⟩ : ByteArray)], ([] : List ByteArray), false⟩ : Rule), (⟨(⟨#[98]⟩ : ByteArray), [(⟨#[100]⟩ : ByteArray)], ([] : List ByteArray), false⟩ : Rule), (⟨(⟨#[99]⟩ : ByteArray), [(⟨#[100]⟩ : ByteArray)], ([] : List ByteArray), false⟩ : Rule)], ([] : List Infer), zeroSpecial, ByteArray.empty⟩ : Make) (⟨#[97]⟩ : ByteArray)).bind fun v5 => (bif icmp .eql v1.2 (0 : Int) then ((smithyplain_Texts.f k v1.1 ([(⟨#[100]⟩ : ByteArray), (⟨#[98]⟩ : ByteArray), (⟨#[99]⟩ : ByteArray), (⟨#[97]⟩ : ByteArray)])).bind fun v10 => bif v10 then (bif icmp .eql v3.2 (0 : Int) then ((smithyplain_Texts.f k v3.1 ([(⟨#[98]⟩ : ByteArray), (⟨#[99]⟩ : ByteArray)])).bind fun v14 => bif v14 then (bif icmp .eql v5.1 (2 : Int) then (some (icmp .eql v5.2 (0 : Int))) else (some false)) else (some false)) else (some false)) else (some false)) else (some false)).bind fun s7 => some s7
set_option maxRecDepth 100000 in
set_option maxHeartbeats 4000000 in
theorem smithylaw10_speaks.con (k : Nat) (r : Bool) (H : smithylaw10_speaks.f k = some r) : Con Try.prog 7 [] [VA.k kbool r] := by
  unfold smithylaw10_speaks.f at H
  refine con_enter Try.func7 rfl rfl rfl (fun w0 S0 θ => ?_)
  refine goes_seq ?_
  refine goes_region ?_
  refine go1 (op_assign rfl (.bool _)) rfl ?_
  refine goesO_nil ?_
  refine ends_then ?_
  refine goes_seq ?_
  refine goes_region ?_
  refine go1 (op_buildSlice rfl at25 (fun h => by first | rfl | cases h) rfl rfl rfl (.cons (.str _) (.cons (.str _) (.nil _)))) rfl ?_
  refine goesO_settle 8 rfl rfl ?_
  refine go1 (op_build (pl := [(0, 1), (1, 1), (2, 1), (3, 1)]) rfl rfl Try.underlying52 (by kernel_rfl) zk52 (.cons rfl tk9 fldRule_Target (.str _) (.cons rfl tk25 fldRule_Needs (.t (has rfl)) (.nil _)))) rfl ?_
  refine go1 (op_buildSlice rfl at25 (fun h => by first | rfl | cases h) rfl rfl rfl (.cons (.str _) (.nil _))) rfl ?_
  refine goesO_settle 10 rfl rfl ?_
  refine go1 (op_build (pl := [(0, 1), (1, 1), (2, 1), (3, 1)]) rfl rfl Try.underlying52 (by kernel_rfl) zk52 (.cons rfl tk9 fldRule_Target (.str _) (.cons rfl tk25 fldRule_Needs (.t (has rfl)) (.nil _)))) rfl ?_
  refine go1 (op_buildSlice rfl at25 (fun h => by first | rfl | cases h) rfl rfl rfl (.cons (.str _) (.nil _))) rfl ?_
  refine goesO_settle 12 rfl rfl ?_
  refine go1 (op_build (pl := [(0, 1), (1, 1), (2, 1), (3, 1)]) rfl rfl Try.underlying52 (by kernel_rfl) zk52 (.cons rfl tk9 fldRule_Target (.str _) (.cons rfl tk25 fldRule_Needs (.t (has rfl)) (.nil _)))) rfl ?_
  refine go1 (op_buildSlice rfl at23 (fun h => by first | rfl | cases h) rfl rfl rfl (.cons (.t (has rfl)) (.cons (.t (has rfl)) (.cons (.t (has rfl)) (.nil _))))) rfl ?_
  refine goesO_settle 14 rfl rfl ?_
  refine go1 (op_build (pl := [(0, 1), (1, 1), (2, 1), (3, 10), (13, 1)]) rfl rfl Try.underlying29 (by kernel_rfl) zk29 (.cons rfl tk23 fldMake_Rules (.t (has rfl)) (.nil _))) rfl ?_
  refine go3 (op_alloc 1 rfl zk29) rfl ?_
  refine go1 (op_store (Fld.whole kMake) tk29 (.t (has rfl)) (has rfl) (.t (has rfl))) rfl ?_
  refine goesO_nil ?_
  refine ends_then ?_
  refine goes_seq ?_
  refine goes_region ?_
  refine go1 (op_load rfl (Fld.whole kMake) tk29 (.t (has rfl)) (has rfl)) rfl ?_
  refine go1 (op_buildSlice rfl at25 (fun h => by first | rfl | cases h) rfl rfl rfl (.cons (.str _) (.nil _))) rfl ?_
  obtain ⟨v1, h2, H⟩ := bind_some H
  refine goN (op_callsF' rfl enters11 (graph_Order.conF _ _ _ _ h2) rfl rfl (.cons (ArgB.k (.t (has rfl))) (.cons (ArgB.own rfl (has rfl)) .nil))) rfl ?_
  refine go1 (op_same (.inl rfl) rfl rfl) rfl ?_
  refine go2 (op_extract_own_same rfl rfl rfl (has rfl) (has rfl)) rfl ?_
  refine go1 (op_extract_same rfl plain_k (has rfl) (has rfl)) rfl ?_
  refine go2 (op_mv (.inr rfl) rfl rfl (has rfl)) rfl ?_
  refine go1 (op_assign rfl (.t (has rfl))) rfl ?_
  refine goesO_nil ?_
  refine ends_then ?_
  refine goes_seq ?_
  refine goes_region ?_
  refine go1 (op_load rfl (Fld.whole kMake) tk29 (.t (has rfl)) (has rfl)) rfl ?_
  obtain ⟨v3, h4, H⟩ := bind_some H
  refine goN (op_calls' rfl enters9 (graph_Users.con _ _ _ _ h4) rfl rfl (.cons (ArgP.k (.t (has rfl))) (.cons (ArgP.k (.str _)) .nil))) rfl ?_
  refine go1 (op_same (.inl rfl) rfl rfl) rfl ?_
  refine go2 (op_extract_own_same rfl rfl rfl (has rfl) (has rfl)) rfl ?_
  refine go1 (op_extract_same rfl plain_k (has rfl) (has rfl)) rfl ?_
  refine go2 (op_mv (.inr rfl) rfl rfl (has rfl)) rfl ?_
  refine go1 (op_assign rfl (.t (has rfl))) rfl ?_
  refine goesO_nil ?_
  refine ends_then ?_
  refine goes_seq ?_
  refine goes_region ?_
  refine go1 (op_load rfl (Fld.whole kMake) tk29 (.t (has rfl)) (has rfl)) rfl ?_
  obtain ⟨v5, h6, H⟩ := bind_some H
  refine goN (op_calls' rfl enters6 (graph_Depth.con _ _ _ _ h6) rfl rfl (.cons (ArgP.k (.t (has rfl))) (.cons (ArgP.k (.str _)) .nil))) rfl ?_
  refine go1 (op_same (.inl rfl) rfl rfl) rfl ?_
  refine go1 (op_extract_same rfl plain_k (has rfl) (has rfl)) rfl ?_
  refine go1 (op_extract_same rfl plain_k (has rfl) (has rfl)) rfl ?_
  refine go1 (op_assign rfl (.t (has rfl))) rfl ?_
  refine go1 (op_assign rfl (.t (has rfl))) rfl ?_
  refine goesO_nil ?_
  refine ends_then ?_
  refine goes_seq ?_
  obtain ⟨s7, h8, H⟩ := bind_some H
  refine goes_cut [Ent.t 0 (VA.k kbool s7)] ?_ ?_
  · replace H := h8; clear h8
    refine goes_region ?_
    refine go1 (op_move rfl (.t (has rfl))) rfl ?_
    refine go1 (op_icmp rfl rfl (.t (has rfl)) (.int _ _)) rfl ?_
    refine go1 (op_move rfl (.t (has rfl))) rfl ?_
    refine goesO_split H (fun hb9 H => ?_) (fun hb9 H => ?_)
    · skip
      refine goesO_settle 2 rfl rfl ?_
      refine goG (op_move rfl (.t (has rfl))) rfl rfl rfl rfl hb9 ?_
      refine goG (op_buildSlice rfl at25 (fun h => by first | rfl | cases h) rfl rfl rfl (.cons (.str _) (.cons (.str _) (.cons (.str _) (.cons (.str _) (.nil _)))))) rfl rfl rfl rfl hb9 ?_
      obtain ⟨v10, h11, H⟩ := bind_some H
      refine goG (op_callF' rfl enters19 (smithyplain_Texts.conF _ _ _ _ h11) rfl (.cons (ArgB.k (.t (has rfl))) (.cons (ArgB.own rfl (has rfl)) .nil))) rfl rfl rfl rfl hb9 ?_
      refine go1 (op_pick_t rfl hb9 (.t (has rfl)) (.t (has rfl))) rfl ?_
      refine go1 (op_move rfl (.t (has rfl))) rfl ?_
      refine goesO_split H (fun hb12 H => ?_) (fun hb12 H => ?_)
      · skip
        refine goG (op_move rfl (.t (has rfl))) rfl rfl rfl rfl hb12 ?_
        refine goG (op_icmp rfl rfl (.t (has rfl)) (.int _ _)) rfl rfl rfl rfl hb12 ?_
        refine go1 (op_pick_t rfl hb12 (.t (has rfl)) (.t (has rfl))) rfl ?_
        refine go1 (op_move rfl (.t (has rfl))) rfl ?_
        refine goesO_split H (fun hb13 H => ?_) (fun hb13 H => ?_)
        · skip
          refine goesO_settle 4 rfl rfl ?_
          refine goG (op_move rfl (.t (has rfl))) rfl rfl rfl rfl hb13 ?_
          refine goG (op_buildSlice rfl at25 (fun h => by first | rfl | cases h) rfl rfl rfl (.cons (.str _) (.cons (.str _) (.nil _)))) rfl rfl rfl rfl hb13 ?_
          obtain ⟨v14, h15, H⟩ := bind_some H
          refine goG (op_callF' rfl enters19 (smithyplain_Texts.conF _ _ _ _ h15) rfl (.cons (ArgB.k (.t (has rfl))) (.cons (ArgB.own rfl (has rfl)) .nil))) rfl rfl rfl rfl hb13 ?_
          refine go1 (op_pick_t rfl hb13 (.t (has rfl)) (.t (has rfl))) rfl ?_
          refine go1 (op_move rfl (.t (has rfl))) rfl ?_
          refine goesO_split H (fun hb16 H => ?_) (fun hb16 H => ?_)
          · skip
            refine goG (op_move rfl (.t (has rfl))) rfl rfl rfl rfl hb16 ?_
            refine goG (op_icmp rfl rfl (.t (has rfl)) (.int _ _)) rfl rfl rfl rfl hb16 ?_
            refine go1 (op_pick_t rfl hb16 (.t (has rfl)) (.t (has rfl))) rfl ?_
            refine go1 (op_move rfl (.t (has rfl))) rfl ?_
            refine goesO_split H (fun hb17 H => ?_) (fun hb17 H => ?_)
            · skip
              refine goG (op_move rfl (.t (has rfl))) rfl rfl rfl rfl hb17 ?_
              refine goG (op_icmp rfl rfl (.t (has rfl)) (.int _ _)) rfl rfl rfl rfl hb17 ?_
              refine go1 (op_pick_t rfl hb17 (.t (has rfl)) (.t (has rfl))) rfl ?_
              refine go1 (op_assign rfl (.t (has rfl))) rfl ?_
              refine goesO_nil ?_
              obtain rfl := Option.some.inj H
              exact ends_cut (.cons rfl .nil)
            · skip
              refine goS rfl rfl rfl rfl rfl rfl hb17 ?_
              refine goS rfl rfl rfl rfl rfl rfl hb17 ?_
              refine go1 (op_pick_f rfl hb17 (.t (has rfl)) (.bool _)) rfl ?_
              refine go1 (op_assign rfl (.t (has rfl))) rfl ?_
              refine goesO_nil ?_
              obtain rfl := Option.some.inj H
              exact ends_cut (.cons rfl .nil)
          · skip
            refine goS rfl rfl rfl rfl rfl rfl hb16 ?_
            refine goS rfl rfl rfl rfl rfl rfl hb16 ?_
            refine go1 (op_pick_f rfl hb16 (.t (has rfl)) (.bool _)) rfl ?_
            refine go1 (op_move rfl (.t (has rfl))) rfl ?_
            refine goS rfl rfl rfl rfl rfl rfl rfl ?_
            refine goS rfl rfl rfl rfl rfl rfl rfl ?_
            refine go1 (op_pick_f rfl rfl (.t (has rfl)) (.bool _)) rfl ?_
            refine go1 (op_assign rfl (.t (has rfl))) rfl ?_
            refine goesO_nil ?_
            obtain rfl := Option.some.inj H
            exact ends_cut (.cons rfl .nil)
        · skip
          refine goS rfl rfl rfl rfl rfl rfl hb13 ?_
          refine goS rfl rfl rfl rfl rfl rfl hb13 ?_
          refine goS rfl rfl rfl rfl rfl rfl hb13 ?_
          refine go1 (op_pick_f rfl hb13 (.t (has rfl)) (.bool _)) rfl ?_
          refine go1 (op_move rfl (.t (has rfl))) rfl ?_
          refine goS rfl rfl rfl rfl rfl rfl rfl ?_
          refine goS rfl rfl rfl rfl rfl rfl rfl ?_
          refine go1 (op_pick_f rfl rfl (.t (has rfl)) (.bool _)) rfl ?_
          refine go1 (op_move rfl (.t (has rfl))) rfl ?_
          refine goS rfl rfl rfl rfl rfl rfl rfl ?_
          refine goS rfl rfl rfl rfl rfl rfl rfl ?_
          refine go1 (op_pick_f rfl rfl (.t (has rfl)) (.bool _)) rfl ?_
          refine go1 (op_assign rfl (.t (has rfl))) rfl ?_
          refine goesO_nil ?_
          obtain rfl := Option.some.inj H
          exact ends_cut (.cons rfl .nil)
      · skip
        refine goS rfl rfl rfl rfl rfl rfl hb12 ?_
        refine goS rfl rfl rfl rfl rfl rfl hb12 ?_
        refine go1 (op_pick_f rfl hb12 (.t (has rfl)) (.bool _)) rfl ?_
        refine go1 (op_move rfl (.t (has rfl))) rfl ?_
        refine goS rfl rfl rfl rfl rfl rfl rfl ?_
        refine goS rfl rfl rfl rfl rfl rfl rfl ?_
        refine goS rfl rfl rfl rfl rfl rfl rfl ?_
        refine go1 (op_pick_f rfl rfl (.t (has rfl)) (.bool _)) rfl ?_
        refine go1 (op_move rfl (.t (has rfl))) rfl ?_
        refine goS rfl rfl rfl rfl rfl rfl rfl ?_
        refine goS rfl rfl rfl rfl rfl rfl rfl ?_
        refine go1 (op_pick_f rfl rfl (.t (has rfl)) (.bool _)) rfl ?_
        refine go1 (op_move rfl (.t (has rfl))) rfl ?_
        refine goS rfl rfl rfl rfl rfl rfl rfl ?_
        refine goS rfl rfl rfl rfl rfl rfl rfl ?_
        refine go1 (op_pick_f rfl rfl (.t (has rfl)) (.bool _)) rfl ?_
        refine go1 (op_assign rfl (.t (has rfl))) rfl ?_
        refine goesO_nil ?_
        obtain rfl := Option.some.inj H
        exact ends_cut (.cons rfl .nil)
    · skip
      refine goS rfl rfl rfl rfl rfl rfl hb9 ?_
      refine goS rfl rfl rfl rfl rfl rfl hb9 ?_
      refine goS rfl rfl rfl rfl rfl rfl hb9 ?_
      refine go1 (op_pick_f rfl hb9 (.t (has rfl)) (.bool _)) rfl ?_
      refine go1 (op_move rfl (.t (has rfl))) rfl ?_
      refine goS rfl rfl rfl rfl rfl rfl rfl ?_
      refine goS rfl rfl rfl rfl rfl rfl rfl ?_
      refine go1 (op_pick_f rfl rfl (.t (has rfl)) (.bool _)) rfl ?_
      refine go1 (op_move rfl (.t (has rfl))) rfl ?_
      refine goS rfl rfl rfl rfl rfl rfl rfl ?_
      refine goS rfl rfl rfl rfl rfl rfl rfl ?_
      refine goS rfl rfl rfl rfl rfl rfl rfl ?_
      refine go1 (op_pick_f rfl rfl (.t (has rfl)) (.bool _)) rfl ?_
      refine go1 (op_move rfl (.t (has rfl))) rfl ?_
      refine goS rfl rfl rfl rfl rfl rfl rfl ?_
      refine goS rfl rfl rfl rfl rfl rfl rfl ?_
      refine go1 (op_pick_f rfl rfl (.t (has rfl)) (.bool _)) rfl ?_
      refine go1 (op_move rfl (.t (has rfl))) rfl ?_
      refine goS rfl rfl rfl rfl rfl rfl rfl ?_
      refine goS rfl rfl rfl rfl rfl rfl rfl ?_
      refine go1 (op_pick_f rfl rfl (.t (has rfl)) (.bool _)) rfl ?_
      refine go1 (op_assign rfl (.t (has rfl))) rfl ?_
      refine goesO_nil ?_
      obtain rfl := Option.some.inj H
      exact ends_cut (.cons rfl .nil)
  refine ends_then ?_
  obtain rfl := Option.some.inj H
  exact goes_ret (ends_ret' rfl rfl (.t rfl (.nil _)))
theorem smithylaw10_speaks.conF (k : Nat) (r : Bool) (H : smithylaw10_speaks.f k = some r) : ConF Try.prog 7 [] [VA.k kbool r] := (smithylaw10_speaks.con k r H).freeL (.cons (KFree.k KFree.bool _) .nil)
/-! smithy/smithyref10.Needs -/
def smithyref10_Needs.l0 (a0 : Make) (a1 : ByteArray) : Nat → Int → Option (Except (List ByteArray) Unit)
  | 0, _ => none
  | k + 1, s1 => bif icmp .lss s1 (a0.Rules.length : Int) then ((idx a0.Rules s1).bind fun x6 => bif scmp .eql x6.Target a1 then ((idx a0.Rules s1).bind fun x9 => some (Except.error x9.Needs)) else (smithyref10_Needs.l0 a0 a1 k (IntKind.i64.wrap (s1 + (1 : Int))))) else (some (Except.ok ()))
def smithyref10_Needs.f (k : Nat) (a0 : Make) (a1 : ByteArray) : Option (List ByteArray) := (smithyref10_Needs.l0 a0 a1 k (0 : Int)).bind fun o4 => match o4 with | .error r' => some r' | .ok s2 => (some ([] : List ByteArray))
set_option maxRecDepth 100000 in
set_option maxHeartbeats 4000000 in
theorem smithyref10_Needs.con (k : Nat) (a0 : Make) (a1 : ByteArray) (r : List ByteArray) (H : smithyref10_Needs.f k a0 a1 = some r) : Con Try.prog 8 [VA.k kMake a0, VA.k kstr a1] [VA.k (kslice kstr) r] := by
  unfold smithyref10_Needs.f at H
  refine con_enter Try.func8 rfl rfl rfl (fun w0 S0 θ => ?_)
  refine goes_seq ?_
  refine goes_region ?_
  refine go3 (op_box 2 rfl (fun h => by first | rfl | cases h) (.t (has rfl))) rfl ?_
  refine go1 (op_assign_nil 9 kstr (.inr rfl) rfl) rfl ?_
  refine goesO_nil ?_
  refine ends_then ?_
  refine goes_seq ?_
  refine goes_seq ?_
  refine goes_region ?_
  refine go1 (op_assign rfl (.int _ _)) rfl ?_
  refine goesO_nil ?_
  refine ends_then ?_
  obtain ⟨o4, h3, H⟩ := bind_some H
  refine goes_cutR (o := o4) (fun s2 : Unit => []) (fun r a w => bodyPost Try.prog Try.f8 (CPost w0 S0 θ [VA.k (kslice kstr) r]) .ret a w) ?_ ?_ ?_
  · replace H := h3; clear h3
    refine goes_block ?_
    refine goes_loop (fun s1 : Int => [Ent.t 1 (VA.k kstr a1), Ent.t 2 (VA.ptr 2 0), Ent.t 5 (VA.k (kint .i64) s1), Ent.h 2 (HE.box 29 kMake a0)]) (fun k s1 => smithyref10_Needs.l0 a0 a1 k s1) (fun _ => rfl) H (.cons rfl (.cons rfl (.cons rfl (.cons rfl .nil)))) ?_
    intro k s1 H
    simp only [smithyref10_Needs.l0] at H
    refine goes_seq ?_
    refine goes_seq ?_
    refine goes_region ?_
    refine go1 (op_move rfl (.t (has rfl))) rfl ?_
    refine go1 (op_fieldAddr rfl Try.underlying29 rfl tk23 (.t (has rfl))) rfl ?_
    refine go1 (op_load rfl fldMake_Rules tk23 (.t (has rfl)) (has rfl)) rfl ?_
    refine go1 (op_len rfl rfl Try.underlying23 (.t (has rfl))) rfl ?_
    refine go1 (op_icmp rfl rfl (.t (has rfl)) (.t (has rfl))) rfl ?_
    refine goesO_nil ?_
    refine ends_then ?_
    refine goes_if (.t (has rfl)) H (fun hb5 H => ?_) (fun hb5 H => ?_)
    · skip
      refine goes_skip ?_
      refine ends_then ?_
      refine goes_seq ?_
      refine goes_block ?_
      refine goes_seq ?_
      refine goes_region ?_
      refine go1 (op_fieldAddr rfl Try.underlying29 rfl tk23 (.t (has rfl))) rfl ?_
      refine go1 (op_load rfl fldMake_Rules tk23 (.t (has rfl)) (has rfl)) rfl ?_
      refine go1 (op_move rfl (.t (has rfl))) rfl ?_
      obtain ⟨x6, h7, H⟩ := bind_some H
      refine go1 (op_indexAddr rfl Try.underlying23 tk52 h7 (.t (has rfl)) (.t (has rfl))) rfl ?_
      refine go1 (op_fieldAddrp rfl fldRule_Target Try.underlying52 rfl tk9 (.t (has rfl))) rfl ?_
      refine go1 (op_loadp rfl tk9 (.t (has rfl))) rfl ?_
      refine go1 (op_move rfl (.t (has rfl))) rfl ?_
      refine go1 (op_scmp rfl rfl (.t (has rfl)) (.t (has rfl))) rfl ?_
      refine goesO_nil ?_
      refine ends_then ?_
      refine goes_if (.t (has rfl)) H (fun hb8 H => ?_) (fun hb8 H => ?_)
      · skip
        refine goes_seq ?_
        refine goes_region ?_
        refine go1 (op_fieldAddr rfl Try.underlying29 rfl tk23 (.t (has rfl))) rfl ?_
        refine go1 (op_load rfl fldMake_Rules tk23 (.t (has rfl)) (has rfl)) rfl ?_
        refine go1 (op_move rfl (.t (has rfl))) rfl ?_
        obtain ⟨x9, h10, H⟩ := bind_some H
        refine go1 (op_indexAddr rfl Try.underlying23 tk52 h10 (.t (has rfl)) (.t (has rfl))) rfl ?_
        refine go1 (op_fieldAddrp rfl fldRule_Needs Try.underlying52 rfl tk25 (.t (has rfl))) rfl ?_
        refine go1 (op_loadp rfl tk25 (.t (has rfl))) rfl ?_
        refine go1 (op_assign rfl (.t (has rfl))) rfl ?_
        refine goesO_nil ?_
        refine ends_then ?_
        obtain rfl := Option.some.inj H
        refine goes_ret (ends_block_ret (ends_then_ret (ends_then_ret (ends_block_ret (ends_cutR_ret rfl ?_)))))
        exact ends_ret' rfl rfl (.t rfl (.nil _))
      · skip
        refine goes_skip ?_
        refine ends_block ?_
        refine ends_then ?_
        refine goes_region ?_
        refine go1 (op_move rfl (.t (has rfl))) rfl ?_
        refine go1 (op_add rfl (.t (has rfl)) (.int _ _)) rfl ?_
        refine go1 (op_assign rfl (.t (has rfl))) rfl ?_
        refine goesO_nil ?_
        exact loop_next _ H (.cons rfl (.cons rfl (.cons rfl (.cons rfl .nil))))
    · skip
      refine goes_exit (ends_then_exit (ends_then_exit (ends_block_exit ?_)))
      obtain rfl := Option.some.inj H
      exact ends_cutR rfl .nil
  · rintro s2 rfl
    clear h3
    dsimp only at H
    refine ends_then ?_
    refine goes_seq ?_
    refine goes_region ?_
    refine go1 (op_assign_nil 9 kstr (.inr rfl) rfl) rfl ?_
    refine goesO_nil ?_
    refine ends_then ?_
    refine goes_settle 4 rfl rfl ?_
    obtain rfl := Option.some.inj H
    exact goes_ret (ends_ret' rfl rfl (.t rfl (.nil _)))
  · rintro r' rfl a w hr
    obtain rfl := Option.some.inj H
    exact hr
/-! smithy/smithyref03.Has -/
def smithyref03_Has.l0 (a0 : List ByteArray) (a1 : ByteArray) : Nat → Int → Option (Except Bool Unit)
  | 0, _ => none
  | k + 1, s1 => bif icmp .lss s1 (a0.length : Int) then ((idx a0 s1).bind fun x6 => bif scmp .eql x6 a1 then (some (Except.error true)) else (smithyref03_Has.l0 a0 a1 k (IntKind.i64.wrap (s1 + (1 : Int))))) else (some (Except.ok ()))
def smithyref03_Has.f (k : Nat) (a0 : List ByteArray) (a1 : ByteArray) : Option Bool := (smithyref03_Has.l0 a0 a1 k (0 : Int)).bind fun o4 => match o4 with | .error r' => some r' | .ok s2 => (some false)
set_option maxRecDepth 100000 in
set_option maxHeartbeats 4000000 in
theorem smithyref03_Has.con (k : Nat) (a0 : List ByteArray) (a1 : ByteArray) (r : Bool) (H : smithyref03_Has.f k a0 a1 = some r) : Con Try.prog 10 [VA.k (kslice kstr) a0, VA.k kstr a1] [VA.k kbool r] := by
  unfold smithyref03_Has.f at H
  refine con_enter Try.func10 rfl rfl rfl (fun w0 S0 θ => ?_)
  refine goes_seq ?_
  refine goes_region ?_
  refine go1 (op_assign rfl (.bool _)) rfl ?_
  refine goesO_nil ?_
  refine ends_then ?_
  refine goes_seq ?_
  refine goes_seq ?_
  refine goes_region ?_
  refine go1 (op_move rfl (.t (has rfl))) rfl ?_
  refine go1 (op_len rfl rfl Try.underlying25 (.t (has rfl))) rfl ?_
  refine go1 (op_move rfl (.int _ _)) rfl ?_
  refine goesO_nil ?_
  refine ends_then ?_
  obtain ⟨o4, h3, H⟩ := bind_some H
  refine goes_cutR (o := o4) (fun s2 : Unit => []) (fun r a w => bodyPost Try.prog Try.f10 (CPost w0 S0 θ [VA.k kbool r]) .ret a w) ?_ ?_ ?_
  · replace H := h3; clear h3
    refine goes_block ?_
    refine goes_loop (fun s1 : Int => [Ent.t 1 (VA.k kstr a1), Ent.t 7 (VA.k (kslice kstr) a0), Ent.t 8 (VA.k (kint .i64) (a0.length : Int)), Ent.t 9 (VA.k (kint .i64) s1)]) (fun k s1 => smithyref03_Has.l0 a0 a1 k s1) (fun _ => rfl) H (.cons rfl (.cons rfl (.cons rfl (.cons rfl .nil)))) ?_
    intro k s1 H
    simp only [smithyref03_Has.l0] at H
    refine goes_seq ?_
    refine goes_region ?_
    refine go1 (op_icmp rfl rfl (.t (has rfl)) (.t (has rfl))) rfl ?_
    refine goesO_nil ?_
    refine ends_then ?_
    refine goes_seq ?_
    refine goes_if (.t (has rfl)) H (fun hb5 H => ?_) (fun hb5 H => ?_)
    · skip
      refine goes_skip ?_
      refine ends_then ?_
      refine goes_seq ?_
      refine goes_block ?_
      refine goes_seq ?_
      refine goes_region ?_
      obtain ⟨x6, h7, H⟩ := bind_some H
      refine go1 (op_indexAddr rfl Try.underlying25 tk9 h7 (.t (has rfl)) (.t (has rfl))) rfl ?_
      refine go1 (op_loadp rfl tk9 (.t (has rfl))) rfl ?_
      refine go1 (op_assign rfl (.t (has rfl))) rfl ?_
      refine goesO_nil ?_
      refine ends_then ?_
      refine goes_seq ?_
      refine goes_region ?_
      refine go1 (op_move rfl (.t (has rfl))) rfl ?_
      refine go1 (op_move rfl (.t (has rfl))) rfl ?_
      refine go1 (op_scmp rfl rfl (.t (has rfl)) (.t (has rfl))) rfl ?_
      refine goesO_nil ?_
      refine ends_then ?_
      refine goes_if (.t (has rfl)) H (fun hb8 H => ?_) (fun hb8 H => ?_)
      · skip
        refine goes_seq ?_
        refine goes_region ?_
        refine go1 (op_assign rfl (.bool _)) rfl ?_
        refine goesO_nil ?_
        refine ends_then ?_
        obtain rfl := Option.some.inj H
        refine goes_ret (ends_block_ret (ends_then_ret (ends_then_ret (ends_block_ret (ends_cutR_ret rfl ?_)))))
        exact ends_ret' rfl rfl (.t rfl (.nil _))
      · skip
        refine goes_skip ?_
        refine ends_block ?_
        refine ends_then ?_
        refine goes_region ?_
        refine go1 (op_add rfl (.t (has rfl)) (.int _ _)) rfl ?_
        refine go1 (op_move rfl (.t (has rfl))) rfl ?_
        refine goesO_nil ?_
        exact loop_next _ H (.cons rfl (.cons rfl (.cons rfl (.cons rfl .nil))))
    · skip
      refine goes_exit (ends_then_exit (ends_then_exit (ends_block_exit ?_)))
      obtain rfl := Option.some.inj H
      exact ends_cutR rfl .nil
  · rintro s2 rfl
    clear h3
    dsimp only at H
    refine ends_then ?_
    refine goes_seq ?_
    refine goes_region ?_
    refine go1 (op_assign rfl (.bool _)) rfl ?_
    refine goesO_nil ?_
    refine ends_then ?_
    obtain rfl := Option.some.inj H
    exact goes_ret (ends_ret' rfl rfl (.t rfl (.nil _)))
  · rintro r' rfl a w hr
    obtain rfl := Option.some.inj H
    exact hr
theorem smithyref03_Has.conF (k : Nat) (a0 : List ByteArray) (a1 : ByteArray) (r : Bool) (H : smithyref03_Has.f k a0 a1 = some r) : ConF Try.prog 10 [VA.k (kslice kstr) a0, VA.k kstr a1] [VA.k kbool r] := (smithyref03_Has.con k a0 a1 r H).freeL (.cons (KFree.k KFree.bool _) .nil)
/-! smithy/smithylaw10.GraphDeep -/
def smithylaw10_GraphDeep.l0 (a0 : Make) (a1 : ByteArray) (v9 : (List ByteArray)) : Nat → (Int × Int) → Option (Except Bool Int)
  | 0, _ => none
  | k + 1, s11 => bif icmp .lss s11.2 (v9.length : Int) then (((idx v9 s11.2).bind fun x19 => (graph_Depth.f k a0 x19).bind fun v21 => (idx v9 s11.2).bind fun x23 => (graph_Users.f k a0 x23).bind fun v25 => (bif icmp .neq v21.2 (0 : Int) then (some true) else (bif icmp .neq v25.2 (0 : Int) then (some true) else ((smithyref03_Has.f k v25.1 a1).bind fun v31 => some (!v31)))).bind fun s27 => bif s27 then (some (Except.error false)) else (bif icmp .gtr (IntKind.i64.wrap (v21.1 + (1 : Int))) s11.1 then (some (Except.ok (IntKind.i64.wrap (v21.1 + (1 : Int))))) else (some (Except.ok s11.1)))).bind fun o18 => match o18 with | .error r' => some (Except.error r') | .ok s16 => (smithylaw10_GraphDeep.l0 a0 a1 v9 k (s16, IntKind.i64.wrap (s11.2 + (1 : Int))))) else (some (Except.ok s11.1))
def smithylaw10_GraphDeep.f (k : Nat) (a0 : Make) (a1 : ByteArray) : Option Bool := (graph_Depth.f k a0 a1).bind fun v1 => bif icmp .neq v1.2 (0 : Int) then ((bif icmp .eql v1.1 (0 : Int) then ((smithylaw10_speaks.f k).bind fun v7 => some v7) else (some false)).bind fun s4 => some s4) else ((smithyref10_Needs.f k a0 a1).bind fun v9 => (smithylaw10_GraphDeep.l0 a0 a1 v9 k ((0 : Int), (0 : Int))).bind fun o14 => match o14 with | .error r' => some r' | .ok s12 => ((bif icmp .eql v1.1 s12 then ((smithylaw10_speaks.f k).bind fun v38 => some v38) else (some false)).bind fun s35 => some s35))
set_option maxRecDepth 100000 in
set_option maxHeartbeats 4000000 in
theorem smithylaw10_GraphDeep.con (k : Nat) (a0 : Make) (a1 : ByteArray) (r : Bool) (H : smithylaw10_GraphDeep.f k a0 a1 = some r) : Con Try.prog 3 [VA.k kMake a0, VA.k kstr a1] [VA.k kbool r] := by
  unfold smithylaw10_GraphDeep.f at H
  refine con_enter Try.func3 rfl rfl rfl (fun w0 S0 θ => ?_)
  refine goes_seq ?_
  refine goes_region ?_
  refine go3 (op_box 2 rfl (fun h => by first | rfl | cases h) (.t (has rfl))) rfl ?_
  refine go1 (op_assign rfl (.bool _)) rfl ?_
  refine goesO_nil ?_
  refine ends_then ?_
  refine goes_seq ?_
  refine goes_region ?_
  refine go1 (op_load rfl (Fld.whole kMake) tk29 (.t (has rfl)) (has rfl)) rfl ?_
  refine go1 (op_move rfl (.t (has rfl))) rfl ?_
  obtain ⟨v1, h2, H⟩ := bind_some H
  refine goN (op_calls' rfl enters6 (graph_Depth.con _ _ _ _ h2) rfl rfl (.cons (ArgP.k (.t (has rfl))) (.cons (ArgP.k (.t (has rfl))) .nil))) rfl ?_
  refine go1 (op_same (.inl rfl) rfl rfl) rfl ?_
  refine go1 (op_extract_same rfl plain_k (has rfl) (has rfl)) rfl ?_
  refine go1 (op_extract_same rfl plain_k (has rfl) (has rfl)) rfl ?_
  refine go1 (op_assign rfl (.t (has rfl))) rfl ?_
  refine go1 (op_assign rfl (.t (has rfl))) rfl ?_
  refine goesO_nil ?_
  refine ends_then ?_
  refine goes_seq ?_
  refine goes_seq ?_
  refine goes_region ?_
  refine go1 (op_move rfl (.t (has rfl))) rfl ?_
  refine go1 (op_icmp rfl rfl (.t (has rfl)) (.int _ _)) rfl ?_
  refine goesO_nil ?_
  refine ends_then ?_
  refine goes_if (.t (has rfl)) H (fun hb3 H => ?_) (fun hb3 H => ?_)
  · skip
    refine goes_seq ?_
    obtain ⟨s4, h5, H⟩ := bind_some H
    refine goes_cut [Ent.t 4 (VA.k kbool s4)] ?_ ?_
    · replace H := h5; clear h5
      refine goes_region ?_
      refine go1 (op_move rfl (.t (has rfl))) rfl ?_
      refine go1 (op_icmp rfl rfl (.t (has rfl)) (.int _ _)) rfl ?_
      refine go1 (op_move rfl (.t (has rfl))) rfl ?_
      refine goesO_split H (fun hb6 H => ?_) (fun hb6 H => ?_)
      · skip
        obtain ⟨v7, h8, H⟩ := bind_some H
        refine goG (op_call' rfl enters7 (smithylaw10_speaks.con _  _ h8) rfl .nil) rfl rfl rfl rfl hb6 ?_
        refine go1 (op_pick_t rfl hb6 (.t (has rfl)) (.t (has rfl))) rfl ?_
        refine go1 (op_assign rfl (.t (has rfl))) rfl ?_
        refine goesO_nil ?_
        obtain rfl := Option.some.inj H
        exact ends_cut (.cons rfl .nil)
      · skip
        refine goS rfl rfl rfl rfl rfl rfl hb6 ?_
        refine go1 (op_pick_f rfl hb6 (.t (has rfl)) (.bool _)) rfl ?_
        refine go1 (op_assign rfl (.t (has rfl))) rfl ?_
        refine goesO_nil ?_
        obtain rfl := Option.some.inj H
        exact ends_cut (.cons rfl .nil)
    refine ends_then ?_
    obtain rfl := Option.some.inj H
    exact goes_ret (ends_then_ret (ends_ret' rfl rfl (.t rfl (.nil _))))
  · skip
    refine goes_skip ?_
    refine ends_then ?_
    refine goes_seq ?_
    refine goes_region ?_
    refine go1 (op_load rfl (Fld.whole kMake) tk29 (.t (has rfl)) (has rfl)) rfl ?_
    refine go1 (op_move rfl (.t (has rfl))) rfl ?_
    obtain ⟨v9, h10, H⟩ := bind_some H
    refine go1 (op_call' rfl enters8 (smithyref10_Needs.con _ _ _ _ h10) rfl (.cons (ArgP.k (.t (has rfl))) (.cons (ArgP.k (.t (has rfl))) .nil))) rfl ?_
    refine go1 (op_assign rfl (.t (has rfl))) rfl ?_
    refine goesO_nil ?_
    refine ends_then ?_
    refine goes_seq ?_
    refine goes_region ?_
    refine go1 (op_assign rfl (.int _ _)) rfl ?_
    refine goesO_nil ?_
    refine ends_then ?_
    refine goes_seq ?_
    refine goes_seq ?_
    refine goes_region ?_
    refine go1 (op_assign rfl (.int _ _)) rfl ?_
    refine goesO_nil ?_
    refine ends_then ?_
    obtain ⟨o14, h13, H⟩ := bind_some H
    refine goes_cutR (o := o14) (fun s12 : Int => [Ent.t 5 (VA.k (kint .i64) v1.1), Ent.t 8 (VA.k (kint .i64) s12)]) (fun r a w => bodyPost Try.prog Try.f3 (CPost w0 S0 θ [VA.k kbool r]) .ret a w) ?_ ?_ ?_
    · replace H := h13; clear h13
      refine goes_block ?_
      refine goes_loop (fun s11 : Int × Int => [Ent.t 1 (VA.k kstr a1), Ent.t 2 (VA.ptr 2 0), Ent.t 5 (VA.k (kint .i64) v1.1), Ent.t 7 (VA.k (kslice kstr) v9), Ent.t 8 (VA.k (kint .i64) s11.1), Ent.t 9 (VA.k (kint .i64) s11.2), Ent.h 2 (HE.box 29 kMake a0)]) (fun k s11 => smithylaw10_GraphDeep.l0 a0 a1 v9 k s11) (fun _ => rfl) H (.cons rfl (.cons rfl (.cons rfl (.cons rfl (.cons rfl (.cons rfl (.cons rfl .nil))))))) ?_
      intro k s11 H
      simp only [smithylaw10_GraphDeep.l0] at H
      refine goes_seq ?_
      refine goes_seq ?_
      refine goes_region ?_
      refine go1 (op_move rfl (.t (has rfl))) rfl ?_
      refine go1 (op_move rfl (.t (has rfl))) rfl ?_
      refine go1 (op_len rfl rfl Try.underlying25 (.t (has rfl))) rfl ?_
      refine go1 (op_icmp rfl rfl (.t (has rfl)) (.t (has rfl))) rfl ?_
      refine goesO_nil ?_
      refine ends_then ?_
      refine goes_if (.t (has rfl)) H (fun hb15 H => ?_) (fun hb15 H => ?_)
      · skip
        refine goes_skip ?_
        refine ends_then ?_
        refine goes_seq ?_
        obtain ⟨o18, h17, H⟩ := bind_some H
        refine goes_cutR (o := o18) (fun s16 : Int => [Ent.t 1 (VA.k kstr a1), Ent.t 2 (VA.ptr 2 0), Ent.t 5 (VA.k (kint .i64) v1.1), Ent.t 7 (VA.k (kslice kstr) v9), Ent.t 8 (VA.k (kint .i64) s16), Ent.t 9 (VA.k (kint .i64) s11.2), Ent.h 2 (HE.box 29 kMake a0)]) (fun r a w => bodyPost Try.prog Try.f3 (CPost w0 S0 θ [VA.k kbool r]) .ret a w) ?_ ?_ ?_
        · replace H := h17; clear h17
          refine goes_block ?_
          refine goes_seq ?_
          obtain ⟨x19, h20, H⟩ := bind_some H
          obtain ⟨v21, h22, H⟩ := bind_some H
          refine goes_drawn [[Ent.t 37 (VA.k kMake a0)], [Ent.t 38 (VA.k (kslice kstr) v9)], [Ent.t 39 (VA.k (kint .i64) s11.2)], [Ent.t 40 (VA.pt kstr x19)], [Ent.t 41 (VA.k kstr x19)], [Ent.c 42 0 (VA.k (kint .i64) v21.1), Ent.c 42 1 (VA.k (kint .i64) v21.2), Ent.t 42 (VA.any)], [Ent.same 36 42], [Ent.t 43 (VA.k (kint .i64) v21.1)], [Ent.t 44 (VA.k (kint .i64) v21.2)], [Ent.t 10 (VA.k (kint .i64) v21.1)], [Ent.t 11 (VA.k (kint .i64) v21.2)]] mixed (by kernel_rfl) (by kernel_rfl) (.cons [(none, Ent.t 2 (VA.ptr 2 0)), (none, Ent.h 2 (HE.box 29 kMake a0))] (OpSpec.run rfl rfl (op_load rfl (Fld.whole kMake) tk29 (.t NL.h0) (NL.hs NL.h0)) rfl) (.cons (has rfl) (.cons (has rfl) .nil)) (by kernel_rfl) (.cons [(none, Ent.t 7 (VA.k (kslice kstr) v9))] (OpSpec.run rfl rfl (op_move rfl (.t NL.h0)) rfl) (.cons (has rfl) .nil) (by kernel_rfl) (.cons [(none, Ent.t 9 (VA.k (kint .i64) s11.2))] (OpSpec.run rfl rfl (op_move rfl (.t NL.h0)) rfl) (.cons (has rfl) .nil) (by kernel_rfl) (.cons [(some 1, Ent.t 38 (VA.k (kslice kstr) v9)), (some 2, Ent.t 39 (VA.k (kint .i64) s11.2))] (OpSpec.run rfl rfl (op_indexAddr rfl Try.underlying25 tk9 h20 (.t NL.h0) (.t (NL.hs NL.h0))) rfl) (.cons (has rfl) (.cons (has rfl) .nil)) (by kernel_rfl) (.cons [(some 3, Ent.t 40 (VA.pt kstr x19))] (OpSpec.run rfl rfl (op_loadp rfl tk9 (.t NL.h0)) rfl) (.cons (has rfl) .nil) (by kernel_rfl) (.cons [(some 0, Ent.t 37 (VA.k kMake a0)), (some 4, Ent.t 41 (VA.k kstr x19))] (OpSpec.run rfl rfl (op_calls' rfl enters6 (graph_Depth.con _ _ _ _ h22) rfl rfl (.cons (ArgP.k (.t NL.h0)) (.cons (ArgP.k (.t (NL.hs NL.h0))) .nil))) rfl) (.cons (has rfl) (.cons (has rfl) .nil)) (by kernel_rfl) (.cons [(some 5, Ent.t 42 (VA.any))] (OpSpec.run rfl rfl (op_same (.inl rfl) rfl rfl) rfl) (.cons (has rfl) .nil) (by kernel_rfl) (.cons [(some 6, Ent.same 36 42), (some 5, Ent.c 42 0 (VA.k (kint .i64) v21.1))] (OpSpec.run rfl rfl (op_extract_same rfl plain_k NL.h0 (NL.hs NL.h0)) rfl) (.cons (has rfl) (.cons (has rfl) .nil)) (by kernel_rfl) (.cons [(some 6, Ent.same 36 42), (some 5, Ent.c 42 1 (VA.k (kint .i64) v21.2))] (OpSpec.run rfl rfl (op_extract_same rfl plain_k NL.h0 (NL.hs NL.h0)) rfl) (.cons (has rfl) (.cons (has rfl) .nil)) (by kernel_rfl) (.cons [(some 7, Ent.t 43 (VA.k (kint .i64) v21.1))] (OpSpec.run rfl rfl (op_assign rfl (.t NL.h0)) rfl) (.cons (has rfl) .nil) (by kernel_rfl) (.cons [(some 8, Ent.t 44 (VA.k (kint .i64) v21.2))] (OpSpec.run rfl rfl (op_assign rfl (.t NL.h0)) rfl) (.cons (has rfl) .nil) (by kernel_rfl) (.nil _)))))))))))) ?_
          refine ends_sub [Ent.t 1 (VA.k kstr a1), Ent.t 2 (VA.ptr 2 0), Ent.t 5 (VA.k (kint .i64) v1.1), Ent.t 7 (VA.k (kslice kstr) v9), Ent.t 8 (VA.k (kint .i64) s11.1), Ent.t 9 (VA.k (kint .i64) s11.2), Ent.t 10 (VA.k (kint .i64) v21.1), Ent.t 11 (VA.k (kint .i64) v21.2), Ent.h 2 (HE.box 29 kMake a0)] (.cons rfl (.cons rfl (.cons rfl (.cons rfl (.cons rfl (.cons rfl (.cons rfl (.cons rfl (.cons rfl .nil))))))))) ?_
          refine ends_then ?_
          refine goes_seq ?_
          obtain ⟨x23, h24, H⟩ := bind_some H
          obtain ⟨v25, h26, H⟩ := bind_some H
          refine goes_drawn [[Ent.t 46 (VA.k kMake a0)], [Ent.t 47 (VA.k (kslice kstr) v9)], [Ent.t 48 (VA.k (kint .i64) s11.2)], [Ent.t 49 (VA.pt kstr x23)], [Ent.t 50 (VA.k kstr x23)], [Ent.c 51 0 (VA.own 9 kstr v25.1), Ent.c 51 1 (VA.k (kint .i64) v25.2), Ent.t 51 (VA.any)], [Ent.same 45 51], [Ent.t 52 (VA.own 9 kstr v25.1), Ent.c 51 0 VA.any], [Ent.t 53 (VA.k (kint .i64) v25.2)], [Ent.t 12 (VA.own 9 kstr v25.1), Ent.t 52 (VA.any)], [Ent.t 13 (VA.k (kint .i64) v25.2)]] mixed (by kernel_rfl) (by kernel_rfl) (.cons [(none, Ent.t 2 (VA.ptr 2 0)), (none, Ent.h 2 (HE.box 29 kMake a0))] (OpSpec.run rfl rfl (op_load rfl (Fld.whole kMake) tk29 (.t NL.h0) (NL.hs NL.h0)) rfl) (.cons (has rfl) (.cons (has rfl) .nil)) (by kernel_rfl) (.cons [(none, Ent.t 7 (VA.k (kslice kstr) v9))] (OpSpec.run rfl rfl (op_move rfl (.t NL.h0)) rfl) (.cons (has rfl) .nil) (by kernel_rfl) (.cons [(none, Ent.t 9 (VA.k (kint .i64) s11.2))] (OpSpec.run rfl rfl (op_move rfl (.t NL.h0)) rfl) (.cons (has rfl) .nil) (by kernel_rfl) (.cons [(some 1, Ent.t 47 (VA.k (kslice kstr) v9)), (some 2, Ent.t 48 (VA.k (kint .i64) s11.2))] (OpSpec.run rfl rfl (op_indexAddr rfl Try.underlying25 tk9 h24 (.t NL.h0) (.t (NL.hs NL.h0))) rfl) (.cons (has rfl) (.cons (has rfl) .nil)) (by kernel_rfl) (.cons [(some 3, Ent.t 49 (VA.pt kstr x23))] (OpSpec.run rfl rfl (op_loadp rfl tk9 (.t NL.h0)) rfl) (.cons (has rfl) .nil) (by kernel_rfl) (.cons [(some 0, Ent.t 46 (VA.k kMake a0)), (some 4, Ent.t 50 (VA.k kstr x23))] (OpSpec.run rfl rfl (op_calls' rfl enters9 (graph_Users.con _ _ _ _ h26) rfl rfl (.cons (ArgP.k (.t NL.h0)) (.cons (ArgP.k (.t (NL.hs NL.h0))) .nil))) rfl) (.cons (has rfl) (.cons (has rfl) .nil)) (by kernel_rfl) (.cons [(some 5, Ent.t 51 (VA.any))] (OpSpec.run rfl rfl (op_same (.inl rfl) rfl rfl) rfl) (.cons (has rfl) .nil) (by kernel_rfl) (.cons [(some 6, Ent.same 45 51), (some 5, Ent.c 51 0 (VA.own 9 kstr v25.1))] (OpSpec.run rfl rfl (op_extract_own_same rfl rfl rfl NL.h0 (NL.hs NL.h0)) rfl) (.cons (has rfl) (.cons (has rfl) .nil)) (by kernel_rfl) (.cons [(some 6, Ent.same 45 51), (some 5, Ent.c 51 1 (VA.k (kint .i64) v25.2))] (OpSpec.run rfl rfl (op_extract_same rfl plain_k NL.h0 (NL.hs NL.h0)) rfl) (.cons (has rfl) (.cons (has rfl) .nil)) (by kernel_rfl) (.cons [(some 7, Ent.t 52 (VA.own 9 kstr v25.1))] (OpSpec.run rfl rfl (op_mv (.inr rfl) rfl rfl NL.h0) rfl) (.cons (has rfl) .nil) (by kernel_rfl) (.cons [(some 8, Ent.t 53 (VA.k (kint .i64) v25.2))] (OpSpec.run rfl rfl (op_assign rfl (.t NL.h0)) rfl) (.cons (has rfl) .nil) (by kernel_rfl) (.nil _)))))))))))) ?_
          refine ends_sub [Ent.t 1 (VA.k kstr a1), Ent.t 2 (VA.ptr 2 0), Ent.t 5 (VA.k (kint .i64) v1.1), Ent.t 7 (VA.k (kslice kstr) v9), Ent.t 8 (VA.k (kint .i64) s11.1), Ent.t 9 (VA.k (kint .i64) s11.2), Ent.t 10 (VA.k (kint .i64) v21.1), Ent.t 11 (VA.k (kint .i64) v21.2), Ent.t 12 (VA.own 9 kstr v25.1), Ent.t 13 (VA.k (kint .i64) v25.2), Ent.h 2 (HE.box 29 kMake a0)] (.cons rfl (.cons rfl (.cons rfl (.cons rfl (.cons rfl (.cons rfl (.cons rfl (.cons rfl (.cons rfl (.cons rfl (.cons rfl .nil))))))))))) ?_
          refine ends_then ?_
          refine goes_seq ?_
          refine goes_seq ?_
          obtain ⟨s27, h28, H⟩ := bind_some H
          refine goes_cut [Ent.t 1 (VA.k kstr a1), Ent.t 2 (VA.ptr 2 0), Ent.t 5 (VA.k (kint .i64) v1.1), Ent.t 7 (VA.k (kslice kstr) v9), Ent.t 8 (VA.k (kint .i64) s11.1), Ent.t 9 (VA.k (kint .i64) s11.2), Ent.t 10 (VA.k (kint .i64) v21.1), Ent.t 65 (VA.k kbool s27), Ent.h 2 (HE.box 29 kMake a0)] ?_ ?_
          · replace H := h28; clear h28
            refine goes_region ?_
            refine go1 (op_move rfl (.t (has rfl))) rfl ?_
            refine go1 (op_icmp rfl rfl (.t (has rfl)) (.int _ _)) rfl ?_
            refine go1 (op_move rfl (.t (has rfl))) rfl ?_
            refine goesO_split H (fun hb29 H => ?_) (fun hb29 H => ?_)
            · skip
              refine goS rfl rfl rfl rfl rfl rfl hb29 ?_
              refine goS rfl rfl rfl rfl rfl rfl hb29 ?_
              refine go1 (op_pick_t rfl hb29 (.t (has rfl)) (.bool _)) rfl ?_
              refine go1 (op_move rfl (.t (has rfl))) rfl ?_
              refine goS rfl rfl rfl rfl rfl rfl rfl ?_
              refine goS rfl rfl rfl rfl rfl rfl rfl ?_
              refine goS rfl rfl rfl rfl rfl rfl rfl ?_
              refine goS rfl rfl rfl rfl rfl rfl rfl ?_
              refine go1 (op_pick_t rfl rfl (.t (has rfl)) (.bool _)) rfl ?_
              refine goesO_nil ?_
              obtain rfl := Option.some.inj H
              exact ends_cut (.cons rfl (.cons rfl (.cons rfl (.cons rfl (.cons rfl (.cons rfl (.cons rfl (.cons rfl (.cons rfl .nil)))))))))
            · skip
              refine goG (op_move rfl (.t (has rfl))) rfl rfl rfl rfl hb29 ?_
              refine goG (op_icmp rfl rfl (.t (has rfl)) (.int _ _)) rfl rfl rfl rfl hb29 ?_
              refine go1 (op_pick_f rfl hb29 (.t (has rfl)) (.t (has rfl))) rfl ?_
              refine go1 (op_move rfl (.t (has rfl))) rfl ?_
              refine goesO_split H (fun hb30 H => ?_) (fun hb30 H => ?_)
              · skip
                refine goS rfl rfl rfl rfl rfl rfl hb30 ?_
                refine goS rfl rfl rfl rfl rfl rfl hb30 ?_
                refine goS rfl rfl rfl rfl rfl rfl hb30 ?_
                refine goS rfl rfl rfl rfl rfl rfl hb30 ?_
                refine go1 (op_pick_t rfl hb30 (.t (has rfl)) (.bool _)) rfl ?_
                refine goesO_nil ?_
                obtain rfl := Option.some.inj H
                exact ends_cut (.cons rfl (.cons rfl (.cons rfl (.cons rfl (.cons rfl (.cons rfl (.cons rfl (.cons rfl (.cons rfl .nil)))))))))
              · skip
                refine goesO_settle 12 rfl rfl ?_
                refine goG (op_move rfl (.t (has rfl))) rfl rfl rfl rfl hb30 ?_
                refine goG (op_move rfl (.t (has rfl))) rfl rfl rfl rfl hb30 ?_
                obtain ⟨v31, h32, H⟩ := bind_some H
                refine goG (op_call' rfl enters10 (smithyref03_Has.con _ _ _ _ h32) rfl (.cons (ArgP.k (.t (has rfl))) (.cons (ArgP.k (.t (has rfl))) .nil))) rfl rfl rfl rfl hb30 ?_
                refine goG (op_not rfl (.t (has rfl))) rfl rfl rfl rfl hb30 ?_
                refine go1 (op_pick_f rfl hb30 (.t (has rfl)) (.t (has rfl))) rfl ?_
                refine goesO_nil ?_
                obtain rfl := Option.some.inj H
                exact ends_cut (.cons rfl (.cons rfl (.cons rfl (.cons rfl (.cons rfl (.cons rfl (.cons rfl (.cons rfl (.cons rfl .nil)))))))))
          refine ends_then ?_
          refine goes_if (.t (has rfl)) H (fun hb33 H => ?_) (fun hb33 H => ?_)
          · skip
            refine goes_seq ?_
            refine goes_region ?_
            refine go1 (op_assign rfl (.bool _)) rfl ?_
            refine goesO_nil ?_
            refine ends_then ?_
            obtain rfl := Option.some.inj H
            refine goes_ret (ends_then_ret (ends_block_ret (ends_cutR_ret rfl ?_)))
            exact ends_ret' rfl rfl (.t rfl (.nil _))
          · skip
            refine goes_skip ?_
            refine ends_then ?_
            refine goes_seq ?_
            refine goes_region ?_
            refine go1 (op_move rfl (.t (has rfl))) rfl ?_
            refine go1 (op_add rfl (.t (has rfl)) (.int _ _)) rfl ?_
            refine go1 (op_move rfl (.t (has rfl))) rfl ?_
            refine go1 (op_icmp rfl rfl (.t (has rfl)) (.t (has rfl))) rfl ?_
            refine goesO_nil ?_
            refine ends_then ?_
            refine goes_if (.t (has rfl)) H (fun hb34 H => ?_) (fun hb34 H => ?_)
            · skip
              refine goes_region ?_
              refine go1 (op_move rfl (.t (has rfl))) rfl ?_
              refine go1 (op_add rfl (.t (has rfl)) (.int _ _)) rfl ?_
              refine go1 (op_assign rfl (.t (has rfl))) rfl ?_
              refine goesO_nil ?_
              refine ends_block ?_
              obtain rfl := Option.some.inj H
              exact ends_cutR rfl (.cons rfl (.cons rfl (.cons rfl (.cons rfl (.cons rfl (.cons rfl (.cons rfl .nil)))))))
            · skip
              refine goes_skip ?_
              refine ends_block ?_
              obtain rfl := Option.some.inj H
              exact ends_cutR rfl (.cons rfl (.cons rfl (.cons rfl (.cons rfl (.cons rfl (.cons rfl (.cons rfl .nil)))))))
        · rintro s16 rfl
          clear h17
          dsimp only at H
          refine ends_then ?_
          refine goes_region ?_
          refine go1 (op_move rfl (.t (has rfl))) rfl ?_
          refine go1 (op_add rfl (.t (has rfl)) (.int _ _)) rfl ?_
          refine go1 (op_assign rfl (.t (has rfl))) rfl ?_
          refine goesO_nil ?_
          exact loop_next _ H (.cons rfl (.cons rfl (.cons rfl (.cons rfl (.cons rfl (.cons rfl (.cons rfl .nil)))))))
        · rintro r' rfl a w hr
          obtain rfl := Option.some.inj H
          exact ⟨_, rfl, hr⟩
      · skip
        refine goes_exit (ends_then_exit (ends_then_exit (ends_block_exit ?_)))
        obtain rfl := Option.some.inj H
        exact ends_cutR rfl (.cons rfl (.cons rfl .nil))
    · rintro s12 rfl
      clear h13
      dsimp only at H
      refine ends_then ?_
      refine goes_seq ?_
      obtain ⟨s35, h36, H⟩ := bind_some H
      refine goes_cut [Ent.t 4 (VA.k kbool s35)] ?_ ?_
      · replace H := h36; clear h36
        refine goes_region ?_
        refine go1 (op_move rfl (.t (has rfl))) rfl ?_
        refine go1 (op_move rfl (.t (has rfl))) rfl ?_
        refine go1 (op_icmp rfl rfl (.t (has rfl)) (.t (has rfl))) rfl ?_
        refine go1 (op_move rfl (.t (has rfl))) rfl ?_
        refine goesO_split H (fun hb37 H => ?_) (fun hb37 H => ?_)
        · skip
          obtain ⟨v38, h39, H⟩ := bind_some H
          refine goG (op_call' rfl enters7 (smithylaw10_speaks.con _  _ h39) rfl .nil) rfl rfl rfl rfl hb37 ?_
          refine go1 (op_pick_t rfl hb37 (.t (has rfl)) (.t (has rfl))) rfl ?_
          refine go1 (op_assign rfl (.t (has rfl))) rfl ?_
          refine goesO_nil ?_
          obtain rfl := Option.some.inj H
          exact ends_cut (.cons rfl .nil)
        · skip
          refine goS rfl rfl rfl rfl rfl rfl hb37 ?_
          refine go1 (op_pick_f rfl hb37 (.t (has rfl)) (.bool _)) rfl ?_
          refine go1 (op_assign rfl (.t (has rfl))) rfl ?_
          refine goesO_nil ?_
          obtain rfl := Option.some.inj H
          exact ends_cut (.cons rfl .nil)
      refine ends_then ?_
      obtain rfl := Option.some.inj H
      exact goes_ret (ends_ret' rfl rfl (.t rfl (.nil _)))
    · rintro r' rfl a w hr
      obtain rfl := Option.some.inj H
      exact hr
theorem smithylaw10_GraphDeep.conF (k : Nat) (a0 : Make) (a1 : ByteArray) (r : Bool) (H : smithylaw10_GraphDeep.f k a0 a1 = some r) : ConF Try.prog 3 [VA.k kMake a0, VA.k kstr a1] [VA.k kbool r] := (smithylaw10_GraphDeep.con k a0 a1 r H).freeL (.cons (KFree.k KFree.bool _) .nil)
end Go.Proofs.Ytlpmolohppoofaa.F
