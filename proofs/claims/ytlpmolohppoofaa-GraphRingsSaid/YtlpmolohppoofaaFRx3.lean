import Derived.Test.YtlpmolohppoofaaFRx2
set_option linter.unusedVariables false
set_option linter.unusedSimpArgs false
set_option linter.unnecessarySimpa false
set_option linter.deprecated false
namespace Go.Proofs.Ytlpmolohppoofaa.F
open Go Go.RowKit Go.Proofs.Ytlpmolohppoofaa.Sl
/-! smithy/smithylaw10.speaks -/
def smithylaw10_speaks.f (k : Nat) : Option Bool := (graph_Order.f k (⟨([] : List Macro), [(⟨(⟨#[97]⟩ : ByteArray), [(⟨#[98]⟩ : ByteArray), (⟨#[99]⟩ : ByteArray)], ([] : List ByteArray), false⟩ : Rule), (⟨(⟨#[98]⟩ : ByteArray), [(⟨#[100]⟩ : ByteArray)], ([] : List ByteArray), false⟩ : Rule), (⟨(⟨#[99]⟩ : ByteArray), [(⟨#[100]⟩ : ByteArray)], ([] : List ByteArray), false⟩ : Rule)], ([] : List Infer), zeroSpecial, ByteArray.empty⟩ : Make) ([(⟨#[97]⟩ : ByteArray)])).bind fun v1 => (graph_Users.f k (⟨([] : List Macro), [(⟨(⟨#[97]⟩ : ByteArray), [(⟨#[98]⟩ : ByteArray), (⟨#[99]⟩ : ByteArray)], ([] : List ByteArray), false⟩ : Rule), (⟨(⟨#[98]⟩ : ByteArray), [(⟨#[100]⟩ : ByteArray)], ([] : List ByteArray), false⟩ : Rule), (⟨(⟨#[99]⟩ : ByteArray), [(⟨#[100]⟩ : ByteArray)], ([] : List ByteArray), false⟩ : Rule)], ([] : List Infer), zeroSpecial, ByteArray.empty⟩ : Make) (⟨#[100]⟩ : ByteArray)).bind fun v3 => (graph_Depth.f k (⟨([] : List Macro), [(⟨(⟨#[97]⟩ : ByteArray), [(⟨#[98]⟩ : ByteArray), (⟨#[99]⟩ : ByteArray)], ([] : List ByteArray), false⟩ : Rule), (⟨(⟨#[98]⟩ : ByteArray), [(⟨#[100]⟩ : ByteArray)], ([] : List ByteArray), false⟩ : Rule), (⟨(⟨#[99]⟩ : ByteArray), [(⟨#[100]⟩ : ByteArray)], ([] : List ByteArray), false⟩ : Rule)], ([] : List Infer), zeroSpecial, ByteArray.empty⟩ : Make) (⟨#[97]⟩ : ByteArray)).bind fun v5 => (bif icmp .eql v1.2 (0 : Int) then ((smithyplain_Texts.f k v1.1 ([(⟨#[100]⟩ : ByteArray), (⟨#[98]⟩ : ByteArray), (⟨#[99]⟩ : ByteArray), (⟨#[97]⟩ : ByteArray)])).bind fun v10 => bif v10 then (bif icmp .eql v3.2 (0 : Int) then ((smithyplain_Texts.f k v3.1 ([(⟨#[98]⟩ : ByteArray), (⟨#[99]⟩ : ByteArray)])).bind fun v14 => bif v14 then (bif icmp .eql v5.1 (2 : Int) then (some (icmp .eql v5.2 (0 : Int))) else (some false)) else (some false)) else (some false)) else (some false)) else (some false)).bind fun s7 => some s7
set_option maxRecDepth 100000 in
set_option maxHeartbeats 4000000 in
theorem smithylaw10_speaks.con (k : Nat) (r : Bool) (H : smithylaw10_speaks.f k = some r) : Con Try.prog 7 [] [VA.k kbool r] := by
  unfold smithylaw10_speaks.f at H
  refine con_enter Try.func7 rfl rfl rfl (fun w0 S0 θ => ?_)
  refine goes_seq ?_
  refine goes_region ?_
  refine go1 (op_assign rfl (.bool _)) rfl ?_
  refine goesO_nil ?_
  refine ends_then ?_
  refine goes_seq ?_
  refine goes_region ?_
  refine go1 (op_buildSlice rfl at25 (fun h => by first | rfl | cases h) rfl rfl rfl (.cons (.str _) (.cons (.str _) (.nil _)))) rfl ?_
  refine goesO_settle 8 rfl rfl ?_
  refine go1 (op_build (pl := [(0, 1), (1, 1), (2, 1), (3, 1)]) rfl rfl Try.underlying52 (by kernel_rfl) zk52 (.cons rfl tk9 fldRule_Target (.str _) (.cons rfl tk25 fldRule_Needs (.t (has rfl)) (.nil _)))) rfl ?_
  refine go1 (op_buildSlice rfl at25 (fun h => by first | rfl | cases h) rfl rfl rfl (.cons (.str _) (.nil _))) rfl ?_
  refine goesO_settle 10 rfl rfl ?_
  refine go1 (op_build (pl := [(0, 1), (1, 1), (2, 1), (3, 1)]) rfl rfl Try.underlying52 (by kernel_rfl) zk52 (.cons rfl tk9 fldRule_Target (.str _) (.cons rfl tk25 fldRule_Needs (.t (has rfl)) (.nil _)))) rfl ?_
  refine go1 (op_buildSlice rfl at25 (fun h => by first | rfl | cases h) rfl rfl rfl (.cons (.str _) (.nil _))) rfl ?_
  refine goesO_settle 12 rfl rfl ?_
  refine go1 (op_build (pl := [(0, 1), (1, 1), (2, 1), (3, 1)]) rfl rfl Try.underlying52 (by kernel_rfl) zk52 (.cons rfl tk9 fldRule_Target (.str _) (.cons rfl tk25 fldRule_Needs (.t (has rfl)) (.nil _)))) rfl ?_
  refine go1 (op_buildSlice rfl at23 (fun h => by first | rfl | cases h) rfl rfl rfl (.cons (.t (has rfl)) (.cons (.t (has rfl)) (.cons (.t (has rfl)) (.nil _))))) rfl ?_
  refine goesO_settle 14 rfl rfl ?_
  refine go1 (op_build (pl := [(0, 1), (1, 1), (2, 1), (3, 10), (13, 1)]) rfl rfl Try.underlying29 (by kernel_rfl) zk29 (.cons rfl tk23 fldMake_Rules (.t (has rfl)) (.nil _))) rfl ?_
  refine go3 (op_alloc 1 rfl zk29) rfl ?_
  refine go1 (op_store (Fld.whole kMake) tk29 (.t (has rfl)) (has rfl) (.t (has rfl))) rfl ?_
  refine goesO_nil ?_
  refine ends_then ?_
  refine goes_seq ?_
  refine goes_region ?_
  refine go1 (op_load rfl (Fld.whole kMake) tk29 (.t (has rfl)) (has rfl)) rfl ?_
  refine go1 (op_buildSlice rfl at25 (fun h => by first | rfl | cases h) rfl rfl rfl (.cons (.str _) (.nil _))) rfl ?_
  obtain ⟨v1, h2, H⟩ := bind_some H
  refine goN (op_callsF' rfl enters11 (graph_Order.conF _ _ _ _ h2) rfl rfl (.cons (ArgB.k (.t (has rfl))) (.cons (ArgB.own rfl (has rfl)) .nil))) rfl ?_
  refine go1 (op_same (.inl rfl) rfl rfl) rfl ?_
  refine go2 (op_extract_own_same rfl rfl rfl (has rfl) (has rfl)) rfl ?_
  refine go1 (op_extract_same rfl plain_k (has rfl) (has rfl)) rfl ?_
  refine go2 (op_mv (.inr rfl) rfl rfl (has rfl)) rfl ?_
  refine go1 (op_assign rfl (.t (has rfl))) rfl ?_
  refine goesO_nil ?_
  refine ends_then ?_
  refine goes_seq ?_
  refine goes_region ?_
  refine go1 (op_load rfl (Fld.whole kMake) tk29 (.t (has rfl)) (has rfl)) rfl ?_
  obtain ⟨v3, h4, H⟩ := bind_some H
  refine goN (op_calls' rfl enters9 (graph_Users.con _ _ _ _ h4) rfl rfl (.cons (ArgP.k (.t (has rfl))) (.cons (ArgP.k (.str _)) .nil))) rfl ?_
  refine go1 (op_same (.inl rfl) rfl rfl) rfl ?_
  refine go2 (op_extract_own_same rfl rfl rfl (has rfl) (has rfl)) rfl ?_
  refine go1 (op_extract_same rfl plain_k (has rfl) (has rfl)) rfl ?_
  refine go2 (op_mv (.inr rfl) rfl rfl (has rfl)) rfl ?_
  refine go1 (op_assign rfl (.t (has rfl))) rfl ?_
  refine goesO_nil ?_
  refine ends_then ?_
  refine goes_seq ?_
  refine goes_region ?_
  refine go1 (op_load rfl (Fld.whole kMake) tk29 (.t (has rfl)) (has rfl)) rfl ?_
  obtain ⟨v5, h6, H⟩ := bind_some H
  refine goN (op_calls' rfl enters6 (graph_Depth.con _ _ _ _ h6) rfl rfl (.cons (ArgP.k (.t (has rfl))) (.cons (ArgP.k (.str _)) .nil))) rfl ?_
  refine go1 (op_same (.inl rfl) rfl rfl) rfl ?_
  refine go1 (op_extract_same rfl plain_k (has rfl) (has rfl)) rfl ?_
  refine go1 (op_extract_same rfl plain_k (has rfl) (has rfl)) rfl ?_
  refine go1 (op_assign rfl (.t (has rfl))) rfl ?_
  refine go1 (op_assign rfl (.t (has rfl))) rfl ?_
  refine goesO_nil ?_
  refine ends_then ?_
  refine goes_seq ?_
  obtain ⟨s7, h8, H⟩ := bind_some H
  refine goes_cut [Ent.t 0 (VA.k kbool s7)] ?_ ?_
  · replace H := h8; clear h8
    refine goes_region ?_
    refine go1 (op_move rfl (.t (has rfl))) rfl ?_
    refine go1 (op_icmp rfl rfl (.t (has rfl)) (.int _ _)) rfl ?_
    refine go1 (op_move rfl (.t (has rfl))) rfl ?_
    refine goesO_split H (fun hb9 H => ?_) (fun hb9 H => ?_)
    · skip
      refine goesO_settle 2 rfl rfl ?_
      refine goG (op_move rfl (.t (has rfl))) rfl rfl rfl rfl hb9 ?_
      refine goG (op_buildSlice rfl at25 (fun h => by first | rfl | cases h) rfl rfl rfl (.cons (.str _) (.cons (.str _) (.cons (.str _) (.cons (.str _) (.nil _)))))) rfl rfl rfl rfl hb9 ?_
      obtain ⟨v10, h11, H⟩ := bind_some H
      refine goG (op_callF' rfl enters19 (smithyplain_Texts.conF _ _ _ _ h11) rfl (.cons (ArgB.k (.t (has rfl))) (.cons (ArgB.own rfl (has rfl)) .nil))) rfl rfl rfl rfl hb9 ?_
      refine go1 (op_pick_t rfl hb9 (.t (has rfl)) (.t (has rfl))) rfl ?_
      refine go1 (op_move rfl (.t (has rfl))) rfl ?_
      refine goesO_split H (fun hb12 H => ?_) (fun hb12 H => ?_)
      · skip
        refine goG (op_move rfl (.t (has rfl))) rfl rfl rfl rfl hb12 ?_
        refine goG (op_icmp rfl rfl (.t (has rfl)) (.int _ _)) rfl rfl rfl rfl hb12 ?_
        refine go1 (op_pick_t rfl hb12 (.t (has rfl)) (.t (has rfl))) rfl ?_
        refine go1 (op_move rfl (.t (has rfl))) rfl ?_
        refine goesO_split H (fun hb13 H => ?_) (fun hb13 H => ?_)
        · skip
          refine goesO_settle 4 rfl rfl ?_
          refine goG (op_move rfl (.t (has rfl))) rfl rfl rfl rfl hb13 ?_
          refine goG (op_buildSlice rfl at25 (fun h => by first | rfl | cases h) rfl rfl rfl (.cons (.str _) (.cons (.str _) (.nil _)))) rfl rfl rfl rfl hb13 ?_
          obtain ⟨v14, h15, H⟩ := bind_some H
          refine goG (op_callF' rfl enters19 (smithyplain_Texts.conF _ _ _ _ h15) rfl (.cons (ArgB.k (.t (has rfl))) (.cons (ArgB.own rfl (has rfl)) .nil))) rfl rfl rfl rfl hb13 ?_
          refine go1 (op_pick_t rfl hb13 (.t (has rfl)) (.t (has rfl))) rfl ?_
          refine go1 (op_move rfl (.t (has rfl))) rfl ?_
          refine goesO_split H (fun hb16 H => ?_) (fun hb16 H => ?_)
          · skip
            refine goG (op_move rfl (.t (has rfl))) rfl rfl rfl rfl hb16 ?_
            refine goG (op_icmp rfl rfl (.t (has rfl)) (.int _ _)) rfl rfl rfl rfl hb16 ?_
            refine go1 (op_pick_t rfl hb16 (.t (has rfl)) (.t (has rfl))) rfl ?_
            refine go1 (op_move rfl (.t (has rfl))) rfl ?_
            refine goesO_split H (fun hb17 H => ?_) (fun hb17 H => ?_)
            · skip
              refine goG (op_move rfl (.t (has rfl))) rfl rfl rfl rfl hb17 ?_
              refine goG (op_icmp rfl rfl (.t (has rfl)) (.int _ _)) rfl rfl rfl rfl hb17 ?_
              refine go1 (op_pick_t rfl hb17 (.t (has rfl)) (.t (has rfl))) rfl ?_
              refine go1 (op_assign rfl (.t (has rfl))) rfl ?_
              refine goesO_nil ?_
              obtain rfl := Option.some.inj H
              exact ends_cut (.cons rfl .nil)
            · skip
              refine goS rfl rfl rfl rfl rfl rfl hb17 ?_
              refine goS rfl rfl rfl rfl rfl rfl hb17 ?_
              refine go1 (op_pick_f rfl hb17 (.t (has rfl)) (.bool _)) rfl ?_
              refine go1 (op_assign rfl (.t (has rfl))) rfl ?_
              refine goesO_nil ?_
              obtain rfl := Option.some.inj H
              exact ends_cut (.cons rfl .nil)
          · skip
            refine goS rfl rfl rfl rfl rfl rfl hb16 ?_
            refine goS rfl rfl rfl rfl rfl rfl hb16 ?_
            refine go1 (op_pick_f rfl hb16 (.t (has rfl)) (.bool _)) rfl ?_
            refine go1 (op_move rfl (.t (has rfl))) rfl ?_
            refine goS rfl rfl rfl rfl rfl rfl rfl ?_
            refine goS rfl rfl rfl rfl rfl rfl rfl ?_
            refine go1 (op_pick_f rfl rfl (.t (has rfl)) (.bool _)) rfl ?_
            refine go1 (op_assign rfl (.t (has rfl))) rfl ?_
            refine goesO_nil ?_
            obtain rfl := Option.some.inj H
            exact ends_cut (.cons rfl .nil)
        · skip
          refine goS rfl rfl rfl rfl rfl rfl hb13 ?_
          refine goS rfl rfl rfl rfl rfl rfl hb13 ?_
          refine goS rfl rfl rfl rfl rfl rfl hb13 ?_
          refine go1 (op_pick_f rfl hb13 (.t (has rfl)) (.bool _)) rfl ?_
          refine go1 (op_move rfl (.t (has rfl))) rfl ?_
          refine goS rfl rfl rfl rfl rfl rfl rfl ?_
          refine goS rfl rfl rfl rfl rfl rfl rfl ?_
          refine go1 (op_pick_f rfl rfl (.t (has rfl)) (.bool _)) rfl ?_
          refine go1 (op_move rfl (.t (has rfl))) rfl ?_
          refine goS rfl rfl rfl rfl rfl rfl rfl ?_
          refine goS rfl rfl rfl rfl rfl rfl rfl ?_
          refine go1 (op_pick_f rfl rfl (.t (has rfl)) (.bool _)) rfl ?_
          refine go1 (op_assign rfl (.t (has rfl))) rfl ?_
          refine goesO_nil ?_
          obtain rfl := Option.some.inj H
          exact ends_cut (.cons rfl .nil)
      · skip
        refine goS rfl rfl rfl rfl rfl rfl hb12 ?_
        refine goS rfl rfl rfl rfl rfl rfl hb12 ?_
        refine go1 (op_pick_f rfl hb12 (.t (has rfl)) (.bool _)) rfl ?_
        refine go1 (op_move rfl (.t (has rfl))) rfl ?_
        refine goS rfl rfl rfl rfl rfl rfl rfl ?_
        refine goS rfl rfl rfl rfl rfl rfl rfl ?_
        refine goS rfl rfl rfl rfl rfl rfl rfl ?_
        refine go1 (op_pick_f rfl rfl (.t (has rfl)) (.bool _)) rfl ?_
        refine go1 (op_move rfl (.t (has rfl))) rfl ?_
        refine goS rfl rfl rfl rfl rfl rfl rfl ?_
        refine goS rfl rfl rfl rfl rfl rfl rfl ?_
        refine go1 (op_pick_f rfl rfl (.t (has rfl)) (.bool _)) rfl ?_
        refine go1 (op_move rfl (.t (has rfl))) rfl ?_
        refine goS rfl rfl rfl rfl rfl rfl rfl ?_
        refine goS rfl rfl rfl rfl rfl rfl rfl ?_
        refine go1 (op_pick_f rfl rfl (.t (has rfl)) (.bool _)) rfl ?_
        refine go1 (op_assign rfl (.t (has rfl))) rfl ?_
        refine goesO_nil ?_
        obtain rfl := Option.some.inj H
        exact ends_cut (.cons rfl .nil)
    · skip
      refine goS rfl rfl rfl rfl rfl rfl hb9 ?_
      refine goS rfl rfl rfl rfl rfl rfl hb9 ?_
      refine goS rfl rfl rfl rfl rfl rfl hb9 ?_
      refine go1 (op_pick_f rfl hb9 (.t (has rfl)) (.bool _)) rfl ?_
      refine go1 (op_move rfl (.t (has rfl))) rfl ?_
      refine goS rfl rfl rfl rfl rfl rfl rfl ?_
      refine goS rfl rfl rfl rfl rfl rfl rfl ?_
      refine go1 (op_pick_f rfl rfl (.t (has rfl)) (.bool _)) rfl ?_
      refine go1 (op_move rfl (.t (has rfl))) rfl ?_
      refine goS rfl rfl rfl rfl rfl rfl rfl ?_
      refine goS rfl rfl rfl rfl rfl rfl rfl ?_
      refine goS rfl rfl rfl rfl rfl rfl rfl ?_
      refine go1 (op_pick_f rfl rfl (.t (has rfl)) (.bool _)) rfl ?_
      refine go1 (op_move rfl (.t (has rfl))) rfl ?_
      refine goS rfl rfl rfl rfl rfl rfl rfl ?_
      refine goS rfl rfl rfl rfl rfl rfl rfl ?_
      refine go1 (op_pick_f rfl rfl (.t (has rfl)) (.bool _)) rfl ?_
      refine go1 (op_move rfl (.t (has rfl))) rfl ?_
      refine goS rfl rfl rfl rfl rfl rfl rfl ?_
      refine goS rfl rfl rfl rfl rfl rfl rfl ?_
      refine go1 (op_pick_f rfl rfl (.t (has rfl)) (.bool _)) rfl ?_
      refine go1 (op_assign rfl (.t (has rfl))) rfl ?_
      refine goesO_nil ?_
      obtain rfl := Option.some.inj H
      exact ends_cut (.cons rfl .nil)
  refine ends_then ?_
  obtain rfl := Option.some.inj H
  exact goes_ret (ends_ret' rfl rfl (.t rfl (.nil _)))
theorem smithylaw10_speaks.conF (k : Nat) (r : Bool) (H : smithylaw10_speaks.f k = some r) : ConF Try.prog 7 [] [VA.k kbool r] := (smithylaw10_speaks.con k r H).freeL (.cons (KFree.k KFree.bool _) .nil)
/-! slices.Clone[[]string,string] -/
def slices_Clone_string_string.f (a0 : List ByteArray) : Option (List ByteArray) := (app 16 ([] : List ByteArray) a0).bind fun x1 => some x1
set_option maxRecDepth 100000 in
set_option maxHeartbeats 4000000 in
theorem slices_Clone_string_string.con (a0 : List ByteArray) (r : List ByteArray) (H : slices_Clone_string_string.f a0 = some r) : Con Try.prog 28 [VA.k (kslice kstr) a0] [VA.own 9 kstr r] := by
  unfold slices_Clone_string_string.f at H
  refine con_enter Try.func28 rfl rfl rfl (fun w0 S0 θ => ?_)
  refine goes_seq ?_
  refine goes_region ?_
  refine go1 (op_assign_nil 9 kstr (.inr rfl) rfl) rfl ?_
  refine goesO_nil ?_
  refine ends_then ?_
  refine goes_seq ?_
  refine goes_seq ?_
  refine goes_region ?_
  refine go1 (op_move rfl (.t (has rfl))) rfl ?_
  refine go1 (op_isnil rfl Try.underlying25 (.t (has rfl))) rfl ?_
  refine goesO_nil ?_
  refine ends_then ?_
  refine goes_ifnil (.t (has rfl)) (fun hnil => ?_) ?_
  · skip
    replace H : (some ([] : List ByteArray)) = some r := by subst hnil; simpa [app, room] using H
    refine goes_seq ?_
    refine goes_region ?_
    refine go1 (op_assign_nil 9 kstr (.inr rfl) rfl) rfl ?_
    refine goesO_nil ?_
    refine ends_then ?_
    obtain rfl := Option.some.inj H
    exact goes_ret (ends_then_ret (ends_ret' rfl rfl (.t rfl (.nil _))))
  · skip
    refine goes_skip ?_
    refine ends_then ?_
    refine goes_seq ?_
    refine goes_region ?_
    refine go1 (op_buildSlice0 rfl at25) rfl ?_
    refine go1 (op_move rfl (.t (has rfl))) rfl ?_
    obtain ⟨x1, h2, H⟩ := bind_some H
    refine go2 (op_append rfl rfl at25 h2 (has rfl) (ReadsArg.k (.t (has rfl)))) rfl ?_
    refine go2 (op_mv (.inr rfl) rfl rfl (has rfl)) rfl ?_
    refine goesO_nil ?_
    refine ends_then ?_
    obtain rfl := Option.some.inj H
    exact goes_ret (ends_ret' rfl rfl (.t rfl (.nil _)))
theorem slices_Clone_string_string.conF (a0 : List ByteArray) (r : List ByteArray) (H : slices_Clone_string_string.f a0 = some r) : ConF Try.prog 28 [VA.k (kslice kstr) a0] [VA.own 9 kstr r] := (slices_Clone_string_string.con a0 r H).freeL (.cons (KFree.own KFree.str _ _) .nil)
/-! smithy/graph.Reach -/
def graph_Reach.l0 (v4 : (GM (List ByteArray))) : Nat → ((GM Int) × (List ByteArray) × (List ByteArray)) → Option (List ByteArray)
  | 0, _ => none
  | k + 1, s8 => bif icmp .gtr (s8.2.2.length : Int) (0 : Int) then ((idx s8.2.2 (IntKind.i64.wrap ((s8.2.2.length : Int) - (1 : Int)))).bind fun x12 => (inrow s8.2.2 (IntKind.i64.wrap ((s8.2.2.length : Int) - (1 : Int)))).bind fun z14 => (gget s8.1 (0 : Int) x12).bind fun x16 => bif icmp .eql x16 (0 : Int) then ((gput s8.1 x12 (1 : Int)).bind fun x19 => (app 16 s8.2.1 ([x12])).bind fun x21 => (gget v4 ([] : List ByteArray) x12).bind fun x23 => (app 16 (s8.2.2.take (IntKind.i64.wrap ((s8.2.2.length : Int) - (1 : Int))).toNat) x23).bind fun x25 => graph_Reach.l0 v4 k (x19, x21, x25)) else (graph_Reach.l0 v4 k (s8.1, s8.2.1, s8.2.2.take (IntKind.i64.wrap ((s8.2.2.length : Int) - (1 : Int))).toNat))) else (some s8.2.1)
def graph_Reach.f (k : Nat) (a0 : Make) (a1 : List ByteArray) : Option ((List ByteArray) × Int) := (graph_asked.f k a0 a1).bind fun v1 => bif icmp .neq v1 (0 : Int) then (some (([] : List ByteArray), v1)) else ((graph_needs.f k a0).bind fun v4 => (slices_Clone_string_string.f a1).bind fun v6 => (graph_Reach.l0 v4 k ((gempty : GM Int), ([] : List ByteArray), v6)).bind fun s9 => (slices_Sort_string_string.f s9).bind fun v27 => some (v27, (0 : Int)))
set_option maxRecDepth 100000 in
set_option maxHeartbeats 4000000 in
theorem graph_Reach.con (k : Nat) (a0 : Make) (a1 : List ByteArray) (r : (List ByteArray) × Int) (H : graph_Reach.f k a0 a1 = some r) : Con Try.prog 15 [VA.k kMake a0, VA.k (kslice kstr) a1] [VA.own 9 kstr r.1, VA.k (kint .i64) r.2] := by
  unfold graph_Reach.f at H
  refine con_enter Try.func15 rfl rfl rfl (fun w0 S0 θ => ?_)
  refine goes_seq ?_
  refine goes_region ?_
  refine go3 (op_box 2 rfl (fun h => by first | rfl | cases h) (.t (has rfl))) rfl ?_
  refine go1 (op_assign_nil 9 kstr (.inr rfl) rfl) rfl ?_
  refine go1 (op_assign rfl (.int _ _)) rfl ?_
  refine goesO_nil ?_
  refine ends_then ?_
  refine goes_seq ?_
  refine goes_seq ?_
  refine goes_region ?_
  refine go1 (op_load rfl (Fld.whole kMake) tk29 (.t (has rfl)) (has rfl)) rfl ?_
  refine go1 (op_move rfl (.t (has rfl))) rfl ?_
  obtain ⟨v1, h2, H⟩ := bind_some H
  refine go1 (op_call' rfl enters21 (graph_asked.con _ _ _ _ h2) rfl (.cons (ArgP.k (.t (has rfl))) (.cons (ArgP.k (.t (has rfl))) .nil))) rfl ?_
  refine go1 (op_assign rfl (.t (has rfl))) rfl ?_
  refine goesO_nil ?_
  refine ends_then ?_
  refine goes_seq ?_
  refine goes_region ?_
  refine go1 (op_move rfl (.t (has rfl))) rfl ?_
  refine go1 (op_icmp rfl rfl (.t (has rfl)) (.int _ _)) rfl ?_
  refine goesO_nil ?_
  refine ends_then ?_
  refine goes_if (.t (has rfl)) H (fun hb3 H => ?_) (fun hb3 H => ?_)
  · skip
    refine goes_seq ?_
    refine goes_region ?_
    refine go1 (op_move rfl (.t (has rfl))) rfl ?_
    refine go1 (op_assign_nil 9 kstr (.inr rfl) rfl) rfl ?_
    refine go1 (op_assign rfl (.t (has rfl))) rfl ?_
    refine goesO_nil ?_
    refine ends_then ?_
    obtain rfl := Option.some.inj H
    exact goes_ret (ends_then_ret (ends_ret' rfl rfl (.t rfl (.t rfl (.nil _)))))
  · skip
    refine goes_skip ?_
    refine ends_then ?_
    refine goes_seq ?_
    refine goes_region ?_
    refine go1 (op_load rfl (Fld.whole kMake) tk29 (.t (has rfl)) (has rfl)) rfl ?_
    obtain ⟨v4, h5, H⟩ := bind_some H
    refine go1 (op_call' rfl enters18 (graph_needs.con _ _ _ h5) rfl (.cons (ArgP.k (.t (has rfl))) .nil)) rfl ?_
    refine goesO_adopt 19 19 rfl rfl ?_
    refine go1 (op_assignA rfl plain_mp (.t (has rfl))) rfl ?_
    refine goesO_nil ?_
    refine ends_then ?_
    refine goes_seq ?_
    refine goes_region ?_
    refine go3 (op_makeMap 9 (kint .i64) 20 rfl) rfl ?_
    refine go1 (op_assignA rfl plain_mp (.t (has rfl))) rfl ?_
    refine goesO_nil ?_
    refine ends_then ?_
    refine goes_seq ?_
    refine goes_region ?_
    refine go1 (op_assign_nil 9 kstr (.inr rfl) rfl) rfl ?_
    refine goesO_nil ?_
    refine ends_then ?_
    refine goes_seq ?_
    refine goes_region ?_
    refine go1 (op_move rfl (.t (has rfl))) rfl ?_
    obtain ⟨v6, h7, H⟩ := bind_some H
    refine go1 (op_call' rfl enters28 (slices_Clone_string_string.con _ _ h7) rfl (.cons (ArgP.k (.t (has rfl))) .nil)) rfl ?_
    refine go2 (op_mv (.inr rfl) rfl rfl (has rfl)) rfl ?_
    refine goesO_nil ?_
    refine ends_then ?_
    refine goes_seq ?_
    obtain ⟨s9, h10, H⟩ := bind_some H
    refine goes_cut [Ent.t 9 (VA.own 9 kstr s9)] ?_ ?_
    · replace H := h10; clear h10
      refine goes_block ?_
      refine goes_loop (fun s8 : (GM Int) × (List ByteArray) × (List ByteArray) => [Ent.t 7 (VA.mp false 19), Ent.t 8 (VA.mp false 20), Ent.t 9 (VA.own 9 kstr s8.2.1), Ent.t 10 (VA.own 9 kstr s8.2.2), Ent.h 19 (HE.map Try.prog 9 (kslice kstr) v4), Ent.h 20 (HE.map Try.prog 9 (kint .i64) s8.1)]) (fun k s8 => graph_Reach.l0 v4 k s8) (fun _ => rfl) H (.cons rfl (.cons rfl (.cons rfl (.cons rfl (.cons rfl (.cons rfl .nil)))))) ?_
      intro k s8 H
      simp only [graph_Reach.l0] at H
      refine goes_seq ?_
      refine goes_seq ?_
      refine goes_region ?_
      refine go1 (op_same (.inl rfl) rfl rfl) rfl ?_
      refine go1 (op_len_own rfl rfl Try.underlying25 (.same (has rfl) (has rfl))) rfl ?_
      refine go1 (op_icmp rfl rfl (.t (has rfl)) (.int _ _)) rfl ?_
      refine goesO_nil ?_
      refine ends_then ?_
      refine goes_if (.t (has rfl)) H (fun hb11 H => ?_) (fun hb11 H => ?_)
      · skip
        refine goes_skip ?_
        refine ends_then ?_
        refine goes_block ?_
        refine goes_seq ?_
        refine goes_region ?_
        refine go1 (op_same (.inl rfl) rfl rfl) rfl ?_
        refine go1 (op_same (.inl rfl) rfl rfl) rfl ?_
        refine go1 (op_len_own rfl rfl Try.underlying25 (.same (has rfl) (has rfl))) rfl ?_
        refine go1 (op_sub rfl (.t (has rfl)) (.int _ _)) rfl ?_
        obtain ⟨x12, h13, H⟩ := bind_some H
        refine go1 (op_indexAddr_own rfl rfl Try.underlying25 tk9 h13 (.same (has rfl)) (has rfl) (.t (has rfl))) rfl ?_
        refine go1 (op_load_oe (off := 0) rfl (Fld.whole kstr) tk9 h13 (has rfl) (has rfl)) rfl ?_
        refine go1 (op_assign rfl (.t (has rfl))) rfl ?_
        refine goesO_nil ?_
        refine ends_then ?_
        refine goes_seq ?_
        refine goes_region ?_
        refine go1 (op_same (.inl rfl) rfl rfl) rfl ?_
        refine go1 (op_same (.inl rfl) rfl rfl) rfl ?_
        refine go1 (op_len_own rfl rfl Try.underlying25 (.same (has rfl) (has rfl))) rfl ?_
        refine go1 (op_sub rfl (.t (has rfl)) (.int _ _)) rfl ?_
        obtain ⟨z14, h15, H⟩ := bind_some H
        refine go2 (op_slice_own rfl rfl Try.underlying25 tk9 (inrow_spec h15).1 (inrow_spec h15).2 (.same (has rfl)) (has rfl) (.t (has rfl))) rfl ?_
        refine go2 (op_mv (.inr rfl) rfl rfl (has rfl)) rfl ?_
        refine goesO_nil ?_
        refine ends_then ?_
        refine goes_seq ?_
        refine goes_region ?_
        refine go1 (op_moveA rfl plain_mp (.t (has rfl))) rfl ?_
        refine go1 (op_move rfl (.t (has rfl))) rfl ?_
        obtain ⟨x16, h17, H⟩ := bind_some H
        refine go1 (op_lookup rfl xmt50 h17 (.t (has rfl)) (has rfl) (.t (has rfl))) rfl ?_
        refine go1 (op_icmp rfl rfl (.t (has rfl)) (.int _ _)) rfl ?_
        refine goesO_nil ?_
        refine ends_then ?_
        refine goes_if (.t (has rfl)) H (fun hb18 H => ?_) (fun hb18 H => ?_)
        · skip
          refine goes_seq ?_
          refine goes_region ?_
          refine go1 (op_moveA rfl plain_mp (.t (has rfl))) rfl ?_
          refine go1 (op_move rfl (.t (has rfl))) rfl ?_
          obtain ⟨x19, h20, H⟩ := bind_some H
          refine go1 (op_mapUpdate xmt50 h20 (.t (has rfl)) (has rfl) (.t (has rfl)) (.int _ _)) rfl ?_
          refine goesO_nil ?_
          refine ends_then ?_
          refine goes_seq ?_
          refine goes_region ?_
          refine go2 (op_mv (.inl rfl) rfl rfl (has rfl)) rfl ?_
          refine go1 (op_move rfl (.t (has rfl))) rfl ?_
          refine go1 (op_buildSlice rfl at25 (fun h => by first | rfl | cases h) rfl rfl rfl (.cons (.t (has rfl)) (.nil _))) rfl ?_
          obtain ⟨x21, h22, H⟩ := bind_some H
          refine go2 (op_append rfl rfl at25 h22 (has rfl) (ReadsArg.own (.t (has rfl)))) rfl ?_
          refine go2 (op_mv (.inr rfl) rfl rfl (has rfl)) rfl ?_
          refine goesO_nil ?_
          refine ends_then ?_
          refine goes_region ?_
          refine go2 (op_mv (.inl rfl) rfl rfl (has rfl)) rfl ?_
          refine go1 (op_moveA rfl plain_mp (.t (has rfl))) rfl ?_
          refine go1 (op_move rfl (.t (has rfl))) rfl ?_
          obtain ⟨x23, h24, H⟩ := bind_some H
          refine go1 (op_lookup rfl xmt48 h24 (.t (has rfl)) (has rfl) (.t (has rfl))) rfl ?_
          obtain ⟨x25, h26, H⟩ := bind_some H
          refine go2 (op_append rfl rfl at25 h26 (has rfl) (ReadsArg.k (.t (has rfl)))) rfl ?_
          refine go2 (op_mv (.inr rfl) rfl rfl (has rfl)) rfl ?_
          refine goesO_nil ?_
          refine ends_block ?_
          exact loop_next _ H (.cons rfl (.cons rfl (.cons rfl (.cons rfl (.cons rfl (.cons rfl .nil))))))
        · skip
          refine goes_skip ?_
          refine ends_block ?_
          exact loop_next _ H (.cons rfl (.cons rfl (.cons rfl (.cons rfl (.cons rfl (.cons rfl .nil))))))
      · skip
        refine goes_exit (ends_then_exit (ends_then_exit (ends_block_exit ?_)))
        obtain rfl := Option.some.inj H
        exact ends_cut (.cons rfl .nil)
    refine ends_then ?_
    refine goes_seq ?_
    refine goes_region ?_
    refine goesO_number 9 900 rfl rfl rfl ?_
    refine go1 (op_moveA rfl plain_rw (.t (has rfl))) rfl ?_
    obtain ⟨v27, h28, H⟩ := bind_some H
    refine goN (op_callE [] [] rfl enters29 (slices_Sort_string_string.con 900 _ _ h28) rfl (.cons (has rfl) .nil) (.cons (ArgP.a plain_rw (.t (has rfl))) .nil)) rfl ?_
    refine goesO_relen 9 (slices_Sort_string_string.len h28) rfl ?_
    refine goesO_nil ?_
    refine ends_then ?_
    refine goes_seq ?_
    refine goes_region ?_
    refine go1 (op_moveA rfl plain_rw (.t (has rfl))) rfl ?_
    refine go1 (op_assignA rfl plain_rw (.t (has rfl))) rfl ?_
    refine go1 (op_assign rfl (.int _ _)) rfl ?_
    refine goesO_nil ?_
    refine ends_then ?_
    refine goes_release 4 900 rfl rfl rfl ?_
    obtain rfl := Option.some.inj H
    exact goes_ret (ends_ret' rfl rfl (.t rfl (.t rfl (.nil _))))
theorem graph_Reach.conF (k : Nat) (a0 : Make) (a1 : List ByteArray) (r : (List ByteArray) × Int) (H : graph_Reach.f k a0 a1 = some r) : ConF Try.prog 15 [VA.k kMake a0, VA.k (kslice kstr) a1] [VA.own 9 kstr r.1, VA.k (kint .i64) r.2] := (graph_Reach.con k a0 a1 r H).freeL (.cons (KFree.own KFree.str _ _) (.cons (KFree.k (KFree.int .i64) _) .nil))
/-! smithy/smithyref10.Needs -/
def smithyref10_Needs.l0 (a0 : Make) (a1 : ByteArray) : Nat → Int → Option (Except (List ByteArray) Unit)
  | 0, _ => none
  | k + 1, s1 => bif icmp .lss s1 (a0.Rules.length : Int) then ((idx a0.Rules s1).bind fun x6 => bif scmp .eql x6.Target a1 then ((idx a0.Rules s1).bind fun x9 => some (Except.error x9.Needs)) else (smithyref10_Needs.l0 a0 a1 k (IntKind.i64.wrap (s1 + (1 : Int))))) else (some (Except.ok ()))
def smithyref10_Needs.f (k : Nat) (a0 : Make) (a1 : ByteArray) : Option (List ByteArray) := (smithyref10_Needs.l0 a0 a1 k (0 : Int)).bind fun o4 => match o4 with | .error r' => some r' | .ok s2 => (some ([] : List ByteArray))
set_option maxRecDepth 100000 in
set_option maxHeartbeats 4000000 in
theorem smithyref10_Needs.con (k : Nat) (a0 : Make) (a1 : ByteArray) (r : List ByteArray) (H : smithyref10_Needs.f k a0 a1 = some r) : Con Try.prog 8 [VA.k kMake a0, VA.k kstr a1] [VA.k (kslice kstr) r] := by
  unfold smithyref10_Needs.f at H
  refine con_enter Try.func8 rfl rfl rfl (fun w0 S0 θ => ?_)
  refine goes_seq ?_
  refine goes_region ?_
  refine go3 (op_box 2 rfl (fun h => by first | rfl | cases h) (.t (has rfl))) rfl ?_
  refine go1 (op_assign_nil 9 kstr (.inr rfl) rfl) rfl ?_
  refine goesO_nil ?_
  refine ends_then ?_
  refine goes_seq ?_
  refine goes_seq ?_
  refine goes_region ?_
  refine go1 (op_assign rfl (.int _ _)) rfl ?_
  refine goesO_nil ?_
  refine ends_then ?_
  obtain ⟨o4, h3, H⟩ := bind_some H
  refine goes_cutR (o := o4) (fun s2 : Unit => []) (fun r a w => bodyPost Try.prog Try.f8 (CPost w0 S0 θ [VA.k (kslice kstr) r]) .ret a w) ?_ ?_ ?_
  · replace H := h3; clear h3
    refine goes_block ?_
    refine goes_loop (fun s1 : Int => [Ent.t 1 (VA.k kstr a1), Ent.t 2 (VA.ptr 2 0), Ent.t 5 (VA.k (kint .i64) s1), Ent.h 2 (HE.box 29 kMake a0)]) (fun k s1 => smithyref10_Needs.l0 a0 a1 k s1) (fun _ => rfl) H (.cons rfl (.cons rfl (.cons rfl (.cons rfl .nil)))) ?_
    intro k s1 H
    simp only [smithyref10_Needs.l0] at H
    refine goes_seq ?_
    refine goes_seq ?_
    refine goes_region ?_
    refine go1 (op_move rfl (.t (has rfl))) rfl ?_
    refine go1 (op_fieldAddr rfl Try.underlying29 rfl tk23 (.t (has rfl))) rfl ?_
    refine go1 (op_load rfl fldMake_Rules tk23 (.t (has rfl)) (has rfl)) rfl ?_
    refine go1 (op_len rfl rfl Try.underlying23 (.t (has rfl))) rfl ?_
    refine go1 (op_icmp rfl rfl (.t (has rfl)) (.t (has rfl))) rfl ?_
    refine goesO_nil ?_
    refine ends_then ?_
    refine goes_if (.t (has rfl)) H (fun hb5 H => ?_) (fun hb5 H => ?_)
    · skip
      refine goes_skip ?_
      refine ends_then ?_
      refine goes_seq ?_
      refine goes_block ?_
      refine goes_seq ?_
      refine goes_region ?_
      refine go1 (op_fieldAddr rfl Try.underlying29 rfl tk23 (.t (has rfl))) rfl ?_
      refine go1 (op_load rfl fldMake_Rules tk23 (.t (has rfl)) (has rfl)) rfl ?_
      refine go1 (op_move rfl (.t (has rfl))) rfl ?_
      obtain ⟨x6, h7, H⟩ := bind_some H
      refine go1 (op_indexAddr rfl Try.underlying23 tk52 h7 (.t (has rfl)) (.t (has rfl))) rfl ?_
      refine go1 (op_fieldAddrp rfl fldRule_Target Try.underlying52 rfl tk9 (.t (has rfl))) rfl ?_
      refine go1 (op_loadp rfl tk9 (.t (has rfl))) rfl ?_
      refine go1 (op_move rfl (.t (has rfl))) rfl ?_
      refine go1 (op_scmp rfl rfl (.t (has rfl)) (.t (has rfl))) rfl ?_
      refine goesO_nil ?_
      refine ends_then ?_
      refine goes_if (.t (has rfl)) H (fun hb8 H => ?_) (fun hb8 H => ?_)
      · skip
        refine goes_seq ?_
        refine goes_region ?_
        refine go1 (op_fieldAddr rfl Try.underlying29 rfl tk23 (.t (has rfl))) rfl ?_
        refine go1 (op_load rfl fldMake_Rules tk23 (.t (has rfl)) (has rfl)) rfl ?_
        refine go1 (op_move rfl (.t (has rfl))) rfl ?_
        obtain ⟨x9, h10, H⟩ := bind_some H
        refine go1 (op_indexAddr rfl Try.underlying23 tk52 h10 (.t (has rfl)) (.t (has rfl))) rfl ?_
        refine go1 (op_fieldAddrp rfl fldRule_Needs Try.underlying52 rfl tk25 (.t (has rfl))) rfl ?_
        refine go1 (op_loadp rfl tk25 (.t (has rfl))) rfl ?_
        refine go1 (op_assign rfl (.t (has rfl))) rfl ?_
        refine goesO_nil ?_
        refine ends_then ?_
        obtain rfl := Option.some.inj H
        refine goes_ret (ends_block_ret (ends_then_ret (ends_then_ret (ends_block_ret (ends_cutR_ret rfl ?_)))))
        exact ends_ret' rfl rfl (.t rfl (.nil _))
      · skip
        refine goes_skip ?_
        refine ends_block ?_
        refine ends_then ?_
        refine goes_region ?_
        refine go1 (op_move rfl (.t (has rfl))) rfl ?_
        refine go1 (op_add rfl (.t (has rfl)) (.int _ _)) rfl ?_
        refine go1 (op_assign rfl (.t (has rfl))) rfl ?_
        refine goesO_nil ?_
        exact loop_next _ H (.cons rfl (.cons rfl (.cons rfl (.cons rfl .nil))))
    · skip
      refine goes_exit (ends_then_exit (ends_then_exit (ends_block_exit ?_)))
      obtain rfl := Option.some.inj H
      exact ends_cutR rfl .nil
  · rintro s2 rfl
    clear h3
    dsimp only at H
    refine ends_then ?_
    refine goes_seq ?_
    refine goes_region ?_
    refine go1 (op_assign_nil 9 kstr (.inr rfl) rfl) rfl ?_
    refine goesO_nil ?_
    refine ends_then ?_
    refine goes_settle 4 rfl rfl ?_
    obtain rfl := Option.some.inj H
    exact goes_ret (ends_ret' rfl rfl (.t rfl (.nil _)))
  · rintro r' rfl a w hr
    obtain rfl := Option.some.inj H
    exact hr
/-! smithy/smithyref03.Has -/
def smithyref03_Has.l0 (a0 : List ByteArray) (a1 : ByteArray) : Nat → Int → Option (Except Bool Unit)
  | 0, _ => none
  | k + 1, s1 => bif icmp .lss s1 (a0.length : Int) then ((idx a0 s1).bind fun x6 => bif scmp .eql x6 a1 then (some (Except.error true)) else (smithyref03_Has.l0 a0 a1 k (IntKind.i64.wrap (s1 + (1 : Int))))) else (some (Except.ok ()))
def smithyref03_Has.f (k : Nat) (a0 : List ByteArray) (a1 : ByteArray) : Option Bool := (smithyref03_Has.l0 a0 a1 k (0 : Int)).bind fun o4 => match o4 with | .error r' => some r' | .ok s2 => (some false)
set_option maxRecDepth 100000 in
set_option maxHeartbeats 4000000 in
theorem smithyref03_Has.con (k : Nat) (a0 : List ByteArray) (a1 : ByteArray) (r : Bool) (H : smithyref03_Has.f k a0 a1 = some r) : Con Try.prog 10 [VA.k (kslice kstr) a0, VA.k kstr a1] [VA.k kbool r] := by
  unfold smithyref03_Has.f at H
  refine con_enter Try.func10 rfl rfl rfl (fun w0 S0 θ => ?_)
  refine goes_seq ?_
  refine goes_region ?_
  refine go1 (op_assign rfl (.bool _)) rfl ?_
  refine goesO_nil ?_
  refine ends_then ?_
  refine goes_seq ?_
  refine goes_seq ?_
  refine goes_region ?_
  refine go1 (op_move rfl (.t (has rfl))) rfl ?_
  refine go1 (op_len rfl rfl Try.underlying25 (.t (has rfl))) rfl ?_
  refine go1 (op_move rfl (.int _ _)) rfl ?_
  refine goesO_nil ?_
  refine ends_then ?_
  obtain ⟨o4, h3, H⟩ := bind_some H
  refine goes_cutR (o := o4) (fun s2 : Unit => []) (fun r a w => bodyPost Try.prog Try.f10 (CPost w0 S0 θ [VA.k kbool r]) .ret a w) ?_ ?_ ?_
  · replace H := h3; clear h3
    refine goes_block ?_
    refine goes_loop (fun s1 : Int => [Ent.t 1 (VA.k kstr a1), Ent.t 7 (VA.k (kslice kstr) a0), Ent.t 8 (VA.k (kint .i64) (a0.length : Int)), Ent.t 9 (VA.k (kint .i64) s1)]) (fun k s1 => smithyref03_Has.l0 a0 a1 k s1) (fun _ => rfl) H (.cons rfl (.cons rfl (.cons rfl (.cons rfl .nil)))) ?_
    intro k s1 H
    simp only [smithyref03_Has.l0] at H
    refine goes_seq ?_
    refine goes_region ?_
    refine go1 (op_icmp rfl rfl (.t (has rfl)) (.t (has rfl))) rfl ?_
    refine goesO_nil ?_
    refine ends_then ?_
    refine goes_seq ?_
    refine goes_if (.t (has rfl)) H (fun hb5 H => ?_) (fun hb5 H => ?_)
    · skip
      refine goes_skip ?_
      refine ends_then ?_
      refine goes_seq ?_
      refine goes_block ?_
      refine goes_seq ?_
      refine goes_region ?_
      obtain ⟨x6, h7, H⟩ := bind_some H
      refine go1 (op_indexAddr rfl Try.underlying25 tk9 h7 (.t (has rfl)) (.t (has rfl))) rfl ?_
      refine go1 (op_loadp rfl tk9 (.t (has rfl))) rfl ?_
      refine go1 (op_assign rfl (.t (has rfl))) rfl ?_
      refine goesO_nil ?_
      refine ends_then ?_
      refine goes_seq ?_
      refine goes_region ?_
      refine go1 (op_move rfl (.t (has rfl))) rfl ?_
      refine go1 (op_move rfl (.t (has rfl))) rfl ?_
      refine go1 (op_scmp rfl rfl (.t (has rfl)) (.t (has rfl))) rfl ?_
      refine goesO_nil ?_
      refine ends_then ?_
      refine goes_if (.t (has rfl)) H (fun hb8 H => ?_) (fun hb8 H => ?_)
      · skip
        refine goes_seq ?_
        refine goes_region ?_
        refine go1 (op_assign rfl (.bool _)) rfl ?_
        refine goesO_nil ?_
        refine ends_then ?_
        obtain rfl := Option.some.inj H
        refine goes_ret (ends_block_ret (ends_then_ret (ends_then_ret (ends_block_ret (ends_cutR_ret rfl ?_)))))
        exact ends_ret' rfl rfl (.t rfl (.nil _))
      · skip
        refine goes_skip ?_
        refine ends_block ?_
        refine ends_then ?_
        refine goes_region ?_
        refine go1 (op_add rfl (.t (has rfl)) (.int _ _)) rfl ?_
        refine go1 (op_move rfl (.t (has rfl))) rfl ?_
        refine goesO_nil ?_
        exact loop_next _ H (.cons rfl (.cons rfl (.cons rfl (.cons rfl .nil))))
    · skip
      refine goes_exit (ends_then_exit (ends_then_exit (ends_block_exit ?_)))
      obtain rfl := Option.some.inj H
      exact ends_cutR rfl .nil
  · rintro s2 rfl
    clear h3
    dsimp only at H
    refine ends_then ?_
    refine goes_seq ?_
    refine goes_region ?_
    refine go1 (op_assign rfl (.bool _)) rfl ?_
    refine goesO_nil ?_
    refine ends_then ?_
    obtain rfl := Option.some.inj H
    exact goes_ret (ends_ret' rfl rfl (.t rfl (.nil _)))
  · rintro r' rfl a w hr
    obtain rfl := Option.some.inj H
    exact hr
theorem smithyref03_Has.conF (k : Nat) (a0 : List ByteArray) (a1 : ByteArray) (r : Bool) (H : smithyref03_Has.f k a0 a1 = some r) : ConF Try.prog 10 [VA.k (kslice kstr) a0, VA.k kstr a1] [VA.k kbool r] := (smithyref03_Has.con k a0 a1 r H).freeL (.cons (KFree.k KFree.bool _) .nil)
/-! smithy/smithylaw10.GraphRings -/
def smithylaw10_GraphRings.l0 (a0 : Make) (v1 : (List ByteArray) × Bool × Int) (v12 : (List ByteArray) × Int) : Nat → Int → Option (Except Bool Unit)
  | 0, _ => none
  | k + 1, s18 => bif icmp .lss s18 (v1.1.length : Int) then ((idx v1.1 (0 : Int)).bind fun x23 => (bif icmp .lss (IntKind.i64.wrap (s18 + (1 : Int))) (v1.1.length : Int) then ((idx v1.1 (IntKind.i64.wrap (s18 + (1 : Int)))).bind fun x28 => some x28) else (some x23)).bind fun s25 => ((idx v1.1 s18).bind fun x32 => (smithyref10_Needs.f k a0 x32).bind fun v34 => (smithyref03_Has.f k v34 s25).bind fun v36 => bif !v36 then (some true) else ((idx v1.1 s18).bind fun x39 => (smithyref03_Has.f k v12.1 x39).bind fun v41 => some (!v41))).bind fun s30 => bif s30 then (some (Except.error false)) else (smithylaw10_GraphRings.l0 a0 v1 v12 k (IntKind.i64.wrap (s18 + (1 : Int))))) else (some (Except.ok ()))
def smithylaw10_GraphRings.f (k : Nat) (a0 : Make) (a1 : List ByteArray) : Option Bool := (graph_Ring.f k a0 a1).bind fun v1 => (bif icmp .neq v1.2.2 (0 : Int) then (some true) else (some (!v1.2.1))).bind fun s3 => bif s3 then ((bif icmp .eql (v1.1.length : Int) (0 : Int) then ((smithylaw10_speaks.f k).bind fun v10 => some v10) else (some false)).bind fun s7 => some s7) else ((graph_Reach.f k a0 a1).bind fun v12 => (bif icmp .neq v12.2 (0 : Int) then (some true) else (some (icmp .eql (v1.1.length : Int) (0 : Int)))).bind fun s14 => bif s14 then (some false) else ((smithylaw10_GraphRings.l0 a0 v1 v12 k (0 : Int)).bind fun o21 => match o21 with | .error r' => some r' | .ok s19 => ((smithylaw10_speaks.f k).bind fun v44 => some v44)))
set_option maxRecDepth 100000 in
set_option maxHeartbeats 4000000 in
theorem smithylaw10_GraphRings.con (k : Nat) (a0 : Make) (a1 : List ByteArray) (r : Bool) (H : smithylaw10_GraphRings.f k a0 a1 = some r) : Con Try.prog 5 [VA.k kMake a0, VA.k (kslice kstr) a1] [VA.k kbool r] := by
  unfold smithylaw10_GraphRings.f at H
  refine con_enter Try.func5 rfl rfl rfl (fun w0 S0 θ => ?_)
  refine goes_seq ?_
  refine goes_region ?_
  refine go3 (op_box 2 rfl (fun h => by first | rfl | cases h) (.t (has rfl))) rfl ?_
  refine go1 (op_assign rfl (.bool _)) rfl ?_
  refine goesO_nil ?_
  refine ends_then ?_
  refine goes_seq ?_
  refine goes_region ?_
  refine go1 (op_load rfl (Fld.whole kMake) tk29 (.t (has rfl)) (has rfl)) rfl ?_
  refine go1 (op_move rfl (.t (has rfl))) rfl ?_
  obtain ⟨v1, h2, H⟩ := bind_some H
  refine goN (op_calls' rfl enters12 (graph_Ring.con _ _ _ _ h2) rfl rfl (.cons (ArgP.k (.t (has rfl))) (.cons (ArgP.k (.t (has rfl))) .nil))) rfl ?_
  refine go1 (op_same (.inl rfl) rfl rfl) rfl ?_
  refine go1 (op_extract_same rfl plain_k (has rfl) (has rfl)) rfl ?_
  refine go1 (op_extract_same rfl plain_k (has rfl) (has rfl)) rfl ?_
  refine go1 (op_extract_same rfl plain_k (has rfl) (has rfl)) rfl ?_
  refine go1 (op_assign rfl (.t (has rfl))) rfl ?_
  refine go1 (op_assign rfl (.t (has rfl))) rfl ?_
  refine go1 (op_assign rfl (.t (has rfl))) rfl ?_
  refine goesO_nil ?_
  refine ends_then ?_
  refine goes_seq ?_
  refine goes_seq ?_
  obtain ⟨s3, h4, H⟩ := bind_some H
  refine goes_cut [Ent.t 1 (VA.k (kslice kstr) a1), Ent.t 2 (VA.ptr 2 0), Ent.t 5 (VA.k (kslice kstr) v1.1), Ent.t 24 (VA.k kbool s3), Ent.h 2 (HE.box 29 kMake a0)] ?_ ?_
  · replace H := h4; clear h4
    refine goes_region ?_
    refine go1 (op_move rfl (.t (has rfl))) rfl ?_
    refine go1 (op_icmp rfl rfl (.t (has rfl)) (.int _ _)) rfl ?_
    refine go1 (op_move rfl (.t (has rfl))) rfl ?_
    refine goesO_split H (fun hb5 H => ?_) (fun hb5 H => ?_)
    · skip
      refine goS rfl rfl rfl rfl rfl rfl hb5 ?_
      refine goS rfl rfl rfl rfl rfl rfl hb5 ?_
      refine go1 (op_pick_t rfl hb5 (.t (has rfl)) (.bool _)) rfl ?_
      refine goesO_nil ?_
      obtain rfl := Option.some.inj H
      exact ends_cut (.cons rfl (.cons rfl (.cons rfl (.cons rfl (.cons rfl .nil)))))
    · skip
      refine goG (op_move rfl (.t (has rfl))) rfl rfl rfl rfl hb5 ?_
      refine goG (op_not rfl (.t (has rfl))) rfl rfl rfl rfl hb5 ?_
      refine go1 (op_pick_f rfl hb5 (.t (has rfl)) (.t (has rfl))) rfl ?_
      refine goesO_nil ?_
      obtain rfl := Option.some.inj H
      exact ends_cut (.cons rfl (.cons rfl (.cons rfl (.cons rfl (.cons rfl .nil)))))
  refine ends_then ?_
  refine goes_if (.t (has rfl)) H (fun hb6 H => ?_) (fun hb6 H => ?_)
  · skip
    refine goes_seq ?_
    obtain ⟨s7, h8, H⟩ := bind_some H
    refine goes_cut [Ent.t 4 (VA.k kbool s7)] ?_ ?_
    · replace H := h8; clear h8
      refine goes_region ?_
      refine go1 (op_move rfl (.t (has rfl))) rfl ?_
      refine go1 (op_len rfl rfl Try.underlying25 (.t (has rfl))) rfl ?_
      refine go1 (op_icmp rfl rfl (.t (has rfl)) (.int _ _)) rfl ?_
      refine go1 (op_move rfl (.t (has rfl))) rfl ?_
      refine goesO_split H (fun hb9 H => ?_) (fun hb9 H => ?_)
      · skip
        obtain ⟨v10, h11, H⟩ := bind_some H
        refine goG (op_call' rfl enters7 (smithylaw10_speaks.con _  _ h11) rfl .nil) rfl rfl rfl rfl hb9 ?_
        refine go1 (op_pick_t rfl hb9 (.t (has rfl)) (.t (has rfl))) rfl ?_
        refine go1 (op_assign rfl (.t (has rfl))) rfl ?_
        refine goesO_nil ?_
        obtain rfl := Option.some.inj H
        exact ends_cut (.cons rfl .nil)
      · skip
        refine goS rfl rfl rfl rfl rfl rfl hb9 ?_
        refine go1 (op_pick_f rfl hb9 (.t (has rfl)) (.bool _)) rfl ?_
        refine go1 (op_assign rfl (.t (has rfl))) rfl ?_
        refine goesO_nil ?_
        obtain rfl := Option.some.inj H
        exact ends_cut (.cons rfl .nil)
    refine ends_then ?_
    obtain rfl := Option.some.inj H
    exact goes_ret (ends_then_ret (ends_ret' rfl rfl (.t rfl (.nil _))))
  · skip
    refine goes_skip ?_
    refine ends_then ?_
    refine goes_seq ?_
    refine goes_region ?_
    refine go1 (op_load rfl (Fld.whole kMake) tk29 (.t (has rfl)) (has rfl)) rfl ?_
    refine go1 (op_move rfl (.t (has rfl))) rfl ?_
    obtain ⟨v12, h13, H⟩ := bind_some H
    refine goN (op_calls' rfl enters15 (graph_Reach.con _ _ _ _ h13) rfl rfl (.cons (ArgP.k (.t (has rfl))) (.cons (ArgP.k (.t (has rfl))) .nil))) rfl ?_
    refine go1 (op_same (.inl rfl) rfl rfl) rfl ?_
    refine go2 (op_extract_own_same rfl rfl rfl (has rfl) (has rfl)) rfl ?_
    refine go1 (op_extract_same rfl plain_k (has rfl) (has rfl)) rfl ?_
    refine go2 (op_mv (.inr rfl) rfl rfl (has rfl)) rfl ?_
    refine go1 (op_assign rfl (.t (has rfl))) rfl ?_
    refine goesO_nil ?_
    refine ends_then ?_
    refine goes_seq ?_
    refine goes_seq ?_
    obtain ⟨s14, h15, H⟩ := bind_some H
    refine goes_cut [Ent.t 2 (VA.ptr 2 0), Ent.t 5 (VA.k (kslice kstr) v1.1), Ent.t 8 (VA.own 9 kstr v12.1), Ent.t 43 (VA.k kbool s14), Ent.h 2 (HE.box 29 kMake a0)] ?_ ?_
    · replace H := h15; clear h15
      refine goes_region ?_
      refine go1 (op_move rfl (.t (has rfl))) rfl ?_
      refine go1 (op_icmp rfl rfl (.t (has rfl)) (.int _ _)) rfl ?_
      refine go1 (op_move rfl (.t (has rfl))) rfl ?_
      refine goesO_split H (fun hb16 H => ?_) (fun hb16 H => ?_)
      · skip
        refine goS rfl rfl rfl rfl rfl rfl hb16 ?_
        refine goS rfl rfl rfl rfl rfl rfl hb16 ?_
        refine goS rfl rfl rfl rfl rfl rfl hb16 ?_
        refine go1 (op_pick_t rfl hb16 (.t (has rfl)) (.bool _)) rfl ?_
        refine goesO_nil ?_
        obtain rfl := Option.some.inj H
        exact ends_cut (.cons rfl (.cons rfl (.cons rfl (.cons rfl (.cons rfl .nil)))))
      · skip
        refine goG (op_move rfl (.t (has rfl))) rfl rfl rfl rfl hb16 ?_
        refine goG (op_len rfl rfl Try.underlying25 (.t (has rfl))) rfl rfl rfl rfl hb16 ?_
        refine goG (op_icmp rfl rfl (.t (has rfl)) (.int _ _)) rfl rfl rfl rfl hb16 ?_
        refine go1 (op_pick_f rfl hb16 (.t (has rfl)) (.t (has rfl))) rfl ?_
        refine goesO_nil ?_
        obtain rfl := Option.some.inj H
        exact ends_cut (.cons rfl (.cons rfl (.cons rfl (.cons rfl (.cons rfl .nil)))))
    refine ends_then ?_
    refine goes_if (.t (has rfl)) H (fun hb17 H => ?_) (fun hb17 H => ?_)
    · skip
      refine goes_seq ?_
      refine goes_region ?_
      refine go1 (op_assign rfl (.bool _)) rfl ?_
      refine goesO_nil ?_
      refine ends_then ?_
      obtain rfl := Option.some.inj H
      exact goes_ret (ends_then_ret (ends_ret' rfl rfl (.t rfl (.nil _))))
    · skip
      refine goes_skip ?_
      refine ends_then ?_
      refine goes_seq ?_
      refine goes_seq ?_
      refine goes_region ?_
      refine go1 (op_assign rfl (.int _ _)) rfl ?_
      refine goesO_nil ?_
      refine ends_then ?_
      refine goes_settle 8 rfl rfl ?_
      obtain ⟨o21, h20, H⟩ := bind_some H
      refine goes_cutR (o := o21) (fun s19 : Unit => []) (fun r a w => bodyPost Try.prog Try.f5 (CPost w0 S0 θ [VA.k kbool r]) .ret a w) ?_ ?_ ?_
      · replace H := h20; clear h20
        refine goes_block ?_
        refine goes_loop (fun s18 : Int => [Ent.t 2 (VA.ptr 2 0), Ent.t 5 (VA.k (kslice kstr) v1.1), Ent.t 8 (VA.k (kslice kstr) v12.1), Ent.t 10 (VA.k (kint .i64) s18), Ent.h 2 (HE.box 29 kMake a0)]) (fun k s18 => smithylaw10_GraphRings.l0 a0 v1 v12 k s18) (fun _ => rfl) H (.cons rfl (.cons rfl (.cons rfl (.cons rfl (.cons rfl .nil))))) ?_
        intro k s18 H
        simp only [smithylaw10_GraphRings.l0] at H
        refine goes_seq ?_
        refine goes_seq ?_
        refine goes_region ?_
        refine go1 (op_move rfl (.t (has rfl))) rfl ?_
        refine go1 (op_move rfl (.t (has rfl))) rfl ?_
        refine go1 (op_len rfl rfl Try.underlying25 (.t (has rfl))) rfl ?_
        refine go1 (op_icmp rfl rfl (.t (has rfl)) (.t (has rfl))) rfl ?_
        refine goesO_nil ?_
        refine ends_then ?_
        refine goes_if (.t (has rfl)) H (fun hb22 H => ?_) (fun hb22 H => ?_)
        · skip
          refine goes_skip ?_
          refine ends_then ?_
          refine goes_seq ?_
          refine goes_block ?_
          refine goes_seq ?_
          refine goes_region ?_
          refine go1 (op_move rfl (.t (has rfl))) rfl ?_
          obtain ⟨x23, h24, H⟩ := bind_some H
          refine go1 (op_indexAddr rfl Try.underlying25 tk9 h24 (.t (has rfl)) (.int _ _)) rfl ?_
          refine go1 (op_loadp rfl tk9 (.t (has rfl))) rfl ?_
          refine go1 (op_assign rfl (.t (has rfl))) rfl ?_
          refine goesO_nil ?_
          refine ends_then ?_
          refine goes_seq ?_
          refine goes_seq ?_
          refine goes_region ?_
          refine go1 (op_move rfl (.t (has rfl))) rfl ?_
          refine go1 (op_add rfl (.t (has rfl)) (.int _ _)) rfl ?_
          refine go1 (op_move rfl (.t (has rfl))) rfl ?_
          refine go1 (op_len rfl rfl Try.underlying25 (.t (has rfl))) rfl ?_
          refine go1 (op_icmp rfl rfl (.t (has rfl)) (.t (has rfl))) rfl ?_
          refine goesO_nil ?_
          refine ends_then ?_
          obtain ⟨s25, h26, H⟩ := bind_some H
          refine goes_cut [Ent.t 2 (VA.ptr 2 0), Ent.t 5 (VA.k (kslice kstr) v1.1), Ent.t 8 (VA.k (kslice kstr) v12.1), Ent.t 10 (VA.k (kint .i64) s18), Ent.t 11 (VA.k kstr s25), Ent.h 2 (HE.box 29 kMake a0)] ?_ ?_
          · replace H := h26; clear h26
            refine goes_if (.t (has rfl)) H (fun hb27 H => ?_) (fun hb27 H => ?_)
            · skip
              refine goes_region ?_
              refine go1 (op_move rfl (.t (has rfl))) rfl ?_
              refine go1 (op_move rfl (.t (has rfl))) rfl ?_
              refine go1 (op_add rfl (.t (has rfl)) (.int _ _)) rfl ?_
              obtain ⟨x28, h29, H⟩ := bind_some H
              refine go1 (op_indexAddr rfl Try.underlying25 tk9 h29 (.t (has rfl)) (.t (has rfl))) rfl ?_
              refine go1 (op_loadp rfl tk9 (.t (has rfl))) rfl ?_
              refine go1 (op_assign rfl (.t (has rfl))) rfl ?_
              refine goesO_nil ?_
              obtain rfl := Option.some.inj H
              exact ends_cut (.cons rfl (.cons rfl (.cons rfl (.cons rfl (.cons rfl (.cons rfl .nil))))))
            · skip
              refine goes_skip ?_
              obtain rfl := Option.some.inj H
              exact ends_cut (.cons rfl (.cons rfl (.cons rfl (.cons rfl (.cons rfl (.cons rfl .nil))))))
          refine ends_then ?_
          refine goes_seq ?_
          obtain ⟨s30, h31, H⟩ := bind_some H
          refine goes_cut [Ent.t 2 (VA.ptr 2 0), Ent.t 5 (VA.k (kslice kstr) v1.1), Ent.t 8 (VA.k (kslice kstr) v12.1), Ent.t 10 (VA.k (kint .i64) s18), Ent.t 80 (VA.k kbool s30), Ent.h 2 (HE.box 29 kMake a0)] ?_ ?_
          · replace H := h31; clear h31
            obtain ⟨x32, h33, H⟩ := bind_some H
            obtain ⟨v34, h35, H⟩ := bind_some H
            obtain ⟨v36, h37, H⟩ := bind_some H
            refine goes_split H (fun hb38 H => ?_) (fun hb38 H => ?_)
            · skip
              refine goes_drawn [[Ent.t 63 (VA.k kMake a0)], [Ent.t 64 (VA.k (kslice kstr) v1.1)], [Ent.t 65 (VA.k (kint .i64) s18)], [Ent.t 66 (VA.pt kstr x32)], [Ent.t 67 (VA.k kstr x32)], [Ent.t 68 (VA.k (kslice kstr) v34)], [Ent.t 69 (VA.k kstr s25)], [Ent.t 70 (VA.k kbool v36)], [Ent.t 71 (VA.k kbool (!v36))], [Ent.t 72 (VA.k kbool (!v36))], [Ent.t 73 (VA.v undef)], [Ent.t 74 (VA.v undef)], [Ent.t 75 (VA.v undef)], [Ent.t 76 (VA.v undef)], [Ent.t 77 (VA.v undef)], [Ent.t 78 (VA.v undef)], [Ent.t 79 (VA.v undef)], [Ent.t 80 (VA.k kbool true)]] mixed (by kernel_rfl) (by kernel_rfl) (.cons [(none, Ent.t 2 (VA.ptr 2 0)), (none, Ent.h 2 (HE.box 29 kMake a0))] (OpSpec.run rfl rfl (op_load rfl (Fld.whole kMake) tk29 (.t NL.h0) (NL.hs NL.h0)) rfl) (.cons (has rfl) (.cons (has rfl) .nil)) (by kernel_rfl) (.cons [(none, Ent.t 5 (VA.k (kslice kstr) v1.1))] (OpSpec.run rfl rfl (op_move rfl (.t NL.h0)) rfl) (.cons (has rfl) .nil) (by kernel_rfl) (.cons [(none, Ent.t 10 (VA.k (kint .i64) s18))] (OpSpec.run rfl rfl (op_move rfl (.t NL.h0)) rfl) (.cons (has rfl) .nil) (by kernel_rfl) (.cons [(some 1, Ent.t 64 (VA.k (kslice kstr) v1.1)), (some 2, Ent.t 65 (VA.k (kint .i64) s18))] (OpSpec.run rfl rfl (op_indexAddr rfl Try.underlying25 tk9 h33 (.t NL.h0) (.t (NL.hs NL.h0))) rfl) (.cons (has rfl) (.cons (has rfl) .nil)) (by kernel_rfl) (.cons [(some 3, Ent.t 66 (VA.pt kstr x32))] (OpSpec.run rfl rfl (op_loadp rfl tk9 (.t NL.h0)) rfl) (.cons (has rfl) .nil) (by kernel_rfl) (.cons [(some 0, Ent.t 63 (VA.k kMake a0)), (some 4, Ent.t 67 (VA.k kstr x32))] (OpSpec.run rfl rfl (op_call' rfl enters8 (smithyref10_Needs.con _ _ _ _ h35) rfl (.cons (ArgP.k (.t NL.h0)) (.cons (ArgP.k (.t (NL.hs NL.h0))) .nil))) rfl) (.cons (has rfl) (.cons (has rfl) .nil)) (by kernel_rfl) (.cons [(none, Ent.t 11 (VA.k kstr s25))] (OpSpec.run rfl rfl (op_move rfl (.t NL.h0)) rfl) (.cons (has rfl) .nil) (by kernel_rfl) (.cons [(some 5, Ent.t 68 (VA.k (kslice kstr) v34)), (some 6, Ent.t 69 (VA.k kstr s25))] (OpSpec.run rfl rfl (op_call' rfl enters10 (smithyref03_Has.con _ _ _ _ h37) rfl (.cons (ArgP.k (.t NL.h0)) (.cons (ArgP.k (.t (NL.hs NL.h0))) .nil))) rfl) (.cons (has rfl) (.cons (has rfl) .nil)) (by kernel_rfl) (.cons [(some 7, Ent.t 70 (VA.k kbool v36))] (OpSpec.run rfl rfl (op_not rfl (.t NL.h0)) rfl) (.cons (has rfl) .nil) (by kernel_rfl) (.cons [(some 8, Ent.t 71 (VA.k kbool (!v36)))] (OpSpec.run rfl rfl (op_move rfl (.t NL.h0)) rfl) (.cons (has rfl) .nil) (by kernel_rfl) (.cons [(some 9, Ent.t 72 (VA.k kbool (!v36)))] (run_skip rfl rfl rfl rfl rfl rfl NL.h0 hb38) (.cons (has rfl) .nil) (by kernel_rfl) (.cons [(some 9, Ent.t 72 (VA.k kbool (!v36)))] (run_skip rfl rfl rfl rfl rfl rfl NL.h0 hb38) (.cons (has rfl) .nil) (by kernel_rfl) (.cons [(some 9, Ent.t 72 (VA.k kbool (!v36)))] (run_skip rfl rfl rfl rfl rfl rfl NL.h0 hb38) (.cons (has rfl) .nil) (by kernel_rfl) (.cons [(some 9, Ent.t 72 (VA.k kbool (!v36)))] (run_skip rfl rfl rfl rfl rfl rfl NL.h0 hb38) (.cons (has rfl) .nil) (by kernel_rfl) (.cons [(some 9, Ent.t 72 (VA.k kbool (!v36)))] (run_skip rfl rfl rfl rfl rfl rfl NL.h0 hb38) (.cons (has rfl) .nil) (by kernel_rfl) (.cons [(some 9, Ent.t 72 (VA.k kbool (!v36)))] (run_skip rfl rfl rfl rfl rfl rfl NL.h0 hb38) (.cons (has rfl) .nil) (by kernel_rfl) (.cons [(some 9, Ent.t 72 (VA.k kbool (!v36)))] (run_skip rfl rfl rfl rfl rfl rfl NL.h0 hb38) (.cons (has rfl) .nil) (by kernel_rfl) (.cons [(some 9, Ent.t 72 (VA.k kbool (!v36)))] (OpSpec.run rfl rfl (op_pick_t rfl hb38 (.t NL.h0) (.bool _)) rfl) (.cons (has rfl) .nil) (by kernel_rfl) (.nil _))))))))))))))))))) ?_
              refine ends_sub [Ent.t 2 (VA.ptr 2 0), Ent.t 5 (VA.k (kslice kstr) v1.1), Ent.t 8 (VA.k (kslice kstr) v12.1), Ent.t 10 (VA.k (kint .i64) s18), Ent.t 80 (VA.k kbool true), Ent.h 2 (HE.box 29 kMake a0)] (.cons rfl (.cons rfl (.cons rfl (.cons rfl (.cons rfl (.cons rfl .nil)))))) ?_
              obtain rfl := Option.some.inj H
              exact ends_cut (.cons rfl (.cons rfl (.cons rfl (.cons rfl (.cons rfl (.cons rfl .nil))))))
            · skip
              obtain ⟨x39, h40, H⟩ := bind_some H
              obtain ⟨v41, h42, H⟩ := bind_some H
              refine goes_drawn [[Ent.t 63 (VA.k kMake a0)], [Ent.t 64 (VA.k (kslice kstr) v1.1)], [Ent.t 65 (VA.k (kint .i64) s18)], [Ent.t 66 (VA.pt kstr x32)], [Ent.t 67 (VA.k kstr x32)], [Ent.t 68 (VA.k (kslice kstr) v34)], [Ent.t 69 (VA.k kstr s25)], [Ent.t 70 (VA.k kbool v36)], [Ent.t 71 (VA.k kbool (!v36))], [Ent.t 72 (VA.k kbool (!v36))], [Ent.t 73 (VA.k (kslice kstr) v12.1)], [Ent.t 74 (VA.k (kslice kstr) v1.1)], [Ent.t 75 (VA.k (kint .i64) s18)], [Ent.t 76 (VA.pt kstr x39)], [Ent.t 77 (VA.k kstr x39)], [Ent.t 78 (VA.k kbool v41)], [Ent.t 79 (VA.k kbool (!v41))], [Ent.t 80 (VA.k kbool (!v41))]] mixed (by kernel_rfl) (by kernel_rfl) (.cons [(none, Ent.t 2 (VA.ptr 2 0)), (none, Ent.h 2 (HE.box 29 kMake a0))] (OpSpec.run rfl rfl (op_load rfl (Fld.whole kMake) tk29 (.t NL.h0) (NL.hs NL.h0)) rfl) (.cons (has rfl) (.cons (has rfl) .nil)) (by kernel_rfl) (.cons [(none, Ent.t 5 (VA.k (kslice kstr) v1.1))] (OpSpec.run rfl rfl (op_move rfl (.t NL.h0)) rfl) (.cons (has rfl) .nil) (by kernel_rfl) (.cons [(none, Ent.t 10 (VA.k (kint .i64) s18))] (OpSpec.run rfl rfl (op_move rfl (.t NL.h0)) rfl) (.cons (has rfl) .nil) (by kernel_rfl) (.cons [(some 1, Ent.t 64 (VA.k (kslice kstr) v1.1)), (some 2, Ent.t 65 (VA.k (kint .i64) s18))] (OpSpec.run rfl rfl (op_indexAddr rfl Try.underlying25 tk9 h33 (.t NL.h0) (.t (NL.hs NL.h0))) rfl) (.cons (has rfl) (.cons (has rfl) .nil)) (by kernel_rfl) (.cons [(some 3, Ent.t 66 (VA.pt kstr x32))] (OpSpec.run rfl rfl (op_loadp rfl tk9 (.t NL.h0)) rfl) (.cons (has rfl) .nil) (by kernel_rfl) (.cons [(some 0, Ent.t 63 (VA.k kMake a0)), (some 4, Ent.t 67 (VA.k kstr x32))] (OpSpec.run rfl rfl (op_call' rfl enters8 (smithyref10_Needs.con _ _ _ _ h35) rfl (.cons (ArgP.k (.t NL.h0)) (.cons (ArgP.k (.t (NL.hs NL.h0))) .nil))) rfl) (.cons (has rfl) (.cons (has rfl) .nil)) (by kernel_rfl) (.cons [(none, Ent.t 11 (VA.k kstr s25))] (OpSpec.run rfl rfl (op_move rfl (.t NL.h0)) rfl) (.cons (has rfl) .nil) (by kernel_rfl) (.cons [(some 5, Ent.t 68 (VA.k (kslice kstr) v34)), (some 6, Ent.t 69 (VA.k kstr s25))] (OpSpec.run rfl rfl (op_call' rfl enters10 (smithyref03_Has.con _ _ _ _ h37) rfl (.cons (ArgP.k (.t NL.h0)) (.cons (ArgP.k (.t (NL.hs NL.h0))) .nil))) rfl) (.cons (has rfl) (.cons (has rfl) .nil)) (by kernel_rfl) (.cons [(some 7, Ent.t 70 (VA.k kbool v36))] (OpSpec.run rfl rfl (op_not rfl (.t NL.h0)) rfl) (.cons (has rfl) .nil) (by kernel_rfl) (.cons [(some 8, Ent.t 71 (VA.k kbool (!v36)))] (OpSpec.run rfl rfl (op_move rfl (.t NL.h0)) rfl) (.cons (has rfl) .nil) (by kernel_rfl) (.cons [(some 9, Ent.t 72 (VA.k kbool (!v36))), (none, Ent.t 8 (VA.k (kslice kstr) v12.1))] (OpSpec.runG rfl rfl rfl rfl NL.h0 hb38 (op_move rfl (.t (NL.hs NL.h0))) rfl) (.cons (has rfl) (.cons (has rfl) .nil)) (by kernel_rfl) (.cons [(some 9, Ent.t 72 (VA.k kbool (!v36))), (none, Ent.t 5 (VA.k (kslice kstr) v1.1))] (OpSpec.runG rfl rfl rfl rfl NL.h0 hb38 (op_move rfl (.t (NL.hs NL.h0))) rfl) (.cons (has rfl) (.cons (has rfl) .nil)) (by kernel_rfl) (.cons [(some 9, Ent.t 72 (VA.k kbool (!v36))), (none, Ent.t 10 (VA.k (kint .i64) s18))] (OpSpec.runG rfl rfl rfl rfl NL.h0 hb38 (op_move rfl (.t (NL.hs NL.h0))) rfl) (.cons (has rfl) (.cons (has rfl) .nil)) (by kernel_rfl) (.cons [(some 9, Ent.t 72 (VA.k kbool (!v36))), (some 11, Ent.t 74 (VA.k (kslice kstr) v1.1)), (some 12, Ent.t 75 (VA.k (kint .i64) s18))] (OpSpec.runG rfl rfl rfl rfl NL.h0 hb38 (op_indexAddr rfl Try.underlying25 tk9 h40 (.t (NL.hs NL.h0)) (.t (NL.hs (NL.hs NL.h0)))) rfl) (.cons (has rfl) (.cons (has rfl) (.cons (has rfl) .nil))) (by kernel_rfl) (.cons [(some 9, Ent.t 72 (VA.k kbool (!v36))), (some 13, Ent.t 76 (VA.pt kstr x39))] (OpSpec.runG rfl rfl rfl rfl NL.h0 hb38 (op_loadp rfl tk9 (.t (NL.hs NL.h0))) rfl) (.cons (has rfl) (.cons (has rfl) .nil)) (by kernel_rfl) (.cons [(some 9, Ent.t 72 (VA.k kbool (!v36))), (some 10, Ent.t 73 (VA.k (kslice kstr) v12.1)), (some 14, Ent.t 77 (VA.k kstr x39))] (OpSpec.runG rfl rfl rfl rfl NL.h0 hb38 (op_call' rfl enters10 (smithyref03_Has.con _ _ _ _ h42) rfl (.cons (ArgP.k (.t (NL.hs NL.h0))) (.cons (ArgP.k (.t (NL.hs (NL.hs NL.h0)))) .nil))) rfl) (.cons (has rfl) (.cons (has rfl) (.cons (has rfl) .nil))) (by kernel_rfl) (.cons [(some 9, Ent.t 72 (VA.k kbool (!v36))), (some 15, Ent.t 78 (VA.k kbool v41))] (OpSpec.runG rfl rfl rfl rfl NL.h0 hb38 (op_not rfl (.t (NL.hs NL.h0))) rfl) (.cons (has rfl) (.cons (has rfl) .nil)) (by kernel_rfl) (.cons [(some 9, Ent.t 72 (VA.k kbool (!v36))), (some 16, Ent.t 79 (VA.k kbool (!v41)))] (OpSpec.run rfl rfl (op_pick_f rfl hb38 (.t NL.h0) (.t (NL.hs NL.h0))) rfl) (.cons (has rfl) (.cons (has rfl) .nil)) (by kernel_rfl) (.nil _))))))))))))))))))) ?_
              refine ends_sub [Ent.t 2 (VA.ptr 2 0), Ent.t 5 (VA.k (kslice kstr) v1.1), Ent.t 8 (VA.k (kslice kstr) v12.1), Ent.t 10 (VA.k (kint .i64) s18), Ent.t 73 (VA.k (kslice kstr) v12.1), Ent.t 74 (VA.k (kslice kstr) v1.1), Ent.t 75 (VA.k (kint .i64) s18), Ent.t 76 (VA.pt kstr x39), Ent.t 77 (VA.k kstr x39), Ent.t 78 (VA.k kbool v41), Ent.t 79 (VA.k kbool (!v41)), Ent.t 80 (VA.k kbool (!v41)), Ent.h 2 (HE.box 29 kMake a0)] (.cons rfl (.cons rfl (.cons rfl (.cons rfl (.cons rfl (.cons rfl (.cons rfl (.cons rfl (.cons rfl (.cons rfl (.cons rfl (.cons rfl (.cons rfl .nil))))))))))))) ?_
              obtain rfl := Option.some.inj H
              exact ends_cut (.cons rfl (.cons rfl (.cons rfl (.cons rfl (.cons rfl (.cons rfl .nil))))))
          refine ends_then ?_
          refine goes_if (.t (has rfl)) H (fun hb43 H => ?_) (fun hb43 H => ?_)
          · skip
            refine goes_seq ?_
            refine goes_region ?_
            refine go1 (op_assign rfl (.bool _)) rfl ?_
            refine goesO_nil ?_
            refine ends_then ?_
            obtain rfl := Option.some.inj H
            refine goes_ret (ends_block_ret (ends_then_ret (ends_then_ret (ends_block_ret (ends_cutR_ret rfl ?_)))))
            exact ends_ret' rfl rfl (.t rfl (.nil _))
          · skip
            refine goes_skip ?_
            refine ends_block ?_
            refine ends_then ?_
            refine goes_region ?_
            refine go1 (op_move rfl (.t (has rfl))) rfl ?_
            refine go1 (op_add rfl (.t (has rfl)) (.int _ _)) rfl ?_
            refine go1 (op_assign rfl (.t (has rfl))) rfl ?_
            refine goesO_nil ?_
            exact loop_next _ H (.cons rfl (.cons rfl (.cons rfl (.cons rfl (.cons rfl .nil)))))
        · skip
          refine goes_exit (ends_then_exit (ends_then_exit (ends_block_exit ?_)))
          obtain rfl := Option.some.inj H
          exact ends_cutR rfl .nil
      · rintro s19 rfl
        clear h20
        dsimp only at H
        refine ends_then ?_
        refine goes_seq ?_
        refine goes_region ?_
        obtain ⟨v44, h45, H⟩ := bind_some H
        refine go1 (op_call' rfl enters7 (smithylaw10_speaks.con _  _ h45) rfl .nil) rfl ?_
        refine go1 (op_assign rfl (.t (has rfl))) rfl ?_
        refine goesO_nil ?_
        refine ends_then ?_
        obtain rfl := Option.some.inj H
        exact goes_ret (ends_ret' rfl rfl (.t rfl (.nil _)))
      · rintro r' rfl a w hr
        obtain rfl := Option.some.inj H
        exact hr
theorem smithylaw10_GraphRings.conF (k : Nat) (a0 : Make) (a1 : List ByteArray) (r : Bool) (H : smithylaw10_GraphRings.f k a0 a1 = some r) : ConF Try.prog 5 [VA.k kMake a0, VA.k (kslice kstr) a1] [VA.k kbool r] := (smithylaw10_GraphRings.con k a0 a1 r H).freeL (.cons (KFree.k KFree.bool _) .nil)
end Go.Proofs.Ytlpmolohppoofaa.F
