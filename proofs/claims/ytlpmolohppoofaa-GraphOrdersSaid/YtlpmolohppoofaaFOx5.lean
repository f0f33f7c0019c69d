import Derived.Test.YtlpmolohppoofaaFOx4
set_option linter.unusedVariables false
set_option linter.unusedSimpArgs false
set_option linter.unnecessarySimpa false
set_option linter.deprecated false
namespace Go.Proofs.Ytlpmolohppoofaa.F
open Go Go.RowKit Go.Proofs.Ytlpmolohppoofaa.Sl
/-! slices.BinarySearch[[]string,string] -/
def slices_BinarySearch_string_string.l0 (a0 : List ByteArray) (a1 : ByteArray) : Nat → (Int × Int) → Option Int
  | 0, _ => none
  | k + 1, s1 => bif icmp .lss s1.1 s1.2 then ((idx a0 (IntKind.i64.wrap ((IntKind.u64.wrap (IntKind.i64.wrap (s1.1 + s1.2))) / 2 ^ (Int.toNat (1 : Int))))).bind fun x5 => (cmp_Less_string.f x5 a1).bind fun v7 => bif v7 then (slices_BinarySearch_string_string.l0 a0 a1 k (IntKind.i64.wrap (IntKind.i64.wrap ((IntKind.u64.wrap (IntKind.i64.wrap (s1.1 + s1.2))) / 2 ^ (Int.toNat (1 : Int))) + (1 : Int)), s1.2)) else (slices_BinarySearch_string_string.l0 a0 a1 k (s1.1, IntKind.i64.wrap ((IntKind.u64.wrap (IntKind.i64.wrap (s1.1 + s1.2))) / 2 ^ (Int.toNat (1 : Int)))))) else (some s1.1)
def slices_BinarySearch_string_string.f (k : Nat) (a0 : List ByteArray) (a1 : ByteArray) : Option (Int × Bool) := (slices_BinarySearch_string_string.l0 a0 a1 k ((0 : Int), (a0.length : Int))).bind fun s2 => (bif icmp .lss s2 (a0.length : Int) then ((idx a0 s2).bind fun x13 => bif scmp .eql x13 a1 then (some true) else ((idx a0 s2).bind fun x16 => (slices_isNaN_string.f x16).bind fun v18 => bif v18 then ((slices_isNaN_string.f a1).bind fun v21 => some v21) else (some false))) else (some false)).bind fun s10 => some (s2, s10)
set_option maxRecDepth 100000 in
set_option maxHeartbeats 4000000 in
theorem slices_BinarySearch_string_string.con (k : Nat) (a0 : List ByteArray) (a1 : ByteArray) (r : Int × Bool) (H : slices_BinarySearch_string_string.f k a0 a1 = some r) : Con Try.prog 30 [VA.k (kslice kstr) a0, VA.k kstr a1] [VA.k (kint .i64) r.1, VA.k kbool r.2] := by
  unfold slices_BinarySearch_string_string.f at H
  refine con_enter Try.func30 rfl rfl rfl (fun w0 S0 θ => ?_)
  refine goes_seq ?_
  refine goes_region ?_
  refine go1 (op_assign rfl (.int _ _)) rfl ?_
  refine go1 (op_assign rfl (.bool _)) rfl ?_
  refine goesO_nil ?_
  refine ends_then ?_
  refine goes_seq ?_
  refine goes_region ?_
  refine go1 (op_move rfl (.t (has rfl))) rfl ?_
  refine go1 (op_len rfl rfl Try.underlying25 (.t (has rfl))) rfl ?_
  refine go1 (op_assign rfl (.t (has rfl))) rfl ?_
  refine goesO_nil ?_
  refine ends_then ?_
  refine goes_seq ?_
  refine goes_region ?_
  refine go1 (op_move rfl (.t (has rfl))) rfl ?_
  refine go1 (op_assign rfl (.int _ _)) rfl ?_
  refine go1 (op_assign rfl (.t (has rfl))) rfl ?_
  refine goesO_nil ?_
  refine ends_then ?_
  refine goes_seq ?_
  obtain ⟨s2, h3, H⟩ := bind_some H
  refine goes_cut [Ent.t 0 (VA.k (kslice kstr) a0), Ent.t 1 (VA.k kstr a1), Ent.t 6 (VA.k (kint .i64) (a0.length : Int)), Ent.t 7 (VA.k (kint .i64) s2)] ?_ ?_
  · replace H := h3; clear h3
    refine goes_block ?_
    refine goes_loop (fun s1 : Int × Int => [Ent.t 0 (VA.k (kslice kstr) a0), Ent.t 1 (VA.k kstr a1), Ent.t 6 (VA.k (kint .i64) (a0.length : Int)), Ent.t 7 (VA.k (kint .i64) s1.1), Ent.t 8 (VA.k (kint .i64) s1.2)]) (fun k s1 => slices_BinarySearch_string_string.l0 a0 a1 k s1) (fun _ => rfl) H (.cons rfl (.cons rfl (.cons rfl (.cons rfl (.cons rfl .nil))))) ?_
    intro k s1 H
    simp only [slices_BinarySearch_string_string.l0] at H
    refine goes_seq ?_
    refine goes_seq ?_
    refine goes_region ?_
    refine go1 (op_move rfl (.t (has rfl))) rfl ?_
    refine go1 (op_move rfl (.t (has rfl))) rfl ?_
    refine go1 (op_icmp rfl rfl (.t (has rfl)) (.t (has rfl))) rfl ?_
    refine goesO_nil ?_
    refine ends_then ?_
    refine goes_if (.t (has rfl)) H (fun hb4 H => ?_) (fun hb4 H => ?_)
    · skip
      refine goes_skip ?_
      refine ends_then ?_
      refine goes_block ?_
      refine goes_seq ?_
      refine goes_region ?_
      refine go1 (op_move rfl (.t (has rfl))) rfl ?_
      refine go1 (op_move rfl (.t (has rfl))) rfl ?_
      refine go1 (op_add rfl (.t (has rfl)) (.t (has rfl))) rfl ?_
      refine go1 (op_conv rfl Try.underlying3 Try.underlying81 (.t (has rfl))) rfl ?_
      refine go1 (op_shr rfl (by decide) (by decide) (.t (has rfl)) (.int _ _)) rfl ?_
      refine go1 (op_conv rfl Try.underlying81 Try.underlying3 (.t (has rfl))) rfl ?_
      refine go1 (op_assign rfl (.t (has rfl))) rfl ?_
      refine goesO_nil ?_
      refine ends_then ?_
      refine goes_seq ?_
      refine goes_region ?_
      refine go1 (op_move rfl (.t (has rfl))) rfl ?_
      refine go1 (op_move rfl (.t (has rfl))) rfl ?_
      obtain ⟨x5, h6, H⟩ := bind_some H
      refine go1 (op_indexAddr rfl Try.underlying25 tk9 h6 (.t (has rfl)) (.t (has rfl))) rfl ?_
      refine go1 (op_loadp rfl tk9 (.t (has rfl))) rfl ?_
      refine go1 (op_move rfl (.t (has rfl))) rfl ?_
      obtain ⟨v7, h8, H⟩ := bind_some H
      refine go1 (op_call' rfl enters42 (cmp_Less_string.con _ _ _ h8) rfl (.cons (ArgP.k (.t (has rfl))) (.cons (ArgP.k (.t (has rfl))) .nil))) rfl ?_
      refine goesO_nil ?_
      refine ends_then ?_
      refine goes_if (.t (has rfl)) H (fun hb9 H => ?_) (fun hb9 H => ?_)
      · skip
        refine goes_region ?_
        refine go1 (op_move rfl (.t (has rfl))) rfl ?_
        refine go1 (op_add rfl (.t (has rfl)) (.int _ _)) rfl ?_
        refine go1 (op_assign rfl (.t (has rfl))) rfl ?_
        refine goesO_nil ?_
        refine ends_block ?_
        exact loop_next _ H (.cons rfl (.cons rfl (.cons rfl (.cons rfl (.cons rfl .nil)))))
      · skip
        refine goes_region ?_
        refine go1 (op_move rfl (.t (has rfl))) rfl ?_
        refine go1 (op_assign rfl (.t (has rfl))) rfl ?_
        refine goesO_nil ?_
        refine ends_block ?_
        exact loop_next _ H (.cons rfl (.cons rfl (.cons rfl (.cons rfl (.cons rfl .nil)))))
    · skip
      refine goes_exit (ends_then_exit (ends_then_exit (ends_block_exit ?_)))
      obtain rfl := Option.some.inj H
      exact ends_cut (.cons rfl (.cons rfl (.cons rfl (.cons rfl .nil))))
  refine ends_then ?_
  refine goes_seq ?_
  obtain ⟨s10, h11, H⟩ := bind_some H
  refine goes_cut [Ent.t 4 (VA.k (kint .i64) s2), Ent.t 5 (VA.k kbool s10)] ?_ ?_
  · replace H := h11; clear h11
    refine goes_region ?_
    refine go1 (op_move rfl (.t (has rfl))) rfl ?_
    refine go1 (op_move rfl (.t (has rfl))) rfl ?_
    refine go1 (op_move rfl (.t (has rfl))) rfl ?_
    refine go1 (op_icmp rfl rfl (.t (has rfl)) (.t (has rfl))) rfl ?_
    refine go1 (op_move rfl (.t (has rfl))) rfl ?_
    refine goesO_split H (fun hb12 H => ?_) (fun hb12 H => ?_)
    · skip
      refine goG (op_move rfl (.t (has rfl))) rfl rfl rfl rfl hb12 ?_
      refine goG (op_move rfl (.t (has rfl))) rfl rfl rfl rfl hb12 ?_
      obtain ⟨x13, h14, H⟩ := bind_some H
      refine goG (op_indexAddr rfl Try.underlying25 tk9 h14 (.t (has rfl)) (.t (has rfl))) rfl rfl rfl rfl hb12 ?_
      refine goG (op_loadp rfl tk9 (.t (has rfl))) rfl rfl rfl rfl hb12 ?_
      refine goG (op_move rfl (.t (has rfl))) rfl rfl rfl rfl hb12 ?_
      refine goG (op_scmp rfl rfl (.t (has rfl)) (.t (has rfl))) rfl rfl rfl rfl hb12 ?_
      refine goG (op_move rfl (.t (has rfl))) rfl rfl rfl rfl hb12 ?_
      refine goesO_split H (fun hb15 H => ?_) (fun hb15 H => ?_)
      · skip
        refine goS rfl rfl rfl rfl rfl rfl hb15 ?_
        refine goS rfl rfl rfl rfl rfl rfl hb15 ?_
        refine goS rfl rfl rfl rfl rfl rfl hb15 ?_
        refine goS rfl rfl rfl rfl rfl rfl hb15 ?_
        refine goS rfl rfl rfl rfl rfl rfl hb15 ?_
        refine goS rfl rfl rfl rfl rfl rfl hb15 ?_
        refine goSU rfl rfl rfl rfl rfl rfl ?_
        refine goSU rfl rfl rfl rfl rfl rfl ?_
        refine goS rfl rfl rfl rfl rfl rfl hb15 ?_
        refine goG (op_pick_t rfl hb15 (.t (has rfl)) (.bool _)) rfl rfl rfl rfl hb12 ?_
        refine go1 (op_pick_t rfl hb12 (.t (has rfl)) (.t (has rfl))) rfl ?_
        refine go1 (op_assign rfl (.t (has rfl))) rfl ?_
        refine go1 (op_assign rfl (.t (has rfl))) rfl ?_
        refine goesO_nil ?_
        obtain rfl := Option.some.inj H
        exact ends_cut (.cons rfl (.cons rfl .nil))
      · skip
        refine goG (op_move rfl (.t (has rfl))) rfl rfl rfl rfl hb15 ?_
        refine goG (op_move rfl (.t (has rfl))) rfl rfl rfl rfl hb15 ?_
        obtain ⟨x16, h17, H⟩ := bind_some H
        refine goG (op_indexAddr rfl Try.underlying25 tk9 h17 (.t (has rfl)) (.t (has rfl))) rfl rfl rfl rfl hb15 ?_
        refine goG (op_loadp rfl tk9 (.t (has rfl))) rfl rfl rfl rfl hb15 ?_
        obtain ⟨v18, h19, H⟩ := bind_some H
        refine goG (op_call' rfl enters43 (slices_isNaN_string.con _ _ h19) rfl (.cons (ArgP.k (.t (has rfl))) .nil)) rfl rfl rfl rfl hb15 ?_
        refine goG (op_move rfl (.t (has rfl))) rfl rfl rfl rfl hb15 ?_
        refine goesO_split H (fun hb20 H => ?_) (fun hb20 H => ?_)
        · skip
          refine goG (op_move rfl (.t (has rfl))) rfl rfl rfl rfl hb20 ?_
          obtain ⟨v21, h22, H⟩ := bind_some H
          refine goG (op_call' rfl enters43 (slices_isNaN_string.con _ _ h22) rfl (.cons (ArgP.k (.t (has rfl))) .nil)) rfl rfl rfl rfl hb20 ?_
          refine goG (op_pick_t rfl hb20 (.t (has rfl)) (.t (has rfl))) rfl rfl rfl rfl hb15 ?_
          refine goG (op_pick_f rfl hb15 (.t (has rfl)) (.t (has rfl))) rfl rfl rfl rfl hb12 ?_
          refine go1 (op_pick_t rfl hb12 (.t (has rfl)) (.t (has rfl))) rfl ?_
          refine go1 (op_assign rfl (.t (has rfl))) rfl ?_
          refine go1 (op_assign rfl (.t (has rfl))) rfl ?_
          refine goesO_nil ?_
          obtain rfl := Option.some.inj H
          exact ends_cut (.cons rfl (.cons rfl .nil))
        · skip
          refine goS rfl rfl rfl rfl rfl rfl hb20 ?_
          refine goS rfl rfl rfl rfl rfl rfl hb20 ?_
          refine goG (op_pick_f rfl hb20 (.t (has rfl)) (.bool _)) rfl rfl rfl rfl hb15 ?_
          refine goG (op_pick_f rfl hb15 (.t (has rfl)) (.t (has rfl))) rfl rfl rfl rfl hb12 ?_
          refine go1 (op_pick_t rfl hb12 (.t (has rfl)) (.t (has rfl))) rfl ?_
          refine go1 (op_assign rfl (.t (has rfl))) rfl ?_
          refine go1 (op_assign rfl (.t (has rfl))) rfl ?_
          refine goesO_nil ?_
          obtain rfl := Option.some.inj H
          exact ends_cut (.cons rfl (.cons rfl .nil))
    · skip
      refine goS rfl rfl rfl rfl rfl rfl hb12 ?_
      refine goS rfl rfl rfl rfl rfl rfl hb12 ?_
      refine goS rfl rfl rfl rfl rfl rfl hb12 ?_
      refine goS rfl rfl rfl rfl rfl rfl hb12 ?_
      refine goS rfl rfl rfl rfl rfl rfl hb12 ?_
      refine goS rfl rfl rfl rfl rfl rfl hb12 ?_
      refine goS rfl rfl rfl rfl rfl rfl hb12 ?_
      refine goSU rfl rfl rfl rfl rfl rfl ?_
      refine goSU rfl rfl rfl rfl rfl rfl ?_
      refine goSU rfl rfl rfl rfl rfl rfl ?_
      refine goSU rfl rfl rfl rfl rfl rfl ?_
      refine goSU rfl rfl rfl rfl rfl rfl ?_
      refine goSU rfl rfl rfl rfl rfl rfl ?_
      refine goSU rfl rfl rfl rfl rfl rfl ?_
      refine goSU rfl rfl rfl rfl rfl rfl ?_
      refine goSU rfl rfl rfl rfl rfl rfl ?_
      refine goS rfl rfl rfl rfl rfl rfl hb12 ?_
      refine go1 (op_pick_f rfl hb12 (.t (has rfl)) (.bool _)) rfl ?_
      refine go1 (op_assign rfl (.t (has rfl))) rfl ?_
      refine go1 (op_assign rfl (.t (has rfl))) rfl ?_
      refine goesO_nil ?_
      obtain rfl := Option.some.inj H
      exact ends_cut (.cons rfl (.cons rfl .nil))
  refine ends_then ?_
  obtain rfl := Option.some.inj H
  exact goes_ret (ends_ret' rfl rfl (.t rfl (.t rfl (.nil _))))
theorem slices_BinarySearch_string_string.conF (k : Nat) (a0 : List ByteArray) (a1 : ByteArray) (r : Int × Bool) (H : slices_BinarySearch_string_string.f k a0 a1 = some r) : ConF Try.prog 30 [VA.k (kslice kstr) a0, VA.k kstr a1] [VA.k (kint .i64) r.1, VA.k kbool r.2] := (slices_BinarySearch_string_string.con k a0 a1 r H).freeL (.cons (KFree.k (KFree.int .i64) _) (.cons (KFree.k KFree.bool _) .nil))
/-! smithy/graph.one -/
def graph_one.f (k : Nat) (a0 : Make) (a1 : ByteArray) : Option Int := (graph_asked.f k a0 ([a1])).bind fun v1 => bif icmp .neq v1 (0 : Int) then (some v1) else ((graph_all.f k a0).bind fun v4 => (slices_BinarySearch_string_string.f k v4 a1).bind fun v6 => bif !v6.2 then (some (9 : Int)) else (some (0 : Int)))
set_option maxRecDepth 100000 in
set_option maxHeartbeats 4000000 in
theorem graph_one.con (k : Nat) (a0 : Make) (a1 : ByteArray) (r : Int) (H : graph_one.f k a0 a1 = some r) : Con Try.prog 16 [VA.k kMake a0, VA.k kstr a1] [VA.k (kint .i64) r] := by
  unfold graph_one.f at H
  refine con_enter Try.func16 rfl rfl rfl (fun w0 S0 θ => ?_)
  refine goes_seq ?_
  refine goes_region ?_
  refine go3 (op_box 2 rfl (fun h => by first | rfl | cases h) (.t (has rfl))) rfl ?_
  refine go1 (op_assign rfl (.int _ _)) rfl ?_
  refine goesO_nil ?_
  refine ends_then ?_
  refine goes_seq ?_
  refine goes_seq ?_
  refine goes_region ?_
  refine go1 (op_load rfl (Fld.whole kMake) tk29 (.t (has rfl)) (has rfl)) rfl ?_
  refine go1 (op_move rfl (.t (has rfl))) rfl ?_
  refine go1 (op_buildSlice rfl at25 (fun h => by first | rfl | cases h) rfl rfl rfl (.cons (.t (has rfl)) (.nil _))) rfl ?_
  obtain ⟨v1, h2, H⟩ := bind_some H
  refine go1 (op_callF' rfl enters21 (graph_asked.conF _ _ _ _ h2) rfl (.cons (ArgB.k (.t (has rfl))) (.cons (ArgB.own rfl (has rfl)) .nil))) rfl ?_
  refine go1 (op_assign rfl (.t (has rfl))) rfl ?_
  refine goesO_nil ?_
  refine ends_then ?_
  refine goes_seq ?_
  refine goes_region ?_
  refine go1 (op_move rfl (.t (has rfl))) rfl ?_
  refine go1 (op_icmp rfl rfl (.t (has rfl)) (.int _ _)) rfl ?_
  refine goesO_nil ?_
  refine ends_then ?_
  refine goes_if (.t (has rfl)) H (fun hb3 H => ?_) (fun hb3 H => ?_)
  · skip
    refine goes_seq ?_
    refine goes_region ?_
    refine go1 (op_move rfl (.t (has rfl))) rfl ?_
    refine go1 (op_assign rfl (.t (has rfl))) rfl ?_
    refine goesO_nil ?_
    refine ends_then ?_
    obtain rfl := Option.some.inj H
    exact goes_ret (ends_then_ret (ends_ret' rfl rfl (.t rfl (.nil _))))
  · skip
    refine goes_skip ?_
    refine ends_then ?_
    refine goes_seq ?_
    refine goes_seq ?_
    refine goes_region ?_
    refine go1 (op_load rfl (Fld.whole kMake) tk29 (.t (has rfl)) (has rfl)) rfl ?_
    obtain ⟨v4, h5, H⟩ := bind_some H
    refine go1 (op_call' rfl enters31 (graph_all.con _ _ _ h5) rfl (.cons (ArgP.k (.t (has rfl))) .nil)) rfl ?_
    refine go1 (op_move rfl (.t (has rfl))) rfl ?_
    obtain ⟨v6, h7, H⟩ := bind_some H
    refine goN (op_callsF' rfl enters30 (slices_BinarySearch_string_string.conF _ _ _ _ h7) rfl rfl (.cons (ArgB.own rfl (has rfl)) (.cons (ArgB.k (.t (has rfl))) .nil))) rfl ?_
    refine go1 (op_same (.inl rfl) rfl rfl) rfl ?_
    refine go1 (op_extract_same rfl plain_k (has rfl) (has rfl)) rfl ?_
    refine go1 (op_extract_same rfl plain_k (has rfl) (has rfl)) rfl ?_
    refine go1 (op_assign rfl (.t (has rfl))) rfl ?_
    refine go1 (op_assign rfl (.t (has rfl))) rfl ?_
    refine goesO_nil ?_
    refine ends_then ?_
    refine goes_seq ?_
    refine goes_region ?_
    refine go1 (op_move rfl (.t (has rfl))) rfl ?_
    refine go1 (op_not rfl (.t (has rfl))) rfl ?_
    refine goesO_nil ?_
    refine ends_then ?_
    refine goes_if (.t (has rfl)) H (fun hb8 H => ?_) (fun hb8 H => ?_)
    · skip
      refine goes_seq ?_
      refine goes_region ?_
      refine go1 (op_assign rfl (.int _ _)) rfl ?_
      refine goesO_nil ?_
      refine ends_then ?_
      obtain rfl := Option.some.inj H
      exact goes_ret (ends_then_ret (ends_ret' rfl rfl (.t rfl (.nil _))))
    · skip
      refine goes_skip ?_
      refine ends_then ?_
      refine goes_seq ?_
      refine goes_region ?_
      refine go1 (op_assign rfl (.int _ _)) rfl ?_
      refine goesO_nil ?_
      refine ends_then ?_
      obtain rfl := Option.some.inj H
      exact goes_ret (ends_ret' rfl rfl (.t rfl (.nil _)))
/-! smithy/graph.Users -/
def graph_Users.l0 (a0 : Make) (a1 : ByteArray) : Nat → ((List ByteArray) × Int) → Option (List ByteArray)
  | 0, _ => none
  | k + 1, s4 => bif icmp .lss s4.2 (a0.Rules.length : Int) then (((idx a0.Rules s4.2).bind fun x10 => (slices_Contains_string_string.f k x10.Needs a1).bind fun v12 => bif v12 then ((app 16 s4.1 ([x10.Target])).bind fun x15 => some x15) else (some s4.1)).bind fun s8 => graph_Users.l0 a0 a1 k (s8, IntKind.i64.wrap (s4.2 + (1 : Int)))) else (some s4.1)
def graph_Users.f (k : Nat) (a0 : Make) (a1 : ByteArray) : Option ((List ByteArray) × Int) := (graph_one.f k a0 a1).bind fun v1 => bif icmp .neq v1 (0 : Int) then (some (([] : List ByteArray), v1)) else ((graph_Users.l0 a0 a1 k (([] : List ByteArray), (0 : Int))).bind fun s5 => some (s5, (0 : Int)))
set_option maxRecDepth 100000 in
set_option maxHeartbeats 4000000 in
theorem graph_Users.con (k : Nat) (a0 : Make) (a1 : ByteArray) (r : (List ByteArray) × Int) (H : graph_Users.f k a0 a1 = some r) : Con Try.prog 9 [VA.k kMake a0, VA.k kstr a1] [VA.own 9 kstr r.1, VA.k (kint .i64) r.2] := by
  unfold graph_Users.f at H
  refine con_enter Try.func9 rfl rfl rfl (fun w0 S0 θ => ?_)
  refine goes_seq ?_
  refine goes_region ?_
  refine go3 (op_box 2 rfl (fun h => by first | rfl | cases h) (.t (has rfl))) rfl ?_
  refine go1 (op_assign_nil 9 kstr (.inr rfl) rfl) rfl ?_
  refine go1 (op_assign rfl (.int _ _)) rfl ?_
  refine goesO_nil ?_
  refine ends_then ?_
  refine goes_seq ?_
  refine goes_seq ?_
  refine goes_region ?_
  refine go1 (op_load rfl (Fld.whole kMake) tk29 (.t (has rfl)) (has rfl)) rfl ?_
  refine go1 (op_move rfl (.t (has rfl))) rfl ?_
  obtain ⟨v1, h2, H⟩ := bind_some H
  refine go1 (op_call' rfl enters16 (graph_one.con _ _ _ _ h2) rfl (.cons (ArgP.k (.t (has rfl))) (.cons (ArgP.k (.t (has rfl))) .nil))) rfl ?_
  refine go1 (op_assign rfl (.t (has rfl))) rfl ?_
  refine goesO_nil ?_
  refine ends_then ?_
  refine goes_seq ?_
  refine goes_region ?_
  refine go1 (op_move rfl (.t (has rfl))) rfl ?_
  refine go1 (op_icmp rfl rfl (.t (has rfl)) (.int _ _)) rfl ?_
  refine goesO_nil ?_
  refine ends_then ?_
  refine goes_if (.t (has rfl)) H (fun hb3 H => ?_) (fun hb3 H => ?_)
  · skip
    refine goes_seq ?_
    refine goes_region ?_
    refine go1 (op_move rfl (.t (has rfl))) rfl ?_
    refine go1 (op_assign_nil 9 kstr (.inr rfl) rfl) rfl ?_
    refine go1 (op_assign rfl (.t (has rfl))) rfl ?_
    refine goesO_nil ?_
    refine ends_then ?_
    obtain rfl := Option.some.inj H
    exact goes_ret (ends_then_ret (ends_ret' rfl rfl (.t rfl (.t rfl (.nil _)))))
  · skip
    refine goes_skip ?_
    refine ends_then ?_
    refine goes_seq ?_
    refine goes_region ?_
    refine go1 (op_assign_nil 9 kstr (.inr rfl) rfl) rfl ?_
    refine goesO_nil ?_
    refine ends_then ?_
    refine goes_seq ?_
    refine goes_seq ?_
    refine goes_region ?_
    refine go1 (op_fieldAddr rfl Try.underlying29 rfl tk23 (.t (has rfl))) rfl ?_
    refine go1 (op_load rfl fldMake_Rules tk23 (.t (has rfl)) (has rfl)) rfl ?_
    refine go1 (op_len rfl rfl Try.underlying23 (.t (has rfl))) rfl ?_
    refine go1 (op_move rfl (.int _ _)) rfl ?_
    refine goesO_nil ?_
    refine ends_then ?_
    obtain ⟨s5, h6, H⟩ := bind_some H
    refine goes_cut [Ent.t 7 (VA.own 9 kstr s5)] ?_ ?_
    · replace H := h6; clear h6
      refine goes_block ?_
      refine goes_loop (fun s4 : (List ByteArray) × Int => [Ent.t 1 (VA.k kstr a1), Ent.t 7 (VA.own 9 kstr s4.1), Ent.t 17 (VA.k (kslice kRule) a0.Rules), Ent.t 18 (VA.k (kint .i64) (a0.Rules.length : Int)), Ent.t 19 (VA.k (kint .i64) s4.2)]) (fun k s4 => graph_Users.l0 a0 a1 k s4) (fun _ => rfl) H (.cons rfl (.cons rfl (.cons rfl (.cons rfl (.cons rfl .nil))))) ?_
      intro k s4 H
      simp only [graph_Users.l0] at H
      refine goes_seq ?_
      refine goes_region ?_
      refine go1 (op_icmp rfl rfl (.t (has rfl)) (.t (has rfl))) rfl ?_
      refine goesO_nil ?_
      refine ends_then ?_
      refine goes_seq ?_
      refine goes_if (.t (has rfl)) H (fun hb7 H => ?_) (fun hb7 H => ?_)
      · skip
        refine goes_skip ?_
        refine ends_then ?_
        refine goes_seq ?_
        obtain ⟨s8, h9, H⟩ := bind_some H
        refine goes_cut [Ent.t 1 (VA.k kstr a1), Ent.t 7 (VA.own 9 kstr s8), Ent.t 17 (VA.k (kslice kRule) a0.Rules), Ent.t 18 (VA.k (kint .i64) (a0.Rules.length : Int)), Ent.t 19 (VA.k (kint .i64) s4.2)] ?_ ?_
        · replace H := h9; clear h9
          refine goes_block ?_
          refine goes_seq ?_
          refine goes_region ?_
          obtain ⟨x10, h11, H⟩ := bind_some H
          refine go1 (op_indexAddr rfl Try.underlying23 tk52 h11 (.t (has rfl)) (.t (has rfl))) rfl ?_
          refine go1 (op_loadp rfl tk52 (.t (has rfl))) rfl ?_
          refine go3 (op_alloc 9 rfl zk52) rfl ?_
          refine go1 (op_store (Fld.whole kRule) tk52 (.t (has rfl)) (has rfl) (.t (has rfl))) rfl ?_
          refine goesO_nil ?_
          refine ends_then ?_
          refine goes_seq ?_
          refine goes_region ?_
          refine go1 (op_fieldAddr rfl Try.underlying52 rfl tk25 (.t (has rfl))) rfl ?_
          refine go1 (op_load rfl fldRule_Needs tk25 (.t (has rfl)) (has rfl)) rfl ?_
          refine go1 (op_move rfl (.t (has rfl))) rfl ?_
          obtain ⟨v12, h13, H⟩ := bind_some H
          refine go1 (op_call' rfl enters20 (slices_Contains_string_string.con _ _ _ _ h13) rfl (.cons (ArgP.k (.t (has rfl))) (.cons (ArgP.k (.t (has rfl))) .nil))) rfl ?_
          refine goesO_nil ?_
          refine ends_then ?_
          refine goes_if (.t (has rfl)) H (fun hb14 H => ?_) (fun hb14 H => ?_)
          · skip
            refine goes_region ?_
            refine go2 (op_mv (.inl rfl) rfl rfl (has rfl)) rfl ?_
            refine go1 (op_fieldAddr rfl Try.underlying52 rfl tk9 (.t (has rfl))) rfl ?_
            refine go1 (op_load rfl fldRule_Target tk9 (.t (has rfl)) (has rfl)) rfl ?_
            refine go1 (op_buildSlice rfl at25 (fun h => by first | rfl | cases h) rfl rfl rfl (.cons (.t (has rfl)) (.nil _))) rfl ?_
            obtain ⟨x15, h16, H⟩ := bind_some H
            refine go2 (op_append rfl rfl at25 h16 (has rfl) (ReadsArg.own (.t (has rfl)))) rfl ?_
            refine go2 (op_mv (.inr rfl) rfl rfl (has rfl)) rfl ?_
            refine goesO_nil ?_
            refine ends_block ?_
            obtain rfl := Option.some.inj H
            exact ends_cut (.cons rfl (.cons rfl (.cons rfl (.cons rfl (.cons rfl .nil)))))
          · skip
            refine goes_skip ?_
            refine ends_block ?_
            obtain rfl := Option.some.inj H
            exact ends_cut (.cons rfl (.cons rfl (.cons rfl (.cons rfl (.cons rfl .nil)))))
        refine ends_then ?_
        refine goes_region ?_
        refine go1 (op_add rfl (.t (has rfl)) (.int _ _)) rfl ?_
        refine go1 (op_move rfl (.t (has rfl))) rfl ?_
        refine goesO_nil ?_
        exact loop_next _ H (.cons rfl (.cons rfl (.cons rfl (.cons rfl (.cons rfl .nil)))))
      · skip
        refine goes_exit (ends_then_exit (ends_then_exit (ends_block_exit ?_)))
        obtain rfl := Option.some.inj H
        exact ends_cut (.cons rfl .nil)
    refine ends_then ?_
    refine goes_seq ?_
    refine goes_region ?_
    refine go2 (op_mv (.inl rfl) rfl rfl (has rfl)) rfl ?_
    refine go2 (op_mv (.inr rfl) rfl rfl (has rfl)) rfl ?_
    refine go1 (op_assign rfl (.int _ _)) rfl ?_
    refine goesO_nil ?_
    refine ends_then ?_
    obtain rfl := Option.some.inj H
    exact goes_ret (ends_ret' rfl rfl (.t rfl (.t rfl (.nil _))))
/-! smithy/graph.Depth -/
def graph_Depth.l1 (x13 : ByteArray) (x15 : List ByteArray) : Nat → ((GM Int) × Int) → Option (GM Int)
  | 0, _ => none
  | k + 1, s17 => bif icmp .lss s17.2 (x15.length : Int) then ((idx x15 s17.2).bind fun x21 => (gget s17.1 (0 : Int) x13).bind fun x23 => (gget s17.1 (0 : Int) x21).bind fun x25 => (gput s17.1 x13 (imax2 x23 (IntKind.i64.wrap (x25 + (1 : Int))))).bind fun x27 => graph_Depth.l1 x13 x15 k (x27, IntKind.i64.wrap (s17.2 + (1 : Int)))) else (some s17.1)
def graph_Depth.l0 (v4 : (List ByteArray) × (List ByteArray)) (v7 : (GM (List ByteArray))) : Nat → ((GM Int) × Int) → Option (GM Int)
  | 0, _ => none
  | k + 1, s9 => bif icmp .lss s9.2 (v4.1.length : Int) then ((idx v4.1 s9.2).bind fun x13 => (gget v7 ([] : List ByteArray) x13).bind fun x15 => (graph_Depth.l1 x13 x15 k (s9.1, (0 : Int))).bind fun s18 => graph_Depth.l0 v4 v7 k (s18, IntKind.i64.wrap (s9.2 + (1 : Int)))) else (some s9.1)
def graph_Depth.f (k : Nat) (a0 : Make) (a1 : ByteArray) : Option (Int × Int) := (graph_one.f k a0 a1).bind fun v1 => bif icmp .neq v1 (0 : Int) then (some ((0 : Int), v1)) else ((graph_walk.f k a0 ([a1])).bind fun v4 => bif icmp .gtr (v4.2.length : Int) (0 : Int) then (some ((0 : Int), (100 : Int))) else ((graph_needs.f k a0).bind fun v7 => (graph_Depth.l0 v4 v7 k ((gempty : GM Int), (0 : Int))).bind fun s10 => (gget s10 (0 : Int) a1).bind fun x29 => some (x29, (0 : Int))))
set_option maxRecDepth 100000 in
set_option maxHeartbeats 4000000 in
theorem graph_Depth.con (k : Nat) (a0 : Make) (a1 : ByteArray) (r : Int × Int) (H : graph_Depth.f k a0 a1 = some r) : Con Try.prog 6 [VA.k kMake a0, VA.k kstr a1] [VA.k (kint .i64) r.1, VA.k (kint .i64) r.2] := by
  unfold graph_Depth.f at H
  refine con_enter Try.func6 rfl rfl rfl (fun w0 S0 θ => ?_)
  refine goes_seq ?_
  refine goes_region ?_
  refine go3 (op_box 2 rfl (fun h => by first | rfl | cases h) (.t (has rfl))) rfl ?_
  refine go1 (op_assign rfl (.int _ _)) rfl ?_
  refine go1 (op_assign rfl (.int _ _)) rfl ?_
  refine goesO_nil ?_
  refine ends_then ?_
  refine goes_seq ?_
  refine goes_seq ?_
  refine goes_region ?_
  refine go1 (op_load rfl (Fld.whole kMake) tk29 (.t (has rfl)) (has rfl)) rfl ?_
  refine go1 (op_move rfl (.t (has rfl))) rfl ?_
  obtain ⟨v1, h2, H⟩ := bind_some H
  refine go1 (op_call' rfl enters16 (graph_one.con _ _ _ _ h2) rfl (.cons (ArgP.k (.t (has rfl))) (.cons (ArgP.k (.t (has rfl))) .nil))) rfl ?_
  refine go1 (op_assign rfl (.t (has rfl))) rfl ?_
  refine goesO_nil ?_
  refine ends_then ?_
  refine goes_seq ?_
  refine goes_region ?_
  refine go1 (op_move rfl (.t (has rfl))) rfl ?_
  refine go1 (op_icmp rfl rfl (.t (has rfl)) (.int _ _)) rfl ?_
  refine goesO_nil ?_
  refine ends_then ?_
  refine goes_if (.t (has rfl)) H (fun hb3 H => ?_) (fun hb3 H => ?_)
  · skip
    refine goes_seq ?_
    refine goes_region ?_
    refine go1 (op_move rfl (.t (has rfl))) rfl ?_
    refine go1 (op_assign rfl (.int _ _)) rfl ?_
    refine go1 (op_assign rfl (.t (has rfl))) rfl ?_
    refine goesO_nil ?_
    refine ends_then ?_
    obtain rfl := Option.some.inj H
    exact goes_ret (ends_then_ret (ends_ret' rfl rfl (.t rfl (.t rfl (.nil _)))))
  · skip
    refine goes_skip ?_
    refine ends_then ?_
    refine goes_seq ?_
    refine goes_region ?_
    refine go1 (op_load rfl (Fld.whole kMake) tk29 (.t (has rfl)) (has rfl)) rfl ?_
    refine go1 (op_move rfl (.t (has rfl))) rfl ?_
    refine go1 (op_buildSlice rfl at25 (fun h => by first | rfl | cases h) rfl rfl rfl (.cons (.t (has rfl)) (.nil _))) rfl ?_
    obtain ⟨v4, h5, H⟩ := bind_some H
    refine goN (op_callsF' rfl enters17 (graph_walk.conF _ _ _ _ h5) rfl rfl (.cons (ArgB.k (.t (has rfl))) (.cons (ArgB.own rfl (has rfl)) .nil))) rfl ?_
    refine go1 (op_same (.inl rfl) rfl rfl) rfl ?_
    refine go2 (op_extract_own_same rfl rfl rfl (has rfl) (has rfl)) rfl ?_
    refine go2 (op_extract_own_same rfl rfl rfl (has rfl) (has rfl)) rfl ?_
    refine go2 (op_mv (.inr rfl) rfl rfl (has rfl)) rfl ?_
    refine go2 (op_mv (.inr rfl) rfl rfl (has rfl)) rfl ?_
    refine goesO_nil ?_
    refine ends_then ?_
    refine goes_seq ?_
    refine goes_seq ?_
    refine goes_region ?_
    refine goesO_settle 8 rfl rfl ?_
    refine go1 (op_move rfl (.t (has rfl))) rfl ?_
    refine go1 (op_len rfl rfl Try.underlying25 (.t (has rfl))) rfl ?_
    refine go1 (op_icmp rfl rfl (.t (has rfl)) (.int _ _)) rfl ?_
    refine goesO_nil ?_
    refine ends_then ?_
    refine goes_if (.t (has rfl)) H (fun hb6 H => ?_) (fun hb6 H => ?_)
    · skip
      refine goes_seq ?_
      refine goes_region ?_
      refine go1 (op_assign rfl (.int _ _)) rfl ?_
      refine go1 (op_assign rfl (.int _ _)) rfl ?_
      refine goesO_nil ?_
      refine ends_then ?_
      obtain rfl := Option.some.inj H
      exact goes_ret (ends_then_ret (ends_ret' rfl rfl (.t rfl (.t rfl (.nil _)))))
    · skip
      refine goes_skip ?_
      refine ends_then ?_
      refine goes_seq ?_
      refine goes_region ?_
      refine go1 (op_load rfl (Fld.whole kMake) tk29 (.t (has rfl)) (has rfl)) rfl ?_
      obtain ⟨v7, h8, H⟩ := bind_some H
      refine go1 (op_call' rfl enters18 (graph_needs.con _ _ _ h8) rfl (.cons (ArgP.k (.t (has rfl))) .nil)) rfl ?_
      refine goesO_adopt 32 32 rfl rfl ?_
      refine go1 (op_assignA rfl plain_mp (.t (has rfl))) rfl ?_
      refine goesO_nil ?_
      refine ends_then ?_
      refine goes_seq ?_
      refine goes_region ?_
      refine go3 (op_makeMap 9 (kint .i64) 33 rfl) rfl ?_
      refine go1 (op_assignA rfl plain_mp (.t (has rfl))) rfl ?_
      refine goesO_nil ?_
      refine ends_then ?_
      refine goes_seq ?_
      refine goes_seq ?_
      refine goes_region ?_
      refine goesO_settle 7 rfl rfl ?_
      refine go1 (op_move rfl (.t (has rfl))) rfl ?_
      refine go1 (op_len rfl rfl Try.underlying25 (.t (has rfl))) rfl ?_
      refine go1 (op_move rfl (.int _ _)) rfl ?_
      refine goesO_nil ?_
      refine ends_then ?_
      obtain ⟨s10, h11, H⟩ := bind_some H
      refine goes_cut [Ent.t 1 (VA.k kstr a1), Ent.t 10 (VA.mp false 33), Ent.h 33 (HE.map Try.prog 9 (kint .i64) s10)] ?_ ?_
      · replace H := h11; clear h11
        refine goes_block ?_
        refine goes_loop (fun s9 : (GM Int) × Int => [Ent.t 1 (VA.k kstr a1), Ent.t 9 (VA.mp false 32), Ent.t 10 (VA.mp false 33), Ent.t 34 (VA.k (kslice kstr) v4.1), Ent.t 35 (VA.k (kint .i64) (v4.1.length : Int)), Ent.t 36 (VA.k (kint .i64) s9.2), Ent.h 32 (HE.map Try.prog 9 (kslice kstr) v7), Ent.h 33 (HE.map Try.prog 9 (kint .i64) s9.1)]) (fun k s9 => graph_Depth.l0 v4 v7 k s9) (fun _ => rfl) H (.cons rfl (.cons rfl (.cons rfl (.cons rfl (.cons rfl (.cons rfl (.cons rfl (.cons rfl .nil)))))))) ?_
        intro k s9 H
        simp only [graph_Depth.l0] at H
        refine goes_seq ?_
        refine goes_region ?_
        refine go1 (op_icmp rfl rfl (.t (has rfl)) (.t (has rfl))) rfl ?_
        refine goesO_nil ?_
        refine ends_then ?_
        refine goes_seq ?_
        refine goes_if (.t (has rfl)) H (fun hb12 H => ?_) (fun hb12 H => ?_)
        · skip
          refine goes_skip ?_
          refine ends_then ?_
          refine goes_seq ?_
          refine goes_block ?_
          refine goes_seq ?_
          refine goes_region ?_
          obtain ⟨x13, h14, H⟩ := bind_some H
          refine go1 (op_indexAddr rfl Try.underlying25 tk9 h14 (.t (has rfl)) (.t (has rfl))) rfl ?_
          refine go1 (op_loadp rfl tk9 (.t (has rfl))) rfl ?_
          refine go1 (op_assign rfl (.t (has rfl))) rfl ?_
          refine goesO_nil ?_
          refine ends_then ?_
          refine goes_seq ?_
          refine goes_region ?_
          refine go1 (op_moveA rfl plain_mp (.t (has rfl))) rfl ?_
          refine go1 (op_move rfl (.t (has rfl))) rfl ?_
          obtain ⟨x15, h16, H⟩ := bind_some H
          refine go1 (op_lookup rfl xmt48 h16 (.t (has rfl)) (has rfl) (.t (has rfl))) rfl ?_
          refine go1 (op_len rfl rfl Try.underlying25 (.t (has rfl))) rfl ?_
          refine go1 (op_move rfl (.int _ _)) rfl ?_
          refine goesO_nil ?_
          refine ends_then ?_
          obtain ⟨s18, h19, H⟩ := bind_some H
          refine goes_cut [Ent.t 1 (VA.k kstr a1), Ent.t 9 (VA.mp false 32), Ent.t 10 (VA.mp false 33), Ent.t 34 (VA.k (kslice kstr) v4.1), Ent.t 35 (VA.k (kint .i64) (v4.1.length : Int)), Ent.t 36 (VA.k (kint .i64) s9.2), Ent.h 32 (HE.map Try.prog 9 (kslice kstr) v7), Ent.h 33 (HE.map Try.prog 9 (kint .i64) s18)] ?_ ?_
          · replace H := h19; clear h19
            refine goes_block ?_
            refine goes_loop (fun s17 : (GM Int) × Int => [Ent.t 1 (VA.k kstr a1), Ent.t 9 (VA.mp false 32), Ent.t 10 (VA.mp false 33), Ent.t 12 (VA.k kstr x13), Ent.t 34 (VA.k (kslice kstr) v4.1), Ent.t 35 (VA.k (kint .i64) (v4.1.length : Int)), Ent.t 36 (VA.k (kint .i64) s9.2), Ent.t 42 (VA.k (kslice kstr) x15), Ent.t 43 (VA.k (kint .i64) (x15.length : Int)), Ent.t 44 (VA.k (kint .i64) s17.2), Ent.h 32 (HE.map Try.prog 9 (kslice kstr) v7), Ent.h 33 (HE.map Try.prog 9 (kint .i64) s17.1)]) (fun k s17 => graph_Depth.l1 x13 x15 k s17) (fun _ => rfl) H (.cons rfl (.cons rfl (.cons rfl (.cons rfl (.cons rfl (.cons rfl (.cons rfl (.cons rfl (.cons rfl (.cons rfl (.cons rfl (.cons rfl .nil)))))))))))) ?_
            intro k s17 H
            simp only [graph_Depth.l1] at H
            refine goes_seq ?_
            refine goes_region ?_
            refine go1 (op_icmp rfl rfl (.t (has rfl)) (.t (has rfl))) rfl ?_
            refine goesO_nil ?_
            refine ends_then ?_
            refine goes_seq ?_
            refine goes_if (.t (has rfl)) H (fun hb20 H => ?_) (fun hb20 H => ?_)
            · skip
              refine goes_skip ?_
              refine ends_then ?_
              refine goes_seq ?_
              refine goes_block ?_
              refine goes_seq ?_
              refine goes_region ?_
              obtain ⟨x21, h22, H⟩ := bind_some H
              refine go1 (op_indexAddr rfl Try.underlying25 tk9 h22 (.t (has rfl)) (.t (has rfl))) rfl ?_
              refine go1 (op_loadp rfl tk9 (.t (has rfl))) rfl ?_
              refine go1 (op_assign rfl (.t (has rfl))) rfl ?_
              refine goesO_nil ?_
              refine ends_then ?_
              refine goes_region ?_
              refine go1 (op_moveA rfl plain_mp (.t (has rfl))) rfl ?_
              refine go1 (op_move rfl (.t (has rfl))) rfl ?_
              refine go1 (op_moveA rfl plain_mp (.t (has rfl))) rfl ?_
              refine go1 (op_move rfl (.t (has rfl))) rfl ?_
              obtain ⟨x23, h24, H⟩ := bind_some H
              refine go1 (op_lookup rfl xmt50 h24 (.t (has rfl)) (has rfl) (.t (has rfl))) rfl ?_
              refine go1 (op_moveA rfl plain_mp (.t (has rfl))) rfl ?_
              refine go1 (op_move rfl (.t (has rfl))) rfl ?_
              obtain ⟨x25, h26, H⟩ := bind_some H
              refine go1 (op_lookup rfl xmt50 h26 (.t (has rfl)) (has rfl) (.t (has rfl))) rfl ?_
              refine go1 (op_add rfl (.t (has rfl)) (.int _ _)) rfl ?_
              refine go1 (op_max2 rfl (.t (has rfl)) (.t (has rfl))) rfl ?_
              obtain ⟨x27, h28, H⟩ := bind_some H
              refine go1 (op_mapUpdate xmt50 h28 (.t (has rfl)) (has rfl) (.t (has rfl)) (.t (has rfl))) rfl ?_
              refine goesO_nil ?_
              refine ends_block ?_
              refine ends_then ?_
              refine goes_region ?_
              refine go1 (op_add rfl (.t (has rfl)) (.int _ _)) rfl ?_
              refine go1 (op_move rfl (.t (has rfl))) rfl ?_
              refine goesO_nil ?_
              exact loop_next _ H (.cons rfl (.cons rfl (.cons rfl (.cons rfl (.cons rfl (.cons rfl (.cons rfl (.cons rfl (.cons rfl (.cons rfl (.cons rfl (.cons rfl .nil))))))))))))
            · skip
              refine goes_exit (ends_then_exit (ends_then_exit (ends_block_exit ?_)))
              obtain rfl := Option.some.inj H
              exact ends_cut (.cons rfl (.cons rfl (.cons rfl (.cons rfl (.cons rfl (.cons rfl (.cons rfl (.cons rfl .nil))))))))
          refine ends_block ?_
          refine ends_then ?_
          refine goes_region ?_
          refine go1 (op_add rfl (.t (has rfl)) (.int _ _)) rfl ?_
          refine go1 (op_move rfl (.t (has rfl))) rfl ?_
          refine goesO_nil ?_
          exact loop_next _ H (.cons rfl (.cons rfl (.cons rfl (.cons rfl (.cons rfl (.cons rfl (.cons rfl (.cons rfl .nil))))))))
        · skip
          refine goes_exit (ends_then_exit (ends_then_exit (ends_block_exit ?_)))
          obtain rfl := Option.some.inj H
          exact ends_cut (.cons rfl (.cons rfl (.cons rfl .nil)))
      refine ends_then ?_
      refine goes_seq ?_
      refine goes_region ?_
      refine go1 (op_moveA rfl plain_mp (.t (has rfl))) rfl ?_
      refine go1 (op_move rfl (.t (has rfl))) rfl ?_
      obtain ⟨x29, h30, H⟩ := bind_some H
      refine go1 (op_lookup rfl xmt50 h30 (.t (has rfl)) (has rfl) (.t (has rfl))) rfl ?_
      refine go1 (op_assign rfl (.t (has rfl))) rfl ?_
      refine go1 (op_assign rfl (.int _ _)) rfl ?_
      refine goesO_nil ?_
      refine ends_then ?_
      obtain rfl := Option.some.inj H
      exact goes_ret (ends_ret' rfl rfl (.t rfl (.t rfl (.nil _))))
/-! smithy/smithyplain.Texts -/
def smithyplain_Texts.l0 (a0 : List ByteArray) (a1 : List ByteArray) : Nat → Int → Option (Except Bool Unit)
  | 0, _ => none
  | k + 1, s2 => bif icmp .lss s2 (a0.length : Int) then ((idx a0 s2).bind fun x7 => (idx a1 s2).bind fun x9 => bif scmp .neq x7 x9 then (some (Except.error false)) else (smithyplain_Texts.l0 a0 a1 k (IntKind.i64.wrap (s2 + (1 : Int))))) else (some (Except.ok ()))
def smithyplain_Texts.f (k : Nat) (a0 : List ByteArray) (a1 : List ByteArray) : Option Bool := bif icmp .neq (a0.length : Int) (a1.length : Int) then (some false) else ((smithyplain_Texts.l0 a0 a1 k (0 : Int)).bind fun o5 => match o5 with | .error r' => some r' | .ok s3 => (some true))
set_option maxRecDepth 100000 in
set_option maxHeartbeats 4000000 in
theorem smithyplain_Texts.con (k : Nat) (a0 : List ByteArray) (a1 : List ByteArray) (r : Bool) (H : smithyplain_Texts.f k a0 a1 = some r) : Con Try.prog 19 [VA.k (kslice kstr) a0, VA.k (kslice kstr) a1] [VA.k kbool r] := by
  unfold smithyplain_Texts.f at H
  refine con_enter Try.func19 rfl rfl rfl (fun w0 S0 θ => ?_)
  refine goes_seq ?_
  refine goes_region ?_
  refine go1 (op_assign rfl (.bool _)) rfl ?_
  refine goesO_nil ?_
  refine ends_then ?_
  refine goes_seq ?_
  refine goes_seq ?_
  refine goes_region ?_
  refine go1 (op_move rfl (.t (has rfl))) rfl ?_
  refine go1 (op_len rfl rfl Try.underlying25 (.t (has rfl))) rfl ?_
  refine go1 (op_move rfl (.t (has rfl))) rfl ?_
  refine go1 (op_len rfl rfl Try.underlying25 (.t (has rfl))) rfl ?_
  refine go1 (op_icmp rfl rfl (.t (has rfl)) (.t (has rfl))) rfl ?_
  refine goesO_nil ?_
  refine ends_then ?_
  refine goes_if (.t (has rfl)) H (fun hb1 H => ?_) (fun hb1 H => ?_)
  · skip
    refine goes_seq ?_
    refine goes_region ?_
    refine go1 (op_assign rfl (.bool _)) rfl ?_
    refine goesO_nil ?_
    refine ends_then ?_
    obtain rfl := Option.some.inj H
    exact goes_ret (ends_then_ret (ends_ret' rfl rfl (.t rfl (.nil _))))
  · skip
    refine goes_skip ?_
    refine ends_then ?_
    refine goes_seq ?_
    refine goes_seq ?_
    refine goes_region ?_
    refine go1 (op_move rfl (.t (has rfl))) rfl ?_
    refine go1 (op_len rfl rfl Try.underlying25 (.t (has rfl))) rfl ?_
    refine go1 (op_move rfl (.int _ _)) rfl ?_
    refine goesO_nil ?_
    refine ends_then ?_
    obtain ⟨o5, h4, H⟩ := bind_some H
    refine goes_cutR (o := o5) (fun s3 : Unit => []) (fun r a w => bodyPost Try.prog Try.f19 (CPost w0 S0 θ [VA.k kbool r]) .ret a w) ?_ ?_ ?_
    · replace H := h4; clear h4
      refine goes_block ?_
      refine goes_loop (fun s2 : Int => [Ent.t 0 (VA.k (kslice kstr) a0), Ent.t 1 (VA.k (kslice kstr) a1), Ent.t 12 (VA.k (kint .i64) (a0.length : Int)), Ent.t 13 (VA.k (kint .i64) s2)]) (fun k s2 => smithyplain_Texts.l0 a0 a1 k s2) (fun _ => rfl) H (.cons rfl (.cons rfl (.cons rfl (.cons rfl .nil)))) ?_
      intro k s2 H
      simp only [smithyplain_Texts.l0] at H
      refine goes_seq ?_
      refine goes_region ?_
      refine go1 (op_icmp rfl rfl (.t (has rfl)) (.t (has rfl))) rfl ?_
      refine goesO_nil ?_
      refine ends_then ?_
      refine goes_seq ?_
      refine goes_if (.t (has rfl)) H (fun hb6 H => ?_) (fun hb6 H => ?_)
      · skip
        refine goes_skip ?_
        refine ends_then ?_
        refine goes_seq ?_
        refine goes_block ?_
        refine goes_seq ?_
        refine goes_region ?_
        refine go1 (op_move rfl (.t (has rfl))) rfl ?_
        refine go1 (op_assign rfl (.t (has rfl))) rfl ?_
        refine goesO_nil ?_
        refine ends_then ?_
        refine goes_seq ?_
        obtain ⟨x7, h8, H⟩ := bind_some H
        obtain ⟨x9, h10, H⟩ := bind_some H
        refine goes_drawn [[Ent.t 16 (VA.k (kslice kstr) a0)], [Ent.t 17 (VA.k (kint .i64) s2)], [Ent.t 18 (VA.pt kstr x7)], [Ent.t 19 (VA.k kstr x7)], [Ent.t 20 (VA.k (kslice kstr) a1)], [Ent.t 21 (VA.k (kint .i64) s2)], [Ent.t 22 (VA.pt kstr x9)], [Ent.t 23 (VA.k kstr x9)], [Ent.t 24 (VA.k kbool (scmp .neq x7 x9))]] mixed (by kernel_rfl) (by kernel_rfl) (.cons [(none, Ent.t 0 (VA.k (kslice kstr) a0))] (OpSpec.run rfl rfl (op_move rfl (.t NL.h0)) rfl) (.cons (has rfl) .nil) (by kernel_rfl) (.cons [(none, Ent.t 5 (VA.k (kint .i64) s2))] (OpSpec.run rfl rfl (op_move rfl (.t NL.h0)) rfl) (.cons (has rfl) .nil) (by kernel_rfl) (.cons [(some 0, Ent.t 16 (VA.k (kslice kstr) a0)), (some 1, Ent.t 17 (VA.k (kint .i64) s2))] (OpSpec.run rfl rfl (op_indexAddr rfl Try.underlying25 tk9 h8 (.t NL.h0) (.t (NL.hs NL.h0))) rfl) (.cons (has rfl) (.cons (has rfl) .nil)) (by kernel_rfl) (.cons [(some 2, Ent.t 18 (VA.pt kstr x7))] (OpSpec.run rfl rfl (op_loadp rfl tk9 (.t NL.h0)) rfl) (.cons (has rfl) .nil) (by kernel_rfl) (.cons [(none, Ent.t 1 (VA.k (kslice kstr) a1))] (OpSpec.run rfl rfl (op_move rfl (.t NL.h0)) rfl) (.cons (has rfl) .nil) (by kernel_rfl) (.cons [(none, Ent.t 5 (VA.k (kint .i64) s2))] (OpSpec.run rfl rfl (op_move rfl (.t NL.h0)) rfl) (.cons (has rfl) .nil) (by kernel_rfl) (.cons [(some 4, Ent.t 20 (VA.k (kslice kstr) a1)), (some 5, Ent.t 21 (VA.k (kint .i64) s2))] (OpSpec.run rfl rfl (op_indexAddr rfl Try.underlying25 tk9 h10 (.t NL.h0) (.t (NL.hs NL.h0))) rfl) (.cons (has rfl) (.cons (has rfl) .nil)) (by kernel_rfl) (.cons [(some 6, Ent.t 22 (VA.pt kstr x9))] (OpSpec.run rfl rfl (op_loadp rfl tk9 (.t NL.h0)) rfl) (.cons (has rfl) .nil) (by kernel_rfl) (.cons [(some 3, Ent.t 19 (VA.k kstr x7)), (some 7, Ent.t 23 (VA.k kstr x9))] (OpSpec.run rfl rfl (op_scmp rfl rfl (.t NL.h0) (.t (NL.hs NL.h0))) rfl) (.cons (has rfl) (.cons (has rfl) .nil)) (by kernel_rfl) (.nil _)))))))))) ?_
        refine ends_sub [Ent.t 0 (VA.k (kslice kstr) a0), Ent.t 1 (VA.k (kslice kstr) a1), Ent.t 12 (VA.k (kint .i64) (a0.length : Int)), Ent.t 13 (VA.k (kint .i64) s2), Ent.t 24 (VA.k kbool (scmp .neq x7 x9))] (.cons rfl (.cons rfl (.cons rfl (.cons rfl (.cons rfl .nil))))) ?_
        refine ends_then ?_
        refine goes_if (.t (has rfl)) H (fun hb11 H => ?_) (fun hb11 H => ?_)
        · skip
          refine goes_seq ?_
          refine goes_region ?_
          refine go1 (op_assign rfl (.bool _)) rfl ?_
          refine goesO_nil ?_
          refine ends_then ?_
          obtain rfl := Option.some.inj H
          refine goes_ret (ends_block_ret (ends_then_ret (ends_then_ret (ends_block_ret (ends_cutR_ret rfl ?_)))))
          exact ends_ret' rfl rfl (.t rfl (.nil _))
        · skip
          refine goes_skip ?_
          refine ends_block ?_
          refine ends_then ?_
          refine goes_region ?_
          refine go1 (op_add rfl (.t (has rfl)) (.int _ _)) rfl ?_
          refine go1 (op_move rfl (.t (has rfl))) rfl ?_
          refine goesO_nil ?_
          exact loop_next _ H (.cons rfl (.cons rfl (.cons rfl (.cons rfl .nil))))
      · skip
        refine goes_exit (ends_then_exit (ends_then_exit (ends_block_exit ?_)))
        obtain rfl := Option.some.inj H
        exact ends_cutR rfl .nil
    · rintro s3 rfl
      clear h4
      dsimp only at H
      refine ends_then ?_
      refine goes_seq ?_
      refine goes_region ?_
      refine go1 (op_assign rfl (.bool _)) rfl ?_
      refine goesO_nil ?_
      refine ends_then ?_
      obtain rfl := Option.some.inj H
      exact goes_ret (ends_ret' rfl rfl (.t rfl (.nil _)))
    · rintro r' rfl a w hr
      obtain rfl := Option.some.inj H
      exact hr
theorem smithyplain_Texts.conF (k : Nat) (a0 : List ByteArray) (a1 : List ByteArray) (r : Bool) (H : smithyplain_Texts.f k a0 a1 = some r) : ConF Try.prog 19 [VA.k (kslice kstr) a0, VA.k (kslice kstr) a1] [VA.k kbool r] := (smithyplain_Texts.con k a0 a1 r H).freeL (.cons (KFree.k KFree.bool _) .nil)
/-! smithy/smithylaw10.speaks -/
def smithylaw10_speaks.f (k : Nat) : Option Bool := (graph_Order.f k (⟨([] : List Macro), [(⟨(⟨#[97]⟩ : ByteArray), [(⟨#[98]⟩ : ByteArray), (⟨#[99]⟩ : ByteArray)], ([] : List ByteArray), false⟩ : Rule), (⟨(⟨#[98]⟩ : ByteArray), [(⟨#[100]⟩ : ByteArray)], ([] : List ByteArray), false⟩ : Rule), (⟨(⟨#[99]⟩ : ByteArray), [(⟨#[100]⟩ : ByteArray)], ([] : List ByteArray), false⟩ : Rule)], ([] : List Infer), zeroSpecial, ByteArray.empty⟩ : Make) ([(⟨#[97]⟩ : ByteArray)])).bind fun v1 => (graph_Users.f k (⟨([] : List Macro), [(⟨(⟨#[97]⟩ : ByteArray), [(⟨#[98]⟩ : ByteArray), (⟨#[99]⟩ : ByteArray)], ([] : List ByteArray), false⟩ : Rule), (⟨(⟨#[98]⟩ : ByteArray), [(⟨#[100]⟩ : ByteArray)], ([] : List ByteArray), false⟩ : Rule), (⟨(⟨#[99]⟩ : ByteArray), [(⟨#[100]⟩ : ByteArray)], ([] : List ByteArray), false⟩ : Rule)], ([] : List Infer), zeroSpecial, ByteArray.empty⟩ : Make) (⟨#[100]⟩ : ByteArray)).bind fun v3 => (graph_Depth.f k (⟨([] : List Macro), [(⟨(⟨#[97]⟩ : ByteArray), [(⟨#[98]⟩ : ByteArray), (⟨#[99]⟩ : ByteArray)], ([] : List ByteArray), false⟩ : Rule), (⟨(⟨#[98]⟩ : ByteArray), [(⟨#[100]⟩ : ByteArray)], ([] : List ByteArray), false⟩ : Rule), (⟨(⟨#[99]⟩ : ByteArray), [(⟨#[100]⟩ : ByteArray)], ([] : List ByteArray), false⟩ : Rule)], ([] : List Infer), zeroSpecial, ByteArray.empty⟩ : Make) (⟨#[97]⟩ : ByteArray)).bind fun v5 => (bif icmp .eql v1.2 (0 : Int) then ((smithyplain_Texts.f k v1.1 ([(⟨#[100]⟩ : ByteArray), (⟨#[98]⟩ : ByteArray), (⟨#[99]⟩ : ByteArray), (⟨#[97]⟩ : ByteArray)])).bind fun v10 => bif v10 then (bif icmp .eql v3.2 (0 : Int) then ((smithyplain_Texts.f k v3.1 ([(⟨#[98]⟩ : ByteArray), (⟨#[99]⟩ : ByteArray)])).bind fun v14 => bif v14 then (bif icmp .eql v5.1 (2 : Int) then (some (icmp .eql v5.2 (0 : Int))) else (some false)) else (some false)) else (some false)) else (some false)) else (some false)).bind fun s7 => some s7
set_option maxRecDepth 100000 in
set_option maxHeartbeats 4000000 in
theorem smithylaw10_speaks.con (k : Nat) (r : Bool) (H : smithylaw10_speaks.f k = some r) : Con Try.prog 7 [] [VA.k kbool r] := by
  unfold smithylaw10_speaks.f at H
  refine con_enter Try.func7 rfl rfl rfl (fun w0 S0 θ => ?_)
  refine goes_seq ?_
  refine goes_region ?_
  refine go1 (op_assign rfl (.bool _)) rfl ?_
  refine goesO_nil ?_
  refine ends_then ?_
  refine goes_seq ?_
  refine goes_region ?_
  refine go1 (op_buildSlice rfl at25 (fun h => by first | rfl | cases h) rfl rfl rfl (.cons (.str _) (.cons (.str _) (.nil _)))) rfl ?_
  refine goesO_settle 8 rfl rfl ?_
  refine go1 (op_build (pl := [(0, 1), (1, 1), (2, 1), (3, 1)]) rfl rfl Try.underlying52 (by kernel_rfl) zk52 (.cons rfl tk9 fldRule_Target (.str _) (.cons rfl tk25 fldRule_Needs (.t (has rfl)) (.nil _)))) rfl ?_
  refine go1 (op_buildSlice rfl at25 (fun h => by first | rfl | cases h) rfl rfl rfl (.cons (.str _) (.nil _))) rfl ?_
  refine goesO_settle 10 rfl rfl ?_
  refine go1 (op_build (pl := [(0, 1), (1, 1), (2, 1), (3, 1)]) rfl rfl Try.underlying52 (by kernel_rfl) zk52 (.cons rfl tk9 fldRule_Target (.str _) (.cons rfl tk25 fldRule_Needs (.t (has rfl)) (.nil _)))) rfl ?_
  refine go1 (op_buildSlice rfl at25 (fun h => by first | rfl | cases h) rfl rfl rfl (.cons (.str _) (.nil _))) rfl ?_
  refine goesO_settle 12 rfl rfl ?_
  refine go1 (op_build (pl := [(0, 1), (1, 1), (2, 1), (3, 1)]) rfl rfl Try.underlying52 (by kernel_rfl) zk52 (.cons rfl tk9 fldRule_Target (.str _) (.cons rfl tk25 fldRule_Needs (.t (has rfl)) (.nil _)))) rfl ?_
  refine go1 (op_buildSlice rfl at23 (fun h => by first | rfl | cases h) rfl rfl rfl (.cons (.t (has rfl)) (.cons (.t (has rfl)) (.cons (.t (has rfl)) (.nil _))))) rfl ?_
  refine goesO_settle 14 rfl rfl ?_
  refine go1 (op_build (pl := [(0, 1), (1, 1), (2, 1), (3, 10), (13, 1)]) rfl rfl Try.underlying29 (by kernel_rfl) zk29 (.cons rfl tk23 fldMake_Rules (.t (has rfl)) (.nil _))) rfl ?_
  refine go3 (op_alloc 1 rfl zk29) rfl ?_
  refine go1 (op_store (Fld.whole kMake) tk29 (.t (has rfl)) (has rfl) (.t (has rfl))) rfl ?_
  refine goesO_nil ?_
  refine ends_then ?_
  refine goes_seq ?_
  refine goes_region ?_
  refine go1 (op_load rfl (Fld.whole kMake) tk29 (.t (has rfl)) (has rfl)) rfl ?_
  refine go1 (op_buildSlice rfl at25 (fun h => by first | rfl | cases h) rfl rfl rfl (.cons (.str _) (.nil _))) rfl ?_
  obtain ⟨v1, h2, H⟩ := bind_some H
  refine goN (op_callsF' rfl enters11 (graph_Order.conF _ _ _ _ h2) rfl rfl (.cons (ArgB.k (.t (has rfl))) (.cons (ArgB.own rfl (has rfl)) .nil))) rfl ?_
  refine go1 (op_same (.inl rfl) rfl rfl) rfl ?_
  refine go2 (op_extract_own_same rfl rfl rfl (has rfl) (has rfl)) rfl ?_
  refine go1 (op_extract_same rfl plain_k (has rfl) (has rfl)) rfl ?_
  refine go2 (op_mv (.inr rfl) rfl rfl (has rfl)) rfl ?_
  refine go1 (op_assign rfl (.t (has rfl))) rfl ?_
  refine goesO_nil ?_
  refine ends_then ?_
  refine goes_seq ?_
  refine goes_region ?_
  refine go1 (op_load rfl (Fld.whole kMake) tk29 (.t (has rfl)) (has rfl)) rfl ?_
  obtain ⟨v3, h4, H⟩ := bind_some H
  refine goN (op_calls' rfl enters9 (graph_Users.con _ _ _ _ h4) rfl rfl (.cons (ArgP.k (.t (has rfl))) (.cons (ArgP.k (.str _)) .nil))) rfl ?_
  refine go1 (op_same (.inl rfl) rfl rfl) rfl ?_
  refine go2 (op_extract_own_same rfl rfl rfl (has rfl) (has rfl)) rfl ?_
  refine go1 (op_extract_same rfl plain_k (has rfl) (has rfl)) rfl ?_
  refine go2 (op_mv (.inr rfl) rfl rfl (has rfl)) rfl ?_
  refine go1 (op_assign rfl (.t (has rfl))) rfl ?_
  refine goesO_nil ?_
  refine ends_then ?_
  refine goes_seq ?_
  refine goes_region ?_
  refine go1 (op_load rfl (Fld.whole kMake) tk29 (.t (has rfl)) (has rfl)) rfl ?_
  obtain ⟨v5, h6, H⟩ := bind_some H
  refine goN (op_calls' rfl enters6 (graph_Depth.con _ _ _ _ h6) rfl rfl (.cons (ArgP.k (.t (has rfl))) (.cons (ArgP.k (.str _)) .nil))) rfl ?_
  refine go1 (op_same (.inl rfl) rfl rfl) rfl ?_
  refine go1 (op_extract_same rfl plain_k (has rfl) (has rfl)) rfl ?_
  refine go1 (op_extract_same rfl plain_k (has rfl) (has rfl)) rfl ?_
  refine go1 (op_assign rfl (.t (has rfl))) rfl ?_
  refine go1 (op_assign rfl (.t (has rfl))) rfl ?_
  refine goesO_nil ?_
  refine ends_then ?_
  refine goes_seq ?_
  obtain ⟨s7, h8, H⟩ := bind_some H
  refine goes_cut [Ent.t 0 (VA.k kbool s7)] ?_ ?_
  · replace H := h8; clear h8
    refine goes_region ?_
    refine go1 (op_move rfl (.t (has rfl))) rfl ?_
    refine go1 (op_icmp rfl rfl (.t (has rfl)) (.int _ _)) rfl ?_
    refine go1 (op_move rfl (.t (has rfl))) rfl ?_
    refine goesO_split H (fun hb9 H => ?_) (fun hb9 H => ?_)
    · skip
      refine goesO_settle 2 rfl rfl ?_
      refine goG (op_move rfl (.t (has rfl))) rfl rfl rfl rfl hb9 ?_
      refine goG (op_buildSlice rfl at25 (fun h => by first | rfl | cases h) rfl rfl rfl (.cons (.str _) (.cons (.str _) (.cons (.str _) (.cons (.str _) (.nil _)))))) rfl rfl rfl rfl hb9 ?_
      obtain ⟨v10, h11, H⟩ := bind_some H
      refine goG (op_callF' rfl enters19 (smithyplain_Texts.conF _ _ _ _ h11) rfl (.cons (ArgB.k (.t (has rfl))) (.cons (ArgB.own rfl (has rfl)) .nil))) rfl rfl rfl rfl hb9 ?_
      refine go1 (op_pick_t rfl hb9 (.t (has rfl)) (.t (has rfl))) rfl ?_
      refine go1 (op_move rfl (.t (has rfl))) rfl ?_
      refine goesO_split H (fun hb12 H => ?_) (fun hb12 H => ?_)
      · skip
        refine goG (op_move rfl (.t (has rfl))) rfl rfl rfl rfl hb12 ?_
        refine goG (op_icmp rfl rfl (.t (has rfl)) (.int _ _)) rfl rfl rfl rfl hb12 ?_
        refine go1 (op_pick_t rfl hb12 (.t (has rfl)) (.t (has rfl))) rfl ?_
        refine go1 (op_move rfl (.t (has rfl))) rfl ?_
        refine goesO_split H (fun hb13 H => ?_) (fun hb13 H => ?_)
        · skip
          refine goesO_settle 4 rfl rfl ?_
          refine goG (op_move rfl (.t (has rfl))) rfl rfl rfl rfl hb13 ?_
          refine goG (op_buildSlice rfl at25 (fun h => by first | rfl | cases h) rfl rfl rfl (.cons (.str _) (.cons (.str _) (.nil _)))) rfl rfl rfl rfl hb13 ?_
          obtain ⟨v14, h15, H⟩ := bind_some H
          refine goG (op_callF' rfl enters19 (smithyplain_Texts.conF _ _ _ _ h15) rfl (.cons (ArgB.k (.t (has rfl))) (.cons (ArgB.own rfl (has rfl)) .nil))) rfl rfl rfl rfl hb13 ?_
          refine go1 (op_pick_t rfl hb13 (.t (has rfl)) (.t (has rfl))) rfl ?_
          refine go1 (op_move rfl (.t (has rfl))) rfl ?_
          refine goesO_split H (fun hb16 H => ?_) (fun hb16 H => ?_)
          · skip
            refine goG (op_move rfl (.t (has rfl))) rfl rfl rfl rfl hb16 ?_
            refine goG (op_icmp rfl rfl (.t (has rfl)) (.int _ _)) rfl rfl rfl rfl hb16 ?_
            refine go1 (op_pick_t rfl hb16 (.t (has rfl)) (.t (has rfl))) rfl ?_
            refine go1 (op_move rfl (.t (has rfl))) rfl ?_
            refine goesO_split H (fun hb17 H => ?_) (fun hb17 H => ?_)
            · skip
              refine goG (op_move rfl (.t (has rfl))) rfl rfl rfl rfl hb17 ?_
              refine goG (op_icmp rfl rfl (.t (has rfl)) (.int _ _)) rfl rfl rfl rfl hb17 ?_
              refine go1 (op_pick_t rfl hb17 (.t (has rfl)) (.t (has rfl))) rfl ?_
              refine go1 (op_assign rfl (.t (has rfl))) rfl ?_
              refine goesO_nil ?_
              obtain rfl := Option.some.inj H
              exact ends_cut (.cons rfl .nil)
            · skip
              refine goS rfl rfl rfl rfl rfl rfl hb17 ?_
              refine goS rfl rfl rfl rfl rfl rfl hb17 ?_
              refine go1 (op_pick_f rfl hb17 (.t (has rfl)) (.bool _)) rfl ?_
              refine go1 (op_assign rfl (.t (has rfl))) rfl ?_
              refine goesO_nil ?_
              obtain rfl := Option.some.inj H
              exact ends_cut (.cons rfl .nil)
          · skip
            refine goS rfl rfl rfl rfl rfl rfl hb16 ?_
            refine goS rfl rfl rfl rfl rfl rfl hb16 ?_
            refine go1 (op_pick_f rfl hb16 (.t (has rfl)) (.bool _)) rfl ?_
            refine go1 (op_move rfl (.t (has rfl))) rfl ?_
            refine goS rfl rfl rfl rfl rfl rfl rfl ?_
            refine goS rfl rfl rfl rfl rfl rfl rfl ?_
            refine go1 (op_pick_f rfl rfl (.t (has rfl)) (.bool _)) rfl ?_
            refine go1 (op_assign rfl (.t (has rfl))) rfl ?_
            refine goesO_nil ?_
            obtain rfl := Option.some.inj H
            exact ends_cut (.cons rfl .nil)
        · skip
          refine goS rfl rfl rfl rfl rfl rfl hb13 ?_
          refine goS rfl rfl rfl rfl rfl rfl hb13 ?_
          refine goS rfl rfl rfl rfl rfl rfl hb13 ?_
          refine go1 (op_pick_f rfl hb13 (.t (has rfl)) (.bool _)) rfl ?_
          refine go1 (op_move rfl (.t (has rfl))) rfl ?_
          refine goS rfl rfl rfl rfl rfl rfl rfl ?_
          refine goS rfl rfl rfl rfl rfl rfl rfl ?_
          refine go1 (op_pick_f rfl rfl (.t (has rfl)) (.bool _)) rfl ?_
          refine go1 (op_move rfl (.t (has rfl))) rfl ?_
          refine goS rfl rfl rfl rfl rfl rfl rfl ?_
          refine goS rfl rfl rfl rfl rfl rfl rfl ?_
          refine go1 (op_pick_f rfl rfl (.t (has rfl)) (.bool _)) rfl ?_
          refine go1 (op_assign rfl (.t (has rfl))) rfl ?_
          refine goesO_nil ?_
          obtain rfl := Option.some.inj H
          exact ends_cut (.cons rfl .nil)
      · skip
        refine goS rfl rfl rfl rfl rfl rfl hb12 ?_
        refine goS rfl rfl rfl rfl rfl rfl hb12 ?_
        refine go1 (op_pick_f rfl hb12 (.t (has rfl)) (.bool _)) rfl ?_
        refine go1 (op_move rfl (.t (has rfl))) rfl ?_
        refine goS rfl rfl rfl rfl rfl rfl rfl ?_
        refine goS rfl rfl rfl rfl rfl rfl rfl ?_
        refine goS rfl rfl rfl rfl rfl rfl rfl ?_
        refine go1 (op_pick_f rfl rfl (.t (has rfl)) (.bool _)) rfl ?_
        refine go1 (op_move rfl (.t (has rfl))) rfl ?_
        refine goS rfl rfl rfl rfl rfl rfl rfl ?_
        refine goS rfl rfl rfl rfl rfl rfl rfl ?_
        refine go1 (op_pick_f rfl rfl (.t (has rfl)) (.bool _)) rfl ?_
        refine go1 (op_move rfl (.t (has rfl))) rfl ?_
        refine goS rfl rfl rfl rfl rfl rfl rfl ?_
        refine goS rfl rfl rfl rfl rfl rfl rfl ?_
        refine go1 (op_pick_f rfl rfl (.t (has rfl)) (.bool _)) rfl ?_
        refine go1 (op_assign rfl (.t (has rfl))) rfl ?_
        refine goesO_nil ?_
        obtain rfl := Option.some.inj H
        exact ends_cut (.cons rfl .nil)
    · skip
      refine goS rfl rfl rfl rfl rfl rfl hb9 ?_
      refine goS rfl rfl rfl rfl rfl rfl hb9 ?_
      refine goS rfl rfl rfl rfl rfl rfl hb9 ?_
      refine go1 (op_pick_f rfl hb9 (.t (has rfl)) (.bool _)) rfl ?_
      refine go1 (op_move rfl (.t (has rfl))) rfl ?_
      refine goS rfl rfl rfl rfl rfl rfl rfl ?_
      refine goS rfl rfl rfl rfl rfl rfl rfl ?_
      refine go1 (op_pick_f rfl rfl (.t (has rfl)) (.bool _)) rfl ?_
      refine go1 (op_move rfl (.t (has rfl))) rfl ?_
      refine goS rfl rfl rfl rfl rfl rfl rfl ?_
      refine goS rfl rfl rfl rfl rfl rfl rfl ?_
      refine goS rfl rfl rfl rfl rfl rfl rfl ?_
      refine go1 (op_pick_f rfl rfl (.t (has rfl)) (.bool _)) rfl ?_
      refine go1 (op_move rfl (.t (has rfl))) rfl ?_
      refine goS rfl rfl rfl rfl rfl rfl rfl ?_
      refine goS rfl rfl rfl rfl rfl rfl rfl ?_
      refine go1 (op_pick_f rfl rfl (.t (has rfl)) (.bool _)) rfl ?_
      refine go1 (op_move rfl (.t (has rfl))) rfl ?_
      refine goS rfl rfl rfl rfl rfl rfl rfl ?_
      refine goS rfl rfl rfl rfl rfl rfl rfl ?_
      refine go1 (op_pick_f rfl rfl (.t (has rfl)) (.bool _)) rfl ?_
      refine go1 (op_assign rfl (.t (has rfl))) rfl ?_
      refine goesO_nil ?_
      obtain rfl := Option.some.inj H
      exact ends_cut (.cons rfl .nil)
  refine ends_then ?_
  obtain rfl := Option.some.inj H
  exact goes_ret (ends_ret' rfl rfl (.t rfl (.nil _)))
/-! slices.Clone[[]string,string] -/
def slices_Clone_string_string.f (a0 : List ByteArray) : Option (List ByteArray) := (app 16 ([] : List ByteArray) a0).bind fun x1 => some x1
set_option maxRecDepth 100000 in
set_option maxHeartbeats 4000000 in
theorem slices_Clone_string_string.con (a0 : List ByteArray) (r : List ByteArray) (H : slices_Clone_string_string.f a0 = some r) : Con Try.prog 28 [VA.k (kslice kstr) a0] [VA.own 9 kstr r] := by
  unfold slices_Clone_string_string.f at H
  refine con_enter Try.func28 rfl rfl rfl (fun w0 S0 θ => ?_)
  refine goes_seq ?_
  refine goes_region ?_
  refine go1 (op_assign_nil 9 kstr (.inr rfl) rfl) rfl ?_
  refine goesO_nil ?_
  refine ends_then ?_
  refine goes_seq ?_
  refine goes_seq ?_
  refine goes_region ?_
  refine go1 (op_move rfl (.t (has rfl))) rfl ?_
  refine go1 (op_isnil rfl Try.underlying25 (.t (has rfl))) rfl ?_
  refine goesO_nil ?_
  refine ends_then ?_
  refine goes_ifnil (.t (has rfl)) (fun hnil => ?_) ?_
  · skip
    replace H : (some ([] : List ByteArray)) = some r := by subst hnil; simpa [app, room] using H
    refine goes_seq ?_
    refine goes_region ?_
    refine go1 (op_assign_nil 9 kstr (.inr rfl) rfl) rfl ?_
    refine goesO_nil ?_
    refine ends_then ?_
    obtain rfl := Option.some.inj H
    exact goes_ret (ends_then_ret (ends_ret' rfl rfl (.t rfl (.nil _))))
  · skip
    refine goes_skip ?_
    refine ends_then ?_
    refine goes_seq ?_
    refine goes_region ?_
    refine go1 (op_buildSlice0 rfl at25) rfl ?_
    refine go1 (op_move rfl (.t (has rfl))) rfl ?_
    obtain ⟨x1, h2, H⟩ := bind_some H
    refine go2 (op_append rfl rfl at25 h2 (has rfl) (ReadsArg.k (.t (has rfl)))) rfl ?_
    refine go2 (op_mv (.inr rfl) rfl rfl (has rfl)) rfl ?_
    refine goesO_nil ?_
    refine ends_then ?_
    obtain rfl := Option.some.inj H
    exact goes_ret (ends_ret' rfl rfl (.t rfl (.nil _)))
/-! smithy/graph.Reach -/
def graph_Reach.l0 (v4 : (GM (List ByteArray))) : Nat → ((GM Int) × (List ByteArray) × (List ByteArray)) → Option (List ByteArray)
  | 0, _ => none
  | k + 1, s8 => bif icmp .gtr (s8.2.2.length : Int) (0 : Int) then ((idx s8.2.2 (IntKind.i64.wrap ((s8.2.2.length : Int) - (1 : Int)))).bind fun x12 => (inrow s8.2.2 (IntKind.i64.wrap ((s8.2.2.length : Int) - (1 : Int)))).bind fun z14 => (gget s8.1 (0 : Int) x12).bind fun x16 => bif icmp .eql x16 (0 : Int) then ((gput s8.1 x12 (1 : Int)).bind fun x19 => (app 16 s8.2.1 ([x12])).bind fun x21 => (gget v4 ([] : List ByteArray) x12).bind fun x23 => (app 16 (s8.2.2.take (IntKind.i64.wrap ((s8.2.2.length : Int) - (1 : Int))).toNat) x23).bind fun x25 => graph_Reach.l0 v4 k (x19, x21, x25)) else (graph_Reach.l0 v4 k (s8.1, s8.2.1, s8.2.2.take (IntKind.i64.wrap ((s8.2.2.length : Int) - (1 : Int))).toNat))) else (some s8.2.1)
def graph_Reach.f (k : Nat) (a0 : Make) (a1 : List ByteArray) : Option ((List ByteArray) × Int) := (graph_asked.f k a0 a1).bind fun v1 => bif icmp .neq v1 (0 : Int) then (some (([] : List ByteArray), v1)) else ((graph_needs.f k a0).bind fun v4 => (slices_Clone_string_string.f a1).bind fun v6 => (graph_Reach.l0 v4 k ((gempty : GM Int), ([] : List ByteArray), v6)).bind fun s9 => (slices_Sort_string_string.f s9).bind fun v27 => some (v27, (0 : Int)))
set_option maxRecDepth 100000 in
set_option maxHeartbeats 4000000 in
theorem graph_Reach.con (k : Nat) (a0 : Make) (a1 : List ByteArray) (r : (List ByteArray) × Int) (H : graph_Reach.f k a0 a1 = some r) : Con Try.prog 15 [VA.k kMake a0, VA.k (kslice kstr) a1] [VA.own 9 kstr r.1, VA.k (kint .i64) r.2] := by
  unfold graph_Reach.f at H
  refine con_enter Try.func15 rfl rfl rfl (fun w0 S0 θ => ?_)
  refine goes_seq ?_
  refine goes_region ?_
  refine go3 (op_box 2 rfl (fun h => by first | rfl | cases h) (.t (has rfl))) rfl ?_
  refine go1 (op_assign_nil 9 kstr (.inr rfl) rfl) rfl ?_
  refine go1 (op_assign rfl (.int _ _)) rfl ?_
  refine goesO_nil ?_
  refine ends_then ?_
  refine goes_seq ?_
  refine goes_seq ?_
  refine goes_region ?_
  refine go1 (op_load rfl (Fld.whole kMake) tk29 (.t (has rfl)) (has rfl)) rfl ?_
  refine go1 (op_move rfl (.t (has rfl))) rfl ?_
  obtain ⟨v1, h2, H⟩ := bind_some H
  refine go1 (op_call' rfl enters21 (graph_asked.con _ _ _ _ h2) rfl (.cons (ArgP.k (.t (has rfl))) (.cons (ArgP.k (.t (has rfl))) .nil))) rfl ?_
  refine go1 (op_assign rfl (.t (has rfl))) rfl ?_
  refine goesO_nil ?_
  refine ends_then ?_
  refine goes_seq ?_
  refine goes_region ?_
  refine go1 (op_move rfl (.t (has rfl))) rfl ?_
  refine go1 (op_icmp rfl rfl (.t (has rfl)) (.int _ _)) rfl ?_
  refine goesO_nil ?_
  refine ends_then ?_
  refine goes_if (.t (has rfl)) H (fun hb3 H => ?_) (fun hb3 H => ?_)
  · skip
    refine goes_seq ?_
    refine goes_region ?_
    refine go1 (op_move rfl (.t (has rfl))) rfl ?_
    refine go1 (op_assign_nil 9 kstr (.inr rfl) rfl) rfl ?_
    refine go1 (op_assign rfl (.t (has rfl))) rfl ?_
    refine goesO_nil ?_
    refine ends_then ?_
    obtain rfl := Option.some.inj H
    exact goes_ret (ends_then_ret (ends_ret' rfl rfl (.t rfl (.t rfl (.nil _)))))
  · skip
    refine goes_skip ?_
    refine ends_then ?_
    refine goes_seq ?_
    refine goes_region ?_
    refine go1 (op_load rfl (Fld.whole kMake) tk29 (.t (has rfl)) (has rfl)) rfl ?_
    obtain ⟨v4, h5, H⟩ := bind_some H
    refine go1 (op_call' rfl enters18 (graph_needs.con _ _ _ h5) rfl (.cons (ArgP.k (.t (has rfl))) .nil)) rfl ?_
    refine goesO_adopt 19 19 rfl rfl ?_
    refine go1 (op_assignA rfl plain_mp (.t (has rfl))) rfl ?_
    refine goesO_nil ?_
    refine ends_then ?_
    refine goes_seq ?_
    refine goes_region ?_
    refine go3 (op_makeMap 9 (kint .i64) 20 rfl) rfl ?_
    refine go1 (op_assignA rfl plain_mp (.t (has rfl))) rfl ?_
    refine goesO_nil ?_
    refine ends_then ?_
    refine goes_seq ?_
    refine goes_region ?_
    refine go1 (op_assign_nil 9 kstr (.inr rfl) rfl) rfl ?_
    refine goesO_nil ?_
    refine ends_then ?_
    refine goes_seq ?_
    refine goes_region ?_
    refine go1 (op_move rfl (.t (has rfl))) rfl ?_
    obtain ⟨v6, h7, H⟩ := bind_some H
    refine go1 (op_call' rfl enters28 (slices_Clone_string_string.con _ _ h7) rfl (.cons (ArgP.k (.t (has rfl))) .nil)) rfl ?_
    refine go2 (op_mv (.inr rfl) rfl rfl (has rfl)) rfl ?_
    refine goesO_nil ?_
    refine ends_then ?_
    refine goes_seq ?_
    obtain ⟨s9, h10, H⟩ := bind_some H
    refine goes_cut [Ent.t 9 (VA.own 9 kstr s9)] ?_ ?_
    · replace H := h10; clear h10
      refine goes_block ?_
      refine goes_loop (fun s8 : (GM Int) × (List ByteArray) × (List ByteArray) => [Ent.t 7 (VA.mp false 19), Ent.t 8 (VA.mp false 20), Ent.t 9 (VA.own 9 kstr s8.2.1), Ent.t 10 (VA.own 9 kstr s8.2.2), Ent.h 19 (HE.map Try.prog 9 (kslice kstr) v4), Ent.h 20 (HE.map Try.prog 9 (kint .i64) s8.1)]) (fun k s8 => graph_Reach.l0 v4 k s8) (fun _ => rfl) H (.cons rfl (.cons rfl (.cons rfl (.cons rfl (.cons rfl (.cons rfl .nil)))))) ?_
      intro k s8 H
      simp only [graph_Reach.l0] at H
      refine goes_seq ?_
      refine goes_seq ?_
      refine goes_region ?_
      refine go1 (op_same (.inl rfl) rfl rfl) rfl ?_
      refine go1 (op_len_own rfl rfl Try.underlying25 (.same (has rfl) (has rfl))) rfl ?_
      refine go1 (op_icmp rfl rfl (.t (has rfl)) (.int _ _)) rfl ?_
      refine goesO_nil ?_
      refine ends_then ?_
      refine goes_if (.t (has rfl)) H (fun hb11 H => ?_) (fun hb11 H => ?_)
      · skip
        refine goes_skip ?_
        refine ends_then ?_
        refine goes_block ?_
        refine goes_seq ?_
        refine goes_region ?_
        refine go1 (op_same (.inl rfl) rfl rfl) rfl ?_
        refine go1 (op_same (.inl rfl) rfl rfl) rfl ?_
        refine go1 (op_len_own rfl rfl Try.underlying25 (.same (has rfl) (has rfl))) rfl ?_
        refine go1 (op_sub rfl (.t (has rfl)) (.int _ _)) rfl ?_
        obtain ⟨x12, h13, H⟩ := bind_some H
        refine go1 (op_indexAddr_own rfl rfl Try.underlying25 tk9 h13 (.same (has rfl)) (has rfl) (.t (has rfl))) rfl ?_
        refine go1 (op_load_oe (off := 0) rfl (Fld.whole kstr) tk9 h13 (has rfl) (has rfl)) rfl ?_
        refine go1 (op_assign rfl (.t (has rfl))) rfl ?_
        refine goesO_nil ?_
        refine ends_then ?_
        refine goes_seq ?_
        refine goes_region ?_
        refine go1 (op_same (.inl rfl) rfl rfl) rfl ?_
        refine go1 (op_same (.inl rfl) rfl rfl) rfl ?_
        refine go1 (op_len_own rfl rfl Try.underlying25 (.same (has rfl) (has rfl))) rfl ?_
        refine go1 (op_sub rfl (.t (has rfl)) (.int _ _)) rfl ?_
        obtain ⟨z14, h15, H⟩ := bind_some H
        refine go2 (op_slice_own rfl rfl Try.underlying25 tk9 (inrow_spec h15).1 (inrow_spec h15).2 (.same (has rfl)) (has rfl) (.t (has rfl))) rfl ?_
        refine go2 (op_mv (.inr rfl) rfl rfl (has rfl)) rfl ?_
        refine goesO_nil ?_
        refine ends_then ?_
        refine goes_seq ?_
        refine goes_region ?_
        refine go1 (op_moveA rfl plain_mp (.t (has rfl))) rfl ?_
        refine go1 (op_move rfl (.t (has rfl))) rfl ?_
        obtain ⟨x16, h17, H⟩ := bind_some H
        refine go1 (op_lookup rfl xmt50 h17 (.t (has rfl)) (has rfl) (.t (has rfl))) rfl ?_
        refine go1 (op_icmp rfl rfl (.t (has rfl)) (.int _ _)) rfl ?_
        refine goesO_nil ?_
        refine ends_then ?_
        refine goes_if (.t (has rfl)) H (fun hb18 H => ?_) (fun hb18 H => ?_)
        · skip
          refine goes_seq ?_
          refine goes_region ?_
          refine go1 (op_moveA rfl plain_mp (.t (has rfl))) rfl ?_
          refine go1 (op_move rfl (.t (has rfl))) rfl ?_
          obtain ⟨x19, h20, H⟩ := bind_some H
          refine go1 (op_mapUpdate xmt50 h20 (.t (has rfl)) (has rfl) (.t (has rfl)) (.int _ _)) rfl ?_
          refine goesO_nil ?_
          refine ends_then ?_
          refine goes_seq ?_
          refine goes_region ?_
          refine go2 (op_mv (.inl rfl) rfl rfl (has rfl)) rfl ?_
          refine go1 (op_move rfl (.t (has rfl))) rfl ?_
          refine go1 (op_buildSlice rfl at25 (fun h => by first | rfl | cases h) rfl rfl rfl (.cons (.t (has rfl)) (.nil _))) rfl ?_
          obtain ⟨x21, h22, H⟩ := bind_some H
          refine go2 (op_append rfl rfl at25 h22 (has rfl) (ReadsArg.own (.t (has rfl)))) rfl ?_
          refine go2 (op_mv (.inr rfl) rfl rfl (has rfl)) rfl ?_
          refine goesO_nil ?_
          refine ends_then ?_
          refine goes_region ?_
          refine go2 (op_mv (.inl rfl) rfl rfl (has rfl)) rfl ?_
          refine go1 (op_moveA rfl plain_mp (.t (has rfl))) rfl ?_
          refine go1 (op_move rfl (.t (has rfl))) rfl ?_
          obtain ⟨x23, h24, H⟩ := bind_some H
          refine go1 (op_lookup rfl xmt48 h24 (.t (has rfl)) (has rfl) (.t (has rfl))) rfl ?_
          obtain ⟨x25, h26, H⟩ := bind_some H
          refine go2 (op_append rfl rfl at25 h26 (has rfl) (ReadsArg.k (.t (has rfl)))) rfl ?_
          refine go2 (op_mv (.inr rfl) rfl rfl (has rfl)) rfl ?_
          refine goesO_nil ?_
          refine ends_block ?_
          exact loop_next _ H (.cons rfl (.cons rfl (.cons rfl (.cons rfl (.cons rfl (.cons rfl .nil))))))
        · skip
          refine goes_skip ?_
          refine ends_block ?_
          exact loop_next _ H (.cons rfl (.cons rfl (.cons rfl (.cons rfl (.cons rfl (.cons rfl .nil))))))
      · skip
        refine goes_exit (ends_then_exit (ends_then_exit (ends_block_exit ?_)))
        obtain rfl := Option.some.inj H
        exact ends_cut (.cons rfl .nil)
    refine ends_then ?_
    refine goes_seq ?_
    refine goes_region ?_
    refine goesO_number 9 900 rfl rfl rfl ?_
    refine go1 (op_moveA rfl plain_rw (.t (has rfl))) rfl ?_
    obtain ⟨v27, h28, H⟩ := bind_some H
    refine goN (op_callE [] [] rfl enters29 (slices_Sort_string_string.con 900 _ _ h28) rfl (.cons (has rfl) .nil) (.cons (ArgP.a plain_rw (.t (has rfl))) .nil)) rfl ?_
    refine goesO_relen 9 (slices_Sort_string_string.len h28) rfl ?_
    refine goesO_nil ?_
    refine ends_then ?_
    refine goes_seq ?_
    refine goes_region ?_
    refine go1 (op_moveA rfl plain_rw (.t (has rfl))) rfl ?_
    refine go1 (op_assignA rfl plain_rw (.t (has rfl))) rfl ?_
    refine go1 (op_assign rfl (.int _ _)) rfl ?_
    refine goesO_nil ?_
    refine ends_then ?_
    refine goes_release 4 900 rfl rfl rfl ?_
    obtain rfl := Option.some.inj H
    exact goes_ret (ends_ret' rfl rfl (.t rfl (.t rfl (.nil _))))
/-! smithy/smithyref10.Needs -/
def smithyref10_Needs.l0 (a0 : Make) (a1 : ByteArray) : Nat → Int → Option (Except (List ByteArray) Unit)
  | 0, _ => none
  | k + 1, s1 => bif icmp .lss s1 (a0.Rules.length : Int) then ((idx a0.Rules s1).bind fun x6 => bif scmp .eql x6.Target a1 then ((idx a0.Rules s1).bind fun x9 => some (Except.error x9.Needs)) else (smithyref10_Needs.l0 a0 a1 k (IntKind.i64.wrap (s1 + (1 : Int))))) else (some (Except.ok ()))
def smithyref10_Needs.f (k : Nat) (a0 : Make) (a1 : ByteArray) : Option (List ByteArray) := (smithyref10_Needs.l0 a0 a1 k (0 : Int)).bind fun o4 => match o4 with | .error r' => some r' | .ok s2 => (some ([] : List ByteArray))
set_option maxRecDepth 100000 in
set_option maxHeartbeats 4000000 in
theorem smithyref10_Needs.con (k : Nat) (a0 : Make) (a1 : ByteArray) (r : List ByteArray) (H : smithyref10_Needs.f k a0 a1 = some r) : Con Try.prog 8 [VA.k kMake a0, VA.k kstr a1] [VA.k (kslice kstr) r] := by
  unfold smithyref10_Needs.f at H
  refine con_enter Try.func8 rfl rfl rfl (fun w0 S0 θ => ?_)
  refine goes_seq ?_
  refine goes_region ?_
  refine go3 (op_box 2 rfl (fun h => by first | rfl | cases h) (.t (has rfl))) rfl ?_
  refine go1 (op_assign_nil 9 kstr (.inr rfl) rfl) rfl ?_
  refine goesO_nil ?_
  refine ends_then ?_
  refine goes_seq ?_
  refine goes_seq ?_
  refine goes_region ?_
  refine go1 (op_assign rfl (.int _ _)) rfl ?_
  refine goesO_nil ?_
  refine ends_then ?_
  obtain ⟨o4, h3, H⟩ := bind_some H
  refine goes_cutR (o := o4) (fun s2 : Unit => []) (fun r a w => bodyPost Try.prog Try.f8 (CPost w0 S0 θ [VA.k (kslice kstr) r]) .ret a w) ?_ ?_ ?_
  · replace H := h3; clear h3
    refine goes_block ?_
    refine goes_loop (fun s1 : Int => [Ent.t 1 (VA.k kstr a1), Ent.t 2 (VA.ptr 2 0), Ent.t 5 (VA.k (kint .i64) s1), Ent.h 2 (HE.box 29 kMake a0)]) (fun k s1 => smithyref10_Needs.l0 a0 a1 k s1) (fun _ => rfl) H (.cons rfl (.cons rfl (.cons rfl (.cons rfl .nil)))) ?_
    intro k s1 H
    simp only [smithyref10_Needs.l0] at H
    refine goes_seq ?_
    refine goes_seq ?_
    refine goes_region ?_
    refine go1 (op_move rfl (.t (has rfl))) rfl ?_
    refine go1 (op_fieldAddr rfl Try.underlying29 rfl tk23 (.t (has rfl))) rfl ?_
    refine go1 (op_load rfl fldMake_Rules tk23 (.t (has rfl)) (has rfl)) rfl ?_
    refine go1 (op_len rfl rfl Try.underlying23 (.t (has rfl))) rfl ?_
    refine go1 (op_icmp rfl rfl (.t (has rfl)) (.t (has rfl))) rfl ?_
    refine goesO_nil ?_
    refine ends_then ?_
    refine goes_if (.t (has rfl)) H (fun hb5 H => ?_) (fun hb5 H => ?_)
    · skip
      refine goes_skip ?_
      refine ends_then ?_
      refine goes_seq ?_
      refine goes_block ?_
      refine goes_seq ?_
      refine goes_region ?_
      refine go1 (op_fieldAddr rfl Try.underlying29 rfl tk23 (.t (has rfl))) rfl ?_
      refine go1 (op_load rfl fldMake_Rules tk23 (.t (has rfl)) (has rfl)) rfl ?_
      refine go1 (op_move rfl (.t (has rfl))) rfl ?_
      obtain ⟨x6, h7, H⟩ := bind_some H
      refine go1 (op_indexAddr rfl Try.underlying23 tk52 h7 (.t (has rfl)) (.t (has rfl))) rfl ?_
      refine go1 (op_fieldAddrp rfl fldRule_Target Try.underlying52 rfl tk9 (.t (has rfl))) rfl ?_
      refine go1 (op_loadp rfl tk9 (.t (has rfl))) rfl ?_
      refine go1 (op_move rfl (.t (has rfl))) rfl ?_
      refine go1 (op_scmp rfl rfl (.t (has rfl)) (.t (has rfl))) rfl ?_
      refine goesO_nil ?_
      refine ends_then ?_
      refine goes_if (.t (has rfl)) H (fun hb8 H => ?_) (fun hb8 H => ?_)
      · skip
        refine goes_seq ?_
        refine goes_region ?_
        refine go1 (op_fieldAddr rfl Try.underlying29 rfl tk23 (.t (has rfl))) rfl ?_
        refine go1 (op_load rfl fldMake_Rules tk23 (.t (has rfl)) (has rfl)) rfl ?_
        refine go1 (op_move rfl (.t (has rfl))) rfl ?_
        obtain ⟨x9, h10, H⟩ := bind_some H
        refine go1 (op_indexAddr rfl Try.underlying23 tk52 h10 (.t (has rfl)) (.t (has rfl))) rfl ?_
        refine go1 (op_fieldAddrp rfl fldRule_Needs Try.underlying52 rfl tk25 (.t (has rfl))) rfl ?_
        refine go1 (op_loadp rfl tk25 (.t (has rfl))) rfl ?_
        refine go1 (op_assign rfl (.t (has rfl))) rfl ?_
        refine goesO_nil ?_
        refine ends_then ?_
        obtain rfl := Option.some.inj H
        refine goes_ret (ends_block_ret (ends_then_ret (ends_then_ret (ends_block_ret (ends_cutR_ret rfl ?_)))))
        exact ends_ret' rfl rfl (.t rfl (.nil _))
      · skip
        refine goes_skip ?_
        refine ends_block ?_
        refine ends_then ?_
        refine goes_region ?_
        refine go1 (op_move rfl (.t (has rfl))) rfl ?_
        refine go1 (op_add rfl (.t (has rfl)) (.int _ _)) rfl ?_
        refine go1 (op_assign rfl (.t (has rfl))) rfl ?_
        refine goesO_nil ?_
        exact loop_next _ H (.cons rfl (.cons rfl (.cons rfl (.cons rfl .nil))))
    · skip
      refine goes_exit (ends_then_exit (ends_then_exit (ends_block_exit ?_)))
      obtain rfl := Option.some.inj H
      exact ends_cutR rfl .nil
  · rintro s2 rfl
    clear h3
    dsimp only at H
    refine ends_then ?_
    refine goes_seq ?_
    refine goes_region ?_
    refine go1 (op_assign_nil 9 kstr (.inr rfl) rfl) rfl ?_
    refine goesO_nil ?_
    refine ends_then ?_
    refine goes_settle 4 rfl rfl ?_
    obtain rfl := Option.some.inj H
    exact goes_ret (ends_ret' rfl rfl (.t rfl (.nil _)))
  · rintro r' rfl a w hr
    obtain rfl := Option.some.inj H
    exact hr
end Go.Proofs.Ytlpmolohppoofaa.F
