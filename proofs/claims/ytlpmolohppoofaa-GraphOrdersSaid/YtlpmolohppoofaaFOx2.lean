import Derived.Test.YtlpmolohppoofaaFOx1
set_option linter.unusedVariables false
set_option linter.unusedSimpArgs false
set_option linter.unnecessarySimpa false
set_option linter.deprecated false
namespace Go.Proofs.Ytlpmolohppoofaa.F
open Go Go.RowKit Go.Proofs.Ytlpmolohppoofaa.Sl
/-! smithy/graph.asked -/
def graph_asked.l0 (a1 : List ByteArray) : Nat → Int → Option (Except Int Unit)
  | 0, _ => none
  | k + 1, s5 => bif icmp .lss s5 (a1.length : Int) then ((idx a1 s5).bind fun x10 => (names_Check.f k x10).bind fun v12 => bif icmp .neq v12 (0 : Int) then (some (Except.error v12)) else (graph_asked.l0 a1 k (IntKind.i64.wrap (s5 + (1 : Int))))) else (some (Except.ok ()))
def graph_asked.f (k : Nat) (a0 : Make) (a1 : List ByteArray) : Option Int := (load_Check.f k a0).bind fun v1 => bif icmp .neq v1 (0 : Int) then (some v1) else (bif icmp .gtr (a1.length : Int) (512 : Int) then (some (2 : Int)) else ((graph_asked.l0 a1 k (0 : Int)).bind fun o8 => match o8 with | .error r' => some r' | .ok s6 => (some (0 : Int))))
set_option maxRecDepth 100000 in
set_option maxHeartbeats 4000000 in
theorem graph_asked.con (k : Nat) (a0 : Make) (a1 : List ByteArray) (r : Int) (H : graph_asked.f k a0 a1 = some r) : Con Try.prog 21 [VA.k kMake a0, VA.k (kslice kstr) a1] [VA.k (kint .i64) r] := by
  unfold graph_asked.f at H
  refine con_enter Try.func21 rfl rfl rfl (fun w0 S0 θ => ?_)
  refine goes_seq ?_
  refine goes_region ?_
  refine go3 (op_box 2 rfl (fun h => by first | rfl | cases h) (.t (has rfl))) rfl ?_
  refine go1 (op_assign rfl (.int _ _)) rfl ?_
  refine goesO_nil ?_
  refine ends_then ?_
  refine goes_seq ?_
  refine goes_seq ?_
  refine goes_region ?_
  refine go1 (op_load rfl (Fld.whole kMake) tk29 (.t (has rfl)) (has rfl)) rfl ?_
  obtain ⟨v1, h2, H⟩ := bind_some H
  refine go1 (op_call' rfl enters34 (load_Check.con _ _ _ h2) rfl (.cons (ArgP.k (.t (has rfl))) .nil)) rfl ?_
  refine go1 (op_assign rfl (.t (has rfl))) rfl ?_
  refine goesO_nil ?_
  refine ends_then ?_
  refine goes_seq ?_
  refine goes_region ?_
  refine go1 (op_move rfl (.t (has rfl))) rfl ?_
  refine go1 (op_icmp rfl rfl (.t (has rfl)) (.int _ _)) rfl ?_
  refine goesO_nil ?_
  refine ends_then ?_
  refine goes_if (.t (has rfl)) H (fun hb3 H => ?_) (fun hb3 H => ?_)
  · skip
    refine goes_seq ?_
    refine goes_region ?_
    refine go1 (op_move rfl (.t (has rfl))) rfl ?_
    refine go1 (op_assign rfl (.t (has rfl))) rfl ?_
    refine goesO_nil ?_
    refine ends_then ?_
    obtain rfl := Option.some.inj H
    exact goes_ret (ends_then_ret (ends_ret' rfl rfl (.t rfl (.nil _))))
  · skip
    refine goes_skip ?_
    refine ends_then ?_
    refine goes_seq ?_
    refine goes_seq ?_
    refine goes_region ?_
    refine go1 (op_move rfl (.t (has rfl))) rfl ?_
    refine go1 (op_len rfl rfl Try.underlying25 (.t (has rfl))) rfl ?_
    refine go1 (op_icmp rfl rfl (.t (has rfl)) (.int _ _)) rfl ?_
    refine goesO_nil ?_
    refine ends_then ?_
    refine goes_if (.t (has rfl)) H (fun hb4 H => ?_) (fun hb4 H => ?_)
    · skip
      refine goes_seq ?_
      refine goes_region ?_
      refine go1 (op_assign rfl (.int _ _)) rfl ?_
      refine goesO_nil ?_
      refine ends_then ?_
      obtain rfl := Option.some.inj H
      exact goes_ret (ends_then_ret (ends_ret' rfl rfl (.t rfl (.nil _))))
    · skip
      refine goes_skip ?_
      refine ends_then ?_
      refine goes_seq ?_
      refine goes_seq ?_
      refine goes_region ?_
      refine go1 (op_move rfl (.t (has rfl))) rfl ?_
      refine go1 (op_len rfl rfl Try.underlying25 (.t (has rfl))) rfl ?_
      refine go1 (op_move rfl (.int _ _)) rfl ?_
      refine goesO_nil ?_
      refine ends_then ?_
      obtain ⟨o8, h7, H⟩ := bind_some H
      refine goes_cutR (o := o8) (fun s6 : Unit => []) (fun r a w => bodyPost Try.prog Try.f21 (CPost w0 S0 θ [VA.k (kint .i64) r]) .ret a w) ?_ ?_ ?_
      · replace H := h7; clear h7
        refine goes_block ?_
        refine goes_loop (fun s5 : Int => [Ent.t 17 (VA.k (kslice kstr) a1), Ent.t 18 (VA.k (kint .i64) (a1.length : Int)), Ent.t 19 (VA.k (kint .i64) s5)]) (fun k s5 => graph_asked.l0 a1 k s5) (fun _ => rfl) H (.cons rfl (.cons rfl (.cons rfl .nil))) ?_
        intro k s5 H
        simp only [graph_asked.l0] at H
        refine goes_seq ?_
        refine goes_region ?_
        refine go1 (op_icmp rfl rfl (.t (has rfl)) (.t (has rfl))) rfl ?_
        refine goesO_nil ?_
        refine ends_then ?_
        refine goes_seq ?_
        refine goes_if (.t (has rfl)) H (fun hb9 H => ?_) (fun hb9 H => ?_)
        · skip
          refine goes_skip ?_
          refine ends_then ?_
          refine goes_seq ?_
          refine goes_block ?_
          refine goes_seq ?_
          refine goes_region ?_
          obtain ⟨x10, h11, H⟩ := bind_some H
          refine go1 (op_indexAddr rfl Try.underlying25 tk9 h11 (.t (has rfl)) (.t (has rfl))) rfl ?_
          refine go1 (op_loadp rfl tk9 (.t (has rfl))) rfl ?_
          refine go1 (op_assign rfl (.t (has rfl))) rfl ?_
          refine goesO_nil ?_
          refine ends_then ?_
          refine goes_seq ?_
          refine goes_region ?_
          refine go1 (op_move rfl (.t (has rfl))) rfl ?_
          obtain ⟨v12, h13, H⟩ := bind_some H
          refine go1 (op_call' rfl enters35 (names_Check.con _ _ _ h13) rfl (.cons (ArgP.k (.t (has rfl))) .nil)) rfl ?_
          refine go1 (op_assign rfl (.t (has rfl))) rfl ?_
          refine goesO_nil ?_
          refine ends_then ?_
          refine goes_seq ?_
          refine goes_region ?_
          refine go1 (op_move rfl (.t (has rfl))) rfl ?_
          refine go1 (op_icmp rfl rfl (.t (has rfl)) (.int _ _)) rfl ?_
          refine goesO_nil ?_
          refine ends_then ?_
          refine goes_if (.t (has rfl)) H (fun hb14 H => ?_) (fun hb14 H => ?_)
          · skip
            refine goes_seq ?_
            refine goes_region ?_
            refine go1 (op_move rfl (.t (has rfl))) rfl ?_
            refine go1 (op_assign rfl (.t (has rfl))) rfl ?_
            refine goesO_nil ?_
            refine ends_then ?_
            obtain rfl := Option.some.inj H
            refine goes_ret (ends_block_ret (ends_then_ret (ends_then_ret (ends_block_ret (ends_cutR_ret rfl ?_)))))
            exact ends_ret' rfl rfl (.t rfl (.nil _))
          · skip
            refine goes_skip ?_
            refine ends_block ?_
            refine ends_then ?_
            refine goes_region ?_
            refine go1 (op_add rfl (.t (has rfl)) (.int _ _)) rfl ?_
            refine go1 (op_move rfl (.t (has rfl))) rfl ?_
            refine goesO_nil ?_
            exact loop_next _ H (.cons rfl (.cons rfl (.cons rfl .nil)))
        · skip
          refine goes_exit (ends_then_exit (ends_then_exit (ends_block_exit ?_)))
          obtain rfl := Option.some.inj H
          exact ends_cutR rfl .nil
      · rintro s6 rfl
        clear h7
        dsimp only at H
        refine ends_then ?_
        refine goes_seq ?_
        refine goes_region ?_
        refine go1 (op_assign rfl (.int _ _)) rfl ?_
        refine goesO_nil ?_
        refine ends_then ?_
        obtain rfl := Option.some.inj H
        exact goes_ret (ends_ret' rfl rfl (.t rfl (.nil _)))
      · rintro r' rfl a w hr
        obtain rfl := Option.some.inj H
        exact hr
theorem graph_asked.conF (k : Nat) (a0 : Make) (a1 : List ByteArray) (r : Int) (H : graph_asked.f k a0 a1 = some r) : ConF Try.prog 21 [VA.k kMake a0, VA.k (kslice kstr) a1] [VA.k (kint .i64) r] := (graph_asked.con k a0 a1 r H).freeL (.cons (KFree.k (KFree.int .i64) _) .nil)
/-! smithy/graph.needs -/
def graph_needs.l0 (a0 : Make) : Nat → ((GM (List ByteArray)) × Int) → Option (GM (List ByteArray))
  | 0, _ => none
  | k + 1, s1 => bif icmp .lss s1.2 (a0.Rules.length : Int) then ((idx a0.Rules s1.2).bind fun x5 => (gput s1.1 x5.Target x5.Needs).bind fun x7 => graph_needs.l0 a0 k (x7, IntKind.i64.wrap (s1.2 + (1 : Int)))) else (some s1.1)
def graph_needs.f (k : Nat) (a0 : Make) : Option (GM (List ByteArray)) := (graph_needs.l0 a0 k ((gempty : GM (List ByteArray)), (0 : Int))).bind fun s2 => some s2
set_option maxRecDepth 100000 in
set_option maxHeartbeats 4000000 in
theorem graph_needs.con (k : Nat) (a0 : Make) (r : GM (List ByteArray)) (H : graph_needs.f k a0 = some r) : Con Try.prog 18 [VA.k kMake a0] [VA.om Try.prog 9 (kslice kstr) false r] := by
  unfold graph_needs.f at H
  refine con_enter Try.func18 rfl rfl rfl (fun w0 S0 θ => ?_)
  refine goes_seq ?_
  refine goes_region ?_
  refine go3 (op_box 1 rfl (fun h => by first | rfl | cases h) (.t (has rfl))) rfl ?_
  refine go1 (op_assignA rfl plain_v (.v _)) rfl ?_
  refine goesO_nil ?_
  refine ends_then ?_
  refine goes_seq ?_
  refine goes_region ?_
  refine go3 (op_makeMap 9 (kslice kstr) 6 rfl) rfl ?_
  refine go1 (op_assignA rfl plain_mp (.t (has rfl))) rfl ?_
  refine goesO_nil ?_
  refine ends_then ?_
  refine goes_seq ?_
  refine goes_seq ?_
  refine goes_region ?_
  refine go1 (op_fieldAddr rfl Try.underlying29 rfl tk23 (.t (has rfl))) rfl ?_
  refine go1 (op_load rfl fldMake_Rules tk23 (.t (has rfl)) (has rfl)) rfl ?_
  refine go1 (op_len rfl rfl Try.underlying23 (.t (has rfl))) rfl ?_
  refine go1 (op_move rfl (.int _ _)) rfl ?_
  refine goesO_nil ?_
  refine ends_then ?_
  obtain ⟨s2, h3, H⟩ := bind_some H
  refine goes_cut [Ent.t 3 (VA.mp false 6), Ent.h 6 (HE.map Try.prog 9 (kslice kstr) s2)] ?_ ?_
  · replace H := h3; clear h3
    refine goes_block ?_
    refine goes_loop (fun s1 : (GM (List ByteArray)) × Int => [Ent.t 3 (VA.mp false 6), Ent.t 8 (VA.k (kslice kRule) a0.Rules), Ent.t 9 (VA.k (kint .i64) (a0.Rules.length : Int)), Ent.t 10 (VA.k (kint .i64) s1.2), Ent.h 6 (HE.map Try.prog 9 (kslice kstr) s1.1)]) (fun k s1 => graph_needs.l0 a0 k s1) (fun _ => rfl) H (.cons rfl (.cons rfl (.cons rfl (.cons rfl (.cons rfl .nil))))) ?_
    intro k s1 H
    simp only [graph_needs.l0] at H
    refine goes_seq ?_
    refine goes_region ?_
    refine go1 (op_icmp rfl rfl (.t (has rfl)) (.t (has rfl))) rfl ?_
    refine goesO_nil ?_
    refine ends_then ?_
    refine goes_seq ?_
    refine goes_if (.t (has rfl)) H (fun hb4 H => ?_) (fun hb4 H => ?_)
    · skip
      refine goes_skip ?_
      refine ends_then ?_
      refine goes_seq ?_
      refine goes_block ?_
      refine goes_seq ?_
      refine goes_region ?_
      obtain ⟨x5, h6, H⟩ := bind_some H
      refine go1 (op_indexAddr rfl Try.underlying23 tk52 h6 (.t (has rfl)) (.t (has rfl))) rfl ?_
      refine go1 (op_loadp rfl tk52 (.t (has rfl))) rfl ?_
      refine go3 (op_alloc 5 rfl zk52) rfl ?_
      refine go1 (op_store (Fld.whole kRule) tk52 (.t (has rfl)) (has rfl) (.t (has rfl))) rfl ?_
      refine goesO_nil ?_
      refine ends_then ?_
      refine goes_region ?_
      refine go1 (op_moveA rfl plain_mp (.t (has rfl))) rfl ?_
      refine go1 (op_fieldAddr rfl Try.underlying52 rfl tk9 (.t (has rfl))) rfl ?_
      refine go1 (op_load rfl fldRule_Target tk9 (.t (has rfl)) (has rfl)) rfl ?_
      refine go1 (op_fieldAddr rfl Try.underlying52 rfl tk25 (.t (has rfl))) rfl ?_
      refine go1 (op_load rfl fldRule_Needs tk25 (.t (has rfl)) (has rfl)) rfl ?_
      obtain ⟨x7, h8, H⟩ := bind_some H
      refine go1 (op_mapUpdate xmt48 h8 (.t (has rfl)) (has rfl) (.t (has rfl)) (.t (has rfl))) rfl ?_
      refine goesO_nil ?_
      refine ends_block ?_
      refine ends_then ?_
      refine goes_region ?_
      refine go1 (op_add rfl (.t (has rfl)) (.int _ _)) rfl ?_
      refine go1 (op_move rfl (.t (has rfl))) rfl ?_
      refine goesO_nil ?_
      exact loop_next _ H (.cons rfl (.cons rfl (.cons rfl (.cons rfl (.cons rfl .nil)))))
    · skip
      refine goes_exit (ends_then_exit (ends_then_exit (ends_block_exit ?_)))
      obtain rfl := Option.some.inj H
      exact ends_cut (.cons rfl (.cons rfl .nil))
  refine ends_then ?_
  refine goes_seq ?_
  refine goes_region ?_
  refine go1 (op_moveA rfl plain_mp (.t (has rfl))) rfl ?_
  refine go1 (op_assignA rfl plain_mp (.t (has rfl))) rfl ?_
  refine goesO_nil ?_
  refine ends_then ?_
  obtain rfl := Option.some.inj H
  exact goes_ret (ends_ret' rfl rfl (.m rfl rfl (.nil _)))
/-! slices.Reverse[[]string,string] -/
def slices_Reverse_string_string.f (a0 : List ByteArray) : Option (List ByteArray) := some a0.reverse
theorem slices_Reverse_string_string.con (i : Nat) (a0 : List ByteArray) (r : List ByteArray) (H : slices_Reverse_string_string.f a0 = some r) : ConE Try.prog 32 [i, 500000 + i] [Ent.r i 9 kstr a0] [VA.rw i (a0).length] [] [Ent.r i 9 kstr r] := by
  obtain rfl := Option.some.inj H
  exact conE_reverse i (fun blk off cap zs w h1 h2 => Try.slices_Reverse_string blk off cap zs w h1 h2) (fun p cap w => Try.slices_Reverse_string_empty p cap w) a0
theorem slices_Reverse_string_string.len {a0 r : List ByteArray} (H : slices_Reverse_string_string.f a0 = some r) : (a0).length = (r).length := by
  obtain rfl := Option.some.inj H
  exact List.length_reverse.symm
/-! smithy/graph.walk -/
def graph_walk.l2 (s2 : (GM Int) × (List ByteArray) × (List GraphFrame)) (x7 : GraphFrame) (x16 : ByteArray) (x18 : List ByteArray) : Nat → ((List ByteArray) × Int) → Option (List ByteArray)
  | 0, _ => none
  | k + 1, s23 => (idx (s2.2.2.set (IntKind.i64.wrap ((s2.2.2.length : Int) - (1 : Int))).toNat ({ x7 with left := x18 })) s23.2).bind fun x26 => (app 16 s23.1 ([x26.name])).bind fun x28 => (idx (s2.2.2.set (IntKind.i64.wrap ((s2.2.2.length : Int) - (1 : Int))).toNat ({ x7 with left := x18 })) s23.2).bind fun x30 => bif scmp .eql x30.name x16 then (some x28) else (graph_walk.l2 s2 x7 x16 x18 k (x28, IntKind.i64.wrap (s23.2 - (1 : Int))))
def graph_walk.l1 (s1 : (GM (List ByteArray)) × (GM Int) × (List ByteArray) × (List GraphFrame) × (List ByteArray)) : Nat → ((GM Int) × (List ByteArray) × (List GraphFrame)) → Option (Except ((List ByteArray) × (List ByteArray)) ((List ByteArray) × (List GraphFrame) × (GM Int)))
  | 0, _ => none
  | k + 1, s2 => bif icmp .gtr (s2.2.2.length : Int) (0 : Int) then ((idx s2.2.2 (IntKind.i64.wrap ((s2.2.2.length : Int) - (1 : Int)))).bind fun x7 => bif icmp .eql (x7.left.length : Int) (0 : Int) then ((gput s2.1 x7.name (2 : Int)).bind fun x10 => (app 16 s2.2.1 ([x7.name])).bind fun x12 => (inrow s2.2.2 (IntKind.i64.wrap ((s2.2.2.length : Int) - (1 : Int)))).bind fun z14 => graph_walk.l1 s1 k (x10, x12, s2.2.2.take (IntKind.i64.wrap ((s2.2.2.length : Int) - (1 : Int))).toNat)) else ((idx x7.left (0 : Int)).bind fun x16 => (sub x7.left (1 : Int) (x7.left.length : Int)).bind fun x18 => (gget s2.1 (0 : Int) x16).bind fun x20 => bif icmp .eql x20 (1 : Int) then ((graph_walk.l2 s2 x7 x16 x18 k (([] : List ByteArray), IntKind.i64.wrap (((s2.2.2.set (IntKind.i64.wrap ((s2.2.2.length : Int) - (1 : Int))).toNat ({ x7 with left := x18 })).length : Int) - (1 : Int)))).bind fun s24 => (slices_Reverse_string_string.f s24).bind fun v33 => some (Except.error (([] : List ByteArray), v33))) else (bif icmp .eql x20 (2 : Int) then (graph_walk.l1 s1 k (s2.1, s2.2.1, s2.2.2.set (IntKind.i64.wrap ((s2.2.2.length : Int) - (1 : Int))).toNat ({ x7 with left := x18 }))) else ((gput s2.1 x16 (1 : Int)).bind fun x36 => (gget s1.1 ([] : List ByteArray) x16).bind fun x38 => (app 40 (s2.2.2.set (IntKind.i64.wrap ((s2.2.2.length : Int) - (1 : Int))).toNat ({ x7 with left := x18 })) ([(⟨x16, x38⟩ : GraphFrame)])).bind fun x40 => graph_walk.l1 s1 k (x36, s2.2.1, x40))))) else (some (Except.ok (s2.2.1, s2.2.2, s2.1)))
def graph_walk.l0 : Nat → ((GM (List ByteArray)) × (GM Int) × (List ByteArray) × (List GraphFrame) × (List ByteArray)) → Option ((List ByteArray) × (List ByteArray))
  | 0, _ => none
  | k + 1, s1 => (graph_walk.l1 s1 k (s1.2.1, s1.2.2.1, s1.2.2.2.1)).bind fun o5 => match o5 with | .error r' => some r' | .ok s3 => (bif icmp .gtr (s1.2.2.2.2.length : Int) (0 : Int) then ((idx s1.2.2.2.2 (0 : Int)).bind fun x43 => (sub s1.2.2.2.2 (1 : Int) (s1.2.2.2.2.length : Int)).bind fun x45 => (gget s3.2.2 (0 : Int) x43).bind fun x47 => bif icmp .eql x47 (0 : Int) then ((gput s3.2.2 x43 (1 : Int)).bind fun x50 => (gget s1.1 ([] : List ByteArray) x43).bind fun x52 => (app 40 s3.2.1 ([(⟨x43, x52⟩ : GraphFrame)])).bind fun x54 => graph_walk.l0 k (s1.1, x50, s3.1, x54, x45)) else (graph_walk.l0 k (s1.1, s3.2.2, s3.1, s3.2.1, x45))) else (some (s3.1, ([] : List ByteArray))))
def graph_walk.f (k : Nat) (a0 : Make) (a1 : List ByteArray) : Option ((List ByteArray) × (List ByteArray)) := (graph_needs.f k a0).bind fun v56 => graph_walk.l0 k (v56, (gempty : GM Int), ([] : List ByteArray), ([] : List GraphFrame), a1)
set_option maxRecDepth 100000 in
set_option maxHeartbeats 4000000 in
theorem graph_walk.con (k : Nat) (a0 : Make) (a1 : List ByteArray) (r : (List ByteArray) × (List ByteArray)) (H : graph_walk.f k a0 a1 = some r) : Con Try.prog 17 [VA.k kMake a0, VA.k (kslice kstr) a1] [VA.own 9 kstr r.1, VA.own 9 kstr r.2] := by
  unfold graph_walk.f at H
  refine con_enter Try.func17 rfl rfl rfl (fun w0 S0 θ => ?_)
  refine goes_seq ?_
  refine goes_region ?_
  refine go3 (op_box 2 rfl (fun h => by first | rfl | cases h) (.t (has rfl))) rfl ?_
  refine go1 (op_assign_nil 9 kstr (.inr rfl) rfl) rfl ?_
  refine go1 (op_assign_nil 9 kstr (.inr rfl) rfl) rfl ?_
  refine goesO_nil ?_
  refine ends_then ?_
  refine goes_scope (r := r) 0 (fun s1 : (GM (List ByteArray)) × (GM Int) × (List ByteArray) × (List GraphFrame) × (List ByteArray) => [Ent.t 4 (VA.own 9 kstr s1.2.2.1), Ent.t 5 (VA.own 9 kstr ([] : List ByteArray)), Ent.t 6 (VA.mp false 15), Ent.t 7 (VA.mp false 16), Ent.t 8 (VA.own 68 kGraphFrame s1.2.2.2.1), Ent.t 9 (VA.k (kslice kstr) s1.2.2.2.2), Ent.h 15 (HE.map Try.prog 9 (kslice kstr) s1.1), Ent.h 16 (HE.map Try.prog 9 (kint .i64) s1.2.1)]) (fun k s1 => graph_walk.l0 k s1) rfl (fun _ => rfl) rfl ?_ ?_
  · intro k s1 H
    simp only [graph_walk.l0] at H
    refine goes_seq ?_
    obtain ⟨o5, h4, H⟩ := bind_some H
    refine goes_cutR (o := o5) (fun s3 : (List ByteArray) × (List GraphFrame) × (GM Int) => [Ent.t 4 (VA.own 9 kstr s3.1), Ent.t 5 (VA.own 9 kstr ([] : List ByteArray)), Ent.t 6 (VA.mp false 15), Ent.t 7 (VA.mp false 16), Ent.t 8 (VA.own 68 kGraphFrame s3.2.1), Ent.t 9 (VA.k (kslice kstr) s1.2.2.2.2), Ent.h 15 (HE.map Try.prog 9 (kslice kstr) s1.1), Ent.h 16 (HE.map Try.prog 9 (kint .i64) s3.2.2)]) (fun r a w => bodyPost Try.prog Try.f17 (CPost w0 S0 θ [VA.own 9 kstr r.1, VA.own 9 kstr r.2]) .ret a w) ?_ ?_ ?_
    · replace H := h4; clear h4
      refine goes_block ?_
      refine goes_loop (fun s2 : (GM Int) × (List ByteArray) × (List GraphFrame) => [Ent.t 4 (VA.own 9 kstr s2.2.1), Ent.t 5 (VA.own 9 kstr ([] : List ByteArray)), Ent.t 6 (VA.mp false 15), Ent.t 7 (VA.mp false 16), Ent.t 8 (VA.own 68 kGraphFrame s2.2.2), Ent.t 9 (VA.k (kslice kstr) s1.2.2.2.2), Ent.h 15 (HE.map Try.prog 9 (kslice kstr) s1.1), Ent.h 16 (HE.map Try.prog 9 (kint .i64) s2.1)]) (fun k s2 => graph_walk.l1 s1 k s2) (fun _ => rfl) H (.cons rfl (.cons rfl (.cons rfl (.cons rfl (.cons rfl (.cons rfl (.cons rfl (.cons rfl .nil)))))))) ?_
      intro k s2 H
      simp only [graph_walk.l1] at H
      refine goes_seq ?_
      refine goes_seq ?_
      refine goes_region ?_
      refine go1 (op_same (.inl rfl) rfl rfl) rfl ?_
      refine go1 (op_len_own rfl rfl Try.underlying65 (.same (has rfl) (has rfl))) rfl ?_
      refine go1 (op_icmp rfl rfl (.t (has rfl)) (.int _ _)) rfl ?_
      refine goesO_nil ?_
      refine ends_then ?_
      refine goes_if (.t (has rfl)) H (fun hb6 H => ?_) (fun hb6 H => ?_)
      · skip
        refine goes_skip ?_
        refine ends_then ?_
        refine goes_block ?_
        refine goes_seq ?_
        refine goes_region ?_
        refine go1 (op_same (.inl rfl) rfl rfl) rfl ?_
        refine go1 (op_same (.inl rfl) rfl rfl) rfl ?_
        refine go1 (op_len_own rfl rfl Try.underlying65 (.same (has rfl) (has rfl))) rfl ?_
        refine go1 (op_sub rfl (.t (has rfl)) (.int _ _)) rfl ?_
        obtain ⟨x7, h8, H⟩ := bind_some H
        refine go1 (op_indexAddr_own rfl rfl Try.underlying65 tk68 h8 (.same (has rfl)) (has rfl) (.t (has rfl))) rfl ?_
        refine go1 (op_oe (.inr (.inl rfl)) rfl rfl (has rfl)) rfl ?_
        refine goesO_nil ?_
        refine ends_then ?_
        refine goes_seq ?_
        refine goes_seq ?_
        refine goes_region ?_
        refine go1 (op_oe (.inl rfl) rfl rfl (has rfl)) rfl ?_
        refine go1 (op_oe (.inr (.inr rfl)) rfl rfl (has rfl)) rfl ?_
        refine go1 (op_fieldAddr_oe rfl rfl Try.underlying68 rfl tk25 (has rfl)) rfl ?_
        refine go1 (op_load_oe (off := 1) rfl fldGraphFrame_left tk25 h8 (has rfl) (has rfl)) rfl ?_
        refine go1 (op_len rfl rfl Try.underlying25 (.t (has rfl))) rfl ?_
        refine go1 (op_icmp rfl rfl (.t (has rfl)) (.int _ _)) rfl ?_
        refine goesO_nil ?_
        refine ends_then ?_
        refine goes_if (.t (has rfl)) H (fun hb9 H => ?_) (fun hb9 H => ?_)
        · skip
          refine goes_seq ?_
          refine goes_region ?_
          refine go1 (op_moveA rfl plain_mp (.t (has rfl))) rfl ?_
          refine go1 (op_oe (.inl rfl) rfl rfl (has rfl)) rfl ?_
          refine go1 (op_oe (.inr (.inr rfl)) rfl rfl (has rfl)) rfl ?_
          refine go1 (op_fieldAddr_oe rfl rfl Try.underlying68 rfl tk9 (has rfl)) rfl ?_
          refine go1 (op_load_oe (off := 0) rfl fldGraphFrame_name tk9 h8 (has rfl) (has rfl)) rfl ?_
          obtain ⟨x10, h11, H⟩ := bind_some H
          refine go1 (op_mapUpdate xmt50 h11 (.t (has rfl)) (has rfl) (.t (has rfl)) (.int _ _)) rfl ?_
          refine goesO_nil ?_
          refine ends_then ?_
          refine goes_seq ?_
          refine goes_region ?_
          refine go2 (op_mv (.inl rfl) rfl rfl (has rfl)) rfl ?_
          refine go1 (op_oe (.inl rfl) rfl rfl (has rfl)) rfl ?_
          refine go1 (op_oe (.inr (.inr rfl)) rfl rfl (has rfl)) rfl ?_
          refine go1 (op_fieldAddr_oe rfl rfl Try.underlying68 rfl tk9 (has rfl)) rfl ?_
          refine go1 (op_load_oe (off := 0) rfl fldGraphFrame_name tk9 h8 (has rfl) (has rfl)) rfl ?_
          refine go1 (op_buildSlice rfl at25 (fun h => by first | rfl | cases h) rfl rfl rfl (.cons (.t (has rfl)) (.nil _))) rfl ?_
          obtain ⟨x12, h13, H⟩ := bind_some H
          refine go2 (op_append rfl rfl at25 h13 (has rfl) (ReadsArg.own (.t (has rfl)))) rfl ?_
          refine go2 (op_mv (.inr rfl) rfl rfl (has rfl)) rfl ?_
          refine goesO_nil ?_
          refine ends_then ?_
          refine goes_seq ?_
          refine goes_region ?_
          refine go1 (op_same (.inl rfl) rfl rfl) rfl ?_
          refine go1 (op_same (.inl rfl) rfl rfl) rfl ?_
          refine go1 (op_len_own rfl rfl Try.underlying65 (.same (has rfl) (has rfl))) rfl ?_
          refine go1 (op_sub rfl (.t (has rfl)) (.int _ _)) rfl ?_
          obtain ⟨z14, h15, H⟩ := bind_some H
          refine go2 (op_slice_own rfl rfl Try.underlying65 tk68 (inrow_spec h15).1 (inrow_spec h15).2 (.same (has rfl)) (has rfl) (.t (has rfl))) rfl ?_
          refine go2 (op_mv (.inr rfl) rfl rfl (has rfl)) rfl ?_
          refine goesO_nil ?_
          refine ends_then ?_
          refine goes_exit (ends_then_exit (ends_block_exit ?_))
          exact loop_next _ H (.cons rfl (.cons rfl (.cons rfl (.cons rfl (.cons rfl (.cons rfl (.cons rfl (.cons rfl .nil))))))))
        · skip
          refine goes_skip ?_
          refine ends_then ?_
          refine goes_seq ?_
          refine goes_region ?_
          refine go1 (op_oe (.inl rfl) rfl rfl (has rfl)) rfl ?_
          refine go1 (op_oe (.inr (.inr rfl)) rfl rfl (has rfl)) rfl ?_
          refine go1 (op_fieldAddr_oe rfl rfl Try.underlying68 rfl tk25 (has rfl)) rfl ?_
          refine go1 (op_load_oe (off := 1) rfl fldGraphFrame_left tk25 h8 (has rfl) (has rfl)) rfl ?_
          obtain ⟨x16, h17, H⟩ := bind_some H
          refine go1 (op_indexAddr rfl Try.underlying25 tk9 h17 (.t (has rfl)) (.int _ _)) rfl ?_
          refine go1 (op_loadp rfl tk9 (.t (has rfl))) rfl ?_
          refine go1 (op_assign rfl (.t (has rfl))) rfl ?_
          refine goesO_nil ?_
          refine ends_then ?_
          refine goes_seq ?_
          refine goes_region ?_
          refine go1 (op_oe (.inl rfl) rfl rfl (has rfl)) rfl ?_
          refine go1 (op_oe (.inl rfl) rfl rfl (has rfl)) rfl ?_
          refine go1 (op_oe (.inr (.inr rfl)) rfl rfl (has rfl)) rfl ?_
          refine go1 (op_fieldAddr_oe rfl rfl Try.underlying68 rfl tk25 (has rfl)) rfl ?_
          refine go1 (op_load_oe (off := 1) rfl fldGraphFrame_left tk25 h8 (has rfl) (has rfl)) rfl ?_
          obtain ⟨x18, h19, H⟩ := bind_some H
          refine go1 (op_slice (l := some _) (h := none) rfl Try.underlying25 tk9 h19 (.t (has rfl)) (.int _ _) trivial) rfl ?_
          refine go1 (op_oe (.inr (.inr rfl)) rfl rfl (has rfl)) rfl ?_
          refine go1 (op_fieldAddr_oe rfl rfl Try.underlying68 rfl tk25 (has rfl)) rfl ?_
          refine go1 (op_store_oe (off := 1) fldGraphFrame_left tk25 h8 (has rfl) (has rfl) (.t (has rfl))) rfl ?_
          refine goesO_nil ?_
          refine ends_then ?_
          refine goes_seq ?_
          refine goes_seq ?_
          refine goes_region ?_
          refine go1 (op_moveA rfl plain_mp (.t (has rfl))) rfl ?_
          refine go1 (op_move rfl (.t (has rfl))) rfl ?_
          obtain ⟨x20, h21, H⟩ := bind_some H
          refine go1 (op_lookup rfl xmt50 h21 (.t (has rfl)) (has rfl) (.t (has rfl))) rfl ?_
          refine goesO_nil ?_
          refine ends_then ?_
          refine goes_block ?_
          refine goes_seq ?_
          refine goes_region ?_
          refine go1 (op_icmp rfl rfl (.t (has rfl)) (.int _ _)) rfl ?_
          refine go1 (op_assign rfl (.t (has rfl))) rfl ?_
          refine goesO_nil ?_
          refine ends_then ?_
          refine goes_if (.t (has rfl)) H (fun hb22 H => ?_) (fun hb22 H => ?_)
          · skip
            refine goes_seq ?_
            refine goes_seq ?_
            refine goes_region ?_
            refine go1 (op_same (.inl rfl) rfl rfl) rfl ?_
            refine go1 (op_len_own rfl rfl Try.underlying65 (.same (has rfl) (has rfl))) rfl ?_
            refine go1 (op_sub rfl (.t (has rfl)) (.int _ _)) rfl ?_
            refine go1 (op_assign rfl (.t (has rfl))) rfl ?_
            refine goesO_nil ?_
            refine ends_then ?_
            obtain ⟨s24, h25, H⟩ := bind_some H
            refine goes_cut [Ent.t 5 (VA.own 9 kstr s24)] ?_ ?_
            · replace H := h25; clear h25
              refine goes_block ?_
              refine goes_loop (fun s23 : (List ByteArray) × Int => [Ent.t 5 (VA.own 9 kstr s23.1), Ent.t 8 (VA.own 68 kGraphFrame (s2.2.2.set (IntKind.i64.wrap ((s2.2.2.length : Int) - (1 : Int))).toNat ({ x7 with left := x18 }))), Ent.t 11 (VA.k kstr x16), Ent.t 12 (VA.k (kint .i64) s23.2)]) (fun k s23 => graph_walk.l2 s2 x7 x16 x18 k s23) (fun _ => rfl) H (.cons rfl (.cons rfl (.cons rfl (.cons rfl .nil)))) ?_
              intro k s23 H
              simp only [graph_walk.l2] at H
              refine goes_seq ?_
              refine goes_block ?_
              refine goes_seq ?_
              refine goes_region ?_
              refine go2 (op_mv (.inl rfl) rfl rfl (has rfl)) rfl ?_
              refine go1 (op_same (.inl rfl) rfl rfl) rfl ?_
              refine go1 (op_move rfl (.t (has rfl))) rfl ?_
              obtain ⟨x26, h27, H⟩ := bind_some H
              refine go1 (op_indexAddr_own rfl rfl Try.underlying65 tk68 h27 (.same (has rfl)) (has rfl) (.t (has rfl))) rfl ?_
              refine go1 (op_fieldAddr_oe rfl rfl Try.underlying68 rfl tk9 (has rfl)) rfl ?_
              refine go1 (op_load_oe (off := 0) rfl fldGraphFrame_name tk9 h27 (has rfl) (has rfl)) rfl ?_
              refine go1 (op_buildSlice rfl at25 (fun h => by first | rfl | cases h) rfl rfl rfl (.cons (.t (has rfl)) (.nil _))) rfl ?_
              obtain ⟨x28, h29, H⟩ := bind_some H
              refine go2 (op_append rfl rfl at25 h29 (has rfl) (ReadsArg.own (.t (has rfl)))) rfl ?_
              refine go2 (op_mv (.inr rfl) rfl rfl (has rfl)) rfl ?_
              refine goesO_nil ?_
              refine ends_then ?_
              refine goes_seq ?_
              refine goes_region ?_
              refine go1 (op_same (.inl rfl) rfl rfl) rfl ?_
              refine go1 (op_move rfl (.t (has rfl))) rfl ?_
              obtain ⟨x30, h31, H⟩ := bind_some H
              refine go1 (op_indexAddr_own rfl rfl Try.underlying65 tk68 h31 (.same (has rfl)) (has rfl) (.t (has rfl))) rfl ?_
              refine go1 (op_fieldAddr_oe rfl rfl Try.underlying68 rfl tk9 (has rfl)) rfl ?_
              refine go1 (op_load_oe (off := 0) rfl fldGraphFrame_name tk9 h31 (has rfl) (has rfl)) rfl ?_
              refine go1 (op_move rfl (.t (has rfl))) rfl ?_
              refine go1 (op_scmp rfl rfl (.t (has rfl)) (.t (has rfl))) rfl ?_
              refine goesO_nil ?_
              refine ends_then ?_
              refine goes_if (.t (has rfl)) H (fun hb32 H => ?_) (fun hb32 H => ?_)
              · skip
                refine goes_exit (ends_block_ne rfl (ends_then_exit (ends_then_exit (ends_block_exit ?_))))
                obtain rfl := Option.some.inj H
                exact ends_cut (.cons rfl .nil)
              · skip
                refine goes_skip ?_
                refine ends_block ?_
                refine ends_then ?_
                refine goes_region ?_
                refine go1 (op_move rfl (.t (has rfl))) rfl ?_
                refine go1 (op_sub rfl (.t (has rfl)) (.int _ _)) rfl ?_
                refine go1 (op_assign rfl (.t (has rfl))) rfl ?_
                refine goesO_nil ?_
                exact loop_next _ H (.cons rfl (.cons rfl (.cons rfl (.cons rfl .nil))))
            refine ends_then ?_
            refine goes_seq ?_
            refine goes_region ?_
            refine goesO_number 5 900 rfl rfl rfl ?_
            refine go1 (op_moveA rfl plain_rw (.t (has rfl))) rfl ?_
            obtain ⟨v33, h34, H⟩ := bind_some H
            refine goN (op_callE [] [] rfl enters32 (slices_Reverse_string_string.con 900 _ _ h34) rfl (.cons (has rfl) .nil) (.cons (ArgP.a plain_rw (.t (has rfl))) .nil)) rfl ?_
            refine goesO_relen 5 (slices_Reverse_string_string.len h34) rfl ?_
            refine goesO_nil ?_
            refine ends_then ?_
            refine goes_seq ?_
            refine goes_region ?_
            refine go1 (op_moveA rfl plain_rw (.t (has rfl))) rfl ?_
            refine go1 (op_assign_nil 9 kstr (.inr rfl) rfl) rfl ?_
            refine go1 (op_assignA rfl plain_rw (.t (has rfl))) rfl ?_
            refine goesO_nil ?_
            refine ends_then ?_
            refine goes_release 5 900 rfl rfl rfl ?_
            obtain rfl := Option.some.inj H
            refine goes_ret (ends_block_ret (ends_then_ret (ends_block_ret (ends_then_ret (ends_block_ret (ends_cutR_ret rfl ?_))))))
            exact ends_ret' rfl rfl (.t rfl (.t rfl (.nil _)))
          · skip
            refine goes_seq ?_
            refine goes_region ?_
            refine go1 (op_icmp rfl rfl (.t (has rfl)) (.int _ _)) rfl ?_
            refine go1 (op_assign rfl (.t (has rfl))) rfl ?_
            refine goesO_nil ?_
            refine ends_then ?_
            refine goes_if (.t (has rfl)) H (fun hb35 H => ?_) (fun hb35 H => ?_)
            · skip
              refine goes_exit (ends_block_ne rfl (ends_then_exit (ends_block_exit ?_)))
              exact loop_next _ H (.cons rfl (.cons rfl (.cons rfl (.cons rfl (.cons rfl (.cons rfl (.cons rfl (.cons rfl .nil))))))))
            · skip
              refine goes_skip ?_
              refine ends_block ?_
              refine ends_then ?_
              refine goes_seq ?_
              refine goes_region ?_
              refine go1 (op_moveA rfl plain_mp (.t (has rfl))) rfl ?_
              refine go1 (op_move rfl (.t (has rfl))) rfl ?_
              obtain ⟨x36, h37, H⟩ := bind_some H
              refine go1 (op_mapUpdate xmt50 h37 (.t (has rfl)) (has rfl) (.t (has rfl)) (.int _ _)) rfl ?_
              refine goesO_nil ?_
              refine ends_then ?_
              refine goes_region ?_
              refine go2 (op_mv (.inl rfl) rfl rfl (has rfl)) rfl ?_
              refine go1 (op_move rfl (.t (has rfl))) rfl ?_
              refine go1 (op_moveA rfl plain_mp (.t (has rfl))) rfl ?_
              refine go1 (op_move rfl (.t (has rfl))) rfl ?_
              obtain ⟨x38, h39, H⟩ := bind_some H
              refine go1 (op_lookup rfl xmt48 h39 (.t (has rfl)) (has rfl) (.t (has rfl))) rfl ?_
              refine go1 (op_build (pl := [(0, 1), (1, 1)]) rfl rfl Try.underlying68 (by kernel_rfl) zk68 (.cons rfl tk9 fldGraphFrame_name (.t (has rfl)) (.cons rfl tk25 fldGraphFrame_left (.t (has rfl)) (.nil _)))) rfl ?_
              refine go1 (op_buildSlice rfl at65 (fun h => by first | rfl | cases h) rfl rfl rfl (.cons (.t (has rfl)) (.nil _))) rfl ?_
              obtain ⟨x40, h41, H⟩ := bind_some H
              refine go2 (op_append rfl rfl at65 h41 (has rfl) (ReadsArg.own (.t (has rfl)))) rfl ?_
              refine go2 (op_mv (.inr rfl) rfl rfl (has rfl)) rfl ?_
              refine goesO_nil ?_
              refine ends_block ?_
              exact loop_next _ H (.cons rfl (.cons rfl (.cons rfl (.cons rfl (.cons rfl (.cons rfl (.cons rfl (.cons rfl .nil))))))))
      · skip
        refine goes_exit (ends_then_exit (ends_then_exit (ends_block_exit ?_)))
        obtain rfl := Option.some.inj H
        exact ends_cutR rfl (.cons rfl (.cons rfl (.cons rfl (.cons rfl (.cons rfl (.cons rfl (.cons rfl (.cons rfl .nil))))))))
    · rintro s3 rfl
      clear h4
      dsimp only at H
      refine ends_then ?_
      refine goes_seq ?_
      refine goes_seq ?_
      refine goes_region ?_
      refine go1 (op_move rfl (.t (has rfl))) rfl ?_
      refine go1 (op_len rfl rfl Try.underlying25 (.t (has rfl))) rfl ?_
      refine go1 (op_icmp rfl rfl (.t (has rfl)) (.int _ _)) rfl ?_
      refine goesO_nil ?_
      refine ends_then ?_
      refine goes_if (.t (has rfl)) H (fun hb42 H => ?_) (fun hb42 H => ?_)
      · skip
        refine goes_seq ?_
        refine goes_region ?_
        refine go1 (op_move rfl (.t (has rfl))) rfl ?_
        obtain ⟨x43, h44, H⟩ := bind_some H
        refine go1 (op_indexAddr rfl Try.underlying25 tk9 h44 (.t (has rfl)) (.int _ _)) rfl ?_
        refine go1 (op_loadp rfl tk9 (.t (has rfl))) rfl ?_
        refine go1 (op_assign rfl (.t (has rfl))) rfl ?_
        refine goesO_nil ?_
        refine ends_then ?_
        refine goes_seq ?_
        refine goes_region ?_
        refine go1 (op_move rfl (.t (has rfl))) rfl ?_
        obtain ⟨x45, h46, H⟩ := bind_some H
        refine go1 (op_slice (l := some _) (h := none) rfl Try.underlying25 tk9 h46 (.t (has rfl)) (.int _ _) trivial) rfl ?_
        refine go1 (op_assign rfl (.t (has rfl))) rfl ?_
        refine goesO_nil ?_
        refine ends_then ?_
        refine goes_seq ?_
        refine goes_seq ?_
        refine goes_region ?_
        refine go1 (op_moveA rfl plain_mp (.t (has rfl))) rfl ?_
        refine go1 (op_move rfl (.t (has rfl))) rfl ?_
        obtain ⟨x47, h48, H⟩ := bind_some H
        refine go1 (op_lookup rfl xmt50 h48 (.t (has rfl)) (has rfl) (.t (has rfl))) rfl ?_
        refine go1 (op_icmp rfl rfl (.t (has rfl)) (.int _ _)) rfl ?_
        refine goesO_nil ?_
        refine ends_then ?_
        refine goes_if (.t (has rfl)) H (fun hb49 H => ?_) (fun hb49 H => ?_)
        · skip
          refine goes_seq ?_
          refine goes_region ?_
          refine go1 (op_moveA rfl plain_mp (.t (has rfl))) rfl ?_
          refine go1 (op_move rfl (.t (has rfl))) rfl ?_
          obtain ⟨x50, h51, H⟩ := bind_some H
          refine go1 (op_mapUpdate xmt50 h51 (.t (has rfl)) (has rfl) (.t (has rfl)) (.int _ _)) rfl ?_
          refine goesO_nil ?_
          refine ends_then ?_
          refine goes_region ?_
          refine go2 (op_mv (.inl rfl) rfl rfl (has rfl)) rfl ?_
          refine go1 (op_move rfl (.t (has rfl))) rfl ?_
          refine go1 (op_moveA rfl plain_mp (.t (has rfl))) rfl ?_
          refine go1 (op_move rfl (.t (has rfl))) rfl ?_
          obtain ⟨x52, h53, H⟩ := bind_some H
          refine go1 (op_lookup rfl xmt48 h53 (.t (has rfl)) (has rfl) (.t (has rfl))) rfl ?_
          refine go1 (op_build (pl := [(0, 1), (1, 1)]) rfl rfl Try.underlying68 (by kernel_rfl) zk68 (.cons rfl tk9 fldGraphFrame_name (.t (has rfl)) (.cons rfl tk25 fldGraphFrame_left (.t (has rfl)) (.nil _)))) rfl ?_
          refine go1 (op_buildSlice rfl at65 (fun h => by first | rfl | cases h) rfl rfl rfl (.cons (.t (has rfl)) (.nil _))) rfl ?_
          obtain ⟨x54, h55, H⟩ := bind_some H
          refine go2 (op_append rfl rfl at65 h55 (has rfl) (ReadsArg.own (.t (has rfl)))) rfl ?_
          refine go2 (op_mv (.inr rfl) rfl rfl (has rfl)) rfl ?_
          refine goesO_nil ?_
          refine ends_then ?_
          exact goes_goto (ends_then_goto (ends_jump_goto _ H (.cons rfl (.cons rfl (.cons rfl (.cons rfl (.cons rfl (.cons rfl (.cons rfl (.cons rfl .nil))))))))))
        · skip
          refine goes_skip ?_
          refine ends_then ?_
          exact goes_goto (ends_then_goto (ends_jump_goto _ H (.cons rfl (.cons rfl (.cons rfl (.cons rfl (.cons rfl (.cons rfl (.cons rfl (.cons rfl .nil))))))))))
      · skip
        refine goes_skip ?_
        refine ends_then ?_
        refine goes_seq ?_
        refine goes_region ?_
        refine go2 (op_mv (.inl rfl) rfl rfl (has rfl)) rfl ?_
        refine go2 (op_mv (.inr rfl) rfl rfl (has rfl)) rfl ?_
        refine go1 (op_assign_nil 9 kstr (.inr rfl) rfl) rfl ?_
        refine goesO_nil ?_
        refine ends_then ?_
        obtain rfl := Option.some.inj H
        exact goes_ret (ends_jump_ret (ends_ret' rfl rfl (.t rfl (.t rfl (.nil _)))))
    · rintro r' rfl a w hr
      obtain rfl := Option.some.inj H
      exact hr
  · intro hp
    refine goes_seq ?_
    refine goes_region ?_
    refine go1 (op_load rfl (Fld.whole kMake) tk29 (.t (has rfl)) (has rfl)) rfl ?_
    obtain ⟨v56, h57, H⟩ := bind_some H
    refine go1 (op_call' rfl enters18 (graph_needs.con _ _ _ h57) rfl (.cons (ArgP.k (.t (has rfl))) .nil)) rfl ?_
    refine goesO_adopt 15 15 rfl rfl ?_
    refine go1 (op_assignA rfl plain_mp (.t (has rfl))) rfl ?_
    refine goesO_nil ?_
    refine ends_then ?_
    refine goes_seq ?_
    refine goes_region ?_
    refine go3 (op_makeMap 9 (kint .i64) 16 rfl) rfl ?_
    refine go1 (op_assignA rfl plain_mp (.t (has rfl))) rfl ?_
    refine goesO_nil ?_
    refine ends_then ?_
    refine goes_seq ?_
    refine goes_region ?_
    refine go1 (op_assign_nil 68 kGraphFrame (.inr rfl) rfl) rfl ?_
    refine goesO_nil ?_
    refine ends_then ?_
    refine goes_seq ?_
    refine goes_region ?_
    refine go1 (op_move rfl (.t (has rfl))) rfl ?_
    refine go1 (op_assign rfl (.t (has rfl))) rfl ?_
    refine goesO_nil ?_
    refine ends_then ?_
    exact hp _ _ _ H (.cons rfl (.cons rfl (.cons rfl (.cons rfl (.cons rfl (.cons rfl (.cons rfl (.cons rfl .nil))))))))
theorem graph_walk.conF (k : Nat) (a0 : Make) (a1 : List ByteArray) (r : (List ByteArray) × (List ByteArray)) (H : graph_walk.f k a0 a1 = some r) : ConF Try.prog 17 [VA.k kMake a0, VA.k (kslice kstr) a1] [VA.own 9 kstr r.1, VA.own 9 kstr r.2] := (graph_walk.con k a0 a1 r H).freeL (.cons (KFree.own KFree.str _ _) (.cons (KFree.own KFree.str _ _) .nil))
/-! smithy/graph.Order -/
def graph_Order.f (k : Nat) (a0 : Make) (a1 : List ByteArray) : Option ((List ByteArray) × Int) := (graph_asked.f k a0 a1).bind fun v1 => bif icmp .neq v1 (0 : Int) then (some (([] : List ByteArray), v1)) else ((graph_walk.f k a0 a1).bind fun v4 => bif icmp .gtr (v4.2.length : Int) (0 : Int) then (some (([] : List ByteArray), (100 : Int))) else (some (v4.1, (0 : Int))))
set_option maxRecDepth 100000 in
set_option maxHeartbeats 4000000 in
theorem graph_Order.con (k : Nat) (a0 : Make) (a1 : List ByteArray) (r : (List ByteArray) × Int) (H : graph_Order.f k a0 a1 = some r) : Con Try.prog 11 [VA.k kMake a0, VA.k (kslice kstr) a1] [VA.own 9 kstr r.1, VA.k (kint .i64) r.2] := by
  unfold graph_Order.f at H
  refine con_enter Try.func11 rfl rfl rfl (fun w0 S0 θ => ?_)
  refine goes_seq ?_
  refine goes_region ?_
  refine go3 (op_box 2 rfl (fun h => by first | rfl | cases h) (.t (has rfl))) rfl ?_
  refine go1 (op_assign_nil 9 kstr (.inr rfl) rfl) rfl ?_
  refine go1 (op_assign rfl (.int _ _)) rfl ?_
  refine goesO_nil ?_
  refine ends_then ?_
  refine goes_seq ?_
  refine goes_seq ?_
  refine goes_region ?_
  refine go1 (op_load rfl (Fld.whole kMake) tk29 (.t (has rfl)) (has rfl)) rfl ?_
  refine go1 (op_move rfl (.t (has rfl))) rfl ?_
  obtain ⟨v1, h2, H⟩ := bind_some H
  refine go1 (op_call' rfl enters21 (graph_asked.con _ _ _ _ h2) rfl (.cons (ArgP.k (.t (has rfl))) (.cons (ArgP.k (.t (has rfl))) .nil))) rfl ?_
  refine go1 (op_assign rfl (.t (has rfl))) rfl ?_
  refine goesO_nil ?_
  refine ends_then ?_
  refine goes_seq ?_
  refine goes_region ?_
  refine go1 (op_move rfl (.t (has rfl))) rfl ?_
  refine go1 (op_icmp rfl rfl (.t (has rfl)) (.int _ _)) rfl ?_
  refine goesO_nil ?_
  refine ends_then ?_
  refine goes_if (.t (has rfl)) H (fun hb3 H => ?_) (fun hb3 H => ?_)
  · skip
    refine goes_seq ?_
    refine goes_region ?_
    refine go1 (op_move rfl (.t (has rfl))) rfl ?_
    refine go1 (op_assign_nil 9 kstr (.inr rfl) rfl) rfl ?_
    refine go1 (op_assign rfl (.t (has rfl))) rfl ?_
    refine goesO_nil ?_
    refine ends_then ?_
    obtain rfl := Option.some.inj H
    exact goes_ret (ends_then_ret (ends_ret' rfl rfl (.t rfl (.t rfl (.nil _)))))
  · skip
    refine goes_skip ?_
    refine ends_then ?_
    refine goes_seq ?_
    refine goes_region ?_
    refine go1 (op_load rfl (Fld.whole kMake) tk29 (.t (has rfl)) (has rfl)) rfl ?_
    refine go1 (op_move rfl (.t (has rfl))) rfl ?_
    obtain ⟨v4, h5, H⟩ := bind_some H
    refine goN (op_calls' rfl enters17 (graph_walk.con _ _ _ _ h5) rfl rfl (.cons (ArgP.k (.t (has rfl))) (.cons (ArgP.k (.t (has rfl))) .nil))) rfl ?_
    refine go1 (op_same (.inl rfl) rfl rfl) rfl ?_
    refine go2 (op_extract_own_same rfl rfl rfl (has rfl) (has rfl)) rfl ?_
    refine go2 (op_extract_own_same rfl rfl rfl (has rfl) (has rfl)) rfl ?_
    refine go2 (op_mv (.inr rfl) rfl rfl (has rfl)) rfl ?_
    refine go2 (op_mv (.inr rfl) rfl rfl (has rfl)) rfl ?_
    refine goesO_nil ?_
    refine ends_then ?_
    refine goes_seq ?_
    refine goes_seq ?_
    refine goes_region ?_
    refine goesO_settle 8 rfl rfl ?_
    refine go1 (op_move rfl (.t (has rfl))) rfl ?_
    refine go1 (op_len rfl rfl Try.underlying25 (.t (has rfl))) rfl ?_
    refine go1 (op_icmp rfl rfl (.t (has rfl)) (.int _ _)) rfl ?_
    refine goesO_nil ?_
    refine ends_then ?_
    refine goes_if (.t (has rfl)) H (fun hb6 H => ?_) (fun hb6 H => ?_)
    · skip
      refine goes_seq ?_
      refine goes_region ?_
      refine go1 (op_assign_nil 9 kstr (.inr rfl) rfl) rfl ?_
      refine go1 (op_assign rfl (.int _ _)) rfl ?_
      refine goesO_nil ?_
      refine ends_then ?_
      obtain rfl := Option.some.inj H
      exact goes_ret (ends_then_ret (ends_ret' rfl rfl (.t rfl (.t rfl (.nil _)))))
    · skip
      refine goes_skip ?_
      refine ends_then ?_
      refine goes_seq ?_
      refine goes_region ?_
      refine go2 (op_mv (.inl rfl) rfl rfl (has rfl)) rfl ?_
      refine go2 (op_mv (.inr rfl) rfl rfl (has rfl)) rfl ?_
      refine go1 (op_assign rfl (.int _ _)) rfl ?_
      refine goesO_nil ?_
      refine ends_then ?_
      obtain rfl := Option.some.inj H
      exact goes_ret (ends_ret' rfl rfl (.t rfl (.t rfl (.nil _))))
theorem graph_Order.conF (k : Nat) (a0 : Make) (a1 : List ByteArray) (r : (List ByteArray) × Int) (H : graph_Order.f k a0 a1 = some r) : ConF Try.prog 11 [VA.k kMake a0, VA.k (kslice kstr) a1] [VA.own 9 kstr r.1, VA.k (kint .i64) r.2] := (graph_Order.con k a0 a1 r H).freeL (.cons (KFree.own KFree.str _ _) (.cons (KFree.k (KFree.int .i64) _) .nil))
/-! smithy/graph.Ring -/
def graph_Ring.f (k : Nat) (a0 : Make) (a1 : List ByteArray) : Option ((List ByteArray) × Bool × Int) := (graph_asked.f k a0 a1).bind fun v1 => bif icmp .neq v1 (0 : Int) then (some (([] : List ByteArray), false, v1)) else ((graph_walk.f k a0 a1).bind fun v4 => some (v4.2, icmp .gtr (v4.2.length : Int) (0 : Int), (0 : Int)))
set_option maxRecDepth 100000 in
set_option maxHeartbeats 4000000 in
theorem graph_Ring.con (k : Nat) (a0 : Make) (a1 : List ByteArray) (r : (List ByteArray) × Bool × Int) (H : graph_Ring.f k a0 a1 = some r) : Con Try.prog 12 [VA.k kMake a0, VA.k (kslice kstr) a1] [VA.k (kslice kstr) r.1, VA.k kbool r.2.1, VA.k (kint .i64) r.2.2] := by
  unfold graph_Ring.f at H
  refine con_enter Try.func12 rfl rfl rfl (fun w0 S0 θ => ?_)
  refine goes_seq ?_
  refine goes_region ?_
  refine go3 (op_box 2 rfl (fun h => by first | rfl | cases h) (.t (has rfl))) rfl ?_
  refine go1 (op_assign_nil 9 kstr (.inr rfl) rfl) rfl ?_
  refine go1 (op_assign rfl (.bool _)) rfl ?_
  refine go1 (op_assign rfl (.int _ _)) rfl ?_
  refine goesO_nil ?_
  refine ends_then ?_
  refine goes_seq ?_
  refine goes_seq ?_
  refine goes_region ?_
  refine go1 (op_load rfl (Fld.whole kMake) tk29 (.t (has rfl)) (has rfl)) rfl ?_
  refine go1 (op_move rfl (.t (has rfl))) rfl ?_
  obtain ⟨v1, h2, H⟩ := bind_some H
  refine go1 (op_call' rfl enters21 (graph_asked.con _ _ _ _ h2) rfl (.cons (ArgP.k (.t (has rfl))) (.cons (ArgP.k (.t (has rfl))) .nil))) rfl ?_
  refine go1 (op_assign rfl (.t (has rfl))) rfl ?_
  refine goesO_nil ?_
  refine ends_then ?_
  refine goes_seq ?_
  refine goes_region ?_
  refine go1 (op_move rfl (.t (has rfl))) rfl ?_
  refine go1 (op_icmp rfl rfl (.t (has rfl)) (.int _ _)) rfl ?_
  refine goesO_nil ?_
  refine ends_then ?_
  refine goes_if (.t (has rfl)) H (fun hb3 H => ?_) (fun hb3 H => ?_)
  · skip
    refine goes_seq ?_
    refine goes_region ?_
    refine go1 (op_move rfl (.t (has rfl))) rfl ?_
    refine go1 (op_assign_nil 9 kstr (.inr rfl) rfl) rfl ?_
    refine go1 (op_assign rfl (.bool _)) rfl ?_
    refine go1 (op_assign rfl (.t (has rfl))) rfl ?_
    refine goesO_nil ?_
    refine ends_then ?_
    refine goes_settle 4 rfl rfl ?_
    obtain rfl := Option.some.inj H
    exact goes_ret (ends_then_ret (ends_ret' rfl rfl (.t rfl (.t rfl (.t rfl (.nil _))))))
  · skip
    refine goes_skip ?_
    refine ends_then ?_
    refine goes_seq ?_
    refine goes_region ?_
    refine go1 (op_load rfl (Fld.whole kMake) tk29 (.t (has rfl)) (has rfl)) rfl ?_
    refine go1 (op_move rfl (.t (has rfl))) rfl ?_
    obtain ⟨v4, h5, H⟩ := bind_some H
    refine goN (op_calls' rfl enters17 (graph_walk.con _ _ _ _ h5) rfl rfl (.cons (ArgP.k (.t (has rfl))) (.cons (ArgP.k (.t (has rfl))) .nil))) rfl ?_
    refine go1 (op_same (.inl rfl) rfl rfl) rfl ?_
    refine go2 (op_extract_own_same rfl rfl rfl (has rfl) (has rfl)) rfl ?_
    refine go2 (op_extract_own_same rfl rfl rfl (has rfl) (has rfl)) rfl ?_
    refine go2 (op_mv (.inr rfl) rfl rfl (has rfl)) rfl ?_
    refine go2 (op_mv (.inr rfl) rfl rfl (has rfl)) rfl ?_
    refine goesO_nil ?_
    refine ends_then ?_
    refine goes_seq ?_
    refine goes_region ?_
    refine goesO_settle 9 rfl rfl ?_
    refine go1 (op_move rfl (.t (has rfl))) rfl ?_
    refine go1 (op_move rfl (.t (has rfl))) rfl ?_
    refine go1 (op_len rfl rfl Try.underlying25 (.t (has rfl))) rfl ?_
    refine go1 (op_icmp rfl rfl (.t (has rfl)) (.int _ _)) rfl ?_
    refine go1 (op_assign rfl (.t (has rfl))) rfl ?_
    refine go1 (op_assign rfl (.t (has rfl))) rfl ?_
    refine go1 (op_assign rfl (.int _ _)) rfl ?_
    refine goesO_nil ?_
    refine ends_then ?_
    obtain rfl := Option.some.inj H
    exact goes_ret (ends_ret' rfl rfl (.t rfl (.t rfl (.t rfl (.nil _)))))
/-! smithy/smithyref05.Name -/
def smithyref05_Name.l0 (a0 : ByteArray) : Nat → Int → Option (Except Bool Unit)
  | 0, _ => none
  | k + 1, s5 => bif icmp .lss s5 (a0.size : Int) then ((bidx a0 s5).bind fun x10 => (bif icmp .geq x10 (65 : Int) then (bif icmp .leq x10 (90 : Int) then (some (!true)) else (bif icmp .geq x10 (97 : Int) then (bif icmp .leq x10 (122 : Int) then (some (!true)) else (bif icmp .geq x10 (48 : Int) then (bif icmp .leq x10 (57 : Int) then (some (!true)) else (bif icmp .eql x10 (95 : Int) then (some (!true)) else (some (!(icmp .eql x10 (46 : Int)))))) else (bif icmp .eql x10 (95 : Int) then (some (!true)) else (some (!(icmp .eql x10 (46 : Int))))))) else (bif icmp .geq x10 (48 : Int) then (bif icmp .leq x10 (57 : Int) then (some (!true)) else (bif icmp .eql x10 (95 : Int) then (some (!true)) else (some (!(icmp .eql x10 (46 : Int)))))) else (bif icmp .eql x10 (95 : Int) then (some (!true)) else (some (!(icmp .eql x10 (46 : Int)))))))) else (bif icmp .geq x10 (97 : Int) then (bif icmp .leq x10 (122 : Int) then (some (!true)) else (bif icmp .geq x10 (48 : Int) then (bif icmp .leq x10 (57 : Int) then (some (!true)) else (bif icmp .eql x10 (95 : Int) then (some (!true)) else (some (!(icmp .eql x10 (46 : Int)))))) else (bif icmp .eql x10 (95 : Int) then (some (!true)) else (some (!(icmp .eql x10 (46 : Int))))))) else (bif icmp .geq x10 (48 : Int) then (bif icmp .leq x10 (57 : Int) then (some (!true)) else (bif icmp .eql x10 (95 : Int) then (some (!true)) else (some (!(icmp .eql x10 (46 : Int)))))) else (bif icmp .eql x10 (95 : Int) then (some (!true)) else (some (!(icmp .eql x10 (46 : Int)))))))).bind fun s12 => bif s12 then (some (Except.error false)) else (smithyref05_Name.l0 a0 k (IntKind.i64.wrap (s5 + (1 : Int))))) else (some (Except.ok ()))
def smithyref05_Name.f (k : Nat) (a0 : ByteArray) : Option Bool := (bif icmp .lss (a0.size : Int) (1 : Int) then (some true) else (some (icmp .gtr (a0.size : Int) (64 : Int)))).bind fun s1 => bif s1 then (some false) else ((smithyref05_Name.l0 a0 k (0 : Int)).bind fun o8 => match o8 with | .error r' => some r' | .ok s6 => (some true))
set_option maxRecDepth 100000 in
set_option maxHeartbeats 4000000 in
theorem smithyref05_Name.con (k : Nat) (a0 : ByteArray) (r : Bool) (H : smithyref05_Name.f k a0 = some r) : Con Try.prog 52 [VA.k kstr a0] [VA.k kbool r] := by
  unfold smithyref05_Name.f at H
  refine con_enter Try.func52 rfl rfl rfl (fun w0 S0 θ => ?_)
  refine goes_seq ?_
  refine goes_region ?_
  refine go1 (op_assign rfl (.bool _)) rfl ?_
  refine goesO_nil ?_
  refine ends_then ?_
  refine goes_seq ?_
  refine goes_seq ?_
  obtain ⟨s1, h2, H⟩ := bind_some H
  refine goes_cut [Ent.t 0 (VA.k kstr a0), Ent.t 12 (VA.k kbool s1)] ?_ ?_
  · replace H := h2; clear h2
    refine goes_region ?_
    refine go1 (op_move rfl (.t (has rfl))) rfl ?_
    refine go1 (op_len_str rfl rfl Try.underlying9 (.t (has rfl))) rfl ?_
    refine go1 (op_icmp rfl rfl (.t (has rfl)) (.int _ _)) rfl ?_
    refine go1 (op_move rfl (.t (has rfl))) rfl ?_
    refine goesO_split H (fun hb3 H => ?_) (fun hb3 H => ?_)
    · skip
      refine goS rfl rfl rfl rfl rfl rfl hb3 ?_
      refine goS rfl rfl rfl rfl rfl rfl hb3 ?_
      refine goS rfl rfl rfl rfl rfl rfl hb3 ?_
      refine go1 (op_pick_t rfl hb3 (.t (has rfl)) (.bool _)) rfl ?_
      refine goesO_nil ?_
      obtain rfl := Option.some.inj H
      exact ends_cut (.cons rfl (.cons rfl .nil))
    · skip
      refine goG (op_move rfl (.t (has rfl))) rfl rfl rfl rfl hb3 ?_
      refine goG (op_len_str rfl rfl Try.underlying9 (.t (has rfl))) rfl rfl rfl rfl hb3 ?_
      refine goG (op_icmp rfl rfl (.t (has rfl)) (.int _ _)) rfl rfl rfl rfl hb3 ?_
      refine go1 (op_pick_f rfl hb3 (.t (has rfl)) (.t (has rfl))) rfl ?_
      refine goesO_nil ?_
      obtain rfl := Option.some.inj H
      exact ends_cut (.cons rfl (.cons rfl .nil))
  refine ends_then ?_
  refine goes_if (.t (has rfl)) H (fun hb4 H => ?_) (fun hb4 H => ?_)
  · skip
    refine goes_seq ?_
    refine goes_region ?_
    refine go1 (op_assign rfl (.bool _)) rfl ?_
    refine goesO_nil ?_
    refine ends_then ?_
    obtain rfl := Option.some.inj H
    exact goes_ret (ends_then_ret (ends_ret' rfl rfl (.t rfl (.nil _))))
  · skip
    refine goes_skip ?_
    refine ends_then ?_
    refine goes_seq ?_
    refine goes_seq ?_
    refine goes_region ?_
    refine go1 (op_assign rfl (.int _ _)) rfl ?_
    refine goesO_nil ?_
    refine ends_then ?_
    obtain ⟨o8, h7, H⟩ := bind_some H
    refine goes_cutR (o := o8) (fun s6 : Unit => []) (fun r a w => bodyPost Try.prog Try.f52 (CPost w0 S0 θ [VA.k kbool r]) .ret a w) ?_ ?_ ?_
    · replace H := h7; clear h7
      refine goes_block ?_
      refine goes_loop (fun s5 : Int => [Ent.t 0 (VA.k kstr a0), Ent.t 3 (VA.k (kint .i64) s5)]) (fun k s5 => smithyref05_Name.l0 a0 k s5) (fun _ => rfl) H (.cons rfl (.cons rfl .nil)) ?_
      intro k s5 H
      simp only [smithyref05_Name.l0] at H
      refine goes_seq ?_
      refine goes_seq ?_
      refine goes_region ?_
      refine go1 (op_move rfl (.t (has rfl))) rfl ?_
      refine go1 (op_move rfl (.t (has rfl))) rfl ?_
      refine go1 (op_len_str rfl rfl Try.underlying9 (.t (has rfl))) rfl ?_
      refine go1 (op_icmp rfl rfl (.t (has rfl)) (.t (has rfl))) rfl ?_
      refine goesO_nil ?_
      refine ends_then ?_
      refine goes_if (.t (has rfl)) H (fun hb9 H => ?_) (fun hb9 H => ?_)
      · skip
        refine goes_skip ?_
        refine ends_then ?_
        refine goes_seq ?_
        refine goes_block ?_
        refine goes_seq ?_
        refine goes_region ?_
        refine go1 (op_move rfl (.t (has rfl))) rfl ?_
        refine go1 (op_move rfl (.t (has rfl))) rfl ?_
        obtain ⟨x10, h11, H⟩ := bind_some H
        refine go1 (op_index_str rfl Try.underlying9 h11 (.t (has rfl)) (.t (has rfl))) rfl ?_
        refine go1 (op_assign rfl (.t (has rfl))) rfl ?_
        refine goesO_nil ?_
        refine ends_then ?_
        refine goes_seq ?_
        obtain ⟨s12, h13, H⟩ := bind_some H
        refine goes_cut [Ent.t 0 (VA.k kstr a0), Ent.t 3 (VA.k (kint .i64) s5), Ent.t 52 (VA.k kbool s12)] ?_ ?_
        · replace H := h13; clear h13
          refine goes_region ?_
          refine go1 (op_move rfl (.t (has rfl))) rfl ?_
          refine go1 (op_icmp rfl rfl (.t (has rfl)) (.int _ _)) rfl ?_
          refine go1 (op_move rfl (.t (has rfl))) rfl ?_
          refine goesO_split H (fun hb14 H => ?_) (fun hb14 H => ?_)
          · skip
            refine goG (op_move rfl (.t (has rfl))) rfl rfl rfl rfl hb14 ?_
            refine goG (op_icmp rfl rfl (.t (has rfl)) (.int _ _)) rfl rfl rfl rfl hb14 ?_
            refine go1 (op_pick_t rfl hb14 (.t (has rfl)) (.t (has rfl))) rfl ?_
            refine go1 (op_move rfl (.t (has rfl))) rfl ?_
            refine goesO_split H (fun hb15 H => ?_) (fun hb15 H => ?_)
            · skip
              refine goS rfl rfl rfl rfl rfl rfl hb15 ?_
              refine goS rfl rfl rfl rfl rfl rfl hb15 ?_
              refine goS rfl rfl rfl rfl rfl rfl hb15 ?_
              refine goSU rfl rfl rfl rfl rfl rfl ?_
              refine goSU rfl rfl rfl rfl rfl rfl ?_
              refine goS rfl rfl rfl rfl rfl rfl hb15 ?_
              refine go1 (op_pick_t rfl hb15 (.t (has rfl)) (.bool _)) rfl ?_
              refine go1 (op_move rfl (.t (has rfl))) rfl ?_
              refine goS rfl rfl rfl rfl rfl rfl rfl ?_
              refine goS rfl rfl rfl rfl rfl rfl rfl ?_
              refine goS rfl rfl rfl rfl rfl rfl rfl ?_
              refine goSU rfl rfl rfl rfl rfl rfl ?_
              refine goSU rfl rfl rfl rfl rfl rfl ?_
              refine goS rfl rfl rfl rfl rfl rfl rfl ?_
              refine go1 (op_pick_t rfl rfl (.t (has rfl)) (.bool _)) rfl ?_
              refine go1 (op_move rfl (.t (has rfl))) rfl ?_
              refine goS rfl rfl rfl rfl rfl rfl rfl ?_
              refine goS rfl rfl rfl rfl rfl rfl rfl ?_
              refine go1 (op_pick_t rfl rfl (.t (has rfl)) (.bool _)) rfl ?_
              refine go1 (op_move rfl (.t (has rfl))) rfl ?_
              refine goS rfl rfl rfl rfl rfl rfl rfl ?_
              refine goS rfl rfl rfl rfl rfl rfl rfl ?_
              refine go1 (op_pick_t rfl rfl (.t (has rfl)) (.bool _)) rfl ?_
              refine go1 (op_not rfl (.t (has rfl))) rfl ?_
              refine goesO_nil ?_
              obtain rfl := Option.some.inj H
              exact ends_cut (.cons rfl (.cons rfl (.cons rfl .nil)))
            · skip
              refine goG (op_move rfl (.t (has rfl))) rfl rfl rfl rfl hb15 ?_
              refine goG (op_icmp rfl rfl (.t (has rfl)) (.int _ _)) rfl rfl rfl rfl hb15 ?_
              refine goG (op_move rfl (.t (has rfl))) rfl rfl rfl rfl hb15 ?_
              refine goesO_split H (fun hb16 H => ?_) (fun hb16 H => ?_)
              · skip
                refine goG (op_move rfl (.t (has rfl))) rfl rfl rfl rfl hb16 ?_
                refine goG (op_icmp rfl rfl (.t (has rfl)) (.int _ _)) rfl rfl rfl rfl hb16 ?_
                refine goG (op_pick_t rfl hb16 (.t (has rfl)) (.t (has rfl))) rfl rfl rfl rfl hb15 ?_
                refine go1 (op_pick_f rfl hb15 (.t (has rfl)) (.t (has rfl))) rfl ?_
                refine go1 (op_move rfl (.t (has rfl))) rfl ?_
                refine goesO_split H (fun hb17 H => ?_) (fun hb17 H => ?_)
                · skip
                  refine goS rfl rfl rfl rfl rfl rfl hb17 ?_
                  refine goS rfl rfl rfl rfl rfl rfl hb17 ?_
                  refine goS rfl rfl rfl rfl rfl rfl hb17 ?_
                  refine goSU rfl rfl rfl rfl rfl rfl ?_
                  refine goSU rfl rfl rfl rfl rfl rfl ?_
                  refine goS rfl rfl rfl rfl rfl rfl hb17 ?_
                  refine go1 (op_pick_t rfl hb17 (.t (has rfl)) (.bool _)) rfl ?_
                  refine go1 (op_move rfl (.t (has rfl))) rfl ?_
                  refine goS rfl rfl rfl rfl rfl rfl rfl ?_
                  refine goS rfl rfl rfl rfl rfl rfl rfl ?_
                  refine go1 (op_pick_t rfl rfl (.t (has rfl)) (.bool _)) rfl ?_
                  refine go1 (op_move rfl (.t (has rfl))) rfl ?_
                  refine goS rfl rfl rfl rfl rfl rfl rfl ?_
                  refine goS rfl rfl rfl rfl rfl rfl rfl ?_
                  refine go1 (op_pick_t rfl rfl (.t (has rfl)) (.bool _)) rfl ?_
                  refine go1 (op_not rfl (.t (has rfl))) rfl ?_
                  refine goesO_nil ?_
                  obtain rfl := Option.some.inj H
                  exact ends_cut (.cons rfl (.cons rfl (.cons rfl .nil)))
                · skip
                  refine goG (op_move rfl (.t (has rfl))) rfl rfl rfl rfl hb17 ?_
                  refine goG (op_icmp rfl rfl (.t (has rfl)) (.int _ _)) rfl rfl rfl rfl hb17 ?_
                  refine goG (op_move rfl (.t (has rfl))) rfl rfl rfl rfl hb17 ?_
                  refine goesO_split H (fun hb18 H => ?_) (fun hb18 H => ?_)
                  · skip
                    refine goG (op_move rfl (.t (has rfl))) rfl rfl rfl rfl hb18 ?_
                    refine goG (op_icmp rfl rfl (.t (has rfl)) (.int _ _)) rfl rfl rfl rfl hb18 ?_
                    refine goG (op_pick_t rfl hb18 (.t (has rfl)) (.t (has rfl))) rfl rfl rfl rfl hb17 ?_
                    refine go1 (op_pick_f rfl hb17 (.t (has rfl)) (.t (has rfl))) rfl ?_
                    refine go1 (op_move rfl (.t (has rfl))) rfl ?_
                    refine goesO_split H (fun hb19 H => ?_) (fun hb19 H => ?_)
                    · skip
                      refine goS rfl rfl rfl rfl rfl rfl hb19 ?_
                      refine goS rfl rfl rfl rfl rfl rfl hb19 ?_
                      refine go1 (op_pick_t rfl hb19 (.t (has rfl)) (.bool _)) rfl ?_
                      refine go1 (op_move rfl (.t (has rfl))) rfl ?_
                      refine goS rfl rfl rfl rfl rfl rfl rfl ?_
                      refine goS rfl rfl rfl rfl rfl rfl rfl ?_
                      refine go1 (op_pick_t rfl rfl (.t (has rfl)) (.bool _)) rfl ?_
                      refine go1 (op_not rfl (.t (has rfl))) rfl ?_
                      refine goesO_nil ?_
                      obtain rfl := Option.some.inj H
                      exact ends_cut (.cons rfl (.cons rfl (.cons rfl .nil)))
                    · skip
                      refine goG (op_move rfl (.t (has rfl))) rfl rfl rfl rfl hb19 ?_
                      refine goG (op_icmp rfl rfl (.t (has rfl)) (.int _ _)) rfl rfl rfl rfl hb19 ?_
                      refine go1 (op_pick_f rfl hb19 (.t (has rfl)) (.t (has rfl))) rfl ?_
                      refine go1 (op_move rfl (.t (has rfl))) rfl ?_
                      refine goesO_split H (fun hb20 H => ?_) (fun hb20 H => ?_)
                      · skip
                        refine goS rfl rfl rfl rfl rfl rfl hb20 ?_
                        refine goS rfl rfl rfl rfl rfl rfl hb20 ?_
                        refine go1 (op_pick_t rfl hb20 (.t (has rfl)) (.bool _)) rfl ?_
                        refine go1 (op_not rfl (.t (has rfl))) rfl ?_
                        refine goesO_nil ?_
                        obtain rfl := Option.some.inj H
                        exact ends_cut (.cons rfl (.cons rfl (.cons rfl .nil)))
                      · skip
                        refine goG (op_move rfl (.t (has rfl))) rfl rfl rfl rfl hb20 ?_
                        refine goG (op_icmp rfl rfl (.t (has rfl)) (.int _ _)) rfl rfl rfl rfl hb20 ?_
                        refine go1 (op_pick_f rfl hb20 (.t (has rfl)) (.t (has rfl))) rfl ?_
                        refine go1 (op_not rfl (.t (has rfl))) rfl ?_
                        refine goesO_nil ?_
                        obtain rfl := Option.some.inj H
                        exact ends_cut (.cons rfl (.cons rfl (.cons rfl .nil)))
                  · skip
                    refine goS rfl rfl rfl rfl rfl rfl hb18 ?_
                    refine goS rfl rfl rfl rfl rfl rfl hb18 ?_
                    refine goG (op_pick_f rfl hb18 (.t (has rfl)) (.bool _)) rfl rfl rfl rfl hb17 ?_
                    refine go1 (op_pick_f rfl hb17 (.t (has rfl)) (.t (has rfl))) rfl ?_
                    refine go1 (op_move rfl (.t (has rfl))) rfl ?_
                    refine goG (op_move rfl (.t (has rfl))) rfl rfl rfl rfl rfl ?_
                    refine goG (op_icmp rfl rfl (.t (has rfl)) (.int _ _)) rfl rfl rfl rfl rfl ?_
                    refine go1 (op_pick_f rfl rfl (.t (has rfl)) (.t (has rfl))) rfl ?_
                    refine go1 (op_move rfl (.t (has rfl))) rfl ?_
                    refine goesO_split H (fun hb21 H => ?_) (fun hb21 H => ?_)
                    · skip
                      refine goS rfl rfl rfl rfl rfl rfl hb21 ?_
                      refine goS rfl rfl rfl rfl rfl rfl hb21 ?_
                      refine go1 (op_pick_t rfl hb21 (.t (has rfl)) (.bool _)) rfl ?_
                      refine go1 (op_not rfl (.t (has rfl))) rfl ?_
                      refine goesO_nil ?_
                      obtain rfl := Option.some.inj H
                      exact ends_cut (.cons rfl (.cons rfl (.cons rfl .nil)))
                    · skip
                      refine goG (op_move rfl (.t (has rfl))) rfl rfl rfl rfl hb21 ?_
                      refine goG (op_icmp rfl rfl (.t (has rfl)) (.int _ _)) rfl rfl rfl rfl hb21 ?_
                      refine go1 (op_pick_f rfl hb21 (.t (has rfl)) (.t (has rfl))) rfl ?_
                      refine go1 (op_not rfl (.t (has rfl))) rfl ?_
                      refine goesO_nil ?_
                      obtain rfl := Option.some.inj H
                      exact ends_cut (.cons rfl (.cons rfl (.cons rfl .nil)))
              · skip
                refine goS rfl rfl rfl rfl rfl rfl hb16 ?_
                refine goS rfl rfl rfl rfl rfl rfl hb16 ?_
                refine goG (op_pick_f rfl hb16 (.t (has rfl)) (.bool _)) rfl rfl rfl rfl hb15 ?_
                refine go1 (op_pick_f rfl hb15 (.t (has rfl)) (.t (has rfl))) rfl ?_
                refine go1 (op_move rfl (.t (has rfl))) rfl ?_
                refine goG (op_move rfl (.t (has rfl))) rfl rfl rfl rfl rfl ?_
                refine goG (op_icmp rfl rfl (.t (has rfl)) (.int _ _)) rfl rfl rfl rfl rfl ?_
                refine goG (op_move rfl (.t (has rfl))) rfl rfl rfl rfl rfl ?_
                refine goesO_split H (fun hb22 H => ?_) (fun hb22 H => ?_)
                · skip
                  refine goG (op_move rfl (.t (has rfl))) rfl rfl rfl rfl hb22 ?_
                  refine goG (op_icmp rfl rfl (.t (has rfl)) (.int _ _)) rfl rfl rfl rfl hb22 ?_
                  refine goG (op_pick_t rfl hb22 (.t (has rfl)) (.t (has rfl))) rfl rfl rfl rfl rfl ?_
                  refine go1 (op_pick_f rfl rfl (.t (has rfl)) (.t (has rfl))) rfl ?_
                  refine go1 (op_move rfl (.t (has rfl))) rfl ?_
                  refine goesO_split H (fun hb23 H => ?_) (fun hb23 H => ?_)
                  · skip
                    refine goS rfl rfl rfl rfl rfl rfl hb23 ?_
                    refine goS rfl rfl rfl rfl rfl rfl hb23 ?_
                    refine go1 (op_pick_t rfl hb23 (.t (has rfl)) (.bool _)) rfl ?_
                    refine go1 (op_move rfl (.t (has rfl))) rfl ?_
                    refine goS rfl rfl rfl rfl rfl rfl rfl ?_
                    refine goS rfl rfl rfl rfl rfl rfl rfl ?_
                    refine go1 (op_pick_t rfl rfl (.t (has rfl)) (.bool _)) rfl ?_
                    refine go1 (op_not rfl (.t (has rfl))) rfl ?_
                    refine goesO_nil ?_
                    obtain rfl := Option.some.inj H
                    exact ends_cut (.cons rfl (.cons rfl (.cons rfl .nil)))
                  · skip
                    refine goG (op_move rfl (.t (has rfl))) rfl rfl rfl rfl hb23 ?_
                    refine goG (op_icmp rfl rfl (.t (has rfl)) (.int _ _)) rfl rfl rfl rfl hb23 ?_
                    refine go1 (op_pick_f rfl hb23 (.t (has rfl)) (.t (has rfl))) rfl ?_
                    refine go1 (op_move rfl (.t (has rfl))) rfl ?_
                    refine goesO_split H (fun hb24 H => ?_) (fun hb24 H => ?_)
                    · skip
                      refine goS rfl rfl rfl rfl rfl rfl hb24 ?_
                      refine goS rfl rfl rfl rfl rfl rfl hb24 ?_
                      refine go1 (op_pick_t rfl hb24 (.t (has rfl)) (.bool _)) rfl ?_
                      refine go1 (op_not rfl (.t (has rfl))) rfl ?_
                      refine goesO_nil ?_
                      obtain rfl := Option.some.inj H
                      exact ends_cut (.cons rfl (.cons rfl (.cons rfl .nil)))
                    · skip
                      refine goG (op_move rfl (.t (has rfl))) rfl rfl rfl rfl hb24 ?_
                      refine goG (op_icmp rfl rfl (.t (has rfl)) (.int _ _)) rfl rfl rfl rfl hb24 ?_
                      refine go1 (op_pick_f rfl hb24 (.t (has rfl)) (.t (has rfl))) rfl ?_
                      refine go1 (op_not rfl (.t (has rfl))) rfl ?_
                      refine goesO_nil ?_
                      obtain rfl := Option.some.inj H
                      exact ends_cut (.cons rfl (.cons rfl (.cons rfl .nil)))
                · skip
                  refine goS rfl rfl rfl rfl rfl rfl hb22 ?_
                  refine goS rfl rfl rfl rfl rfl rfl hb22 ?_
                  refine goG (op_pick_f rfl hb22 (.t (has rfl)) (.bool _)) rfl rfl rfl rfl rfl ?_
                  refine go1 (op_pick_f rfl rfl (.t (has rfl)) (.t (has rfl))) rfl ?_
                  refine go1 (op_move rfl (.t (has rfl))) rfl ?_
                  refine goG (op_move rfl (.t (has rfl))) rfl rfl rfl rfl rfl ?_
                  refine goG (op_icmp rfl rfl (.t (has rfl)) (.int _ _)) rfl rfl rfl rfl rfl ?_
                  refine go1 (op_pick_f rfl rfl (.t (has rfl)) (.t (has rfl))) rfl ?_
                  refine go1 (op_move rfl (.t (has rfl))) rfl ?_
                  refine goesO_split H (fun hb25 H => ?_) (fun hb25 H => ?_)
                  · skip
                    refine goS rfl rfl rfl rfl rfl rfl hb25 ?_
                    refine goS rfl rfl rfl rfl rfl rfl hb25 ?_
                    refine go1 (op_pick_t rfl hb25 (.t (has rfl)) (.bool _)) rfl ?_
                    refine go1 (op_not rfl (.t (has rfl))) rfl ?_
                    refine goesO_nil ?_
                    obtain rfl := Option.some.inj H
                    exact ends_cut (.cons rfl (.cons rfl (.cons rfl .nil)))
                  · skip
                    refine goG (op_move rfl (.t (has rfl))) rfl rfl rfl rfl hb25 ?_
                    refine goG (op_icmp rfl rfl (.t (has rfl)) (.int _ _)) rfl rfl rfl rfl hb25 ?_
                    refine go1 (op_pick_f rfl hb25 (.t (has rfl)) (.t (has rfl))) rfl ?_
                    refine go1 (op_not rfl (.t (has rfl))) rfl ?_
                    refine goesO_nil ?_
                    obtain rfl := Option.some.inj H
                    exact ends_cut (.cons rfl (.cons rfl (.cons rfl .nil)))
          · skip
            refine goS rfl rfl rfl rfl rfl rfl hb14 ?_
            refine goS rfl rfl rfl rfl rfl rfl hb14 ?_
            refine go1 (op_pick_f rfl hb14 (.t (has rfl)) (.bool _)) rfl ?_
            refine go1 (op_move rfl (.t (has rfl))) rfl ?_
            refine goG (op_move rfl (.t (has rfl))) rfl rfl rfl rfl rfl ?_
            refine goG (op_icmp rfl rfl (.t (has rfl)) (.int _ _)) rfl rfl rfl rfl rfl ?_
            refine goG (op_move rfl (.t (has rfl))) rfl rfl rfl rfl rfl ?_
            refine goesO_split H (fun hb26 H => ?_) (fun hb26 H => ?_)
            · skip
              refine goG (op_move rfl (.t (has rfl))) rfl rfl rfl rfl hb26 ?_
              refine goG (op_icmp rfl rfl (.t (has rfl)) (.int _ _)) rfl rfl rfl rfl hb26 ?_
              refine goG (op_pick_t rfl hb26 (.t (has rfl)) (.t (has rfl))) rfl rfl rfl rfl rfl ?_
              refine go1 (op_pick_f rfl rfl (.t (has rfl)) (.t (has rfl))) rfl ?_
              refine go1 (op_move rfl (.t (has rfl))) rfl ?_
              refine goesO_split H (fun hb27 H => ?_) (fun hb27 H => ?_)
              · skip
                refine goS rfl rfl rfl rfl rfl rfl hb27 ?_
                refine goS rfl rfl rfl rfl rfl rfl hb27 ?_
                refine goS rfl rfl rfl rfl rfl rfl hb27 ?_
                refine goSU rfl rfl rfl rfl rfl rfl ?_
                refine goSU rfl rfl rfl rfl rfl rfl ?_
                refine goS rfl rfl rfl rfl rfl rfl hb27 ?_
                refine go1 (op_pick_t rfl hb27 (.t (has rfl)) (.bool _)) rfl ?_
                refine go1 (op_move rfl (.t (has rfl))) rfl ?_
                refine goS rfl rfl rfl rfl rfl rfl rfl ?_
                refine goS rfl rfl rfl rfl rfl rfl rfl ?_
                refine go1 (op_pick_t rfl rfl (.t (has rfl)) (.bool _)) rfl ?_
                refine go1 (op_move rfl (.t (has rfl))) rfl ?_
                refine goS rfl rfl rfl rfl rfl rfl rfl ?_
                refine goS rfl rfl rfl rfl rfl rfl rfl ?_
                refine go1 (op_pick_t rfl rfl (.t (has rfl)) (.bool _)) rfl ?_
                refine go1 (op_not rfl (.t (has rfl))) rfl ?_
                refine goesO_nil ?_
                obtain rfl := Option.some.inj H
                exact ends_cut (.cons rfl (.cons rfl (.cons rfl .nil)))
              · skip
                refine goG (op_move rfl (.t (has rfl))) rfl rfl rfl rfl hb27 ?_
                refine goG (op_icmp rfl rfl (.t (has rfl)) (.int _ _)) rfl rfl rfl rfl hb27 ?_
                refine goG (op_move rfl (.t (has rfl))) rfl rfl rfl rfl hb27 ?_
                refine goesO_split H (fun hb28 H => ?_) (fun hb28 H => ?_)
                · skip
                  refine goG (op_move rfl (.t (has rfl))) rfl rfl rfl rfl hb28 ?_
                  refine goG (op_icmp rfl rfl (.t (has rfl)) (.int _ _)) rfl rfl rfl rfl hb28 ?_
                  refine goG (op_pick_t rfl hb28 (.t (has rfl)) (.t (has rfl))) rfl rfl rfl rfl hb27 ?_
                  refine go1 (op_pick_f rfl hb27 (.t (has rfl)) (.t (has rfl))) rfl ?_
                  refine go1 (op_move rfl (.t (has rfl))) rfl ?_
                  refine goesO_split H (fun hb29 H => ?_) (fun hb29 H => ?_)
                  · skip
                    refine goS rfl rfl rfl rfl rfl rfl hb29 ?_
                    refine goS rfl rfl rfl rfl rfl rfl hb29 ?_
                    refine go1 (op_pick_t rfl hb29 (.t (has rfl)) (.bool _)) rfl ?_
                    refine go1 (op_move rfl (.t (has rfl))) rfl ?_
                    refine goS rfl rfl rfl rfl rfl rfl rfl ?_
                    refine goS rfl rfl rfl rfl rfl rfl rfl ?_
                    refine go1 (op_pick_t rfl rfl (.t (has rfl)) (.bool _)) rfl ?_
                    refine go1 (op_not rfl (.t (has rfl))) rfl ?_
                    refine goesO_nil ?_
                    obtain rfl := Option.some.inj H
                    exact ends_cut (.cons rfl (.cons rfl (.cons rfl .nil)))
                  · skip
                    refine goG (op_move rfl (.t (has rfl))) rfl rfl rfl rfl hb29 ?_
                    refine goG (op_icmp rfl rfl (.t (has rfl)) (.int _ _)) rfl rfl rfl rfl hb29 ?_
                    refine go1 (op_pick_f rfl hb29 (.t (has rfl)) (.t (has rfl))) rfl ?_
                    refine go1 (op_move rfl (.t (has rfl))) rfl ?_
                    refine goesO_split H (fun hb30 H => ?_) (fun hb30 H => ?_)
                    · skip
                      refine goS rfl rfl rfl rfl rfl rfl hb30 ?_
                      refine goS rfl rfl rfl rfl rfl rfl hb30 ?_
                      refine go1 (op_pick_t rfl hb30 (.t (has rfl)) (.bool _)) rfl ?_
                      refine go1 (op_not rfl (.t (has rfl))) rfl ?_
                      refine goesO_nil ?_
                      obtain rfl := Option.some.inj H
                      exact ends_cut (.cons rfl (.cons rfl (.cons rfl .nil)))
                    · skip
                      refine goG (op_move rfl (.t (has rfl))) rfl rfl rfl rfl hb30 ?_
                      refine goG (op_icmp rfl rfl (.t (has rfl)) (.int _ _)) rfl rfl rfl rfl hb30 ?_
                      refine go1 (op_pick_f rfl hb30 (.t (has rfl)) (.t (has rfl))) rfl ?_
                      refine go1 (op_not rfl (.t (has rfl))) rfl ?_
                      refine goesO_nil ?_
                      obtain rfl := Option.some.inj H
                      exact ends_cut (.cons rfl (.cons rfl (.cons rfl .nil)))
                · skip
                  refine goS rfl rfl rfl rfl rfl rfl hb28 ?_
                  refine goS rfl rfl rfl rfl rfl rfl hb28 ?_
                  refine goG (op_pick_f rfl hb28 (.t (has rfl)) (.bool _)) rfl rfl rfl rfl hb27 ?_
                  refine go1 (op_pick_f rfl hb27 (.t (has rfl)) (.t (has rfl))) rfl ?_
                  refine go1 (op_move rfl (.t (has rfl))) rfl ?_
                  refine goG (op_move rfl (.t (has rfl))) rfl rfl rfl rfl rfl ?_
                  refine goG (op_icmp rfl rfl (.t (has rfl)) (.int _ _)) rfl rfl rfl rfl rfl ?_
                  refine go1 (op_pick_f rfl rfl (.t (has rfl)) (.t (has rfl))) rfl ?_
                  refine go1 (op_move rfl (.t (has rfl))) rfl ?_
                  refine goesO_split H (fun hb31 H => ?_) (fun hb31 H => ?_)
                  · skip
                    refine goS rfl rfl rfl rfl rfl rfl hb31 ?_
                    refine goS rfl rfl rfl rfl rfl rfl hb31 ?_
                    refine go1 (op_pick_t rfl hb31 (.t (has rfl)) (.bool _)) rfl ?_
                    refine go1 (op_not rfl (.t (has rfl))) rfl ?_
                    refine goesO_nil ?_
                    obtain rfl := Option.some.inj H
                    exact ends_cut (.cons rfl (.cons rfl (.cons rfl .nil)))
                  · skip
                    refine goG (op_move rfl (.t (has rfl))) rfl rfl rfl rfl hb31 ?_
                    refine goG (op_icmp rfl rfl (.t (has rfl)) (.int _ _)) rfl rfl rfl rfl hb31 ?_
                    refine go1 (op_pick_f rfl hb31 (.t (has rfl)) (.t (has rfl))) rfl ?_
                    refine go1 (op_not rfl (.t (has rfl))) rfl ?_
                    refine goesO_nil ?_
                    obtain rfl := Option.some.inj H
                    exact ends_cut (.cons rfl (.cons rfl (.cons rfl .nil)))
            · skip
              refine goS rfl rfl rfl rfl rfl rfl hb26 ?_
              refine goS rfl rfl rfl rfl rfl rfl hb26 ?_
              refine goG (op_pick_f rfl hb26 (.t (has rfl)) (.bool _)) rfl rfl rfl rfl rfl ?_
              refine go1 (op_pick_f rfl rfl (.t (has rfl)) (.t (has rfl))) rfl ?_
              refine go1 (op_move rfl (.t (has rfl))) rfl ?_
              refine goG (op_move rfl (.t (has rfl))) rfl rfl rfl rfl rfl ?_
              refine goG (op_icmp rfl rfl (.t (has rfl)) (.int _ _)) rfl rfl rfl rfl rfl ?_
              refine goG (op_move rfl (.t (has rfl))) rfl rfl rfl rfl rfl ?_
              refine goesO_split H (fun hb32 H => ?_) (fun hb32 H => ?_)
              · skip
                refine goG (op_move rfl (.t (has rfl))) rfl rfl rfl rfl hb32 ?_
                refine goG (op_icmp rfl rfl (.t (has rfl)) (.int _ _)) rfl rfl rfl rfl hb32 ?_
                refine goG (op_pick_t rfl hb32 (.t (has rfl)) (.t (has rfl))) rfl rfl rfl rfl rfl ?_
                refine go1 (op_pick_f rfl rfl (.t (has rfl)) (.t (has rfl))) rfl ?_
                refine go1 (op_move rfl (.t (has rfl))) rfl ?_
                refine goesO_split H (fun hb33 H => ?_) (fun hb33 H => ?_)
                · skip
                  refine goS rfl rfl rfl rfl rfl rfl hb33 ?_
                  refine goS rfl rfl rfl rfl rfl rfl hb33 ?_
                  refine go1 (op_pick_t rfl hb33 (.t (has rfl)) (.bool _)) rfl ?_
                  refine go1 (op_move rfl (.t (has rfl))) rfl ?_
                  refine goS rfl rfl rfl rfl rfl rfl rfl ?_
                  refine goS rfl rfl rfl rfl rfl rfl rfl ?_
                  refine go1 (op_pick_t rfl rfl (.t (has rfl)) (.bool _)) rfl ?_
                  refine go1 (op_not rfl (.t (has rfl))) rfl ?_
                  refine goesO_nil ?_
                  obtain rfl := Option.some.inj H
                  exact ends_cut (.cons rfl (.cons rfl (.cons rfl .nil)))
                · skip
                  refine goG (op_move rfl (.t (has rfl))) rfl rfl rfl rfl hb33 ?_
                  refine goG (op_icmp rfl rfl (.t (has rfl)) (.int _ _)) rfl rfl rfl rfl hb33 ?_
                  refine go1 (op_pick_f rfl hb33 (.t (has rfl)) (.t (has rfl))) rfl ?_
                  refine go1 (op_move rfl (.t (has rfl))) rfl ?_
                  refine goesO_split H (fun hb34 H => ?_) (fun hb34 H => ?_)
                  · skip
                    refine goS rfl rfl rfl rfl rfl rfl hb34 ?_
                    refine goS rfl rfl rfl rfl rfl rfl hb34 ?_
                    refine go1 (op_pick_t rfl hb34 (.t (has rfl)) (.bool _)) rfl ?_
                    refine go1 (op_not rfl (.t (has rfl))) rfl ?_
                    refine goesO_nil ?_
                    obtain rfl := Option.some.inj H
                    exact ends_cut (.cons rfl (.cons rfl (.cons rfl .nil)))
                  · skip
                    refine goG (op_move rfl (.t (has rfl))) rfl rfl rfl rfl hb34 ?_
                    refine goG (op_icmp rfl rfl (.t (has rfl)) (.int _ _)) rfl rfl rfl rfl hb34 ?_
                    refine go1 (op_pick_f rfl hb34 (.t (has rfl)) (.t (has rfl))) rfl ?_
                    refine go1 (op_not rfl (.t (has rfl))) rfl ?_
                    refine goesO_nil ?_
                    obtain rfl := Option.some.inj H
                    exact ends_cut (.cons rfl (.cons rfl (.cons rfl .nil)))
              · skip
                refine goS rfl rfl rfl rfl rfl rfl hb32 ?_
                refine goS rfl rfl rfl rfl rfl rfl hb32 ?_
                refine goG (op_pick_f rfl hb32 (.t (has rfl)) (.bool _)) rfl rfl rfl rfl rfl ?_
                refine go1 (op_pick_f rfl rfl (.t (has rfl)) (.t (has rfl))) rfl ?_
                refine go1 (op_move rfl (.t (has rfl))) rfl ?_
                refine goG (op_move rfl (.t (has rfl))) rfl rfl rfl rfl rfl ?_
                refine goG (op_icmp rfl rfl (.t (has rfl)) (.int _ _)) rfl rfl rfl rfl rfl ?_
                refine go1 (op_pick_f rfl rfl (.t (has rfl)) (.t (has rfl))) rfl ?_
                refine go1 (op_move rfl (.t (has rfl))) rfl ?_
                refine goesO_split H (fun hb35 H => ?_) (fun hb35 H => ?_)
                · skip
                  refine goS rfl rfl rfl rfl rfl rfl hb35 ?_
                  refine goS rfl rfl rfl rfl rfl rfl hb35 ?_
                  refine go1 (op_pick_t rfl hb35 (.t (has rfl)) (.bool _)) rfl ?_
                  refine go1 (op_not rfl (.t (has rfl))) rfl ?_
                  refine goesO_nil ?_
                  obtain rfl := Option.some.inj H
                  exact ends_cut (.cons rfl (.cons rfl (.cons rfl .nil)))
                · skip
                  refine goG (op_move rfl (.t (has rfl))) rfl rfl rfl rfl hb35 ?_
                  refine goG (op_icmp rfl rfl (.t (has rfl)) (.int _ _)) rfl rfl rfl rfl hb35 ?_
                  refine go1 (op_pick_f rfl hb35 (.t (has rfl)) (.t (has rfl))) rfl ?_
                  refine go1 (op_not rfl (.t (has rfl))) rfl ?_
                  refine goesO_nil ?_
                  obtain rfl := Option.some.inj H
                  exact ends_cut (.cons rfl (.cons rfl (.cons rfl .nil)))
        refine ends_then ?_
        refine goes_if (.t (has rfl)) H (fun hb36 H => ?_) (fun hb36 H => ?_)
        · skip
          refine goes_seq ?_
          refine goes_region ?_
          refine go1 (op_assign rfl (.bool _)) rfl ?_
          refine goesO_nil ?_
          refine ends_then ?_
          obtain rfl := Option.some.inj H
          refine goes_ret (ends_block_ret (ends_then_ret (ends_then_ret (ends_block_ret (ends_cutR_ret rfl ?_)))))
          exact ends_ret' rfl rfl (.t rfl (.nil _))
        · skip
          refine goes_skip ?_
          refine ends_block ?_
          refine ends_then ?_
          refine goes_region ?_
          refine go1 (op_move rfl (.t (has rfl))) rfl ?_
          refine go1 (op_add rfl (.t (has rfl)) (.int _ _)) rfl ?_
          refine go1 (op_assign rfl (.t (has rfl))) rfl ?_
          refine goesO_nil ?_
          exact loop_next _ H (.cons rfl (.cons rfl .nil))
      · skip
        refine goes_exit (ends_then_exit (ends_then_exit (ends_block_exit ?_)))
        obtain rfl := Option.some.inj H
        exact ends_cutR rfl .nil
    · rintro s6 rfl
      clear h7
      dsimp only at H
      refine ends_then ?_
      refine goes_seq ?_
      refine goes_region ?_
      refine go1 (op_assign rfl (.bool _)) rfl ?_
      refine goesO_nil ?_
      refine ends_then ?_
      obtain rfl := Option.some.inj H
      exact goes_ret (ends_ret' rfl rfl (.t rfl (.nil _)))
    · rintro r' rfl a w hr
      obtain rfl := Option.some.inj H
      exact hr
/-! smithy/smithyref05.One -/
def smithyref05_One.f (k : Nat) (a0 : Macro) : Option Int := (smithyref05_Name.f k a0.Name).bind fun v1 => bif !v1 then (some (50 : Int)) else ((bif icmp .lss a0.Level (0 : Int) then (some true) else (some (icmp .gtr a0.Level (2 : Int)))).bind fun s4 => bif s4 then (some (51 : Int)) else (bif icmp .gtr (a0.Value.size : Int) (8192 : Int) then (some (41 : Int)) else (some (0 : Int))))
set_option maxRecDepth 100000 in
set_option maxHeartbeats 4000000 in
theorem smithyref05_One.con (k : Nat) (a0 : Macro) (r : Int) (H : smithyref05_One.f k a0 = some r) : Con Try.prog 36 [VA.k kMacro a0] [VA.k (kint .i64) r] := by
  unfold smithyref05_One.f at H
  refine con_enter Try.func36 rfl rfl rfl (fun w0 S0 θ => ?_)
  refine goes_seq ?_
  refine goes_region ?_
  refine go3 (op_box 1 rfl (fun h => by first | rfl | cases h) (.t (has rfl))) rfl ?_
  refine go1 (op_assign rfl (.int _ _)) rfl ?_
  refine goesO_nil ?_
  refine ends_then ?_
  refine goes_seq ?_
  refine goes_seq ?_
  refine goes_region ?_
  refine go1 (op_fieldAddr rfl Try.underlying73 rfl tk9 (.t (has rfl))) rfl ?_
  refine go1 (op_load rfl fldMacro_Name tk9 (.t (has rfl)) (has rfl)) rfl ?_
  obtain ⟨v1, h2, H⟩ := bind_some H
  refine go1 (op_call' rfl enters52 (smithyref05_Name.con _ _ _ h2) rfl (.cons (ArgP.k (.t (has rfl))) .nil)) rfl ?_
  refine go1 (op_not rfl (.t (has rfl))) rfl ?_
  refine goesO_nil ?_
  refine ends_then ?_
  refine goes_if (.t (has rfl)) H (fun hb3 H => ?_) (fun hb3 H => ?_)
  · skip
    refine goes_seq ?_
    refine goes_region ?_
    refine go1 (op_assign rfl (.int _ _)) rfl ?_
    refine goesO_nil ?_
    refine ends_then ?_
    obtain rfl := Option.some.inj H
    exact goes_ret (ends_then_ret (ends_ret' rfl rfl (.t rfl (.nil _))))
  · skip
    refine goes_skip ?_
    refine ends_then ?_
    refine goes_seq ?_
    refine goes_seq ?_
    obtain ⟨s4, h5, H⟩ := bind_some H
    refine goes_cut [Ent.t 1 (VA.ptr 1 0), Ent.t 14 (VA.k kbool s4), Ent.h 1 (HE.box 73 kMacro a0)] ?_ ?_
    · replace H := h5; clear h5
      refine goes_region ?_
      refine go1 (op_fieldAddr rfl Try.underlying73 rfl tk3 (.t (has rfl))) rfl ?_
      refine go1 (op_load rfl fldMacro_Level tk3 (.t (has rfl)) (has rfl)) rfl ?_
      refine go1 (op_icmp rfl rfl (.t (has rfl)) (.int _ _)) rfl ?_
      refine go1 (op_move rfl (.t (has rfl))) rfl ?_
      refine goesO_split H (fun hb6 H => ?_) (fun hb6 H => ?_)
      · skip
        refine goS rfl rfl rfl rfl rfl rfl hb6 ?_
        refine goS rfl rfl rfl rfl rfl rfl hb6 ?_
        refine goS rfl rfl rfl rfl rfl rfl hb6 ?_
        refine go1 (op_pick_t rfl hb6 (.t (has rfl)) (.bool _)) rfl ?_
        refine goesO_nil ?_
        obtain rfl := Option.some.inj H
        exact ends_cut (.cons rfl (.cons rfl (.cons rfl .nil)))
      · skip
        refine goG (op_fieldAddr rfl Try.underlying73 rfl tk3 (.t (has rfl))) rfl rfl rfl rfl hb6 ?_
        refine goG (op_load rfl fldMacro_Level tk3 (.t (has rfl)) (has rfl)) rfl rfl rfl rfl hb6 ?_
        refine goG (op_icmp rfl rfl (.t (has rfl)) (.int _ _)) rfl rfl rfl rfl hb6 ?_
        refine go1 (op_pick_f rfl hb6 (.t (has rfl)) (.t (has rfl))) rfl ?_
        refine goesO_nil ?_
        obtain rfl := Option.some.inj H
        exact ends_cut (.cons rfl (.cons rfl (.cons rfl .nil)))
    refine ends_then ?_
    refine goes_if (.t (has rfl)) H (fun hb7 H => ?_) (fun hb7 H => ?_)
    · skip
      refine goes_seq ?_
      refine goes_region ?_
      refine go1 (op_assign rfl (.int _ _)) rfl ?_
      refine goesO_nil ?_
      refine ends_then ?_
      obtain rfl := Option.some.inj H
      exact goes_ret (ends_then_ret (ends_ret' rfl rfl (.t rfl (.nil _))))
    · skip
      refine goes_skip ?_
      refine ends_then ?_
      refine goes_seq ?_
      refine goes_seq ?_
      refine goes_region ?_
      refine go1 (op_fieldAddr rfl Try.underlying73 rfl tk9 (.t (has rfl))) rfl ?_
      refine go1 (op_load rfl fldMacro_Value tk9 (.t (has rfl)) (has rfl)) rfl ?_
      refine go1 (op_len_str rfl rfl Try.underlying9 (.t (has rfl))) rfl ?_
      refine go1 (op_icmp rfl rfl (.t (has rfl)) (.int _ _)) rfl ?_
      refine goesO_nil ?_
      refine ends_then ?_
      refine goes_if (.t (has rfl)) H (fun hb8 H => ?_) (fun hb8 H => ?_)
      · skip
        refine goes_seq ?_
        refine goes_region ?_
        refine go1 (op_assign rfl (.int _ _)) rfl ?_
        refine goesO_nil ?_
        refine ends_then ?_
        obtain rfl := Option.some.inj H
        exact goes_ret (ends_then_ret (ends_ret' rfl rfl (.t rfl (.nil _))))
      · skip
        refine goes_skip ?_
        refine ends_then ?_
        refine goes_seq ?_
        refine goes_region ?_
        refine go1 (op_assign rfl (.int _ _)) rfl ?_
        refine goesO_nil ?_
        refine ends_then ?_
        obtain rfl := Option.some.inj H
        exact goes_ret (ends_ret' rfl rfl (.t rfl (.nil _)))
/-! smithy/smithyref05.Check -/
def smithyref05_Check.l0 (a0 : List Macro) : Nat → Int → Option (Except Int Unit)
  | 0, _ => none
  | k + 1, s2 => bif icmp .lss s2 (a0.length : Int) then ((idx a0 s2).bind fun x7 => (smithyref05_One.f k x7).bind fun v9 => bif icmp .neq v9 (0 : Int) then (some (Except.error v9)) else (smithyref05_Check.l0 a0 k (IntKind.i64.wrap (s2 + (1 : Int))))) else (some (Except.ok ()))
def smithyref05_Check.l1 (a0 : List Macro) : Nat → Int → Option (Except Int Unit)
  | 0, _ => none
  | k + 1, s12 => bif icmp .lss s12 (a0.length : Int) then ((idx a0 (IntKind.i64.wrap (s12 - (1 : Int)))).bind fun x17 => (idx a0 s12).bind fun x19 => bif scmp .geq x17.Name x19.Name then (some (Except.error (5 : Int))) else (smithyref05_Check.l1 a0 k (IntKind.i64.wrap (s12 + (1 : Int))))) else (some (Except.ok ()))
def smithyref05_Check.f (k : Nat) (a0 : List Macro) : Option Int := bif icmp .gtr (a0.length : Int) (256 : Int) then (some (2 : Int)) else ((smithyref05_Check.l0 a0 k (0 : Int)).bind fun o5 => match o5 with | .error r' => some r' | .ok s3 => ((smithyref05_Check.l1 a0 k (1 : Int)).bind fun o15 => match o15 with | .error r' => some r' | .ok s13 => (some (0 : Int))))
set_option maxRecDepth 100000 in
set_option maxHeartbeats 4000000 in
theorem smithyref05_Check.con (k : Nat) (a0 : List Macro) (r : Int) (H : smithyref05_Check.f k a0 = some r) : Con Try.prog 22 [VA.k (kslice kMacro) a0] [VA.k (kint .i64) r] := by
  unfold smithyref05_Check.f at H
  refine con_enter Try.func22 rfl rfl rfl (fun w0 S0 θ => ?_)
  refine goes_seq ?_
  refine goes_region ?_
  refine go1 (op_assign rfl (.int _ _)) rfl ?_
  refine goesO_nil ?_
  refine ends_then ?_
  refine goes_seq ?_
  refine goes_seq ?_
  refine goes_region ?_
  refine go1 (op_move rfl (.t (has rfl))) rfl ?_
  refine go1 (op_len rfl rfl Try.underlying22 (.t (has rfl))) rfl ?_
  refine go1 (op_icmp rfl rfl (.t (has rfl)) (.int _ _)) rfl ?_
  refine goesO_nil ?_
  refine ends_then ?_
  refine goes_if (.t (has rfl)) H (fun hb1 H => ?_) (fun hb1 H => ?_)
  · skip
    refine goes_seq ?_
    refine goes_region ?_
    refine go1 (op_assign rfl (.int _ _)) rfl ?_
    refine goesO_nil ?_
    refine ends_then ?_
    obtain rfl := Option.some.inj H
    exact goes_ret (ends_then_ret (ends_ret' rfl rfl (.t rfl (.nil _))))
  · skip
    refine goes_skip ?_
    refine ends_then ?_
    refine goes_seq ?_
    refine goes_seq ?_
    refine goes_region ?_
    refine go1 (op_move rfl (.t (has rfl))) rfl ?_
    refine go1 (op_len rfl rfl Try.underlying22 (.t (has rfl))) rfl ?_
    refine go1 (op_move rfl (.int _ _)) rfl ?_
    refine goesO_nil ?_
    refine ends_then ?_
    obtain ⟨o5, h4, H⟩ := bind_some H
    refine goes_cutR (o := o5) (fun s3 : Unit => [Ent.t 0 (VA.k (kslice kMacro) a0)]) (fun r a w => bodyPost Try.prog Try.f22 (CPost w0 S0 θ [VA.k (kint .i64) r]) .ret a w) ?_ ?_ ?_
    · replace H := h4; clear h4
      refine goes_block ?_
      refine goes_loop (fun s2 : Int => [Ent.t 0 (VA.k (kslice kMacro) a0), Ent.t 10 (VA.k (kslice kMacro) a0), Ent.t 11 (VA.k (kint .i64) (a0.length : Int)), Ent.t 12 (VA.k (kint .i64) s2)]) (fun k s2 => smithyref05_Check.l0 a0 k s2) (fun _ => rfl) H (.cons rfl (.cons rfl (.cons rfl (.cons rfl .nil)))) ?_
      intro k s2 H
      simp only [smithyref05_Check.l0] at H
      refine goes_seq ?_
      refine goes_region ?_
      refine go1 (op_icmp rfl rfl (.t (has rfl)) (.t (has rfl))) rfl ?_
      refine goesO_nil ?_
      refine ends_then ?_
      refine goes_seq ?_
      refine goes_if (.t (has rfl)) H (fun hb6 H => ?_) (fun hb6 H => ?_)
      · skip
        refine goes_skip ?_
        refine ends_then ?_
        refine goes_seq ?_
        refine goes_block ?_
        refine goes_seq ?_
        refine goes_region ?_
        obtain ⟨x7, h8, H⟩ := bind_some H
        refine go1 (op_indexAddr rfl Try.underlying22 tk73 h8 (.t (has rfl)) (.t (has rfl))) rfl ?_
        refine go1 (op_loadp rfl tk73 (.t (has rfl))) rfl ?_
        refine go3 (op_alloc 4 rfl zk73) rfl ?_
        refine go1 (op_store (Fld.whole kMacro) tk73 (.t (has rfl)) (has rfl) (.t (has rfl))) rfl ?_
        refine goesO_nil ?_
        refine ends_then ?_
        refine goes_seq ?_
        refine goes_region ?_
        refine go1 (op_load rfl (Fld.whole kMacro) tk73 (.t (has rfl)) (has rfl)) rfl ?_
        obtain ⟨v9, h10, H⟩ := bind_some H
        refine go1 (op_call' rfl enters36 (smithyref05_One.con _ _ _ h10) rfl (.cons (ArgP.k (.t (has rfl))) .nil)) rfl ?_
        refine go1 (op_assign rfl (.t (has rfl))) rfl ?_
        refine goesO_nil ?_
        refine ends_then ?_
        refine goes_seq ?_
        refine goes_region ?_
        refine go1 (op_move rfl (.t (has rfl))) rfl ?_
        refine go1 (op_icmp rfl rfl (.t (has rfl)) (.int _ _)) rfl ?_
        refine goesO_nil ?_
        refine ends_then ?_
        refine goes_if (.t (has rfl)) H (fun hb11 H => ?_) (fun hb11 H => ?_)
        · skip
          refine goes_seq ?_
          refine goes_region ?_
          refine go1 (op_move rfl (.t (has rfl))) rfl ?_
          refine go1 (op_assign rfl (.t (has rfl))) rfl ?_
          refine goesO_nil ?_
          refine ends_then ?_
          obtain rfl := Option.some.inj H
          refine goes_ret (ends_block_ret (ends_then_ret (ends_then_ret (ends_block_ret (ends_cutR_ret rfl ?_)))))
          exact ends_ret' rfl rfl (.t rfl (.nil _))
        · skip
          refine goes_skip ?_
          refine ends_block ?_
          refine ends_then ?_
          refine goes_region ?_
          refine go1 (op_add rfl (.t (has rfl)) (.int _ _)) rfl ?_
          refine go1 (op_move rfl (.t (has rfl))) rfl ?_
          refine goesO_nil ?_
          exact loop_next _ H (.cons rfl (.cons rfl (.cons rfl (.cons rfl .nil))))
      · skip
        refine goes_exit (ends_then_exit (ends_then_exit (ends_block_exit ?_)))
        obtain rfl := Option.some.inj H
        exact ends_cutR rfl (.cons rfl .nil)
    · rintro s3 rfl
      clear h4
      dsimp only at H
      refine ends_then ?_
      refine goes_seq ?_
      refine goes_seq ?_
      refine goes_region ?_
      refine go1 (op_assign rfl (.int _ _)) rfl ?_
      refine goesO_nil ?_
      refine ends_then ?_
      obtain ⟨o15, h14, H⟩ := bind_some H
      refine goes_cutR (o := o15) (fun s13 : Unit => []) (fun r a w => bodyPost Try.prog Try.f22 (CPost w0 S0 θ [VA.k (kint .i64) r]) .ret a w) ?_ ?_ ?_
      · replace H := h14; clear h14
        refine goes_block ?_
        refine goes_loop (fun s12 : Int => [Ent.t 0 (VA.k (kslice kMacro) a0), Ent.t 6 (VA.k (kint .i64) s12)]) (fun k s12 => smithyref05_Check.l1 a0 k s12) (fun _ => rfl) H (.cons rfl (.cons rfl .nil)) ?_
        intro k s12 H
        simp only [smithyref05_Check.l1] at H
        refine goes_seq ?_
        refine goes_seq ?_
        refine goes_region ?_
        refine go1 (op_move rfl (.t (has rfl))) rfl ?_
        refine go1 (op_move rfl (.t (has rfl))) rfl ?_
        refine go1 (op_len rfl rfl Try.underlying22 (.t (has rfl))) rfl ?_
        refine go1 (op_icmp rfl rfl (.t (has rfl)) (.t (has rfl))) rfl ?_
        refine goesO_nil ?_
        refine ends_then ?_
        refine goes_if (.t (has rfl)) H (fun hb16 H => ?_) (fun hb16 H => ?_)
        · skip
          refine goes_skip ?_
          refine ends_then ?_
          refine goes_seq ?_
          refine goes_block ?_
          refine goes_seq ?_
          obtain ⟨x17, h18, H⟩ := bind_some H
          obtain ⟨x19, h20, H⟩ := bind_some H
          refine goes_drawn [[Ent.t 28 (VA.k (kslice kMacro) a0)], [Ent.t 29 (VA.k (kint .i64) s12)], [Ent.t 30 (VA.k (kint .i64) (IntKind.i64.wrap (s12 - (1 : Int))))], [Ent.t 31 (VA.pt kMacro x17)], [Ent.t 32 (VA.pt kstr x17.Name)], [Ent.t 33 (VA.k kstr x17.Name)], [Ent.t 34 (VA.k (kslice kMacro) a0)], [Ent.t 35 (VA.k (kint .i64) s12)], [Ent.t 36 (VA.pt kMacro x19)], [Ent.t 37 (VA.pt kstr x19.Name)], [Ent.t 38 (VA.k kstr x19.Name)], [Ent.t 39 (VA.k kbool (scmp .geq x17.Name x19.Name))]] mixed (by kernel_rfl) (by kernel_rfl) (.cons [(none, Ent.t 0 (VA.k (kslice kMacro) a0))] (OpSpec.run rfl rfl (op_move rfl (.t NL.h0)) rfl) (.cons (has rfl) .nil) (by kernel_rfl) (.cons [(none, Ent.t 6 (VA.k (kint .i64) s12))] (OpSpec.run rfl rfl (op_move rfl (.t NL.h0)) rfl) (.cons (has rfl) .nil) (by kernel_rfl) (.cons [(some 1, Ent.t 29 (VA.k (kint .i64) s12))] (OpSpec.run rfl rfl (op_sub rfl (.t NL.h0) (.int _ _)) rfl) (.cons (has rfl) .nil) (by kernel_rfl) (.cons [(some 0, Ent.t 28 (VA.k (kslice kMacro) a0)), (some 2, Ent.t 30 (VA.k (kint .i64) (IntKind.i64.wrap (s12 - (1 : Int)))))] (OpSpec.run rfl rfl (op_indexAddr rfl Try.underlying22 tk73 h18 (.t NL.h0) (.t (NL.hs NL.h0))) rfl) (.cons (has rfl) (.cons (has rfl) .nil)) (by kernel_rfl) (.cons [(some 3, Ent.t 31 (VA.pt kMacro x17))] (OpSpec.run rfl rfl (op_fieldAddrp rfl fldMacro_Name Try.underlying73 rfl tk9 (.t NL.h0)) rfl) (.cons (has rfl) .nil) (by kernel_rfl) (.cons [(some 4, Ent.t 32 (VA.pt kstr x17.Name))] (OpSpec.run rfl rfl (op_loadp rfl tk9 (.t NL.h0)) rfl) (.cons (has rfl) .nil) (by kernel_rfl) (.cons [(none, Ent.t 0 (VA.k (kslice kMacro) a0))] (OpSpec.run rfl rfl (op_move rfl (.t NL.h0)) rfl) (.cons (has rfl) .nil) (by kernel_rfl) (.cons [(none, Ent.t 6 (VA.k (kint .i64) s12))] (OpSpec.run rfl rfl (op_move rfl (.t NL.h0)) rfl) (.cons (has rfl) .nil) (by kernel_rfl) (.cons [(some 6, Ent.t 34 (VA.k (kslice kMacro) a0)), (some 7, Ent.t 35 (VA.k (kint .i64) s12))] (OpSpec.run rfl rfl (op_indexAddr rfl Try.underlying22 tk73 h20 (.t NL.h0) (.t (NL.hs NL.h0))) rfl) (.cons (has rfl) (.cons (has rfl) .nil)) (by kernel_rfl) (.cons [(some 8, Ent.t 36 (VA.pt kMacro x19))] (OpSpec.run rfl rfl (op_fieldAddrp rfl fldMacro_Name Try.underlying73 rfl tk9 (.t NL.h0)) rfl) (.cons (has rfl) .nil) (by kernel_rfl) (.cons [(some 9, Ent.t 37 (VA.pt kstr x19.Name))] (OpSpec.run rfl rfl (op_loadp rfl tk9 (.t NL.h0)) rfl) (.cons (has rfl) .nil) (by kernel_rfl) (.cons [(some 5, Ent.t 33 (VA.k kstr x17.Name)), (some 10, Ent.t 38 (VA.k kstr x19.Name))] (OpSpec.run rfl rfl (op_scmp rfl rfl (.t NL.h0) (.t (NL.hs NL.h0))) rfl) (.cons (has rfl) (.cons (has rfl) .nil)) (by kernel_rfl) (.nil _))))))))))))) ?_
          refine ends_sub [Ent.t 0 (VA.k (kslice kMacro) a0), Ent.t 6 (VA.k (kint .i64) s12), Ent.t 39 (VA.k kbool (scmp .geq x17.Name x19.Name))] (.cons rfl (.cons rfl (.cons rfl .nil))) ?_
          refine ends_then ?_
          refine goes_if (.t (has rfl)) H (fun hb21 H => ?_) (fun hb21 H => ?_)
          · skip
            refine goes_seq ?_
            refine goes_region ?_
            refine go1 (op_assign rfl (.int _ _)) rfl ?_
            refine goesO_nil ?_
            refine ends_then ?_
            obtain rfl := Option.some.inj H
            refine goes_ret (ends_block_ret (ends_then_ret (ends_then_ret (ends_block_ret (ends_cutR_ret rfl ?_)))))
            exact ends_ret' rfl rfl (.t rfl (.nil _))
          · skip
            refine goes_skip ?_
            refine ends_block ?_
            refine ends_then ?_
            refine goes_region ?_
            refine go1 (op_move rfl (.t (has rfl))) rfl ?_
            refine go1 (op_add rfl (.t (has rfl)) (.int _ _)) rfl ?_
            refine go1 (op_assign rfl (.t (has rfl))) rfl ?_
            refine goesO_nil ?_
            exact loop_next _ H (.cons rfl (.cons rfl .nil))
        · skip
          refine goes_exit (ends_then_exit (ends_then_exit (ends_block_exit ?_)))
          obtain rfl := Option.some.inj H
          exact ends_cutR rfl .nil
      · rintro s13 rfl
        clear h14
        dsimp only at H
        refine ends_then ?_
        refine goes_seq ?_
        refine goes_region ?_
        refine go1 (op_assign rfl (.int _ _)) rfl ?_
        refine goesO_nil ?_
        refine ends_then ?_
        obtain rfl := Option.some.inj H
        exact goes_ret (ends_ret' rfl rfl (.t rfl (.nil _)))
      · rintro r' rfl a w hr
        obtain rfl := Option.some.inj H
        exact hr
    · rintro r' rfl a w hr
      obtain rfl := Option.some.inj H
      exact hr
end Go.Proofs.Ytlpmolohppoofaa.F
