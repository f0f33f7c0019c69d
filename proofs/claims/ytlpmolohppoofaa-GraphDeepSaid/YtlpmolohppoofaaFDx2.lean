import Derived.Test.YtlpmolohppoofaaFDx1
set_option linter.unusedVariables false
set_option linter.unusedSimpArgs false
set_option linter.unnecessarySimpa false
set_option linter.deprecated false
namespace Go.Proofs.Ytlpmolohppoofaa.F
open Go Go.RowKit Go.Proofs.Ytlpmolohppoofaa.Sl
/-! smithy/graph.asked -/
def graph_asked.l0 (a1 : List ByteArray) : Nat → Int → Option (Except Int Unit)
  | 0, _ => none
  | k + 1, s5 => bif icmp .lss s5 (a1.length : Int) then ((idx a1 s5).bind fun x10 => (names_Check.f k x10).bind fun v12 => bif icmp .neq v12 (0 : Int) then (some (Except.error v12)) else (graph_asked.l0 a1 k (IntKind.i64.wrap (s5 + (1 : Int))))) else (some (Except.ok ()))
def graph_asked.f (k : Nat) (a0 : Make) (a1 : List ByteArray) : Option Int := (load_Check.f k a0).bind fun v1 => bif icmp .neq v1 (0 : Int) then (some v1) else (bif icmp .gtr (a1.length : Int) (512 : Int) then (some (2 : Int)) else ((graph_asked.l0 a1 k (0 : Int)).bind fun o8 => match o8 with | .error r' => some r' | .ok s6 => (some (0 : Int))))
set_option maxRecDepth 100000 in
set_option maxHeartbeats 4000000 in
theorem graph_asked.con (k : Nat) (a0 : Make) (a1 : List ByteArray) (r : Int) (H : graph_asked.f k a0 a1 = some r) : Con Try.prog 21 [VA.k kMake a0, VA.k (kslice kstr) a1] [VA.k (kint .i64) r] := by
  unfold graph_asked.f at H
  refine con_enter Try.func21 rfl rfl rfl (fun w0 S0 θ => ?_)
  refine goes_seq ?_
  refine goes_region ?_
  refine go3 (op_box 2 rfl (fun h => by first | rfl | cases h) (.t (has rfl))) rfl ?_
  refine go1 (op_assign rfl (.int _ _)) rfl ?_
  refine goesO_nil ?_
  refine ends_then ?_
  refine goes_seq ?_
  refine goes_seq ?_
  refine goes_region ?_
  refine go1 (op_load rfl (Fld.whole kMake) tk29 (.t (has rfl)) (has rfl)) rfl ?_
  obtain ⟨v1, h2, H⟩ := bind_some H
  refine go1 (op_call' rfl enters34 (load_Check.con _ _ _ h2) rfl (.cons (ArgP.k (.t (has rfl))) .nil)) rfl ?_
  refine go1 (op_assign rfl (.t (has rfl))) rfl ?_
  refine goesO_nil ?_
  refine ends_then ?_
  refine goes_seq ?_
  refine goes_region ?_
  refine go1 (op_move rfl (.t (has rfl))) rfl ?_
  refine go1 (op_icmp rfl rfl (.t (has rfl)) (.int _ _)) rfl ?_
  refine goesO_nil ?_
  refine ends_then ?_
  refine goes_if (.t (has rfl)) H (fun hb3 H => ?_) (fun hb3 H => ?_)
  · skip
    refine goes_seq ?_
    refine goes_region ?_
    refine go1 (op_move rfl (.t (has rfl))) rfl ?_
    refine go1 (op_assign rfl (.t (has rfl))) rfl ?_
    refine goesO_nil ?_
    refine ends_then ?_
    obtain rfl := Option.some.inj H
    exact goes_ret (ends_then_ret (ends_ret' rfl rfl (.t rfl (.nil _))))
  · skip
    refine goes_skip ?_
    refine ends_then ?_
    refine goes_seq ?_
    refine goes_seq ?_
    refine goes_region ?_
    refine go1 (op_move rfl (.t (has rfl))) rfl ?_
    refine go1 (op_len rfl rfl Try.underlying25 (.t (has rfl))) rfl ?_
    refine go1 (op_icmp rfl rfl (.t (has rfl)) (.int _ _)) rfl ?_
    refine goesO_nil ?_
    refine ends_then ?_
    refine goes_if (.t (has rfl)) H (fun hb4 H => ?_) (fun hb4 H => ?_)
    · skip
      refine goes_seq ?_
      refine goes_region ?_
      refine go1 (op_assign rfl (.int _ _)) rfl ?_
      refine goesO_nil ?_
      refine ends_then ?_
      obtain rfl := Option.some.inj H
      exact goes_ret (ends_then_ret (ends_ret' rfl rfl (.t rfl (.nil _))))
    · skip
      refine goes_skip ?_
      refine ends_then ?_
      refine goes_seq ?_
      refine goes_seq ?_
      refine goes_region ?_
      refine go1 (op_move rfl (.t (has rfl))) rfl ?_
      refine go1 (op_len rfl rfl Try.underlying25 (.t (has rfl))) rfl ?_
      refine go1 (op_move rfl (.int _ _)) rfl ?_
      refine goesO_nil ?_
      refine ends_then ?_
      obtain ⟨o8, h7, H⟩ := bind_some H
      refine goes_cutR (o := o8) (fun s6 : Unit => []) (fun r a w => bodyPost Try.prog Try.f21 (CPost w0 S0 θ [VA.k (kint .i64) r]) .ret a w) ?_ ?_ ?_
      · replace H := h7; clear h7
        refine goes_block ?_
        refine goes_loop (fun s5 : Int => [Ent.t 17 (VA.k (kslice kstr) a1), Ent.t 18 (VA.k (kint .i64) (a1.length : Int)), Ent.t 19 (VA.k (kint .i64) s5)]) (fun k s5 => graph_asked.l0 a1 k s5) (fun _ => rfl) H (.cons rfl (.cons rfl (.cons rfl .nil))) ?_
        intro k s5 H
        simp only [graph_asked.l0] at H
        refine goes_seq ?_
        refine goes_region ?_
        refine go1 (op_icmp rfl rfl (.t (has rfl)) (.t (has rfl))) rfl ?_
        refine goesO_nil ?_
        refine ends_then ?_
        refine goes_seq ?_
        refine goes_if (.t (has rfl)) H (fun hb9 H => ?_) (fun hb9 H => ?_)
        · skip
          refine goes_skip ?_
          refine ends_then ?_
          refine goes_seq ?_
          refine goes_block ?_
          refine goes_seq ?_
          refine goes_region ?_
          obtain ⟨x10, h11, H⟩ := bind_some H
          refine go1 (op_indexAddr rfl Try.underlying25 tk9 h11 (.t (has rfl)) (.t (has rfl))) rfl ?_
          refine go1 (op_loadp rfl tk9 (.t (has rfl))) rfl ?_
          refine go1 (op_assign rfl (.t (has rfl))) rfl ?_
          refine goesO_nil ?_
          refine ends_then ?_
          refine goes_seq ?_
          refine goes_region ?_
          refine go1 (op_move rfl (.t (has rfl))) rfl ?_
          obtain ⟨v12, h13, H⟩ := bind_some H
          refine go1 (op_call' rfl enters35 (names_Check.con _ _ _ h13) rfl (.cons (ArgP.k (.t (has rfl))) .nil)) rfl ?_
          refine go1 (op_assign rfl (.t (has rfl))) rfl ?_
          refine goesO_nil ?_
          refine ends_then ?_
          refine goes_seq ?_
          refine goes_region ?_
          refine go1 (op_move rfl (.t (has rfl))) rfl ?_
          refine go1 (op_icmp rfl rfl (.t (has rfl)) (.int _ _)) rfl ?_
          refine goesO_nil ?_
          refine ends_then ?_
          refine goes_if (.t (has rfl)) H (fun hb14 H => ?_) (fun hb14 H => ?_)
          · skip
            refine goes_seq ?_
            refine goes_region ?_
            refine go1 (op_move rfl (.t (has rfl))) rfl ?_
            refine go1 (op_assign rfl (.t (has rfl))) rfl ?_
            refine goesO_nil ?_
            refine ends_then ?_
            obtain rfl := Option.some.inj H
            refine goes_ret (ends_block_ret (ends_then_ret (ends_then_ret (ends_block_ret (ends_cutR_ret rfl ?_)))))
            exact ends_ret' rfl rfl (.t rfl (.nil _))
          · skip
            refine goes_skip ?_
            refine ends_block ?_
            refine ends_then ?_
            refine goes_region ?_
            refine go1 (op_add rfl (.t (has rfl)) (.int _ _)) rfl ?_
            refine go1 (op_move rfl (.t (has rfl))) rfl ?_
            refine goesO_nil ?_
            exact loop_next _ H (.cons rfl (.cons rfl (.cons rfl .nil)))
        · skip
          refine goes_exit (ends_then_exit (ends_then_exit (ends_block_exit ?_)))
          obtain rfl := Option.some.inj H
          exact ends_cutR rfl .nil
      · rintro s6 rfl
        clear h7
        dsimp only at H
        refine ends_then ?_
        refine goes_seq ?_
        refine goes_region ?_
        refine go1 (op_assign rfl (.int _ _)) rfl ?_
        refine goesO_nil ?_
        refine ends_then ?_
        obtain rfl := Option.some.inj H
        exact goes_ret (ends_ret' rfl rfl (.t rfl (.nil _)))
      · rintro r' rfl a w hr
        obtain rfl := Option.some.inj H
        exact hr
theorem graph_asked.conF (k : Nat) (a0 : Make) (a1 : List ByteArray) (r : Int) (H : graph_asked.f k a0 a1 = some r) : ConF Try.prog 21 [VA.k kMake a0, VA.k (kslice kstr) a1] [VA.k (kint .i64) r] := (graph_asked.con k a0 a1 r H).freeL (.cons (KFree.k (KFree.int .i64) _) .nil)
/-! slices.Sort[[]string,string] -/
def slices_Sort_string_string.f (a0 : List ByteArray) : Option (List ByteArray) := bif Nat.blt a0.length 4611686018427387904 then some (sortB a0) else none
theorem slices_Sort_string_string.con (i : Nat) (a0 : List ByteArray) (r : List ByteArray) (H : slices_Sort_string_string.f a0 = some r) : ConE Try.prog 29 [i, 500000 + i] [Ent.r i 9 kstr a0] [VA.rw i (a0).length] [] [Ent.r i 9 kstr r] := by
  unfold slices_Sort_string_string.f at H
  cases hb : Nat.blt a0.length 4611686018427387904 with
  | false => rw [hb] at H; cases H
  | true =>
    rw [hb, cond_true] at H
    obtain rfl := Option.some.inj H
    exact conE_sort i (fun blk off cap ss w h1 h2 h3 => Try.slices_Sort_string blk off cap ss w h1 h2 h3) (fun p cap w => Try.slices_Sort_string_none p cap w) a0 (blt_lt hb)
theorem slices_Sort_string_string.len {a0 r : List ByteArray} (H : slices_Sort_string_string.f a0 = some r) : (a0).length = (r).length := by
  unfold slices_Sort_string_string.f at H
  cases hb : Nat.blt a0.length 4611686018427387904 with
  | false => rw [hb] at H; cases H
  | true =>
    rw [hb, cond_true] at H
    obtain rfl := Option.some.inj H
    exact (sortB_length a0).symm
theorem slices_Sort_string_string.conF (i : Nat) (a0 : List ByteArray) (r : List ByteArray) (H : slices_Sort_string_string.f a0 = some r) : ConEF Try.prog 29 [i, 500000 + i] [Ent.r i 9 kstr a0] [VA.rw i (a0).length] [] [Ent.r i 9 kstr r] := (slices_Sort_string_string.con i a0 r H).freeL .nil (fun e he => by rcases List.mem_cons.1 he with rfl | he; exact freeEnt_r KFree.str _ _ _; cases he)
/-! slices.Compact[[]string,string] -/
def slices_Compact_string_string.f (a0 : List ByteArray) : Option (List ByteArray) := some (compactB a0)
theorem slices_Compact_string_string.con (i : Nat) (a0 : List ByteArray) (r : List ByteArray) (H : slices_Compact_string_string.f a0 = some r) : ConE Try.prog 44 [] [Ent.r i 9 kstr a0] [VA.rw i (a0).length] [VA.own 9 kstr r] [] := by
  obtain rfl := Option.some.inj H
  exact conE_compact i (fun blk off cap zs w h1 h2 h3 => Try.slices_Compact_string blk off cap zs w h1 h2 h3) (fun a cap w => Try.slices_Compact_string_empty a cap w) a0
theorem slices_Compact_string_string.conF (i : Nat) (a0 : List ByteArray) (r : List ByteArray) (H : slices_Compact_string_string.f a0 = some r) : ConEF Try.prog 44 [] [Ent.r i 9 kstr a0] [VA.rw i (a0).length] [VA.own 9 kstr r] [] := (slices_Compact_string_string.con i a0 r H).freeL (.cons (KFree.own KFree.str _ _) .nil) (fun e he => by cases he)
/-! smithy/graph.all -/
def graph_all.l0 (a0 : Make) : Nat → ((List ByteArray) × Int) → Option (List ByteArray)
  | 0, _ => none
  | k + 1, s1 => bif icmp .lss s1.2 (a0.Rules.length : Int) then ((idx a0.Rules s1.2).bind fun x5 => (app 16 s1.1 ([x5.Target])).bind fun x7 => (app 16 x7 x5.Needs).bind fun x9 => graph_all.l0 a0 k (x9, IntKind.i64.wrap (s1.2 + (1 : Int)))) else (some s1.1)
def graph_all.f (k : Nat) (a0 : Make) : Option (List ByteArray) := (graph_all.l0 a0 k (([] : List ByteArray), (0 : Int))).bind fun s2 => (slices_Sort_string_string.f s2).bind fun v11 => (slices_Compact_string_string.f v11).bind fun v13 => some v13
set_option maxRecDepth 100000 in
set_option maxHeartbeats 4000000 in
theorem graph_all.con (k : Nat) (a0 : Make) (r : List ByteArray) (H : graph_all.f k a0 = some r) : Con Try.prog 31 [VA.k kMake a0] [VA.own 9 kstr r] := by
  unfold graph_all.f at H
  refine con_enter Try.func31 rfl rfl rfl (fun w0 S0 θ => ?_)
  refine goes_seq ?_
  refine goes_region ?_
  refine go3 (op_box 1 rfl (fun h => by first | rfl | cases h) (.t (has rfl))) rfl ?_
  refine go1 (op_assign_nil 9 kstr (.inr rfl) rfl) rfl ?_
  refine goesO_nil ?_
  refine ends_then ?_
  refine goes_seq ?_
  refine goes_region ?_
  refine go1 (op_assign_nil 9 kstr (.inr rfl) rfl) rfl ?_
  refine goesO_nil ?_
  refine ends_then ?_
  refine goes_seq ?_
  refine goes_seq ?_
  refine goes_region ?_
  refine go1 (op_fieldAddr rfl Try.underlying29 rfl tk23 (.t (has rfl))) rfl ?_
  refine go1 (op_load rfl fldMake_Rules tk23 (.t (has rfl)) (has rfl)) rfl ?_
  refine go1 (op_len rfl rfl Try.underlying23 (.t (has rfl))) rfl ?_
  refine go1 (op_move rfl (.int _ _)) rfl ?_
  refine goesO_nil ?_
  refine ends_then ?_
  obtain ⟨s2, h3, H⟩ := bind_some H
  refine goes_cut [Ent.t 3 (VA.own 9 kstr s2)] ?_ ?_
  · replace H := h3; clear h3
    refine goes_block ?_
    refine goes_loop (fun s1 : (List ByteArray) × Int => [Ent.t 3 (VA.own 9 kstr s1.1), Ent.t 7 (VA.k (kslice kRule) a0.Rules), Ent.t 8 (VA.k (kint .i64) (a0.Rules.length : Int)), Ent.t 9 (VA.k (kint .i64) s1.2)]) (fun k s1 => graph_all.l0 a0 k s1) (fun _ => rfl) H (.cons rfl (.cons rfl (.cons rfl (.cons rfl .nil)))) ?_
    intro k s1 H
    simp only [graph_all.l0] at H
    refine goes_seq ?_
    refine goes_region ?_
    refine go1 (op_icmp rfl rfl (.t (has rfl)) (.t (has rfl))) rfl ?_
    refine goesO_nil ?_
    refine ends_then ?_
    refine goes_seq ?_
    refine goes_if (.t (has rfl)) H (fun hb4 H => ?_) (fun hb4 H => ?_)
    · skip
      refine goes_skip ?_
      refine ends_then ?_
      refine goes_seq ?_
      refine goes_block ?_
      refine goes_seq ?_
      refine goes_region ?_
      obtain ⟨x5, h6, H⟩ := bind_some H
      refine go1 (op_indexAddr rfl Try.underlying23 tk52 h6 (.t (has rfl)) (.t (has rfl))) rfl ?_
      refine go1 (op_loadp rfl tk52 (.t (has rfl))) rfl ?_
      refine go3 (op_alloc 5 rfl zk52) rfl ?_
      refine go1 (op_store (Fld.whole kRule) tk52 (.t (has rfl)) (has rfl) (.t (has rfl))) rfl ?_
      refine goesO_nil ?_
      refine ends_then ?_
      obtain ⟨x7, h8, H⟩ := bind_some H
      obtain ⟨x9, h10, H⟩ := bind_some H
      refine goes_drawn [[Ent.t 13 (VA.own 9 kstr s1.1), Ent.t 3 (VA.any)], [Ent.t 14 (VA.ptr 5 0)], [Ent.t 15 (VA.k kstr x5.Target)], [Ent.t 16 (VA.own 9 kstr ([x5.Target]))], [Ent.t 17 (VA.own 9 kstr x7), Ent.t 13 (VA.any)], [Ent.t 18 (VA.ptr 5 1)], [Ent.t 19 (VA.k (kslice kstr) x5.Needs)], [Ent.t 20 (VA.own 9 kstr x9), Ent.t 17 (VA.any)], [Ent.t 3 (VA.own 9 kstr x9), Ent.t 20 (VA.any)]] mixed (by kernel_rfl) (by kernel_rfl) (.cons [(none, Ent.t 3 (VA.own 9 kstr s1.1))] (OpSpec.run rfl rfl (op_mv (.inl rfl) rfl rfl NL.h0) rfl) (.cons (has rfl) .nil) (by kernel_rfl) (.cons [(none, Ent.t 5 (VA.ptr 5 0))] (OpSpec.run rfl rfl (op_fieldAddr rfl Try.underlying52 rfl tk9 (.t NL.h0)) rfl) (.cons (has rfl) .nil) (by kernel_rfl) (.cons [(some 1, Ent.t 14 (VA.ptr 5 0)), (none, Ent.h 5 (HE.box 52 kRule x5))] (OpSpec.run rfl rfl (op_load rfl fldRule_Target tk9 (.t NL.h0) (NL.hs NL.h0)) rfl) (.cons (has rfl) (.cons (has rfl) .nil)) (by kernel_rfl) (.cons [(some 2, Ent.t 15 (VA.k kstr x5.Target))] (OpSpec.run rfl rfl (op_buildSlice rfl at25 (fun h => by first | rfl | cases h) rfl rfl rfl (.cons (.t NL.h0) (.nil _))) rfl) (.cons (has rfl) .nil) (by kernel_rfl) (.cons [(some 3, Ent.t 16 (VA.own 9 kstr ([x5.Target]))), (some 0, Ent.t 13 (VA.own 9 kstr s1.1))] (OpSpec.run rfl rfl (op_append rfl rfl at25 h8 (NL.hs NL.h0) (ReadsArg.own (.t NL.h0))) rfl) (.cons (has rfl) (.cons (has rfl) .nil)) (by kernel_rfl) (.cons [(none, Ent.t 5 (VA.ptr 5 0))] (OpSpec.run rfl rfl (op_fieldAddr rfl Try.underlying52 rfl tk25 (.t NL.h0)) rfl) (.cons (has rfl) .nil) (by kernel_rfl) (.cons [(some 5, Ent.t 18 (VA.ptr 5 1)), (none, Ent.h 5 (HE.box 52 kRule x5))] (OpSpec.run rfl rfl (op_load rfl fldRule_Needs tk25 (.t NL.h0) (NL.hs NL.h0)) rfl) (.cons (has rfl) (.cons (has rfl) .nil)) (by kernel_rfl) (.cons [(some 6, Ent.t 19 (VA.k (kslice kstr) x5.Needs)), (some 4, Ent.t 17 (VA.own 9 kstr x7))] (OpSpec.run rfl rfl (op_append rfl rfl at25 h10 (NL.hs NL.h0) (ReadsArg.k (.t NL.h0))) rfl) (.cons (has rfl) (.cons (has rfl) .nil)) (by kernel_rfl) (.cons [(some 7, Ent.t 20 (VA.own 9 kstr x9))] (OpSpec.run rfl rfl (op_mv (.inr rfl) rfl rfl NL.h0) rfl) (.cons (has rfl) .nil) (by kernel_rfl) (.nil _)))))))))) ?_
      refine ends_sub [Ent.t 3 (VA.own 9 kstr x9), Ent.t 7 (VA.k (kslice kRule) a0.Rules), Ent.t 8 (VA.k (kint .i64) (a0.Rules.length : Int)), Ent.t 9 (VA.k (kint .i64) s1.2)] (.cons rfl (.cons rfl (.cons rfl (.cons rfl .nil)))) ?_
      refine ends_block ?_
      refine ends_then ?_
      refine goes_region ?_
      refine go1 (op_add rfl (.t (has rfl)) (.int _ _)) rfl ?_
      refine go1 (op_move rfl (.t (has rfl))) rfl ?_
      refine goesO_nil ?_
      exact loop_next _ H (.cons rfl (.cons rfl (.cons rfl (.cons rfl .nil))))
    · skip
      refine goes_exit (ends_then_exit (ends_then_exit (ends_block_exit ?_)))
      obtain rfl := Option.some.inj H
      exact ends_cut (.cons rfl .nil)
  refine ends_then ?_
  refine goes_seq ?_
  refine goes_region ?_
  refine goesO_number 3 900 rfl rfl rfl ?_
  refine go1 (op_moveA rfl plain_rw (.t (has rfl))) rfl ?_
  obtain ⟨v11, h12, H⟩ := bind_some H
  refine goN (op_callE [] [] rfl enters29 (slices_Sort_string_string.con 900 _ _ h12) rfl (.cons (has rfl) .nil) (.cons (ArgP.a plain_rw (.t (has rfl))) .nil)) rfl ?_
  refine goesO_relen 3 (slices_Sort_string_string.len h12) rfl ?_
  refine goesO_nil ?_
  refine ends_then ?_
  refine goes_seq ?_
  refine goes_region ?_
  refine go1 (op_moveA rfl plain_rw (.t (has rfl))) rfl ?_
  obtain ⟨v13, h14, H⟩ := bind_some H
  refine goN (op_callE [5000900] [] rfl enters44 (slices_Compact_string_string.con 900 _ _ h14) rfl (.cons (has rfl) .nil) (.cons (ArgP.a plain_rw (.t (has rfl))) .nil)) rfl ?_
  refine go2 (op_mv (.inr rfl) rfl rfl (has rfl)) rfl ?_
  refine goesO_nil ?_
  refine ends_then ?_
  obtain rfl := Option.some.inj H
  exact goes_ret (ends_ret' rfl rfl (.t rfl (.nil _)))
theorem graph_all.conF (k : Nat) (a0 : Make) (r : List ByteArray) (H : graph_all.f k a0 = some r) : ConF Try.prog 31 [VA.k kMake a0] [VA.own 9 kstr r] := (graph_all.con k a0 r H).freeL (.cons (KFree.own KFree.str _ _) .nil)
/-! slices.isNaN[string] -/
def slices_isNaN_string.f (a0 : ByteArray) : Option Bool := some (scmp .neq a0 a0)
set_option maxRecDepth 100000 in
set_option maxHeartbeats 4000000 in
theorem slices_isNaN_string.con (a0 : ByteArray) (r : Bool) (H : slices_isNaN_string.f a0 = some r) : Con Try.prog 43 [VA.k kstr a0] [VA.k kbool r] := by
  unfold slices_isNaN_string.f at H
  refine con_enter Try.func43 rfl rfl rfl (fun w0 S0 θ => ?_)
  refine goes_seq ?_
  refine goes_region ?_
  refine go1 (op_assign rfl (.bool _)) rfl ?_
  refine goesO_nil ?_
  refine ends_then ?_
  refine goes_seq ?_
  refine goes_region ?_
  refine go1 (op_move rfl (.t (has rfl))) rfl ?_
  refine go1 (op_move rfl (.t (has rfl))) rfl ?_
  refine go1 (op_scmp rfl rfl (.t (has rfl)) (.t (has rfl))) rfl ?_
  refine go1 (op_assign rfl (.t (has rfl))) rfl ?_
  refine goesO_nil ?_
  refine ends_then ?_
  obtain rfl := Option.some.inj H
  exact goes_ret (ends_ret' rfl rfl (.t rfl (.nil _)))
theorem slices_isNaN_string.conF (a0 : ByteArray) (r : Bool) (H : slices_isNaN_string.f a0 = some r) : ConF Try.prog 43 [VA.k kstr a0] [VA.k kbool r] := (slices_isNaN_string.con a0 r H).freeL (.cons (KFree.k KFree.bool _) .nil)
/-! slices.BinarySearch[[]string,string] -/
def slices_BinarySearch_string_string.l0 (a0 : List ByteArray) (a1 : ByteArray) : Nat → (Int × Int) → Option Int
  | 0, _ => none
  | k + 1, s1 => bif icmp .lss s1.1 s1.2 then ((idx a0 (IntKind.i64.wrap ((IntKind.u64.wrap (IntKind.i64.wrap (s1.1 + s1.2))) / 2 ^ (Int.toNat (1 : Int))))).bind fun x5 => (cmp_Less_string.f x5 a1).bind fun v7 => bif v7 then (slices_BinarySearch_string_string.l0 a0 a1 k (IntKind.i64.wrap (IntKind.i64.wrap ((IntKind.u64.wrap (IntKind.i64.wrap (s1.1 + s1.2))) / 2 ^ (Int.toNat (1 : Int))) + (1 : Int)), s1.2)) else (slices_BinarySearch_string_string.l0 a0 a1 k (s1.1, IntKind.i64.wrap ((IntKind.u64.wrap (IntKind.i64.wrap (s1.1 + s1.2))) / 2 ^ (Int.toNat (1 : Int)))))) else (some s1.1)
def slices_BinarySearch_string_string.f (k : Nat) (a0 : List ByteArray) (a1 : ByteArray) : Option (Int × Bool) := (slices_BinarySearch_string_string.l0 a0 a1 k ((0 : Int), (a0.length : Int))).bind fun s2 => (bif icmp .lss s2 (a0.length : Int) then ((idx a0 s2).bind fun x13 => bif scmp .eql x13 a1 then (some true) else ((idx a0 s2).bind fun x16 => (slices_isNaN_string.f x16).bind fun v18 => bif v18 then ((slices_isNaN_string.f a1).bind fun v21 => some v21) else (some false))) else (some false)).bind fun s10 => some (s2, s10)
set_option maxRecDepth 100000 in
set_option maxHeartbeats 4000000 in
theorem slices_BinarySearch_string_string.con (k : Nat) (a0 : List ByteArray) (a1 : ByteArray) (r : Int × Bool) (H : slices_BinarySearch_string_string.f k a0 a1 = some r) : Con Try.prog 30 [VA.k (kslice kstr) a0, VA.k kstr a1] [VA.k (kint .i64) r.1, VA.k kbool r.2] := by
  unfold slices_BinarySearch_string_string.f at H
  refine con_enter Try.func30 rfl rfl rfl (fun w0 S0 θ => ?_)
  refine goes_seq ?_
  refine goes_region ?_
  refine go1 (op_assign rfl (.int _ _)) rfl ?_
  refine go1 (op_assign rfl (.bool _)) rfl ?_
  refine goesO_nil ?_
  refine ends_then ?_
  refine goes_seq ?_
  refine goes_region ?_
  refine go1 (op_move rfl (.t (has rfl))) rfl ?_
  refine go1 (op_len rfl rfl Try.underlying25 (.t (has rfl))) rfl ?_
  refine go1 (op_assign rfl (.t (has rfl))) rfl ?_
  refine goesO_nil ?_
  refine ends_then ?_
  refine goes_seq ?_
  refine goes_region ?_
  refine go1 (op_move rfl (.t (has rfl))) rfl ?_
  refine go1 (op_assign rfl (.int _ _)) rfl ?_
  refine go1 (op_assign rfl (.t (has rfl))) rfl ?_
  refine goesO_nil ?_
  refine ends_then ?_
  refine goes_seq ?_
  obtain ⟨s2, h3, H⟩ := bind_some H
  refine goes_cut [Ent.t 0 (VA.k (kslice kstr) a0), Ent.t 1 (VA.k kstr a1), Ent.t 6 (VA.k (kint .i64) (a0.length : Int)), Ent.t 7 (VA.k (kint .i64) s2)] ?_ ?_
  · replace H := h3; clear h3
    refine goes_block ?_
    refine goes_loop (fun s1 : Int × Int => [Ent.t 0 (VA.k (kslice kstr) a0), Ent.t 1 (VA.k kstr a1), Ent.t 6 (VA.k (kint .i64) (a0.length : Int)), Ent.t 7 (VA.k (kint .i64) s1.1), Ent.t 8 (VA.k (kint .i64) s1.2)]) (fun k s1 => slices_BinarySearch_string_string.l0 a0 a1 k s1) (fun _ => rfl) H (.cons rfl (.cons rfl (.cons rfl (.cons rfl (.cons rfl .nil))))) ?_
    intro k s1 H
    simp only [slices_BinarySearch_string_string.l0] at H
    refine goes_seq ?_
    refine goes_seq ?_
    refine goes_region ?_
    refine go1 (op_move rfl (.t (has rfl))) rfl ?_
    refine go1 (op_move rfl (.t (has rfl))) rfl ?_
    refine go1 (op_icmp rfl rfl (.t (has rfl)) (.t (has rfl))) rfl ?_
    refine goesO_nil ?_
    refine ends_then ?_
    refine goes_if (.t (has rfl)) H (fun hb4 H => ?_) (fun hb4 H => ?_)
    · skip
      refine goes_skip ?_
      refine ends_then ?_
      refine goes_block ?_
      refine goes_seq ?_
      refine goes_region ?_
      refine go1 (op_move rfl (.t (has rfl))) rfl ?_
      refine go1 (op_move rfl (.t (has rfl))) rfl ?_
      refine go1 (op_add rfl (.t (has rfl)) (.t (has rfl))) rfl ?_
      refine go1 (op_conv rfl Try.underlying3 Try.underlying81 (.t (has rfl))) rfl ?_
      refine go1 (op_shr rfl (by decide) (by decide) (.t (has rfl)) (.int _ _)) rfl ?_
      refine go1 (op_conv rfl Try.underlying81 Try.underlying3 (.t (has rfl))) rfl ?_
      refine go1 (op_assign rfl (.t (has rfl))) rfl ?_
      refine goesO_nil ?_
      refine ends_then ?_
      refine goes_seq ?_
      refine goes_region ?_
      refine go1 (op_move rfl (.t (has rfl))) rfl ?_
      refine go1 (op_move rfl (.t (has rfl))) rfl ?_
      obtain ⟨x5, h6, H⟩ := bind_some H
      refine go1 (op_indexAddr rfl Try.underlying25 tk9 h6 (.t (has rfl)) (.t (has rfl))) rfl ?_
      refine go1 (op_loadp rfl tk9 (.t (has rfl))) rfl ?_
      refine go1 (op_move rfl (.t (has rfl))) rfl ?_
      obtain ⟨v7, h8, H⟩ := bind_some H
      refine go1 (op_call' rfl enters42 (cmp_Less_string.con _ _ _ h8) rfl (.cons (ArgP.k (.t (has rfl))) (.cons (ArgP.k (.t (has rfl))) .nil))) rfl ?_
      refine goesO_nil ?_
      refine ends_then ?_
      refine goes_if (.t (has rfl)) H (fun hb9 H => ?_) (fun hb9 H => ?_)
      · skip
        refine goes_region ?_
        refine go1 (op_move rfl (.t (has rfl))) rfl ?_
        refine go1 (op_add rfl (.t (has rfl)) (.int _ _)) rfl ?_
        refine go1 (op_assign rfl (.t (has rfl))) rfl ?_
        refine goesO_nil ?_
        refine ends_block ?_
        exact loop_next _ H (.cons rfl (.cons rfl (.cons rfl (.cons rfl (.cons rfl .nil)))))
      · skip
        refine goes_region ?_
        refine go1 (op_move rfl (.t (has rfl))) rfl ?_
        refine go1 (op_assign rfl (.t (has rfl))) rfl ?_
        refine goesO_nil ?_
        refine ends_block ?_
        exact loop_next _ H (.cons rfl (.cons rfl (.cons rfl (.cons rfl (.cons rfl .nil)))))
    · skip
      refine goes_exit (ends_then_exit (ends_then_exit (ends_block_exit ?_)))
      obtain rfl := Option.some.inj H
      exact ends_cut (.cons rfl (.cons rfl (.cons rfl (.cons rfl .nil))))
  refine ends_then ?_
  refine goes_seq ?_
  obtain ⟨s10, h11, H⟩ := bind_some H
  refine goes_cut [Ent.t 4 (VA.k (kint .i64) s2), Ent.t 5 (VA.k kbool s10)] ?_ ?_
  · replace H := h11; clear h11
    refine goes_region ?_
    refine go1 (op_move rfl (.t (has rfl))) rfl ?_
    refine go1 (op_move rfl (.t (has rfl))) rfl ?_
    refine go1 (op_move rfl (.t (has rfl))) rfl ?_
    refine go1 (op_icmp rfl rfl (.t (has rfl)) (.t (has rfl))) rfl ?_
    refine go1 (op_move rfl (.t (has rfl))) rfl ?_
    refine goesO_split H (fun hb12 H => ?_) (fun hb12 H => ?_)
    · skip
      refine goG (op_move rfl (.t (has rfl))) rfl rfl rfl rfl hb12 ?_
      refine goG (op_move rfl (.t (has rfl))) rfl rfl rfl rfl hb12 ?_
      obtain ⟨x13, h14, H⟩ := bind_some H
      refine goG (op_indexAddr rfl Try.underlying25 tk9 h14 (.t (has rfl)) (.t (has rfl))) rfl rfl rfl rfl hb12 ?_
      refine goG (op_loadp rfl tk9 (.t (has rfl))) rfl rfl rfl rfl hb12 ?_
      refine goG (op_move rfl (.t (has rfl))) rfl rfl rfl rfl hb12 ?_
      refine goG (op_scmp rfl rfl (.t (has rfl)) (.t (has rfl))) rfl rfl rfl rfl hb12 ?_
      refine goG (op_move rfl (.t (has rfl))) rfl rfl rfl rfl hb12 ?_
      refine goesO_split H (fun hb15 H => ?_) (fun hb15 H => ?_)
      · skip
        refine goS rfl rfl rfl rfl rfl rfl hb15 ?_
        refine goS rfl rfl rfl rfl rfl rfl hb15 ?_
        refine goS rfl rfl rfl rfl rfl rfl hb15 ?_
        refine goS rfl rfl rfl rfl rfl rfl hb15 ?_
        refine goS rfl rfl rfl rfl rfl rfl hb15 ?_
        refine goS rfl rfl rfl rfl rfl rfl hb15 ?_
        refine goSU rfl rfl rfl rfl rfl rfl ?_
        refine goSU rfl rfl rfl rfl rfl rfl ?_
        refine goS rfl rfl rfl rfl rfl rfl hb15 ?_
        refine goG (op_pick_t rfl hb15 (.t (has rfl)) (.bool _)) rfl rfl rfl rfl hb12 ?_
        refine go1 (op_pick_t rfl hb12 (.t (has rfl)) (.t (has rfl))) rfl ?_
        refine go1 (op_assign rfl (.t (has rfl))) rfl ?_
        refine go1 (op_assign rfl (.t (has rfl))) rfl ?_
        refine goesO_nil ?_
        obtain rfl := Option.some.inj H
        exact ends_cut (.cons rfl (.cons rfl .nil))
      · skip
        refine goG (op_move rfl (.t (has rfl))) rfl rfl rfl rfl hb15 ?_
        refine goG (op_move rfl (.t (has rfl))) rfl rfl rfl rfl hb15 ?_
        obtain ⟨x16, h17, H⟩ := bind_some H
        refine goG (op_indexAddr rfl Try.underlying25 tk9 h17 (.t (has rfl)) (.t (has rfl))) rfl rfl rfl rfl hb15 ?_
        refine goG (op_loadp rfl tk9 (.t (has rfl))) rfl rfl rfl rfl hb15 ?_
        obtain ⟨v18, h19, H⟩ := bind_some H
        refine goG (op_call' rfl enters43 (slices_isNaN_string.con _ _ h19) rfl (.cons (ArgP.k (.t (has rfl))) .nil)) rfl rfl rfl rfl hb15 ?_
        refine goG (op_move rfl (.t (has rfl))) rfl rfl rfl rfl hb15 ?_
        refine goesO_split H (fun hb20 H => ?_) (fun hb20 H => ?_)
        · skip
          refine goG (op_move rfl (.t (has rfl))) rfl rfl rfl rfl hb20 ?_
          obtain ⟨v21, h22, H⟩ := bind_some H
          refine goG (op_call' rfl enters43 (slices_isNaN_string.con _ _ h22) rfl (.cons (ArgP.k (.t (has rfl))) .nil)) rfl rfl rfl rfl hb20 ?_
          refine goG (op_pick_t rfl hb20 (.t (has rfl)) (.t (has rfl))) rfl rfl rfl rfl hb15 ?_
          refine goG (op_pick_f rfl hb15 (.t (has rfl)) (.t (has rfl))) rfl rfl rfl rfl hb12 ?_
          refine go1 (op_pick_t rfl hb12 (.t (has rfl)) (.t (has rfl))) rfl ?_
          refine go1 (op_assign rfl (.t (has rfl))) rfl ?_
          refine go1 (op_assign rfl (.t (has rfl))) rfl ?_
          refine goesO_nil ?_
          obtain rfl := Option.some.inj H
          exact ends_cut (.cons rfl (.cons rfl .nil))
        · skip
          refine goS rfl rfl rfl rfl rfl rfl hb20 ?_
          refine goS rfl rfl rfl rfl rfl rfl hb20 ?_
          refine goG (op_pick_f rfl hb20 (.t (has rfl)) (.bool _)) rfl rfl rfl rfl hb15 ?_
          refine goG (op_pick_f rfl hb15 (.t (has rfl)) (.t (has rfl))) rfl rfl rfl rfl hb12 ?_
          refine go1 (op_pick_t rfl hb12 (.t (has rfl)) (.t (has rfl))) rfl ?_
          refine go1 (op_assign rfl (.t (has rfl))) rfl ?_
          refine go1 (op_assign rfl (.t (has rfl))) rfl ?_
          refine goesO_nil ?_
          obtain rfl := Option.some.inj H
          exact ends_cut (.cons rfl (.cons rfl .nil))
    · skip
      refine goS rfl rfl rfl rfl rfl rfl hb12 ?_
      refine goS rfl rfl rfl rfl rfl rfl hb12 ?_
      refine goS rfl rfl rfl rfl rfl rfl hb12 ?_
      refine goS rfl rfl rfl rfl rfl rfl hb12 ?_
      refine goS rfl rfl rfl rfl rfl rfl hb12 ?_
      refine goS rfl rfl rfl rfl rfl rfl hb12 ?_
      refine goS rfl rfl rfl rfl rfl rfl hb12 ?_
      refine goSU rfl rfl rfl rfl rfl rfl ?_
      refine goSU rfl rfl rfl rfl rfl rfl ?_
      refine goSU rfl rfl rfl rfl rfl rfl ?_
      refine goSU rfl rfl rfl rfl rfl rfl ?_
      refine goSU rfl rfl rfl rfl rfl rfl ?_
      refine goSU rfl rfl rfl rfl rfl rfl ?_
      refine goSU rfl rfl rfl rfl rfl rfl ?_
      refine goSU rfl rfl rfl rfl rfl rfl ?_
      refine goSU rfl rfl rfl rfl rfl rfl ?_
      refine goS rfl rfl rfl rfl rfl rfl hb12 ?_
      refine go1 (op_pick_f rfl hb12 (.t (has rfl)) (.bool _)) rfl ?_
      refine go1 (op_assign rfl (.t (has rfl))) rfl ?_
      refine go1 (op_assign rfl (.t (has rfl))) rfl ?_
      refine goesO_nil ?_
      obtain rfl := Option.some.inj H
      exact ends_cut (.cons rfl (.cons rfl .nil))
  refine ends_then ?_
  obtain rfl := Option.some.inj H
  exact goes_ret (ends_ret' rfl rfl (.t rfl (.t rfl (.nil _))))
theorem slices_BinarySearch_string_string.conF (k : Nat) (a0 : List ByteArray) (a1 : ByteArray) (r : Int × Bool) (H : slices_BinarySearch_string_string.f k a0 a1 = some r) : ConF Try.prog 30 [VA.k (kslice kstr) a0, VA.k kstr a1] [VA.k (kint .i64) r.1, VA.k kbool r.2] := (slices_BinarySearch_string_string.con k a0 a1 r H).freeL (.cons (KFree.k (KFree.int .i64) _) (.cons (KFree.k KFree.bool _) .nil))
/-! smithy/graph.one -/
def graph_one.f (k : Nat) (a0 : Make) (a1 : ByteArray) : Option Int := (graph_asked.f k a0 ([a1])).bind fun v1 => bif icmp .neq v1 (0 : Int) then (some v1) else ((graph_all.f k a0).bind fun v4 => (slices_BinarySearch_string_string.f k v4 a1).bind fun v6 => bif !v6.2 then (some (9 : Int)) else (some (0 : Int)))
set_option maxRecDepth 100000 in
set_option maxHeartbeats 4000000 in
theorem graph_one.con (k : Nat) (a0 : Make) (a1 : ByteArray) (r : Int) (H : graph_one.f k a0 a1 = some r) : Con Try.prog 16 [VA.k kMake a0, VA.k kstr a1] [VA.k (kint .i64) r] := by
  unfold graph_one.f at H
  refine con_enter Try.func16 rfl rfl rfl (fun w0 S0 θ => ?_)
  refine goes_seq ?_
  refine goes_region ?_
  refine go3 (op_box 2 rfl (fun h => by first | rfl | cases h) (.t (has rfl))) rfl ?_
  refine go1 (op_assign rfl (.int _ _)) rfl ?_
  refine goesO_nil ?_
  refine ends_then ?_
  refine goes_seq ?_
  refine goes_seq ?_
  refine goes_region ?_
  refine go1 (op_load rfl (Fld.whole kMake) tk29 (.t (has rfl)) (has rfl)) rfl ?_
  refine go1 (op_move rfl (.t (has rfl))) rfl ?_
  refine go1 (op_buildSlice rfl at25 (fun h => by first | rfl | cases h) rfl rfl rfl (.cons (.t (has rfl)) (.nil _))) rfl ?_
  obtain ⟨v1, h2, H⟩ := bind_some H
  refine go1 (op_callF' rfl enters21 (graph_asked.conF _ _ _ _ h2) rfl (.cons (ArgB.k (.t (has rfl))) (.cons (ArgB.own rfl (has rfl)) .nil))) rfl ?_
  refine go1 (op_assign rfl (.t (has rfl))) rfl ?_
  refine goesO_nil ?_
  refine ends_then ?_
  refine goes_seq ?_
  refine goes_region ?_
  refine go1 (op_move rfl (.t (has rfl))) rfl ?_
  refine go1 (op_icmp rfl rfl (.t (has rfl)) (.int _ _)) rfl ?_
  refine goesO_nil ?_
  refine ends_then ?_
  refine goes_if (.t (has rfl)) H (fun hb3 H => ?_) (fun hb3 H => ?_)
  · skip
    refine goes_seq ?_
    refine goes_region ?_
    refine go1 (op_move rfl (.t (has rfl))) rfl ?_
    refine go1 (op_assign rfl (.t (has rfl))) rfl ?_
    refine goesO_nil ?_
    refine ends_then ?_
    obtain rfl := Option.some.inj H
    exact goes_ret (ends_then_ret (ends_ret' rfl rfl (.t rfl (.nil _))))
  · skip
    refine goes_skip ?_
    refine ends_then ?_
    refine goes_seq ?_
    refine goes_seq ?_
    refine goes_region ?_
    refine go1 (op_load rfl (Fld.whole kMake) tk29 (.t (has rfl)) (has rfl)) rfl ?_
    obtain ⟨v4, h5, H⟩ := bind_some H
    refine go1 (op_call' rfl enters31 (graph_all.con _ _ _ h5) rfl (.cons (ArgP.k (.t (has rfl))) .nil)) rfl ?_
    refine go1 (op_move rfl (.t (has rfl))) rfl ?_
    obtain ⟨v6, h7, H⟩ := bind_some H
    refine goN (op_callsF' rfl enters30 (slices_BinarySearch_string_string.conF _ _ _ _ h7) rfl rfl (.cons (ArgB.own rfl (has rfl)) (.cons (ArgB.k (.t (has rfl))) .nil))) rfl ?_
    refine go1 (op_same (.inl rfl) rfl rfl) rfl ?_
    refine go1 (op_extract_same rfl plain_k (has rfl) (has rfl)) rfl ?_
    refine go1 (op_extract_same rfl plain_k (has rfl) (has rfl)) rfl ?_
    refine go1 (op_assign rfl (.t (has rfl))) rfl ?_
    refine go1 (op_assign rfl (.t (has rfl))) rfl ?_
    refine goesO_nil ?_
    refine ends_then ?_
    refine goes_seq ?_
    refine goes_region ?_
    refine go1 (op_move rfl (.t (has rfl))) rfl ?_
    refine go1 (op_not rfl (.t (has rfl))) rfl ?_
    refine goesO_nil ?_
    refine ends_then ?_
    refine goes_if (.t (has rfl)) H (fun hb8 H => ?_) (fun hb8 H => ?_)
    · skip
      refine goes_seq ?_
      refine goes_region ?_
      refine go1 (op_assign rfl (.int _ _)) rfl ?_
      refine goesO_nil ?_
      refine ends_then ?_
      obtain rfl := Option.some.inj H
      exact goes_ret (ends_then_ret (ends_ret' rfl rfl (.t rfl (.nil _))))
    · skip
      refine goes_skip ?_
      refine ends_then ?_
      refine goes_seq ?_
      refine goes_region ?_
      refine go1 (op_assign rfl (.int _ _)) rfl ?_
      refine goesO_nil ?_
      refine ends_then ?_
      obtain rfl := Option.some.inj H
      exact goes_ret (ends_ret' rfl rfl (.t rfl (.nil _)))
theorem graph_one.conF (k : Nat) (a0 : Make) (a1 : ByteArray) (r : Int) (H : graph_one.f k a0 a1 = some r) : ConF Try.prog 16 [VA.k kMake a0, VA.k kstr a1] [VA.k (kint .i64) r] := (graph_one.con k a0 a1 r H).freeL (.cons (KFree.k (KFree.int .i64) _) .nil)
/-! smithy/graph.needs -/
def graph_needs.l0 (a0 : Make) : Nat → ((GM (List ByteArray)) × Int) → Option (GM (List ByteArray))
  | 0, _ => none
  | k + 1, s1 => bif icmp .lss s1.2 (a0.Rules.length : Int) then ((idx a0.Rules s1.2).bind fun x5 => (gput s1.1 x5.Target x5.Needs).bind fun x7 => graph_needs.l0 a0 k (x7, IntKind.i64.wrap (s1.2 + (1 : Int)))) else (some s1.1)
def graph_needs.f (k : Nat) (a0 : Make) : Option (GM (List ByteArray)) := (graph_needs.l0 a0 k ((gempty : GM (List ByteArray)), (0 : Int))).bind fun s2 => some s2
set_option maxRecDepth 100000 in
set_option maxHeartbeats 4000000 in
theorem graph_needs.con (k : Nat) (a0 : Make) (r : GM (List ByteArray)) (H : graph_needs.f k a0 = some r) : Con Try.prog 18 [VA.k kMake a0] [VA.om Try.prog 9 (kslice kstr) false r] := by
  unfold graph_needs.f at H
  refine con_enter Try.func18 rfl rfl rfl (fun w0 S0 θ => ?_)
  refine goes_seq ?_
  refine goes_region ?_
  refine go3 (op_box 1 rfl (fun h => by first | rfl | cases h) (.t (has rfl))) rfl ?_
  refine go1 (op_assignA rfl plain_v (.v _)) rfl ?_
  refine goesO_nil ?_
  refine ends_then ?_
  refine goes_seq ?_
  refine goes_region ?_
  refine go3 (op_makeMap 9 (kslice kstr) 6 rfl) rfl ?_
  refine go1 (op_assignA rfl plain_mp (.t (has rfl))) rfl ?_
  refine goesO_nil ?_
  refine ends_then ?_
  refine goes_seq ?_
  refine goes_seq ?_
  refine goes_region ?_
  refine go1 (op_fieldAddr rfl Try.underlying29 rfl tk23 (.t (has rfl))) rfl ?_
  refine go1 (op_load rfl fldMake_Rules tk23 (.t (has rfl)) (has rfl)) rfl ?_
  refine go1 (op_len rfl rfl Try.underlying23 (.t (has rfl))) rfl ?_
  refine go1 (op_move rfl (.int _ _)) rfl ?_
  refine goesO_nil ?_
  refine ends_then ?_
  obtain ⟨s2, h3, H⟩ := bind_some H
  refine goes_cut [Ent.t 3 (VA.mp false 6), Ent.h 6 (HE.map Try.prog 9 (kslice kstr) s2)] ?_ ?_
  · replace H := h3; clear h3
    refine goes_block ?_
    refine goes_loop (fun s1 : (GM (List ByteArray)) × Int => [Ent.t 3 (VA.mp false 6), Ent.t 8 (VA.k (kslice kRule) a0.Rules), Ent.t 9 (VA.k (kint .i64) (a0.Rules.length : Int)), Ent.t 10 (VA.k (kint .i64) s1.2), Ent.h 6 (HE.map Try.prog 9 (kslice kstr) s1.1)]) (fun k s1 => graph_needs.l0 a0 k s1) (fun _ => rfl) H (.cons rfl (.cons rfl (.cons rfl (.cons rfl (.cons rfl .nil))))) ?_
    intro k s1 H
    simp only [graph_needs.l0] at H
    refine goes_seq ?_
    refine goes_region ?_
    refine go1 (op_icmp rfl rfl (.t (has rfl)) (.t (has rfl))) rfl ?_
    refine goesO_nil ?_
    refine ends_then ?_
    refine goes_seq ?_
    refine goes_if (.t (has rfl)) H (fun hb4 H => ?_) (fun hb4 H => ?_)
    · skip
      refine goes_skip ?_
      refine ends_then ?_
      refine goes_seq ?_
      refine goes_block ?_
      refine goes_seq ?_
      refine goes_region ?_
      obtain ⟨x5, h6, H⟩ := bind_some H
      refine go1 (op_indexAddr rfl Try.underlying23 tk52 h6 (.t (has rfl)) (.t (has rfl))) rfl ?_
      refine go1 (op_loadp rfl tk52 (.t (has rfl))) rfl ?_
      refine go3 (op_alloc 5 rfl zk52) rfl ?_
      refine go1 (op_store (Fld.whole kRule) tk52 (.t (has rfl)) (has rfl) (.t (has rfl))) rfl ?_
      refine goesO_nil ?_
      refine ends_then ?_
      refine goes_region ?_
      refine go1 (op_moveA rfl plain_mp (.t (has rfl))) rfl ?_
      refine go1 (op_fieldAddr rfl Try.underlying52 rfl tk9 (.t (has rfl))) rfl ?_
      refine go1 (op_load rfl fldRule_Target tk9 (.t (has rfl)) (has rfl)) rfl ?_
      refine go1 (op_fieldAddr rfl Try.underlying52 rfl tk25 (.t (has rfl))) rfl ?_
      refine go1 (op_load rfl fldRule_Needs tk25 (.t (has rfl)) (has rfl)) rfl ?_
      obtain ⟨x7, h8, H⟩ := bind_some H
      refine go1 (op_mapUpdate xmt48 h8 (.t (has rfl)) (has rfl) (.t (has rfl)) (.t (has rfl))) rfl ?_
      refine goesO_nil ?_
      refine ends_block ?_
      refine ends_then ?_
      refine goes_region ?_
      refine go1 (op_add rfl (.t (has rfl)) (.int _ _)) rfl ?_
      refine go1 (op_move rfl (.t (has rfl))) rfl ?_
      refine goesO_nil ?_
      exact loop_next _ H (.cons rfl (.cons rfl (.cons rfl (.cons rfl (.cons rfl .nil)))))
    · skip
      refine goes_exit (ends_then_exit (ends_then_exit (ends_block_exit ?_)))
      obtain rfl := Option.some.inj H
      exact ends_cut (.cons rfl (.cons rfl .nil))
  refine ends_then ?_
  refine goes_seq ?_
  refine goes_region ?_
  refine go1 (op_moveA rfl plain_mp (.t (has rfl))) rfl ?_
  refine go1 (op_assignA rfl plain_mp (.t (has rfl))) rfl ?_
  refine goesO_nil ?_
  refine ends_then ?_
  obtain rfl := Option.some.inj H
  exact goes_ret (ends_ret' rfl rfl (.m rfl rfl (.nil _)))
/-! slices.Reverse[[]string,string] -/
def slices_Reverse_string_string.f (a0 : List ByteArray) : Option (List ByteArray) := some a0.reverse
theorem slices_Reverse_string_string.con (i : Nat) (a0 : List ByteArray) (r : List ByteArray) (H : slices_Reverse_string_string.f a0 = some r) : ConE Try.prog 32 [i, 500000 + i] [Ent.r i 9 kstr a0] [VA.rw i (a0).length] [] [Ent.r i 9 kstr r] := by
  obtain rfl := Option.some.inj H
  exact conE_reverse i (fun blk off cap zs w h1 h2 => Try.slices_Reverse_string blk off cap zs w h1 h2) (fun p cap w => Try.slices_Reverse_string_empty p cap w) a0
theorem slices_Reverse_string_string.len {a0 r : List ByteArray} (H : slices_Reverse_string_string.f a0 = some r) : (a0).length = (r).length := by
  obtain rfl := Option.some.inj H
  exact List.length_reverse.symm
theorem slices_Reverse_string_string.conF (i : Nat) (a0 : List ByteArray) (r : List ByteArray) (H : slices_Reverse_string_string.f a0 = some r) : ConEF Try.prog 32 [i, 500000 + i] [Ent.r i 9 kstr a0] [VA.rw i (a0).length] [] [Ent.r i 9 kstr r] := (slices_Reverse_string_string.con i a0 r H).freeL .nil (fun e he => by rcases List.mem_cons.1 he with rfl | he; exact freeEnt_r KFree.str _ _ _; cases he)
/-! smithy/graph.walk -/
def graph_walk.l2 (s2 : (GM Int) × (List ByteArray) × (List GraphFrame)) (x7 : GraphFrame) (x16 : ByteArray) (x18 : List ByteArray) : Nat → ((List ByteArray) × Int) → Option (List ByteArray)
  | 0, _ => none
  | k + 1, s23 => (idx (s2.2.2.set (IntKind.i64.wrap ((s2.2.2.length : Int) - (1 : Int))).toNat ({ x7 with left := x18 })) s23.2).bind fun x26 => (app 16 s23.1 ([x26.name])).bind fun x28 => (idx (s2.2.2.set (IntKind.i64.wrap ((s2.2.2.length : Int) - (1 : Int))).toNat ({ x7 with left := x18 })) s23.2).bind fun x30 => bif scmp .eql x30.name x16 then (some x28) else (graph_walk.l2 s2 x7 x16 x18 k (x28, IntKind.i64.wrap (s23.2 - (1 : Int))))
def graph_walk.l1 (s1 : (GM (List ByteArray)) × (GM Int) × (List ByteArray) × (List GraphFrame) × (List ByteArray)) : Nat → ((GM Int) × (List ByteArray) × (List GraphFrame)) → Option (Except ((List ByteArray) × (List ByteArray)) ((List ByteArray) × (List GraphFrame) × (GM Int)))
  | 0, _ => none
  | k + 1, s2 => bif icmp .gtr (s2.2.2.length : Int) (0 : Int) then ((idx s2.2.2 (IntKind.i64.wrap ((s2.2.2.length : Int) - (1 : Int)))).bind fun x7 => bif icmp .eql (x7.left.length : Int) (0 : Int) then ((gput s2.1 x7.name (2 : Int)).bind fun x10 => (app 16 s2.2.1 ([x7.name])).bind fun x12 => (inrow s2.2.2 (IntKind.i64.wrap ((s2.2.2.length : Int) - (1 : Int)))).bind fun z14 => graph_walk.l1 s1 k (x10, x12, s2.2.2.take (IntKind.i64.wrap ((s2.2.2.length : Int) - (1 : Int))).toNat)) else ((idx x7.left (0 : Int)).bind fun x16 => (sub x7.left (1 : Int) (x7.left.length : Int)).bind fun x18 => (gget s2.1 (0 : Int) x16).bind fun x20 => bif icmp .eql x20 (1 : Int) then ((graph_walk.l2 s2 x7 x16 x18 k (([] : List ByteArray), IntKind.i64.wrap (((s2.2.2.set (IntKind.i64.wrap ((s2.2.2.length : Int) - (1 : Int))).toNat ({ x7 with left := x18 })).length : Int) - (1 : Int)))).bind fun s24 => (slices_Reverse_string_string.f s24).bind fun v33 => some (Except.error (([] : List ByteArray), v33))) else (bif icmp .eql x20 (2 : Int) then (graph_walk.l1 s1 k (s2.1, s2.2.1, s2.2.2.set (IntKind.i64.wrap ((s2.2.2.length : Int) - (1 : Int))).toNat ({ x7 with left := x18 }))) else ((gput s2.1 x16 (1 : Int)).bind fun x36 => (gget s1.1 ([] : List ByteArray) x16).bind fun x38 => (app 40 (s2.2.2.set (IntKind.i64.wrap ((s2.2.2.length : Int) - (1 : Int))).toNat ({ x7 with left := x18 })) ([(⟨x16, x38⟩ : GraphFrame)])).bind fun x40 => graph_walk.l1 s1 k (x36, s2.2.1, x40))))) else (some (Except.ok (s2.2.1, s2.2.2, s2.1)))
def graph_walk.l0 : Nat → ((GM (List ByteArray)) × (GM Int) × (List ByteArray) × (List GraphFrame) × (List ByteArray)) → Option ((List ByteArray) × (List ByteArray))
  | 0, _ => none
  | k + 1, s1 => (graph_walk.l1 s1 k (s1.2.1, s1.2.2.1, s1.2.2.2.1)).bind fun o5 => match o5 with | .error r' => some r' | .ok s3 => (bif icmp .gtr (s1.2.2.2.2.length : Int) (0 : Int) then ((idx s1.2.2.2.2 (0 : Int)).bind fun x43 => (sub s1.2.2.2.2 (1 : Int) (s1.2.2.2.2.length : Int)).bind fun x45 => (gget s3.2.2 (0 : Int) x43).bind fun x47 => bif icmp .eql x47 (0 : Int) then ((gput s3.2.2 x43 (1 : Int)).bind fun x50 => (gget s1.1 ([] : List ByteArray) x43).bind fun x52 => (app 40 s3.2.1 ([(⟨x43, x52⟩ : GraphFrame)])).bind fun x54 => graph_walk.l0 k (s1.1, x50, s3.1, x54, x45)) else (graph_walk.l0 k (s1.1, s3.2.2, s3.1, s3.2.1, x45))) else (some (s3.1, ([] : List ByteArray))))
def graph_walk.f (k : Nat) (a0 : Make) (a1 : List ByteArray) : Option ((List ByteArray) × (List ByteArray)) := (graph_needs.f k a0).bind fun v56 => graph_walk.l0 k (v56, (gempty : GM Int), ([] : List ByteArray), ([] : List GraphFrame), a1)
set_option maxRecDepth 100000 in
set_option maxHeartbeats 4000000 in
theorem graph_walk.con (k : Nat) (a0 : Make) (a1 : List ByteArray) (r : (List ByteArray) × (List ByteArray)) (H : graph_walk.f k a0 a1 = some r) : Con Try.prog 17 [VA.k kMake a0, VA.k (kslice kstr) a1] [VA.own 9 kstr r.1, VA.own 9 kstr r.2] := by
  unfold graph_walk.f at H
  refine con_enter Try.func17 rfl rfl rfl (fun w0 S0 θ => ?_)
  refine goes_seq ?_
  refine goes_region ?_
  refine go3 (op_box 2 rfl (fun h => by first | rfl | cases h) (.t (has rfl))) rfl ?_
  refine go1 (op_assign_nil 9 kstr (.inr rfl) rfl) rfl ?_
  refine go1 (op_assign_nil 9 kstr (.inr rfl) rfl) rfl ?_
  refine goesO_nil ?_
  refine ends_then ?_
  refine goes_scope (r := r) 0 (fun s1 : (GM (List ByteArray)) × (GM Int) × (List ByteArray) × (List GraphFrame) × (List ByteArray) => [Ent.t 4 (VA.own 9 kstr s1.2.2.1), Ent.t 5 (VA.own 9 kstr ([] : List ByteArray)), Ent.t 6 (VA.mp false 15), Ent.t 7 (VA.mp false 16), Ent.t 8 (VA.own 68 kGraphFrame s1.2.2.2.1), Ent.t 9 (VA.k (kslice kstr) s1.2.2.2.2), Ent.h 15 (HE.map Try.prog 9 (kslice kstr) s1.1), Ent.h 16 (HE.map Try.prog 9 (kint .i64) s1.2.1)]) (fun k s1 => graph_walk.l0 k s1) rfl (fun _ => rfl) rfl ?_ ?_
  · intro k s1 H
    simp only [graph_walk.l0] at H
    refine goes_seq ?_
    obtain ⟨o5, h4, H⟩ := bind_some H
    refine goes_cutR (o := o5) (fun s3 : (List ByteArray) × (List GraphFrame) × (GM Int) => [Ent.t 4 (VA.own 9 kstr s3.1), Ent.t 5 (VA.own 9 kstr ([] : List ByteArray)), Ent.t 6 (VA.mp false 15), Ent.t 7 (VA.mp false 16), Ent.t 8 (VA.own 68 kGraphFrame s3.2.1), Ent.t 9 (VA.k (kslice kstr) s1.2.2.2.2), Ent.h 15 (HE.map Try.prog 9 (kslice kstr) s1.1), Ent.h 16 (HE.map Try.prog 9 (kint .i64) s3.2.2)]) (fun r a w => bodyPost Try.prog Try.f17 (CPost w0 S0 θ [VA.own 9 kstr r.1, VA.own 9 kstr r.2]) .ret a w) ?_ ?_ ?_
    · replace H := h4; clear h4
      refine goes_block ?_
      refine goes_loop (fun s2 : (GM Int) × (List ByteArray) × (List GraphFrame) => [Ent.t 4 (VA.own 9 kstr s2.2.1), Ent.t 5 (VA.own 9 kstr ([] : List ByteArray)), Ent.t 6 (VA.mp false 15), Ent.t 7 (VA.mp false 16), Ent.t 8 (VA.own 68 kGraphFrame s2.2.2), Ent.t 9 (VA.k (kslice kstr) s1.2.2.2.2), Ent.h 15 (HE.map Try.prog 9 (kslice kstr) s1.1), Ent.h 16 (HE.map Try.prog 9 (kint .i64) s2.1)]) (fun k s2 => graph_walk.l1 s1 k s2) (fun _ => rfl) H (.cons rfl (.cons rfl (.cons rfl (.cons rfl (.cons rfl (.cons rfl (.cons rfl (.cons rfl .nil)))))))) ?_
      intro k s2 H
      simp only [graph_walk.l1] at H
      refine goes_seq ?_
      refine goes_seq ?_
      refine goes_region ?_
      refine go1 (op_same (.inl rfl) rfl rfl) rfl ?_
      refine go1 (op_len_own rfl rfl Try.underlying65 (.same (has rfl) (has rfl))) rfl ?_
      refine go1 (op_icmp rfl rfl (.t (has rfl)) (.int _ _)) rfl ?_
      refine goesO_nil ?_
      refine ends_then ?_
      refine goes_if (.t (has rfl)) H (fun hb6 H => ?_) (fun hb6 H => ?_)
      · skip
        refine goes_skip ?_
        refine ends_then ?_
        refine goes_block ?_
        refine goes_seq ?_
        refine goes_region ?_
        refine go1 (op_same (.inl rfl) rfl rfl) rfl ?_
        refine go1 (op_same (.inl rfl) rfl rfl) rfl ?_
        refine go1 (op_len_own rfl rfl Try.underlying65 (.same (has rfl) (has rfl))) rfl ?_
        refine go1 (op_sub rfl (.t (has rfl)) (.int _ _)) rfl ?_
        obtain ⟨x7, h8, H⟩ := bind_some H
        refine go1 (op_indexAddr_own rfl rfl Try.underlying65 tk68 h8 (.same (has rfl)) (has rfl) (.t (has rfl))) rfl ?_
        refine go1 (op_oe (.inr (.inl rfl)) rfl rfl (has rfl)) rfl ?_
        refine goesO_nil ?_
        refine ends_then ?_
        refine goes_seq ?_
        refine goes_seq ?_
        refine goes_region ?_
        refine go1 (op_oe (.inl rfl) rfl rfl (has rfl)) rfl ?_
        refine go1 (op_oe (.inr (.inr rfl)) rfl rfl (has rfl)) rfl ?_
        refine go1 (op_fieldAddr_oe rfl rfl Try.underlying68 rfl tk25 (has rfl)) rfl ?_
        refine go1 (op_load_oe (off := 1) rfl fldGraphFrame_left tk25 h8 (has rfl) (has rfl)) rfl ?_
        refine go1 (op_len rfl rfl Try.underlying25 (.t (has rfl))) rfl ?_
        refine go1 (op_icmp rfl rfl (.t (has rfl)) (.int _ _)) rfl ?_
        refine goesO_nil ?_
        refine ends_then ?_
        refine goes_if (.t (has rfl)) H (fun hb9 H => ?_) (fun hb9 H => ?_)
        · skip
          refine goes_seq ?_
          refine goes_region ?_
          refine go1 (op_moveA rfl plain_mp (.t (has rfl))) rfl ?_
          refine go1 (op_oe (.inl rfl) rfl rfl (has rfl)) rfl ?_
          refine go1 (op_oe (.inr (.inr rfl)) rfl rfl (has rfl)) rfl ?_
          refine go1 (op_fieldAddr_oe rfl rfl Try.underlying68 rfl tk9 (has rfl)) rfl ?_
          refine go1 (op_load_oe (off := 0) rfl fldGraphFrame_name tk9 h8 (has rfl) (has rfl)) rfl ?_
          obtain ⟨x10, h11, H⟩ := bind_some H
          refine go1 (op_mapUpdate xmt50 h11 (.t (has rfl)) (has rfl) (.t (has rfl)) (.int _ _)) rfl ?_
          refine goesO_nil ?_
          refine ends_then ?_
          refine goes_seq ?_
          refine goes_region ?_
          refine go2 (op_mv (.inl rfl) rfl rfl (has rfl)) rfl ?_
          refine go1 (op_oe (.inl rfl) rfl rfl (has rfl)) rfl ?_
          refine go1 (op_oe (.inr (.inr rfl)) rfl rfl (has rfl)) rfl ?_
          refine go1 (op_fieldAddr_oe rfl rfl Try.underlying68 rfl tk9 (has rfl)) rfl ?_
          refine go1 (op_load_oe (off := 0) rfl fldGraphFrame_name tk9 h8 (has rfl) (has rfl)) rfl ?_
          refine go1 (op_buildSlice rfl at25 (fun h => by first | rfl | cases h) rfl rfl rfl (.cons (.t (has rfl)) (.nil _))) rfl ?_
          obtain ⟨x12, h13, H⟩ := bind_some H
          refine go2 (op_append rfl rfl at25 h13 (has rfl) (ReadsArg.own (.t (has rfl)))) rfl ?_
          refine go2 (op_mv (.inr rfl) rfl rfl (has rfl)) rfl ?_
          refine goesO_nil ?_
          refine ends_then ?_
          refine goes_seq ?_
          refine goes_region ?_
          refine go1 (op_same (.inl rfl) rfl rfl) rfl ?_
          refine go1 (op_same (.inl rfl) rfl rfl) rfl ?_
          refine go1 (op_len_own rfl rfl Try.underlying65 (.same (has rfl) (has rfl))) rfl ?_
          refine go1 (op_sub rfl (.t (has rfl)) (.int _ _)) rfl ?_
          obtain ⟨z14, h15, H⟩ := bind_some H
          refine go2 (op_slice_own rfl rfl Try.underlying65 tk68 (inrow_spec h15).1 (inrow_spec h15).2 (.same (has rfl)) (has rfl) (.t (has rfl))) rfl ?_
          refine go2 (op_mv (.inr rfl) rfl rfl (has rfl)) rfl ?_
          refine goesO_nil ?_
          refine ends_then ?_
          refine goes_exit (ends_then_exit (ends_block_exit ?_))
          exact loop_next _ H (.cons rfl (.cons rfl (.cons rfl (.cons rfl (.cons rfl (.cons rfl (.cons rfl (.cons rfl .nil))))))))
        · skip
          refine goes_skip ?_
          refine ends_then ?_
          refine goes_seq ?_
          refine goes_region ?_
          refine go1 (op_oe (.inl rfl) rfl rfl (has rfl)) rfl ?_
          refine go1 (op_oe (.inr (.inr rfl)) rfl rfl (has rfl)) rfl ?_
          refine go1 (op_fieldAddr_oe rfl rfl Try.underlying68 rfl tk25 (has rfl)) rfl ?_
          refine go1 (op_load_oe (off := 1) rfl fldGraphFrame_left tk25 h8 (has rfl) (has rfl)) rfl ?_
          obtain ⟨x16, h17, H⟩ := bind_some H
          refine go1 (op_indexAddr rfl Try.underlying25 tk9 h17 (.t (has rfl)) (.int _ _)) rfl ?_
          refine go1 (op_loadp rfl tk9 (.t (has rfl))) rfl ?_
          refine go1 (op_assign rfl (.t (has rfl))) rfl ?_
          refine goesO_nil ?_
          refine ends_then ?_
          refine goes_seq ?_
          refine goes_region ?_
          refine go1 (op_oe (.inl rfl) rfl rfl (has rfl)) rfl ?_
          refine go1 (op_oe (.inl rfl) rfl rfl (has rfl)) rfl ?_
          refine go1 (op_oe (.inr (.inr rfl)) rfl rfl (has rfl)) rfl ?_
          refine go1 (op_fieldAddr_oe rfl rfl Try.underlying68 rfl tk25 (has rfl)) rfl ?_
          refine go1 (op_load_oe (off := 1) rfl fldGraphFrame_left tk25 h8 (has rfl) (has rfl)) rfl ?_
          obtain ⟨x18, h19, H⟩ := bind_some H
          refine go1 (op_slice (l := some _) (h := none) rfl Try.underlying25 tk9 h19 (.t (has rfl)) (.int _ _) trivial) rfl ?_
          refine go1 (op_oe (.inr (.inr rfl)) rfl rfl (has rfl)) rfl ?_
          refine go1 (op_fieldAddr_oe rfl rfl Try.underlying68 rfl tk25 (has rfl)) rfl ?_
          refine go1 (op_store_oe (off := 1) fldGraphFrame_left tk25 h8 (has rfl) (has rfl) (.t (has rfl))) rfl ?_
          refine goesO_nil ?_
          refine ends_then ?_
          refine goes_seq ?_
          refine goes_seq ?_
          refine goes_region ?_
          refine go1 (op_moveA rfl plain_mp (.t (has rfl))) rfl ?_
          refine go1 (op_move rfl (.t (has rfl))) rfl ?_
          obtain ⟨x20, h21, H⟩ := bind_some H
          refine go1 (op_lookup rfl xmt50 h21 (.t (has rfl)) (has rfl) (.t (has rfl))) rfl ?_
          refine goesO_nil ?_
          refine ends_then ?_
          refine goes_block ?_
          refine goes_seq ?_
          refine goes_region ?_
          refine go1 (op_icmp rfl rfl (.t (has rfl)) (.int _ _)) rfl ?_
          refine go1 (op_assign rfl (.t (has rfl))) rfl ?_
          refine goesO_nil ?_
          refine ends_then ?_
          refine goes_if (.t (has rfl)) H (fun hb22 H => ?_) (fun hb22 H => ?_)
          · skip
            refine goes_seq ?_
            refine goes_seq ?_
            refine goes_region ?_
            refine go1 (op_same (.inl rfl) rfl rfl) rfl ?_
            refine go1 (op_len_own rfl rfl Try.underlying65 (.same (has rfl) (has rfl))) rfl ?_
            refine go1 (op_sub rfl (.t (has rfl)) (.int _ _)) rfl ?_
            refine go1 (op_assign rfl (.t (has rfl))) rfl ?_
            refine goesO_nil ?_
            refine ends_then ?_
            obtain ⟨s24, h25, H⟩ := bind_some H
            refine goes_cut [Ent.t 5 (VA.own 9 kstr s24)] ?_ ?_
            · replace H := h25; clear h25
              refine goes_block ?_
              refine goes_loop (fun s23 : (List ByteArray) × Int => [Ent.t 5 (VA.own 9 kstr s23.1), Ent.t 8 (VA.own 68 kGraphFrame (s2.2.2.set (IntKind.i64.wrap ((s2.2.2.length : Int) - (1 : Int))).toNat ({ x7 with left := x18 }))), Ent.t 11 (VA.k kstr x16), Ent.t 12 (VA.k (kint .i64) s23.2)]) (fun k s23 => graph_walk.l2 s2 x7 x16 x18 k s23) (fun _ => rfl) H (.cons rfl (.cons rfl (.cons rfl (.cons rfl .nil)))) ?_
              intro k s23 H
              simp only [graph_walk.l2] at H
              refine goes_seq ?_
              refine goes_block ?_
              refine goes_seq ?_
              refine goes_region ?_
              refine go2 (op_mv (.inl rfl) rfl rfl (has rfl)) rfl ?_
              refine go1 (op_same (.inl rfl) rfl rfl) rfl ?_
              refine go1 (op_move rfl (.t (has rfl))) rfl ?_
              obtain ⟨x26, h27, H⟩ := bind_some H
              refine go1 (op_indexAddr_own rfl rfl Try.underlying65 tk68 h27 (.same (has rfl)) (has rfl) (.t (has rfl))) rfl ?_
              refine go1 (op_fieldAddr_oe rfl rfl Try.underlying68 rfl tk9 (has rfl)) rfl ?_
              refine go1 (op_load_oe (off := 0) rfl fldGraphFrame_name tk9 h27 (has rfl) (has rfl)) rfl ?_
              refine go1 (op_buildSlice rfl at25 (fun h => by first | rfl | cases h) rfl rfl rfl (.cons (.t (has rfl)) (.nil _))) rfl ?_
              obtain ⟨x28, h29, H⟩ := bind_some H
              refine go2 (op_append rfl rfl at25 h29 (has rfl) (ReadsArg.own (.t (has rfl)))) rfl ?_
              refine go2 (op_mv (.inr rfl) rfl rfl (has rfl)) rfl ?_
              refine goesO_nil ?_
              refine ends_then ?_
              refine goes_seq ?_
              refine goes_region ?_
              refine go1 (op_same (.inl rfl) rfl rfl) rfl ?_
              refine go1 (op_move rfl (.t (has rfl))) rfl ?_
              obtain ⟨x30, h31, H⟩ := bind_some H
              refine go1 (op_indexAddr_own rfl rfl Try.underlying65 tk68 h31 (.same (has rfl)) (has rfl) (.t (has rfl))) rfl ?_
              refine go1 (op_fieldAddr_oe rfl rfl Try.underlying68 rfl tk9 (has rfl)) rfl ?_
              refine go1 (op_load_oe (off := 0) rfl fldGraphFrame_name tk9 h31 (has rfl) (has rfl)) rfl ?_
              refine go1 (op_move rfl (.t (has rfl))) rfl ?_
              refine go1 (op_scmp rfl rfl (.t (has rfl)) (.t (has rfl))) rfl ?_
              refine goesO_nil ?_
              refine ends_then ?_
              refine goes_if (.t (has rfl)) H (fun hb32 H => ?_) (fun hb32 H => ?_)
              · skip
                refine goes_exit (ends_block_ne rfl (ends_then_exit (ends_then_exit (ends_block_exit ?_))))
                obtain rfl := Option.some.inj H
                exact ends_cut (.cons rfl .nil)
              · skip
                refine goes_skip ?_
                refine ends_block ?_
                refine ends_then ?_
                refine goes_region ?_
                refine go1 (op_move rfl (.t (has rfl))) rfl ?_
                refine go1 (op_sub rfl (.t (has rfl)) (.int _ _)) rfl ?_
                refine go1 (op_assign rfl (.t (has rfl))) rfl ?_
                refine goesO_nil ?_
                exact loop_next _ H (.cons rfl (.cons rfl (.cons rfl (.cons rfl .nil))))
            refine ends_then ?_
            refine goes_seq ?_
            refine goes_region ?_
            refine goesO_number 5 900 rfl rfl rfl ?_
            refine go1 (op_moveA rfl plain_rw (.t (has rfl))) rfl ?_
            obtain ⟨v33, h34, H⟩ := bind_some H
            refine goN (op_callE [] [] rfl enters32 (slices_Reverse_string_string.con 900 _ _ h34) rfl (.cons (has rfl) .nil) (.cons (ArgP.a plain_rw (.t (has rfl))) .nil)) rfl ?_
            refine goesO_relen 5 (slices_Reverse_string_string.len h34) rfl ?_
            refine goesO_nil ?_
            refine ends_then ?_
            refine goes_seq ?_
            refine goes_region ?_
            refine go1 (op_moveA rfl plain_rw (.t (has rfl))) rfl ?_
            refine go1 (op_assign_nil 9 kstr (.inr rfl) rfl) rfl ?_
            refine go1 (op_assignA rfl plain_rw (.t (has rfl))) rfl ?_
            refine goesO_nil ?_
            refine ends_then ?_
            refine goes_release 5 900 rfl rfl rfl ?_
            obtain rfl := Option.some.inj H
            refine goes_ret (ends_block_ret (ends_then_ret (ends_block_ret (ends_then_ret (ends_block_ret (ends_cutR_ret rfl ?_))))))
            exact ends_ret' rfl rfl (.t rfl (.t rfl (.nil _)))
          · skip
            refine goes_seq ?_
            refine goes_region ?_
            refine go1 (op_icmp rfl rfl (.t (has rfl)) (.int _ _)) rfl ?_
            refine go1 (op_assign rfl (.t (has rfl))) rfl ?_
            refine goesO_nil ?_
            refine ends_then ?_
            refine goes_if (.t (has rfl)) H (fun hb35 H => ?_) (fun hb35 H => ?_)
            · skip
              refine goes_exit (ends_block_ne rfl (ends_then_exit (ends_block_exit ?_)))
              exact loop_next _ H (.cons rfl (.cons rfl (.cons rfl (.cons rfl (.cons rfl (.cons rfl (.cons rfl (.cons rfl .nil))))))))
            · skip
              refine goes_skip ?_
              refine ends_block ?_
              refine ends_then ?_
              refine goes_seq ?_
              refine goes_region ?_
              refine go1 (op_moveA rfl plain_mp (.t (has rfl))) rfl ?_
              refine go1 (op_move rfl (.t (has rfl))) rfl ?_
              obtain ⟨x36, h37, H⟩ := bind_some H
              refine go1 (op_mapUpdate xmt50 h37 (.t (has rfl)) (has rfl) (.t (has rfl)) (.int _ _)) rfl ?_
              refine goesO_nil ?_
              refine ends_then ?_
              refine goes_region ?_
              refine go2 (op_mv (.inl rfl) rfl rfl (has rfl)) rfl ?_
              refine go1 (op_move rfl (.t (has rfl))) rfl ?_
              refine go1 (op_moveA rfl plain_mp (.t (has rfl))) rfl ?_
              refine go1 (op_move rfl (.t (has rfl))) rfl ?_
              obtain ⟨x38, h39, H⟩ := bind_some H
              refine go1 (op_lookup rfl xmt48 h39 (.t (has rfl)) (has rfl) (.t (has rfl))) rfl ?_
              refine go1 (op_build (pl := [(0, 1), (1, 1)]) rfl rfl Try.underlying68 (by kernel_rfl) zk68 (.cons rfl tk9 fldGraphFrame_name (.t (has rfl)) (.cons rfl tk25 fldGraphFrame_left (.t (has rfl)) (.nil _)))) rfl ?_
              refine go1 (op_buildSlice rfl at65 (fun h => by first | rfl | cases h) rfl rfl rfl (.cons (.t (has rfl)) (.nil _))) rfl ?_
              obtain ⟨x40, h41, H⟩ := bind_some H
              refine go2 (op_append rfl rfl at65 h41 (has rfl) (ReadsArg.own (.t (has rfl)))) rfl ?_
              refine go2 (op_mv (.inr rfl) rfl rfl (has rfl)) rfl ?_
              refine goesO_nil ?_
              refine ends_block ?_
              exact loop_next _ H (.cons rfl (.cons rfl (.cons rfl (.cons rfl (.cons rfl (.cons rfl (.cons rfl (.cons rfl .nil))))))))
      · skip
        refine goes_exit (ends_then_exit (ends_then_exit (ends_block_exit ?_)))
        obtain rfl := Option.some.inj H
        exact ends_cutR rfl (.cons rfl (.cons rfl (.cons rfl (.cons rfl (.cons rfl (.cons rfl (.cons rfl (.cons rfl .nil))))))))
    · rintro s3 rfl
      clear h4
      dsimp only at H
      refine ends_then ?_
      refine goes_seq ?_
      refine goes_seq ?_
      refine goes_region ?_
      refine go1 (op_move rfl (.t (has rfl))) rfl ?_
      refine go1 (op_len rfl rfl Try.underlying25 (.t (has rfl))) rfl ?_
      refine go1 (op_icmp rfl rfl (.t (has rfl)) (.int _ _)) rfl ?_
      refine goesO_nil ?_
      refine ends_then ?_
      refine goes_if (.t (has rfl)) H (fun hb42 H => ?_) (fun hb42 H => ?_)
      · skip
        refine goes_seq ?_
        refine goes_region ?_
        refine go1 (op_move rfl (.t (has rfl))) rfl ?_
        obtain ⟨x43, h44, H⟩ := bind_some H
        refine go1 (op_indexAddr rfl Try.underlying25 tk9 h44 (.t (has rfl)) (.int _ _)) rfl ?_
        refine go1 (op_loadp rfl tk9 (.t (has rfl))) rfl ?_
        refine go1 (op_assign rfl (.t (has rfl))) rfl ?_
        refine goesO_nil ?_
        refine ends_then ?_
        refine goes_seq ?_
        refine goes_region ?_
        refine go1 (op_move rfl (.t (has rfl))) rfl ?_
        obtain ⟨x45, h46, H⟩ := bind_some H
        refine go1 (op_slice (l := some _) (h := none) rfl Try.underlying25 tk9 h46 (.t (has rfl)) (.int _ _) trivial) rfl ?_
        refine go1 (op_assign rfl (.t (has rfl))) rfl ?_
        refine goesO_nil ?_
        refine ends_then ?_
        refine goes_seq ?_
        refine goes_seq ?_
        refine goes_region ?_
        refine go1 (op_moveA rfl plain_mp (.t (has rfl))) rfl ?_
        refine go1 (op_move rfl (.t (has rfl))) rfl ?_
        obtain ⟨x47, h48, H⟩ := bind_some H
        refine go1 (op_lookup rfl xmt50 h48 (.t (has rfl)) (has rfl) (.t (has rfl))) rfl ?_
        refine go1 (op_icmp rfl rfl (.t (has rfl)) (.int _ _)) rfl ?_
        refine goesO_nil ?_
        refine ends_then ?_
        refine goes_if (.t (has rfl)) H (fun hb49 H => ?_) (fun hb49 H => ?_)
        · skip
          refine goes_seq ?_
          refine goes_region ?_
          refine go1 (op_moveA rfl plain_mp (.t (has rfl))) rfl ?_
          refine go1 (op_move rfl (.t (has rfl))) rfl ?_
          obtain ⟨x50, h51, H⟩ := bind_some H
          refine go1 (op_mapUpdate xmt50 h51 (.t (has rfl)) (has rfl) (.t (has rfl)) (.int _ _)) rfl ?_
          refine goesO_nil ?_
          refine ends_then ?_
          refine goes_region ?_
          refine go2 (op_mv (.inl rfl) rfl rfl (has rfl)) rfl ?_
          refine go1 (op_move rfl (.t (has rfl))) rfl ?_
          refine go1 (op_moveA rfl plain_mp (.t (has rfl))) rfl ?_
          refine go1 (op_move rfl (.t (has rfl))) rfl ?_
          obtain ⟨x52, h53, H⟩ := bind_some H
          refine go1 (op_lookup rfl xmt48 h53 (.t (has rfl)) (has rfl) (.t (has rfl))) rfl ?_
          refine go1 (op_build (pl := [(0, 1), (1, 1)]) rfl rfl Try.underlying68 (by kernel_rfl) zk68 (.cons rfl tk9 fldGraphFrame_name (.t (has rfl)) (.cons rfl tk25 fldGraphFrame_left (.t (has rfl)) (.nil _)))) rfl ?_
          refine go1 (op_buildSlice rfl at65 (fun h => by first | rfl | cases h) rfl rfl rfl (.cons (.t (has rfl)) (.nil _))) rfl ?_
          obtain ⟨x54, h55, H⟩ := bind_some H
          refine go2 (op_append rfl rfl at65 h55 (has rfl) (ReadsArg.own (.t (has rfl)))) rfl ?_
          refine go2 (op_mv (.inr rfl) rfl rfl (has rfl)) rfl ?_
          refine goesO_nil ?_
          refine ends_then ?_
          exact goes_goto (ends_then_goto (ends_jump_goto _ H (.cons rfl (.cons rfl (.cons rfl (.cons rfl (.cons rfl (.cons rfl (.cons rfl (.cons rfl .nil))))))))))
        · skip
          refine goes_skip ?_
          refine ends_then ?_
          exact goes_goto (ends_then_goto (ends_jump_goto _ H (.cons rfl (.cons rfl (.cons rfl (.cons rfl (.cons rfl (.cons rfl (.cons rfl (.cons rfl .nil))))))))))
      · skip
        refine goes_skip ?_
        refine ends_then ?_
        refine goes_seq ?_
        refine goes_region ?_
        refine go2 (op_mv (.inl rfl) rfl rfl (has rfl)) rfl ?_
        refine go2 (op_mv (.inr rfl) rfl rfl (has rfl)) rfl ?_
        refine go1 (op_assign_nil 9 kstr (.inr rfl) rfl) rfl ?_
        refine goesO_nil ?_
        refine ends_then ?_
        obtain rfl := Option.some.inj H
        exact goes_ret (ends_jump_ret (ends_ret' rfl rfl (.t rfl (.t rfl (.nil _)))))
    · rintro r' rfl a w hr
      obtain rfl := Option.some.inj H
      exact hr
  · intro hp
    refine goes_seq ?_
    refine goes_region ?_
    refine go1 (op_load rfl (Fld.whole kMake) tk29 (.t (has rfl)) (has rfl)) rfl ?_
    obtain ⟨v56, h57, H⟩ := bind_some H
    refine go1 (op_call' rfl enters18 (graph_needs.con _ _ _ h57) rfl (.cons (ArgP.k (.t (has rfl))) .nil)) rfl ?_
    refine goesO_adopt 15 15 rfl rfl ?_
    refine go1 (op_assignA rfl plain_mp (.t (has rfl))) rfl ?_
    refine goesO_nil ?_
    refine ends_then ?_
    refine goes_seq ?_
    refine goes_region ?_
    refine go3 (op_makeMap 9 (kint .i64) 16 rfl) rfl ?_
    refine go1 (op_assignA rfl plain_mp (.t (has rfl))) rfl ?_
    refine goesO_nil ?_
    refine ends_then ?_
    refine goes_seq ?_
    refine goes_region ?_
    refine go1 (op_assign_nil 68 kGraphFrame (.inr rfl) rfl) rfl ?_
    refine goesO_nil ?_
    refine ends_then ?_
    refine goes_seq ?_
    refine goes_region ?_
    refine go1 (op_move rfl (.t (has rfl))) rfl ?_
    refine go1 (op_assign rfl (.t (has rfl))) rfl ?_
    refine goesO_nil ?_
    refine ends_then ?_
    exact hp _ _ _ H (.cons rfl (.cons rfl (.cons rfl (.cons rfl (.cons rfl (.cons rfl (.cons rfl (.cons rfl .nil))))))))
theorem graph_walk.conF (k : Nat) (a0 : Make) (a1 : List ByteArray) (r : (List ByteArray) × (List ByteArray)) (H : graph_walk.f k a0 a1 = some r) : ConF Try.prog 17 [VA.k kMake a0, VA.k (kslice kstr) a1] [VA.own 9 kstr r.1, VA.own 9 kstr r.2] := (graph_walk.con k a0 a1 r H).freeL (.cons (KFree.own KFree.str _ _) (.cons (KFree.own KFree.str _ _) .nil))
/-! smithy/graph.Depth -/
def graph_Depth.l1 (x13 : ByteArray) (x15 : List ByteArray) : Nat → ((GM Int) × Int) → Option (GM Int)
  | 0, _ => none
  | k + 1, s17 => bif icmp .lss s17.2 (x15.length : Int) then ((idx x15 s17.2).bind fun x21 => (gget s17.1 (0 : Int) x13).bind fun x23 => (gget s17.1 (0 : Int) x21).bind fun x25 => (gput s17.1 x13 (imax2 x23 (IntKind.i64.wrap (x25 + (1 : Int))))).bind fun x27 => graph_Depth.l1 x13 x15 k (x27, IntKind.i64.wrap (s17.2 + (1 : Int)))) else (some s17.1)
def graph_Depth.l0 (v4 : (List ByteArray) × (List ByteArray)) (v7 : (GM (List ByteArray))) : Nat → ((GM Int) × Int) → Option (GM Int)
  | 0, _ => none
  | k + 1, s9 => bif icmp .lss s9.2 (v4.1.length : Int) then ((idx v4.1 s9.2).bind fun x13 => (gget v7 ([] : List ByteArray) x13).bind fun x15 => (graph_Depth.l1 x13 x15 k (s9.1, (0 : Int))).bind fun s18 => graph_Depth.l0 v4 v7 k (s18, IntKind.i64.wrap (s9.2 + (1 : Int)))) else (some s9.1)
def graph_Depth.f (k : Nat) (a0 : Make) (a1 : ByteArray) : Option (Int × Int) := (graph_one.f k a0 a1).bind fun v1 => bif icmp .neq v1 (0 : Int) then (some ((0 : Int), v1)) else ((graph_walk.f k a0 ([a1])).bind fun v4 => bif icmp .gtr (v4.2.length : Int) (0 : Int) then (some ((0 : Int), (100 : Int))) else ((graph_needs.f k a0).bind fun v7 => (graph_Depth.l0 v4 v7 k ((gempty : GM Int), (0 : Int))).bind fun s10 => (gget s10 (0 : Int) a1).bind fun x29 => some (x29, (0 : Int))))
set_option maxRecDepth 100000 in
set_option maxHeartbeats 4000000 in
theorem graph_Depth.con (k : Nat) (a0 : Make) (a1 : ByteArray) (r : Int × Int) (H : graph_Depth.f k a0 a1 = some r) : Con Try.prog 6 [VA.k kMake a0, VA.k kstr a1] [VA.k (kint .i64) r.1, VA.k (kint .i64) r.2] := by
  unfold graph_Depth.f at H
  refine con_enter Try.func6 rfl rfl rfl (fun w0 S0 θ => ?_)
  refine goes_seq ?_
  refine goes_region ?_
  refine go3 (op_box 2 rfl (fun h => by first | rfl | cases h) (.t (has rfl))) rfl ?_
  refine go1 (op_assign rfl (.int _ _)) rfl ?_
  refine go1 (op_assign rfl (.int _ _)) rfl ?_
  refine goesO_nil ?_
  refine ends_then ?_
  refine goes_seq ?_
  refine goes_seq ?_
  refine goes_region ?_
  refine go1 (op_load rfl (Fld.whole kMake) tk29 (.t (has rfl)) (has rfl)) rfl ?_
  refine go1 (op_move rfl (.t (has rfl))) rfl ?_
  obtain ⟨v1, h2, H⟩ := bind_some H
  refine go1 (op_call' rfl enters16 (graph_one.con _ _ _ _ h2) rfl (.cons (ArgP.k (.t (has rfl))) (.cons (ArgP.k (.t (has rfl))) .nil))) rfl ?_
  refine go1 (op_assign rfl (.t (has rfl))) rfl ?_
  refine goesO_nil ?_
  refine ends_then ?_
  refine goes_seq ?_
  refine goes_region ?_
  refine go1 (op_move rfl (.t (has rfl))) rfl ?_
  refine go1 (op_icmp rfl rfl (.t (has rfl)) (.int _ _)) rfl ?_
  refine goesO_nil ?_
  refine ends_then ?_
  refine goes_if (.t (has rfl)) H (fun hb3 H => ?_) (fun hb3 H => ?_)
  · skip
    refine goes_seq ?_
    refine goes_region ?_
    refine go1 (op_move rfl (.t (has rfl))) rfl ?_
    refine go1 (op_assign rfl (.int _ _)) rfl ?_
    refine go1 (op_assign rfl (.t (has rfl))) rfl ?_
    refine goesO_nil ?_
    refine ends_then ?_
    obtain rfl := Option.some.inj H
    exact goes_ret (ends_then_ret (ends_ret' rfl rfl (.t rfl (.t rfl (.nil _)))))
  · skip
    refine goes_skip ?_
    refine ends_then ?_
    refine goes_seq ?_
    refine goes_region ?_
    refine go1 (op_load rfl (Fld.whole kMake) tk29 (.t (has rfl)) (has rfl)) rfl ?_
    refine go1 (op_move rfl (.t (has rfl))) rfl ?_
    refine go1 (op_buildSlice rfl at25 (fun h => by first | rfl | cases h) rfl rfl rfl (.cons (.t (has rfl)) (.nil _))) rfl ?_
    obtain ⟨v4, h5, H⟩ := bind_some H
    refine goN (op_callsF' rfl enters17 (graph_walk.conF _ _ _ _ h5) rfl rfl (.cons (ArgB.k (.t (has rfl))) (.cons (ArgB.own rfl (has rfl)) .nil))) rfl ?_
    refine go1 (op_same (.inl rfl) rfl rfl) rfl ?_
    refine go2 (op_extract_own_same rfl rfl rfl (has rfl) (has rfl)) rfl ?_
    refine go2 (op_extract_own_same rfl rfl rfl (has rfl) (has rfl)) rfl ?_
    refine go2 (op_mv (.inr rfl) rfl rfl (has rfl)) rfl ?_
    refine go2 (op_mv (.inr rfl) rfl rfl (has rfl)) rfl ?_
    refine goesO_nil ?_
    refine ends_then ?_
    refine goes_seq ?_
    refine goes_seq ?_
    refine goes_region ?_
    refine goesO_settle 8 rfl rfl ?_
    refine go1 (op_move rfl (.t (has rfl))) rfl ?_
    refine go1 (op_len rfl rfl Try.underlying25 (.t (has rfl))) rfl ?_
    refine go1 (op_icmp rfl rfl (.t (has rfl)) (.int _ _)) rfl ?_
    refine goesO_nil ?_
    refine ends_then ?_
    refine goes_if (.t (has rfl)) H (fun hb6 H => ?_) (fun hb6 H => ?_)
    · skip
      refine goes_seq ?_
      refine goes_region ?_
      refine go1 (op_assign rfl (.int _ _)) rfl ?_
      refine go1 (op_assign rfl (.int _ _)) rfl ?_
      refine goesO_nil ?_
      refine ends_then ?_
      obtain rfl := Option.some.inj H
      exact goes_ret (ends_then_ret (ends_ret' rfl rfl (.t rfl (.t rfl (.nil _)))))
    · skip
      refine goes_skip ?_
      refine ends_then ?_
      refine goes_seq ?_
      refine goes_region ?_
      refine go1 (op_load rfl (Fld.whole kMake) tk29 (.t (has rfl)) (has rfl)) rfl ?_
      obtain ⟨v7, h8, H⟩ := bind_some H
      refine go1 (op_call' rfl enters18 (graph_needs.con _ _ _ h8) rfl (.cons (ArgP.k (.t (has rfl))) .nil)) rfl ?_
      refine goesO_adopt 32 32 rfl rfl ?_
      refine go1 (op_assignA rfl plain_mp (.t (has rfl))) rfl ?_
      refine goesO_nil ?_
      refine ends_then ?_
      refine goes_seq ?_
      refine goes_region ?_
      refine go3 (op_makeMap 9 (kint .i64) 33 rfl) rfl ?_
      refine go1 (op_assignA rfl plain_mp (.t (has rfl))) rfl ?_
      refine goesO_nil ?_
      refine ends_then ?_
      refine goes_seq ?_
      refine goes_seq ?_
      refine goes_region ?_
      refine goesO_settle 7 rfl rfl ?_
      refine go1 (op_move rfl (.t (has rfl))) rfl ?_
      refine go1 (op_len rfl rfl Try.underlying25 (.t (has rfl))) rfl ?_
      refine go1 (op_move rfl (.int _ _)) rfl ?_
      refine goesO_nil ?_
      refine ends_then ?_
      obtain ⟨s10, h11, H⟩ := bind_some H
      refine goes_cut [Ent.t 1 (VA.k kstr a1), Ent.t 10 (VA.mp false 33), Ent.h 33 (HE.map Try.prog 9 (kint .i64) s10)] ?_ ?_
      · replace H := h11; clear h11
        refine goes_block ?_
        refine goes_loop (fun s9 : (GM Int) × Int => [Ent.t 1 (VA.k kstr a1), Ent.t 9 (VA.mp false 32), Ent.t 10 (VA.mp false 33), Ent.t 34 (VA.k (kslice kstr) v4.1), Ent.t 35 (VA.k (kint .i64) (v4.1.length : Int)), Ent.t 36 (VA.k (kint .i64) s9.2), Ent.h 32 (HE.map Try.prog 9 (kslice kstr) v7), Ent.h 33 (HE.map Try.prog 9 (kint .i64) s9.1)]) (fun k s9 => graph_Depth.l0 v4 v7 k s9) (fun _ => rfl) H (.cons rfl (.cons rfl (.cons rfl (.cons rfl (.cons rfl (.cons rfl (.cons rfl (.cons rfl .nil)))))))) ?_
        intro k s9 H
        simp only [graph_Depth.l0] at H
        refine goes_seq ?_
        refine goes_region ?_
        refine go1 (op_icmp rfl rfl (.t (has rfl)) (.t (has rfl))) rfl ?_
        refine goesO_nil ?_
        refine ends_then ?_
        refine goes_seq ?_
        refine goes_if (.t (has rfl)) H (fun hb12 H => ?_) (fun hb12 H => ?_)
        · skip
          refine goes_skip ?_
          refine ends_then ?_
          refine goes_seq ?_
          refine goes_block ?_
          refine goes_seq ?_
          refine goes_region ?_
          obtain ⟨x13, h14, H⟩ := bind_some H
          refine go1 (op_indexAddr rfl Try.underlying25 tk9 h14 (.t (has rfl)) (.t (has rfl))) rfl ?_
          refine go1 (op_loadp rfl tk9 (.t (has rfl))) rfl ?_
          refine go1 (op_assign rfl (.t (has rfl))) rfl ?_
          refine goesO_nil ?_
          refine ends_then ?_
          refine goes_seq ?_
          refine goes_region ?_
          refine go1 (op_moveA rfl plain_mp (.t (has rfl))) rfl ?_
          refine go1 (op_move rfl (.t (has rfl))) rfl ?_
          obtain ⟨x15, h16, H⟩ := bind_some H
          refine go1 (op_lookup rfl xmt48 h16 (.t (has rfl)) (has rfl) (.t (has rfl))) rfl ?_
          refine go1 (op_len rfl rfl Try.underlying25 (.t (has rfl))) rfl ?_
          refine go1 (op_move rfl (.int _ _)) rfl ?_
          refine goesO_nil ?_
          refine ends_then ?_
          obtain ⟨s18, h19, H⟩ := bind_some H
          refine goes_cut [Ent.t 1 (VA.k kstr a1), Ent.t 9 (VA.mp false 32), Ent.t 10 (VA.mp false 33), Ent.t 34 (VA.k (kslice kstr) v4.1), Ent.t 35 (VA.k (kint .i64) (v4.1.length : Int)), Ent.t 36 (VA.k (kint .i64) s9.2), Ent.h 32 (HE.map Try.prog 9 (kslice kstr) v7), Ent.h 33 (HE.map Try.prog 9 (kint .i64) s18)] ?_ ?_
          · replace H := h19; clear h19
            refine goes_block ?_
            refine goes_loop (fun s17 : (GM Int) × Int => [Ent.t 1 (VA.k kstr a1), Ent.t 9 (VA.mp false 32), Ent.t 10 (VA.mp false 33), Ent.t 12 (VA.k kstr x13), Ent.t 34 (VA.k (kslice kstr) v4.1), Ent.t 35 (VA.k (kint .i64) (v4.1.length : Int)), Ent.t 36 (VA.k (kint .i64) s9.2), Ent.t 42 (VA.k (kslice kstr) x15), Ent.t 43 (VA.k (kint .i64) (x15.length : Int)), Ent.t 44 (VA.k (kint .i64) s17.2), Ent.h 32 (HE.map Try.prog 9 (kslice kstr) v7), Ent.h 33 (HE.map Try.prog 9 (kint .i64) s17.1)]) (fun k s17 => graph_Depth.l1 x13 x15 k s17) (fun _ => rfl) H (.cons rfl (.cons rfl (.cons rfl (.cons rfl (.cons rfl (.cons rfl (.cons rfl (.cons rfl (.cons rfl (.cons rfl (.cons rfl (.cons rfl .nil)))))))))))) ?_
            intro k s17 H
            simp only [graph_Depth.l1] at H
            refine goes_seq ?_
            refine goes_region ?_
            refine go1 (op_icmp rfl rfl (.t (has rfl)) (.t (has rfl))) rfl ?_
            refine goesO_nil ?_
            refine ends_then ?_
            refine goes_seq ?_
            refine goes_if (.t (has rfl)) H (fun hb20 H => ?_) (fun hb20 H => ?_)
            · skip
              refine goes_skip ?_
              refine ends_then ?_
              refine goes_seq ?_
              refine goes_block ?_
              refine goes_seq ?_
              refine goes_region ?_
              obtain ⟨x21, h22, H⟩ := bind_some H
              refine go1 (op_indexAddr rfl Try.underlying25 tk9 h22 (.t (has rfl)) (.t (has rfl))) rfl ?_
              refine go1 (op_loadp rfl tk9 (.t (has rfl))) rfl ?_
              refine go1 (op_assign rfl (.t (has rfl))) rfl ?_
              refine goesO_nil ?_
              refine ends_then ?_
              refine goes_region ?_
              refine go1 (op_moveA rfl plain_mp (.t (has rfl))) rfl ?_
              refine go1 (op_move rfl (.t (has rfl))) rfl ?_
              refine go1 (op_moveA rfl plain_mp (.t (has rfl))) rfl ?_
              refine go1 (op_move rfl (.t (has rfl))) rfl ?_
              obtain ⟨x23, h24, H⟩ := bind_some H
              refine go1 (op_lookup rfl xmt50 h24 (.t (has rfl)) (has rfl) (.t (has rfl))) rfl ?_
              refine go1 (op_moveA rfl plain_mp (.t (has rfl))) rfl ?_
              refine go1 (op_move rfl (.t (has rfl))) rfl ?_
              obtain ⟨x25, h26, H⟩ := bind_some H
              refine go1 (op_lookup rfl xmt50 h26 (.t (has rfl)) (has rfl) (.t (has rfl))) rfl ?_
              refine go1 (op_add rfl (.t (has rfl)) (.int _ _)) rfl ?_
              refine go1 (op_max2 rfl (.t (has rfl)) (.t (has rfl))) rfl ?_
              obtain ⟨x27, h28, H⟩ := bind_some H
              refine go1 (op_mapUpdate xmt50 h28 (.t (has rfl)) (has rfl) (.t (has rfl)) (.t (has rfl))) rfl ?_
              refine goesO_nil ?_
              refine ends_block ?_
              refine ends_then ?_
              refine goes_region ?_
              refine go1 (op_add rfl (.t (has rfl)) (.int _ _)) rfl ?_
              refine go1 (op_move rfl (.t (has rfl))) rfl ?_
              refine goesO_nil ?_
              exact loop_next _ H (.cons rfl (.cons rfl (.cons rfl (.cons rfl (.cons rfl (.cons rfl (.cons rfl (.cons rfl (.cons rfl (.cons rfl (.cons rfl (.cons rfl .nil))))))))))))
            · skip
              refine goes_exit (ends_then_exit (ends_then_exit (ends_block_exit ?_)))
              obtain rfl := Option.some.inj H
              exact ends_cut (.cons rfl (.cons rfl (.cons rfl (.cons rfl (.cons rfl (.cons rfl (.cons rfl (.cons rfl .nil))))))))
          refine ends_block ?_
          refine ends_then ?_
          refine goes_region ?_
          refine go1 (op_add rfl (.t (has rfl)) (.int _ _)) rfl ?_
          refine go1 (op_move rfl (.t (has rfl))) rfl ?_
          refine goesO_nil ?_
          exact loop_next _ H (.cons rfl (.cons rfl (.cons rfl (.cons rfl (.cons rfl (.cons rfl (.cons rfl (.cons rfl .nil))))))))
        · skip
          refine goes_exit (ends_then_exit (ends_then_exit (ends_block_exit ?_)))
          obtain rfl := Option.some.inj H
          exact ends_cut (.cons rfl (.cons rfl (.cons rfl .nil)))
      refine ends_then ?_
      refine goes_seq ?_
      refine goes_region ?_
      refine go1 (op_moveA rfl plain_mp (.t (has rfl))) rfl ?_
      refine go1 (op_move rfl (.t (has rfl))) rfl ?_
      obtain ⟨x29, h30, H⟩ := bind_some H
      refine go1 (op_lookup rfl xmt50 h30 (.t (has rfl)) (has rfl) (.t (has rfl))) rfl ?_
      refine go1 (op_assign rfl (.t (has rfl))) rfl ?_
      refine go1 (op_assign rfl (.int _ _)) rfl ?_
      refine goesO_nil ?_
      refine ends_then ?_
      obtain rfl := Option.some.inj H
      exact goes_ret (ends_ret' rfl rfl (.t rfl (.t rfl (.nil _))))
theorem graph_Depth.conF (k : Nat) (a0 : Make) (a1 : ByteArray) (r : Int × Int) (H : graph_Depth.f k a0 a1 = some r) : ConF Try.prog 6 [VA.k kMake a0, VA.k kstr a1] [VA.k (kint .i64) r.1, VA.k (kint .i64) r.2] := (graph_Depth.con k a0 a1 r H).freeL (.cons (KFree.k (KFree.int .i64) _) (.cons (KFree.k (KFree.int .i64) _) .nil))
/-! smithy/graph.Order -/
def graph_Order.f (k : Nat) (a0 : Make) (a1 : List ByteArray) : Option ((List ByteArray) × Int) := (graph_asked.f k a0 a1).bind fun v1 => bif icmp .neq v1 (0 : Int) then (some (([] : List ByteArray), v1)) else ((graph_walk.f k a0 a1).bind fun v4 => bif icmp .gtr (v4.2.length : Int) (0 : Int) then (some (([] : List ByteArray), (100 : Int))) else (some (v4.1, (0 : Int))))
set_option maxRecDepth 100000 in
set_option maxHeartbeats 4000000 in
theorem graph_Order.con (k : Nat) (a0 : Make) (a1 : List ByteArray) (r : (List ByteArray) × Int) (H : graph_Order.f k a0 a1 = some r) : Con Try.prog 11 [VA.k kMake a0, VA.k (kslice kstr) a1] [VA.own 9 kstr r.1, VA.k (kint .i64) r.2] := by
  unfold graph_Order.f at H
  refine con_enter Try.func11 rfl rfl rfl (fun w0 S0 θ => ?_)
  refine goes_seq ?_
  refine goes_region ?_
  refine go3 (op_box 2 rfl (fun h => by first | rfl | cases h) (.t (has rfl))) rfl ?_
  refine go1 (op_assign_nil 9 kstr (.inr rfl) rfl) rfl ?_
  refine go1 (op_assign rfl (.int _ _)) rfl ?_
  refine goesO_nil ?_
  refine ends_then ?_
  refine goes_seq ?_
  refine goes_seq ?_
  refine goes_region ?_
  refine go1 (op_load rfl (Fld.whole kMake) tk29 (.t (has rfl)) (has rfl)) rfl ?_
  refine go1 (op_move rfl (.t (has rfl))) rfl ?_
  obtain ⟨v1, h2, H⟩ := bind_some H
  refine go1 (op_call' rfl enters21 (graph_asked.con _ _ _ _ h2) rfl (.cons (ArgP.k (.t (has rfl))) (.cons (ArgP.k (.t (has rfl))) .nil))) rfl ?_
  refine go1 (op_assign rfl (.t (has rfl))) rfl ?_
  refine goesO_nil ?_
  refine ends_then ?_
  refine goes_seq ?_
  refine goes_region ?_
  refine go1 (op_move rfl (.t (has rfl))) rfl ?_
  refine go1 (op_icmp rfl rfl (.t (has rfl)) (.int _ _)) rfl ?_
  refine goesO_nil ?_
  refine ends_then ?_
  refine goes_if (.t (has rfl)) H (fun hb3 H => ?_) (fun hb3 H => ?_)
  · skip
    refine goes_seq ?_
    refine goes_region ?_
    refine go1 (op_move rfl (.t (has rfl))) rfl ?_
    refine go1 (op_assign_nil 9 kstr (.inr rfl) rfl) rfl ?_
    refine go1 (op_assign rfl (.t (has rfl))) rfl ?_
    refine goesO_nil ?_
    refine ends_then ?_
    obtain rfl := Option.some.inj H
    exact goes_ret (ends_then_ret (ends_ret' rfl rfl (.t rfl (.t rfl (.nil _)))))
  · skip
    refine goes_skip ?_
    refine ends_then ?_
    refine goes_seq ?_
    refine goes_region ?_
    refine go1 (op_load rfl (Fld.whole kMake) tk29 (.t (has rfl)) (has rfl)) rfl ?_
    refine go1 (op_move rfl (.t (has rfl))) rfl ?_
    obtain ⟨v4, h5, H⟩ := bind_some H
    refine goN (op_calls' rfl enters17 (graph_walk.con _ _ _ _ h5) rfl rfl (.cons (ArgP.k (.t (has rfl))) (.cons (ArgP.k (.t (has rfl))) .nil))) rfl ?_
    refine go1 (op_same (.inl rfl) rfl rfl) rfl ?_
    refine go2 (op_extract_own_same rfl rfl rfl (has rfl) (has rfl)) rfl ?_
    refine go2 (op_extract_own_same rfl rfl rfl (has rfl) (has rfl)) rfl ?_
    refine go2 (op_mv (.inr rfl) rfl rfl (has rfl)) rfl ?_
    refine go2 (op_mv (.inr rfl) rfl rfl (has rfl)) rfl ?_
    refine goesO_nil ?_
    refine ends_then ?_
    refine goes_seq ?_
    refine goes_seq ?_
    refine goes_region ?_
    refine goesO_settle 8 rfl rfl ?_
    refine go1 (op_move rfl (.t (has rfl))) rfl ?_
    refine go1 (op_len rfl rfl Try.underlying25 (.t (has rfl))) rfl ?_
    refine go1 (op_icmp rfl rfl (.t (has rfl)) (.int _ _)) rfl ?_
    refine goesO_nil ?_
    refine ends_then ?_
    refine goes_if (.t (has rfl)) H (fun hb6 H => ?_) (fun hb6 H => ?_)
    · skip
      refine goes_seq ?_
      refine goes_region ?_
      refine go1 (op_assign_nil 9 kstr (.inr rfl) rfl) rfl ?_
      refine go1 (op_assign rfl (.int _ _)) rfl ?_
      refine goesO_nil ?_
      refine ends_then ?_
      obtain rfl := Option.some.inj H
      exact goes_ret (ends_then_ret (ends_ret' rfl rfl (.t rfl (.t rfl (.nil _)))))
    · skip
      refine goes_skip ?_
      refine ends_then ?_
      refine goes_seq ?_
      refine goes_region ?_
      refine go2 (op_mv (.inl rfl) rfl rfl (has rfl)) rfl ?_
      refine go2 (op_mv (.inr rfl) rfl rfl (has rfl)) rfl ?_
      refine go1 (op_assign rfl (.int _ _)) rfl ?_
      refine goesO_nil ?_
      refine ends_then ?_
      obtain rfl := Option.some.inj H
      exact goes_ret (ends_ret' rfl rfl (.t rfl (.t rfl (.nil _))))
theorem graph_Order.conF (k : Nat) (a0 : Make) (a1 : List ByteArray) (r : (List ByteArray) × Int) (H : graph_Order.f k a0 a1 = some r) : ConF Try.prog 11 [VA.k kMake a0, VA.k (kslice kstr) a1] [VA.own 9 kstr r.1, VA.k (kint .i64) r.2] := (graph_Order.con k a0 a1 r H).freeL (.cons (KFree.own KFree.str _ _) (.cons (KFree.k (KFree.int .i64) _) .nil))
/-! smithy/graph.Users -/
def graph_Users.l0 (a0 : Make) (a1 : ByteArray) : Nat → ((List ByteArray) × Int) → Option (List ByteArray)
  | 0, _ => none
  | k + 1, s4 => bif icmp .lss s4.2 (a0.Rules.length : Int) then (((idx a0.Rules s4.2).bind fun x10 => (slices_Contains_string_string.f k x10.Needs a1).bind fun v12 => bif v12 then ((app 16 s4.1 ([x10.Target])).bind fun x15 => some x15) else (some s4.1)).bind fun s8 => graph_Users.l0 a0 a1 k (s8, IntKind.i64.wrap (s4.2 + (1 : Int)))) else (some s4.1)
def graph_Users.f (k : Nat) (a0 : Make) (a1 : ByteArray) : Option ((List ByteArray) × Int) := (graph_one.f k a0 a1).bind fun v1 => bif icmp .neq v1 (0 : Int) then (some (([] : List ByteArray), v1)) else ((graph_Users.l0 a0 a1 k (([] : List ByteArray), (0 : Int))).bind fun s5 => some (s5, (0 : Int)))
set_option maxRecDepth 100000 in
set_option maxHeartbeats 4000000 in
theorem graph_Users.con (k : Nat) (a0 : Make) (a1 : ByteArray) (r : (List ByteArray) × Int) (H : graph_Users.f k a0 a1 = some r) : Con Try.prog 9 [VA.k kMake a0, VA.k kstr a1] [VA.own 9 kstr r.1, VA.k (kint .i64) r.2] := by
  unfold graph_Users.f at H
  refine con_enter Try.func9 rfl rfl rfl (fun w0 S0 θ => ?_)
  refine goes_seq ?_
  refine goes_region ?_
  refine go3 (op_box 2 rfl (fun h => by first | rfl | cases h) (.t (has rfl))) rfl ?_
  refine go1 (op_assign_nil 9 kstr (.inr rfl) rfl) rfl ?_
  refine go1 (op_assign rfl (.int _ _)) rfl ?_
  refine goesO_nil ?_
  refine ends_then ?_
  refine goes_seq ?_
  refine goes_seq ?_
  refine goes_region ?_
  refine go1 (op_load rfl (Fld.whole kMake) tk29 (.t (has rfl)) (has rfl)) rfl ?_
  refine go1 (op_move rfl (.t (has rfl))) rfl ?_
  obtain ⟨v1, h2, H⟩ := bind_some H
  refine go1 (op_call' rfl enters16 (graph_one.con _ _ _ _ h2) rfl (.cons (ArgP.k (.t (has rfl))) (.cons (ArgP.k (.t (has rfl))) .nil))) rfl ?_
  refine go1 (op_assign rfl (.t (has rfl))) rfl ?_
  refine goesO_nil ?_
  refine ends_then ?_
  refine goes_seq ?_
  refine goes_region ?_
  refine go1 (op_move rfl (.t (has rfl))) rfl ?_
  refine go1 (op_icmp rfl rfl (.t (has rfl)) (.int _ _)) rfl ?_
  refine goesO_nil ?_
  refine ends_then ?_
  refine goes_if (.t (has rfl)) H (fun hb3 H => ?_) (fun hb3 H => ?_)
  · skip
    refine goes_seq ?_
    refine goes_region ?_
    refine go1 (op_move rfl (.t (has rfl))) rfl ?_
    refine go1 (op_assign_nil 9 kstr (.inr rfl) rfl) rfl ?_
    refine go1 (op_assign rfl (.t (has rfl))) rfl ?_
    refine goesO_nil ?_
    refine ends_then ?_
    obtain rfl := Option.some.inj H
    exact goes_ret (ends_then_ret (ends_ret' rfl rfl (.t rfl (.t rfl (.nil _)))))
  · skip
    refine goes_skip ?_
    refine ends_then ?_
    refine goes_seq ?_
    refine goes_region ?_
    refine go1 (op_assign_nil 9 kstr (.inr rfl) rfl) rfl ?_
    refine goesO_nil ?_
    refine ends_then ?_
    refine goes_seq ?_
    refine goes_seq ?_
    refine goes_region ?_
    refine go1 (op_fieldAddr rfl Try.underlying29 rfl tk23 (.t (has rfl))) rfl ?_
    refine go1 (op_load rfl fldMake_Rules tk23 (.t (has rfl)) (has rfl)) rfl ?_
    refine go1 (op_len rfl rfl Try.underlying23 (.t (has rfl))) rfl ?_
    refine go1 (op_move rfl (.int _ _)) rfl ?_
    refine goesO_nil ?_
    refine ends_then ?_
    obtain ⟨s5, h6, H⟩ := bind_some H
    refine goes_cut [Ent.t 7 (VA.own 9 kstr s5)] ?_ ?_
    · replace H := h6; clear h6
      refine goes_block ?_
      refine goes_loop (fun s4 : (List ByteArray) × Int => [Ent.t 1 (VA.k kstr a1), Ent.t 7 (VA.own 9 kstr s4.1), Ent.t 17 (VA.k (kslice kRule) a0.Rules), Ent.t 18 (VA.k (kint .i64) (a0.Rules.length : Int)), Ent.t 19 (VA.k (kint .i64) s4.2)]) (fun k s4 => graph_Users.l0 a0 a1 k s4) (fun _ => rfl) H (.cons rfl (.cons rfl (.cons rfl (.cons rfl (.cons rfl .nil))))) ?_
      intro k s4 H
      simp only [graph_Users.l0] at H
      refine goes_seq ?_
      refine goes_region ?_
      refine go1 (op_icmp rfl rfl (.t (has rfl)) (.t (has rfl))) rfl ?_
      refine goesO_nil ?_
      refine ends_then ?_
      refine goes_seq ?_
      refine goes_if (.t (has rfl)) H (fun hb7 H => ?_) (fun hb7 H => ?_)
      · skip
        refine goes_skip ?_
        refine ends_then ?_
        refine goes_seq ?_
        obtain ⟨s8, h9, H⟩ := bind_some H
        refine goes_cut [Ent.t 1 (VA.k kstr a1), Ent.t 7 (VA.own 9 kstr s8), Ent.t 17 (VA.k (kslice kRule) a0.Rules), Ent.t 18 (VA.k (kint .i64) (a0.Rules.length : Int)), Ent.t 19 (VA.k (kint .i64) s4.2)] ?_ ?_
        · replace H := h9; clear h9
          refine goes_block ?_
          refine goes_seq ?_
          refine goes_region ?_
          obtain ⟨x10, h11, H⟩ := bind_some H
          refine go1 (op_indexAddr rfl Try.underlying23 tk52 h11 (.t (has rfl)) (.t (has rfl))) rfl ?_
          refine go1 (op_loadp rfl tk52 (.t (has rfl))) rfl ?_
          refine go3 (op_alloc 9 rfl zk52) rfl ?_
          refine go1 (op_store (Fld.whole kRule) tk52 (.t (has rfl)) (has rfl) (.t (has rfl))) rfl ?_
          refine goesO_nil ?_
          refine ends_then ?_
          refine goes_seq ?_
          refine goes_region ?_
          refine go1 (op_fieldAddr rfl Try.underlying52 rfl tk25 (.t (has rfl))) rfl ?_
          refine go1 (op_load rfl fldRule_Needs tk25 (.t (has rfl)) (has rfl)) rfl ?_
          refine go1 (op_move rfl (.t (has rfl))) rfl ?_
          obtain ⟨v12, h13, H⟩ := bind_some H
          refine go1 (op_call' rfl enters20 (slices_Contains_string_string.con _ _ _ _ h13) rfl (.cons (ArgP.k (.t (has rfl))) (.cons (ArgP.k (.t (has rfl))) .nil))) rfl ?_
          refine goesO_nil ?_
          refine ends_then ?_
          refine goes_if (.t (has rfl)) H (fun hb14 H => ?_) (fun hb14 H => ?_)
          · skip
            refine goes_region ?_
            refine go2 (op_mv (.inl rfl) rfl rfl (has rfl)) rfl ?_
            refine go1 (op_fieldAddr rfl Try.underlying52 rfl tk9 (.t (has rfl))) rfl ?_
            refine go1 (op_load rfl fldRule_Target tk9 (.t (has rfl)) (has rfl)) rfl ?_
            refine go1 (op_buildSlice rfl at25 (fun h => by first | rfl | cases h) rfl rfl rfl (.cons (.t (has rfl)) (.nil _))) rfl ?_
            obtain ⟨x15, h16, H⟩ := bind_some H
            refine go2 (op_append rfl rfl at25 h16 (has rfl) (ReadsArg.own (.t (has rfl)))) rfl ?_
            refine go2 (op_mv (.inr rfl) rfl rfl (has rfl)) rfl ?_
            refine goesO_nil ?_
            refine ends_block ?_
            obtain rfl := Option.some.inj H
            exact ends_cut (.cons rfl (.cons rfl (.cons rfl (.cons rfl (.cons rfl .nil)))))
          · skip
            refine goes_skip ?_
            refine ends_block ?_
            obtain rfl := Option.some.inj H
            exact ends_cut (.cons rfl (.cons rfl (.cons rfl (.cons rfl (.cons rfl .nil)))))
        refine ends_then ?_
        refine goes_region ?_
        refine go1 (op_add rfl (.t (has rfl)) (.int _ _)) rfl ?_
        refine go1 (op_move rfl (.t (has rfl))) rfl ?_
        refine goesO_nil ?_
        exact loop_next _ H (.cons rfl (.cons rfl (.cons rfl (.cons rfl (.cons rfl .nil)))))
      · skip
        refine goes_exit (ends_then_exit (ends_then_exit (ends_block_exit ?_)))
        obtain rfl := Option.some.inj H
        exact ends_cut (.cons rfl .nil)
    refine ends_then ?_
    refine goes_seq ?_
    refine goes_region ?_
    refine go2 (op_mv (.inl rfl) rfl rfl (has rfl)) rfl ?_
    refine go2 (op_mv (.inr rfl) rfl rfl (has rfl)) rfl ?_
    refine go1 (op_assign rfl (.int _ _)) rfl ?_
    refine goesO_nil ?_
    refine ends_then ?_
    obtain rfl := Option.some.inj H
    exact goes_ret (ends_ret' rfl rfl (.t rfl (.t rfl (.nil _))))
theorem graph_Users.conF (k : Nat) (a0 : Make) (a1 : ByteArray) (r : (List ByteArray) × Int) (H : graph_Users.f k a0 a1 = some r) : ConF Try.prog 9 [VA.k kMake a0, VA.k kstr a1] [VA.own 9 kstr r.1, VA.k (kint .i64) r.2] := (graph_Users.con k a0 a1 r H).freeL (.cons (KFree.own KFree.str _ _) (.cons (KFree.k (KFree.int .i64) _) .nil))
/-! smithy/smithyplain.Texts -/
def smithyplain_Texts.l0 (a0 : List ByteArray) (a1 : List ByteArray) : Nat → Int → Option (Except Bool Unit)
  | 0, _ => none
  | k + 1, s2 => bif icmp .lss s2 (a0.length : Int) then ((idx a0 s2).bind fun x7 => (idx a1 s2).bind fun x9 => bif scmp .neq x7 x9 then (some (Except.error false)) else (smithyplain_Texts.l0 a0 a1 k (IntKind.i64.wrap (s2 + (1 : Int))))) else (some (Except.ok ()))
def smithyplain_Texts.f (k : Nat) (a0 : List ByteArray) (a1 : List ByteArray) : Option Bool := bif icmp .neq (a0.length : Int) (a1.length : Int) then (some false) else ((smithyplain_Texts.l0 a0 a1 k (0 : Int)).bind fun o5 => match o5 with | .error r' => some r' | .ok s3 => (some true))
set_option maxRecDepth 100000 in
set_option maxHeartbeats 4000000 in
theorem smithyplain_Texts.con (k : Nat) (a0 : List ByteArray) (a1 : List ByteArray) (r : Bool) (H : smithyplain_Texts.f k a0 a1 = some r) : Con Try.prog 19 [VA.k (kslice kstr) a0, VA.k (kslice kstr) a1] [VA.k kbool r] := by
  unfold smithyplain_Texts.f at H
  refine con_enter Try.func19 rfl rfl rfl (fun w0 S0 θ => ?_)
  refine goes_seq ?_
  refine goes_region ?_
  refine go1 (op_assign rfl (.bool _)) rfl ?_
  refine goesO_nil ?_
  refine ends_then ?_
  refine goes_seq ?_
  refine goes_seq ?_
  refine goes_region ?_
  refine go1 (op_move rfl (.t (has rfl))) rfl ?_
  refine go1 (op_len rfl rfl Try.underlying25 (.t (has rfl))) rfl ?_
  refine go1 (op_move rfl (.t (has rfl))) rfl ?_
  refine go1 (op_len rfl rfl Try.underlying25 (.t (has rfl))) rfl ?_
  refine go1 (op_icmp rfl rfl (.t (has rfl)) (.t (has rfl))) rfl ?_
  refine goesO_nil ?_
  refine ends_then ?_
  refine goes_if (.t (has rfl)) H (fun hb1 H => ?_) (fun hb1 H => ?_)
  · skip
    refine goes_seq ?_
    refine goes_region ?_
    refine go1 (op_assign rfl (.bool _)) rfl ?_
    refine goesO_nil ?_
    refine ends_then ?_
    obtain rfl := Option.some.inj H
    exact goes_ret (ends_then_ret (ends_ret' rfl rfl (.t rfl (.nil _))))
  · skip
    refine goes_skip ?_
    refine ends_then ?_
    refine goes_seq ?_
    refine goes_seq ?_
    refine goes_region ?_
    refine go1 (op_move rfl (.t (has rfl))) rfl ?_
    refine go1 (op_len rfl rfl Try.underlying25 (.t (has rfl))) rfl ?_
    refine go1 (op_move rfl (.int _ _)) rfl ?_
    refine goesO_nil ?_
    refine ends_then ?_
    obtain ⟨o5, h4, H⟩ := bind_some H
    refine goes_cutR (o := o5) (fun s3 : Unit => []) (fun r a w => bodyPost Try.prog Try.f19 (CPost w0 S0 θ [VA.k kbool r]) .ret a w) ?_ ?_ ?_
    · replace H := h4; clear h4
      refine goes_block ?_
      refine goes_loop (fun s2 : Int => [Ent.t 0 (VA.k (kslice kstr) a0), Ent.t 1 (VA.k (kslice kstr) a1), Ent.t 12 (VA.k (kint .i64) (a0.length : Int)), Ent.t 13 (VA.k (kint .i64) s2)]) (fun k s2 => smithyplain_Texts.l0 a0 a1 k s2) (fun _ => rfl) H (.cons rfl (.cons rfl (.cons rfl (.cons rfl .nil)))) ?_
      intro k s2 H
      simp only [smithyplain_Texts.l0] at H
      refine goes_seq ?_
      refine goes_region ?_
      refine go1 (op_icmp rfl rfl (.t (has rfl)) (.t (has rfl))) rfl ?_
      refine goesO_nil ?_
      refine ends_then ?_
      refine goes_seq ?_
      refine goes_if (.t (has rfl)) H (fun hb6 H => ?_) (fun hb6 H => ?_)
      · skip
        refine goes_skip ?_
        refine ends_then ?_
        refine goes_seq ?_
        refine goes_block ?_
        refine goes_seq ?_
        refine goes_region ?_
        refine go1 (op_move rfl (.t (has rfl))) rfl ?_
        refine go1 (op_assign rfl (.t (has rfl))) rfl ?_
        refine goesO_nil ?_
        refine ends_then ?_
        refine goes_seq ?_
        obtain ⟨x7, h8, H⟩ := bind_some H
        obtain ⟨x9, h10, H⟩ := bind_some H
        refine goes_drawn [[Ent.t 16 (VA.k (kslice kstr) a0)], [Ent.t 17 (VA.k (kint .i64) s2)], [Ent.t 18 (VA.pt kstr x7)], [Ent.t 19 (VA.k kstr x7)], [Ent.t 20 (VA.k (kslice kstr) a1)], [Ent.t 21 (VA.k (kint .i64) s2)], [Ent.t 22 (VA.pt kstr x9)], [Ent.t 23 (VA.k kstr x9)], [Ent.t 24 (VA.k kbool (scmp .neq x7 x9))]] mixed (by kernel_rfl) (by kernel_rfl) (.cons [(none, Ent.t 0 (VA.k (kslice kstr) a0))] (OpSpec.run rfl rfl (op_move rfl (.t NL.h0)) rfl) (.cons (has rfl) .nil) (by kernel_rfl) (.cons [(none, Ent.t 5 (VA.k (kint .i64) s2))] (OpSpec.run rfl rfl (op_move rfl (.t NL.h0)) rfl) (.cons (has rfl) .nil) (by kernel_rfl) (.cons [(some 0, Ent.t 16 (VA.k (kslice kstr) a0)), (some 1, Ent.t 17 (VA.k (kint .i64) s2))] (OpSpec.run rfl rfl (op_indexAddr rfl Try.underlying25 tk9 h8 (.t NL.h0) (.t (NL.hs NL.h0))) rfl) (.cons (has rfl) (.cons (has rfl) .nil)) (by kernel_rfl) (.cons [(some 2, Ent.t 18 (VA.pt kstr x7))] (OpSpec.run rfl rfl (op_loadp rfl tk9 (.t NL.h0)) rfl) (.cons (has rfl) .nil) (by kernel_rfl) (.cons [(none, Ent.t 1 (VA.k (kslice kstr) a1))] (OpSpec.run rfl rfl (op_move rfl (.t NL.h0)) rfl) (.cons (has rfl) .nil) (by kernel_rfl) (.cons [(none, Ent.t 5 (VA.k (kint .i64) s2))] (OpSpec.run rfl rfl (op_move rfl (.t NL.h0)) rfl) (.cons (has rfl) .nil) (by kernel_rfl) (.cons [(some 4, Ent.t 20 (VA.k (kslice kstr) a1)), (some 5, Ent.t 21 (VA.k (kint .i64) s2))] (OpSpec.run rfl rfl (op_indexAddr rfl Try.underlying25 tk9 h10 (.t NL.h0) (.t (NL.hs NL.h0))) rfl) (.cons (has rfl) (.cons (has rfl) .nil)) (by kernel_rfl) (.cons [(some 6, Ent.t 22 (VA.pt kstr x9))] (OpSpec.run rfl rfl (op_loadp rfl tk9 (.t NL.h0)) rfl) (.cons (has rfl) .nil) (by kernel_rfl) (.cons [(some 3, Ent.t 19 (VA.k kstr x7)), (some 7, Ent.t 23 (VA.k kstr x9))] (OpSpec.run rfl rfl (op_scmp rfl rfl (.t NL.h0) (.t (NL.hs NL.h0))) rfl) (.cons (has rfl) (.cons (has rfl) .nil)) (by kernel_rfl) (.nil _)))))))))) ?_
        refine ends_sub [Ent.t 0 (VA.k (kslice kstr) a0), Ent.t 1 (VA.k (kslice kstr) a1), Ent.t 12 (VA.k (kint .i64) (a0.length : Int)), Ent.t 13 (VA.k (kint .i64) s2), Ent.t 24 (VA.k kbool (scmp .neq x7 x9))] (.cons rfl (.cons rfl (.cons rfl (.cons rfl (.cons rfl .nil))))) ?_
        refine ends_then ?_
        refine goes_if (.t (has rfl)) H (fun hb11 H => ?_) (fun hb11 H => ?_)
        · skip
          refine goes_seq ?_
          refine goes_region ?_
          refine go1 (op_assign rfl (.bool _)) rfl ?_
          refine goesO_nil ?_
          refine ends_then ?_
          obtain rfl := Option.some.inj H
          refine goes_ret (ends_block_ret (ends_then_ret (ends_then_ret (ends_block_ret (ends_cutR_ret rfl ?_)))))
          exact ends_ret' rfl rfl (.t rfl (.nil _))
        · skip
          refine goes_skip ?_
          refine ends_block ?_
          refine ends_then ?_
          refine goes_region ?_
          refine go1 (op_add rfl (.t (has rfl)) (.int _ _)) rfl ?_
          refine go1 (op_move rfl (.t (has rfl))) rfl ?_
          refine goesO_nil ?_
          exact loop_next _ H (.cons rfl (.cons rfl (.cons rfl (.cons rfl .nil))))
      · skip
        refine goes_exit (ends_then_exit (ends_then_exit (ends_block_exit ?_)))
        obtain rfl := Option.some.inj H
        exact ends_cutR rfl .nil
    · rintro s3 rfl
      clear h4
      dsimp only at H
      refine ends_then ?_
      refine goes_seq ?_
      refine goes_region ?_
      refine go1 (op_assign rfl (.bool _)) rfl ?_
      refine goesO_nil ?_
      refine ends_then ?_
      obtain rfl := Option.some.inj H
      exact goes_ret (ends_ret' rfl rfl (.t rfl (.nil _)))
    · rintro r' rfl a w hr
      obtain rfl := Option.some.inj H
      exact hr
theorem smithyplain_Texts.conF (k : Nat) (a0 : List ByteArray) (a1 : List ByteArray) (r : Bool) (H : smithyplain_Texts.f k a0 a1 = some r) : ConF Try.prog 19 [VA.k (kslice kstr) a0, VA.k (kslice kstr) a1] [VA.k kbool r] := (smithyplain_Texts.con k a0 a1 r H).freeL (.cons (KFree.k KFree.bool _) .nil)
end Go.Proofs.Ytlpmolohppoofaa.F
