import Derived.Test.YtlpmolohppoofaaFOx0
set_option linter.unusedVariables false
set_option linter.unusedSimpArgs false
set_option linter.unnecessarySimpa false
set_option linter.deprecated false
namespace Go.Proofs.Ytlpmolohppoofaa.F
open Go Go.RowKit Go.Proofs.Ytlpmolohppoofaa.Sl
/-! slices.Index[[]string,string] -/
def slices_Index_string_string.l0 (a0 : List ByteArray) (a1 : ByteArray) : Nat → Int → Option (Except Int Unit)
  | 0, _ => none
  | k + 1, s1 => bif icmp .lss s1 (a0.length : Int) then ((idx a0 s1).bind fun x6 => bif scmp .eql a1 x6 then (some (Except.error s1)) else (slices_Index_string_string.l0 a0 a1 k (IntKind.i64.wrap (s1 + (1 : Int))))) else (some (Except.ok ()))
def slices_Index_string_string.f (k : Nat) (a0 : List ByteArray) (a1 : ByteArray) : Option Int := (slices_Index_string_string.l0 a0 a1 k (0 : Int)).bind fun o4 => match o4 with | .error r' => some r' | .ok s2 => (some (-1 : Int))
set_option maxRecDepth 100000 in
set_option maxHeartbeats 4000000 in
theorem slices_Index_string_string.con (k : Nat) (a0 : List ByteArray) (a1 : ByteArray) (r : Int) (H : slices_Index_string_string.f k a0 a1 = some r) : Con Try.prog 33 [VA.k (kslice kstr) a0, VA.k kstr a1] [VA.k (kint .i64) r] := by
  unfold slices_Index_string_string.f at H
  refine con_enter Try.func33 rfl rfl rfl (fun w0 S0 θ => ?_)
  refine goes_seq ?_
  refine goes_region ?_
  refine go1 (op_assign rfl (.int _ _)) rfl ?_
  refine goesO_nil ?_
  refine ends_then ?_
  refine goes_seq ?_
  refine goes_seq ?_
  refine goes_region ?_
  refine go1 (op_move rfl (.t (has rfl))) rfl ?_
  refine go1 (op_len rfl rfl Try.underlying25 (.t (has rfl))) rfl ?_
  refine go1 (op_move rfl (.int _ _)) rfl ?_
  refine goesO_nil ?_
  refine ends_then ?_
  obtain ⟨o4, h3, H⟩ := bind_some H
  refine goes_cutR (o := o4) (fun s2 : Unit => []) (fun r a w => bodyPost Try.prog Try.f33 (CPost w0 S0 θ [VA.k (kint .i64) r]) .ret a w) ?_ ?_ ?_
  · replace H := h3; clear h3
    refine goes_block ?_
    refine goes_loop (fun s1 : Int => [Ent.t 0 (VA.k (kslice kstr) a0), Ent.t 1 (VA.k kstr a1), Ent.t 7 (VA.k (kint .i64) (a0.length : Int)), Ent.t 8 (VA.k (kint .i64) s1)]) (fun k s1 => slices_Index_string_string.l0 a0 a1 k s1) (fun _ => rfl) H (.cons rfl (.cons rfl (.cons rfl (.cons rfl .nil)))) ?_
    intro k s1 H
    simp only [slices_Index_string_string.l0] at H
    refine goes_seq ?_
    refine goes_region ?_
    refine go1 (op_icmp rfl rfl (.t (has rfl)) (.t (has rfl))) rfl ?_
    refine goesO_nil ?_
    refine ends_then ?_
    refine goes_seq ?_
    refine goes_if (.t (has rfl)) H (fun hb5 H => ?_) (fun hb5 H => ?_)
    · skip
      refine goes_skip ?_
      refine ends_then ?_
      refine goes_seq ?_
      refine goes_block ?_
      refine goes_seq ?_
      refine goes_region ?_
      refine go1 (op_move rfl (.t (has rfl))) rfl ?_
      refine go1 (op_assign rfl (.t (has rfl))) rfl ?_
      refine goesO_nil ?_
      refine ends_then ?_
      refine goes_seq ?_
      refine goes_region ?_
      refine go1 (op_move rfl (.t (has rfl))) rfl ?_
      refine go1 (op_move rfl (.t (has rfl))) rfl ?_
      refine go1 (op_move rfl (.t (has rfl))) rfl ?_
      obtain ⟨x6, h7, H⟩ := bind_some H
      refine go1 (op_indexAddr rfl Try.underlying25 tk9 h7 (.t (has rfl)) (.t (has rfl))) rfl ?_
      refine go1 (op_loadp rfl tk9 (.t (has rfl))) rfl ?_
      refine go1 (op_scmp rfl rfl (.t (has rfl)) (.t (has rfl))) rfl ?_
      refine goesO_nil ?_
      refine ends_then ?_
      refine goes_if (.t (has rfl)) H (fun hb8 H => ?_) (fun hb8 H => ?_)
      · skip
        refine goes_seq ?_
        refine goes_region ?_
        refine go1 (op_move rfl (.t (has rfl))) rfl ?_
        refine go1 (op_assign rfl (.t (has rfl))) rfl ?_
        refine goesO_nil ?_
        refine ends_then ?_
        obtain rfl := Option.some.inj H
        refine goes_ret (ends_block_ret (ends_then_ret (ends_then_ret (ends_block_ret (ends_cutR_ret rfl ?_)))))
        exact ends_ret' rfl rfl (.t rfl (.nil _))
      · skip
        refine goes_skip ?_
        refine ends_block ?_
        refine ends_then ?_
        refine goes_region ?_
        refine go1 (op_add rfl (.t (has rfl)) (.int _ _)) rfl ?_
        refine go1 (op_move rfl (.t (has rfl))) rfl ?_
        refine goesO_nil ?_
        exact loop_next _ H (.cons rfl (.cons rfl (.cons rfl (.cons rfl .nil))))
    · skip
      refine goes_exit (ends_then_exit (ends_then_exit (ends_block_exit ?_)))
      obtain rfl := Option.some.inj H
      exact ends_cutR rfl .nil
  · rintro s2 rfl
    clear h3
    dsimp only at H
    refine ends_then ?_
    refine goes_seq ?_
    refine goes_region ?_
    refine go1 (op_assign rfl (.int _ _)) rfl ?_
    refine goesO_nil ?_
    refine ends_then ?_
    obtain rfl := Option.some.inj H
    exact goes_ret (ends_ret' rfl rfl (.t rfl (.nil _)))
  · rintro r' rfl a w hr
    obtain rfl := Option.some.inj H
    exact hr
/-! slices.Contains[[]string,string] -/
def slices_Contains_string_string.f (k : Nat) (a0 : List ByteArray) (a1 : ByteArray) : Option Bool := (slices_Index_string_string.f k a0 a1).bind fun v1 => some (icmp .geq v1 (0 : Int))
set_option maxRecDepth 100000 in
set_option maxHeartbeats 4000000 in
theorem slices_Contains_string_string.con (k : Nat) (a0 : List ByteArray) (a1 : ByteArray) (r : Bool) (H : slices_Contains_string_string.f k a0 a1 = some r) : Con Try.prog 20 [VA.k (kslice kstr) a0, VA.k kstr a1] [VA.k kbool r] := by
  unfold slices_Contains_string_string.f at H
  refine con_enter Try.func20 rfl rfl rfl (fun w0 S0 θ => ?_)
  refine goes_seq ?_
  refine goes_region ?_
  refine go1 (op_assign rfl (.bool _)) rfl ?_
  refine goesO_nil ?_
  refine ends_then ?_
  refine goes_seq ?_
  refine goes_region ?_
  refine go1 (op_move rfl (.t (has rfl))) rfl ?_
  refine go1 (op_move rfl (.t (has rfl))) rfl ?_
  obtain ⟨v1, h2, H⟩ := bind_some H
  refine go1 (op_call' rfl enters33 (slices_Index_string_string.con _ _ _ _ h2) rfl (.cons (ArgP.k (.t (has rfl))) (.cons (ArgP.k (.t (has rfl))) .nil))) rfl ?_
  refine go1 (op_icmp rfl rfl (.t (has rfl)) (.int _ _)) rfl ?_
  refine go1 (op_assign rfl (.t (has rfl))) rfl ?_
  refine goesO_nil ?_
  refine ends_then ?_
  obtain rfl := Option.some.inj H
  exact goes_ret (ends_ret' rfl rfl (.t rfl (.nil _)))
theorem slices_Contains_string_string.conF (k : Nat) (a0 : List ByteArray) (a1 : ByteArray) (r : Bool) (H : slices_Contains_string_string.f k a0 a1 = some r) : ConF Try.prog 20 [VA.k (kslice kstr) a0, VA.k kstr a1] [VA.k kbool r] := (slices_Contains_string_string.con k a0 a1 r H).freeL (.cons (KFree.k KFree.bool _) .nil)
/-! smithy/names.Unique -/
def names_Unique.l0 (a0 : List ByteArray) : Nat → ((List ByteArray) × Int) → Option (List ByteArray)
  | 0, _ => none
  | k + 1, s1 => bif icmp .lss s1.2 (a0.length : Int) then (((idx a0 s1.2).bind fun x7 => (slices_Contains_string_string.f k s1.1 x7).bind fun v9 => bif !v9 then ((app 16 s1.1 ([x7])).bind fun x12 => some x12) else (some s1.1)).bind fun s5 => names_Unique.l0 a0 k (s5, IntKind.i64.wrap (s1.2 + (1 : Int)))) else (some s1.1)
def names_Unique.f (k : Nat) (a0 : List ByteArray) : Option (List ByteArray) := (names_Unique.l0 a0 k (([] : List ByteArray), (0 : Int))).bind fun s2 => some s2
set_option maxRecDepth 100000 in
set_option maxHeartbeats 4000000 in
theorem names_Unique.con (k : Nat) (a0 : List ByteArray) (r : List ByteArray) (H : names_Unique.f k a0 = some r) : Con Try.prog 82 [VA.k (kslice kstr) a0] [VA.own 9 kstr r] := by
  unfold names_Unique.f at H
  refine con_enter Try.func82 rfl rfl rfl (fun w0 S0 θ => ?_)
  refine goes_seq ?_
  refine goes_region ?_
  refine go1 (op_assign_nil 9 kstr (.inr rfl) rfl) rfl ?_
  refine goesO_nil ?_
  refine ends_then ?_
  refine goes_seq ?_
  refine goes_region ?_
  refine go1 (op_assign_nil 9 kstr (.inr rfl) rfl) rfl ?_
  refine goesO_nil ?_
  refine ends_then ?_
  refine goes_seq ?_
  refine goes_seq ?_
  refine goes_region ?_
  refine go1 (op_move rfl (.t (has rfl))) rfl ?_
  refine go1 (op_len rfl rfl Try.underlying25 (.t (has rfl))) rfl ?_
  refine go1 (op_move rfl (.int _ _)) rfl ?_
  refine goesO_nil ?_
  refine ends_then ?_
  obtain ⟨s2, h3, H⟩ := bind_some H
  refine goes_cut [Ent.t 3 (VA.own 9 kstr s2)] ?_ ?_
  · replace H := h3; clear h3
    refine goes_block ?_
    refine goes_loop (fun s1 : (List ByteArray) × Int => [Ent.t 3 (VA.own 9 kstr s1.1), Ent.t 6 (VA.k (kslice kstr) a0), Ent.t 7 (VA.k (kint .i64) (a0.length : Int)), Ent.t 8 (VA.k (kint .i64) s1.2)]) (fun k s1 => names_Unique.l0 a0 k s1) (fun _ => rfl) H (.cons rfl (.cons rfl (.cons rfl (.cons rfl .nil)))) ?_
    intro k s1 H
    simp only [names_Unique.l0] at H
    refine goes_seq ?_
    refine goes_region ?_
    refine go1 (op_icmp rfl rfl (.t (has rfl)) (.t (has rfl))) rfl ?_
    refine goesO_nil ?_
    refine ends_then ?_
    refine goes_seq ?_
    refine goes_if (.t (has rfl)) H (fun hb4 H => ?_) (fun hb4 H => ?_)
    · skip
      refine goes_skip ?_
      refine ends_then ?_
      refine goes_seq ?_
      obtain ⟨s5, h6, H⟩ := bind_some H
      refine goes_cut [Ent.t 3 (VA.own 9 kstr s5), Ent.t 6 (VA.k (kslice kstr) a0), Ent.t 7 (VA.k (kint .i64) (a0.length : Int)), Ent.t 8 (VA.k (kint .i64) s1.2)] ?_ ?_
      · replace H := h6; clear h6
        refine goes_block ?_
        refine goes_seq ?_
        refine goes_region ?_
        obtain ⟨x7, h8, H⟩ := bind_some H
        refine go1 (op_indexAddr rfl Try.underlying25 tk9 h8 (.t (has rfl)) (.t (has rfl))) rfl ?_
        refine go1 (op_loadp rfl tk9 (.t (has rfl))) rfl ?_
        refine go1 (op_assign rfl (.t (has rfl))) rfl ?_
        refine goesO_nil ?_
        refine ends_then ?_
        refine goes_seq ?_
        refine goes_region ?_
        refine go1 (op_same (.inl rfl) rfl rfl) rfl ?_
        refine go1 (op_move rfl (.t (has rfl))) rfl ?_
        obtain ⟨v9, h10, H⟩ := bind_some H
        refine go1 (op_callF' rfl enters20 (slices_Contains_string_string.conF _ _ _ _ h10) rfl (.cons (ArgB.owns rfl (has rfl) (has rfl)) (.cons (ArgB.k (.t (has rfl))) .nil))) rfl ?_
        refine go1 (op_not rfl (.t (has rfl))) rfl ?_
        refine goesO_nil ?_
        refine ends_then ?_
        refine goes_if (.t (has rfl)) H (fun hb11 H => ?_) (fun hb11 H => ?_)
        · skip
          refine goes_region ?_
          refine go2 (op_mv (.inl rfl) rfl rfl (has rfl)) rfl ?_
          refine go1 (op_move rfl (.t (has rfl))) rfl ?_
          refine go1 (op_buildSlice rfl at25 (fun h => by first | rfl | cases h) rfl rfl rfl (.cons (.t (has rfl)) (.nil _))) rfl ?_
          obtain ⟨x12, h13, H⟩ := bind_some H
          refine go2 (op_append rfl rfl at25 h13 (has rfl) (ReadsArg.own (.t (has rfl)))) rfl ?_
          refine go2 (op_mv (.inr rfl) rfl rfl (has rfl)) rfl ?_
          refine goesO_nil ?_
          refine ends_block ?_
          obtain rfl := Option.some.inj H
          exact ends_cut (.cons rfl (.cons rfl (.cons rfl (.cons rfl .nil))))
        · skip
          refine goes_skip ?_
          refine ends_block ?_
          obtain rfl := Option.some.inj H
          exact ends_cut (.cons rfl (.cons rfl (.cons rfl (.cons rfl .nil))))
      refine ends_then ?_
      refine goes_region ?_
      refine go1 (op_add rfl (.t (has rfl)) (.int _ _)) rfl ?_
      refine go1 (op_move rfl (.t (has rfl))) rfl ?_
      refine goesO_nil ?_
      exact loop_next _ H (.cons rfl (.cons rfl (.cons rfl (.cons rfl .nil))))
    · skip
      refine goes_exit (ends_then_exit (ends_then_exit (ends_block_exit ?_)))
      obtain rfl := Option.some.inj H
      exact ends_cut (.cons rfl .nil)
  refine ends_then ?_
  refine goes_seq ?_
  refine goes_region ?_
  refine go2 (op_mv (.inl rfl) rfl rfl (has rfl)) rfl ?_
  refine go2 (op_mv (.inr rfl) rfl rfl (has rfl)) rfl ?_
  refine goesO_nil ?_
  refine ends_then ?_
  obtain rfl := Option.some.inj H
  exact goes_ret (ends_ret' rfl rfl (.t rfl (.nil _)))
/-! smithy/load.once -/
def load_once.f (k : Nat) (a0 : List ByteArray) : Option Bool := (names_Unique.f k a0).bind fun v1 => some (icmp .eql (v1.length : Int) (a0.length : Int))
set_option maxRecDepth 100000 in
set_option maxHeartbeats 4000000 in
theorem load_once.con (k : Nat) (a0 : List ByteArray) (r : Bool) (H : load_once.f k a0 = some r) : Con Try.prog 67 [VA.k (kslice kstr) a0] [VA.k kbool r] := by
  unfold load_once.f at H
  refine con_enter Try.func67 rfl rfl rfl (fun w0 S0 θ => ?_)
  refine goes_seq ?_
  refine goes_region ?_
  refine go1 (op_assign rfl (.bool _)) rfl ?_
  refine goesO_nil ?_
  refine ends_then ?_
  refine goes_seq ?_
  refine goes_region ?_
  refine go1 (op_move rfl (.t (has rfl))) rfl ?_
  obtain ⟨v1, h2, H⟩ := bind_some H
  refine go1 (op_call' rfl enters82 (names_Unique.con _ _ _ h2) rfl (.cons (ArgP.k (.t (has rfl))) .nil)) rfl ?_
  refine go1 (op_len_own rfl rfl Try.underlying25 (.t (has rfl))) rfl ?_
  refine go1 (op_move rfl (.t (has rfl))) rfl ?_
  refine go1 (op_len rfl rfl Try.underlying25 (.t (has rfl))) rfl ?_
  refine go1 (op_icmp rfl rfl (.t (has rfl)) (.t (has rfl))) rfl ?_
  refine go1 (op_assign rfl (.t (has rfl))) rfl ?_
  refine goesO_nil ?_
  refine ends_then ?_
  obtain rfl := Option.some.inj H
  exact goes_ret (ends_ret' rfl rfl (.t rfl (.nil _)))
/-! smithy/load.recipe$1 -/
def load_recipe_1.f (a0 : ByteArray) : Option Bool := some (icmp .gtr (a0.size : Int) (65536 : Int))
set_option maxRecDepth 100000 in
set_option maxHeartbeats 4000000 in
theorem load_recipe_1.con (a0 : ByteArray) (r : Bool) (H : load_recipe_1.f a0 = some r) : Con Try.prog 83 [VA.k kstr a0] [VA.k kbool r] := by
  unfold load_recipe_1.f at H
  refine con_enter Try.func83 rfl rfl rfl (fun w0 S0 θ => ?_)
  refine goes_seq ?_
  refine goes_region ?_
  refine go1 (op_assign rfl (.bool _)) rfl ?_
  refine goesO_nil ?_
  refine ends_then ?_
  refine goes_seq ?_
  refine goes_region ?_
  refine go1 (op_move rfl (.t (has rfl))) rfl ?_
  refine go1 (op_len_str rfl rfl Try.underlying9 (.t (has rfl))) rfl ?_
  refine go1 (op_icmp rfl rfl (.t (has rfl)) (.int _ _)) rfl ?_
  refine go1 (op_assign rfl (.t (has rfl))) rfl ?_
  refine goesO_nil ?_
  refine ends_then ?_
  obtain rfl := Option.some.inj H
  exact goes_ret (ends_ret' rfl rfl (.t rfl (.nil _)))
/-! smithy/load.recipe -/
def load_recipe.f (k : Nat) (a0 : List ByteArray) (a1 : Bool) : Option Bool := (bif icmp .leq (a0.length : Int) (64 : Int) then (bif a1 then ((slices_ContainsFunc_string_string.f k a0 (fun (z0 : ByteArray) => load_recipe_1.f z0)).bind fun v5 => some (!v5)) else (bif icmp .eql (a0.length : Int) (0 : Int) then ((slices_ContainsFunc_string_string.f k a0 (fun (z0 : ByteArray) => load_recipe_1.f z0)).bind fun v8 => some (!v8)) else (some false))) else (some false)).bind fun s1 => some s1
set_option maxRecDepth 100000 in
set_option maxHeartbeats 4000000 in
theorem load_recipe.con (k : Nat) (a0 : List ByteArray) (a1 : Bool) (r : Bool) (H : load_recipe.f k a0 a1 = some r) : Con Try.prog 68 [VA.k (kslice kstr) a0, VA.k kbool a1] [VA.k kbool r] := by
  unfold load_recipe.f at H
  refine con_enter Try.func68 rfl rfl rfl (fun w0 S0 θ => ?_)
  refine goes_seq ?_
  refine goes_region ?_
  refine go1 (op_assign rfl (.bool _)) rfl ?_
  refine goesO_nil ?_
  refine ends_then ?_
  refine goes_seq ?_
  obtain ⟨s1, h2, H⟩ := bind_some H
  refine goes_cut [Ent.t 4 (VA.k kbool s1)] ?_ ?_
  · replace H := h2; clear h2
    refine goes_region ?_
    refine go1 (op_move rfl (.t (has rfl))) rfl ?_
    refine go1 (op_len rfl rfl Try.underlying25 (.t (has rfl))) rfl ?_
    refine go1 (op_icmp rfl rfl (.t (has rfl)) (.int _ _)) rfl ?_
    refine go1 (op_move rfl (.t (has rfl))) rfl ?_
    refine goesO_split H (fun hb3 H => ?_) (fun hb3 H => ?_)
    · skip
      refine goG (op_move rfl (.t (has rfl))) rfl rfl rfl rfl hb3 ?_
      refine goG (op_move rfl (.t (has rfl))) rfl rfl rfl rfl hb3 ?_
      refine goesO_split H (fun hb4 H => ?_) (fun hb4 H => ?_)
      · skip
        refine goS rfl rfl rfl rfl rfl rfl hb4 ?_
        refine goS rfl rfl rfl rfl rfl rfl hb4 ?_
        refine goS rfl rfl rfl rfl rfl rfl hb4 ?_
        refine goG (op_pick_t rfl hb4 (.t (has rfl)) (.bool _)) rfl rfl rfl rfl hb3 ?_
        refine go1 (op_pick_t rfl hb3 (.t (has rfl)) (.t (has rfl))) rfl ?_
        refine go1 (op_move rfl (.t (has rfl))) rfl ?_
        refine goG (op_move rfl (.t (has rfl))) rfl rfl rfl rfl rfl ?_
        obtain ⟨v5, h6, H⟩ := bind_some H
        refine goG (op_call' rfl enters80 (slices_ContainsFunc_string_string.con 83 ([]) ([]) _ _ (fun (z0 : ByteArray) => load_recipe_1.f z0) enters83 (fun z0 r h => load_recipe_1.con z0 r h) _ h6) rfl (.cons (ArgP.k (.t (has rfl))) (.cons ArgP.fn .nil))) rfl rfl rfl rfl rfl ?_
        refine goG (op_not rfl (.t (has rfl))) rfl rfl rfl rfl rfl ?_
        refine go1 (op_pick_t rfl rfl (.t (has rfl)) (.t (has rfl))) rfl ?_
        refine go1 (op_assign rfl (.t (has rfl))) rfl ?_
        refine goesO_nil ?_
        obtain rfl := Option.some.inj H
        exact ends_cut (.cons rfl .nil)
      · skip
        refine goG (op_move rfl (.t (has rfl))) rfl rfl rfl rfl hb4 ?_
        refine goG (op_len rfl rfl Try.underlying25 (.t (has rfl))) rfl rfl rfl rfl hb4 ?_
        refine goG (op_icmp rfl rfl (.t (has rfl)) (.int _ _)) rfl rfl rfl rfl hb4 ?_
        refine goG (op_pick_f rfl hb4 (.t (has rfl)) (.t (has rfl))) rfl rfl rfl rfl hb3 ?_
        refine go1 (op_pick_t rfl hb3 (.t (has rfl)) (.t (has rfl))) rfl ?_
        refine go1 (op_move rfl (.t (has rfl))) rfl ?_
        refine goesO_split H (fun hb7 H => ?_) (fun hb7 H => ?_)
        · skip
          refine goG (op_move rfl (.t (has rfl))) rfl rfl rfl rfl hb7 ?_
          obtain ⟨v8, h9, H⟩ := bind_some H
          refine goG (op_call' rfl enters80 (slices_ContainsFunc_string_string.con 83 ([]) ([]) _ _ (fun (z0 : ByteArray) => load_recipe_1.f z0) enters83 (fun z0 r h => load_recipe_1.con z0 r h) _ h9) rfl (.cons (ArgP.k (.t (has rfl))) (.cons ArgP.fn .nil))) rfl rfl rfl rfl hb7 ?_
          refine goG (op_not rfl (.t (has rfl))) rfl rfl rfl rfl hb7 ?_
          refine go1 (op_pick_t rfl hb7 (.t (has rfl)) (.t (has rfl))) rfl ?_
          refine go1 (op_assign rfl (.t (has rfl))) rfl ?_
          refine goesO_nil ?_
          obtain rfl := Option.some.inj H
          exact ends_cut (.cons rfl .nil)
        · skip
          refine goS rfl rfl rfl rfl rfl rfl hb7 ?_
          refine goS rfl rfl rfl rfl rfl rfl hb7 ?_
          refine goS rfl rfl rfl rfl rfl rfl hb7 ?_
          refine go1 (op_pick_f rfl hb7 (.t (has rfl)) (.bool _)) rfl ?_
          refine go1 (op_assign rfl (.t (has rfl))) rfl ?_
          refine goesO_nil ?_
          obtain rfl := Option.some.inj H
          exact ends_cut (.cons rfl .nil)
    · skip
      refine goS rfl rfl rfl rfl rfl rfl hb3 ?_
      refine goS rfl rfl rfl rfl rfl rfl hb3 ?_
      refine goSU rfl rfl rfl rfl rfl rfl ?_
      refine goSU rfl rfl rfl rfl rfl rfl ?_
      refine goSU rfl rfl rfl rfl rfl rfl ?_
      refine goS rfl rfl rfl rfl rfl rfl hb3 ?_
      refine go1 (op_pick_f rfl hb3 (.t (has rfl)) (.bool _)) rfl ?_
      refine go1 (op_move rfl (.t (has rfl))) rfl ?_
      refine goS rfl rfl rfl rfl rfl rfl rfl ?_
      refine goS rfl rfl rfl rfl rfl rfl rfl ?_
      refine goS rfl rfl rfl rfl rfl rfl rfl ?_
      refine go1 (op_pick_f rfl rfl (.t (has rfl)) (.bool _)) rfl ?_
      refine go1 (op_assign rfl (.t (has rfl))) rfl ?_
      refine goesO_nil ?_
      obtain rfl := Option.some.inj H
      exact ends_cut (.cons rfl .nil)
  refine ends_then ?_
  obtain rfl := Option.some.inj H
  exact goes_ret (ends_ret' rfl rfl (.t rfl (.nil _)))
/-! smithy/load.rules -/
def load_rules.l0 (a0 : List Rule) : Nat → ((GM Bool) × Int) → Option (Except Bool Unit)
  | 0, _ => none
  | k + 1, s1 => bif icmp .lss s1.2 (a0.length : Int) then ((idx a0 s1.2).bind fun x6 => ((gget s1.1 false x6.Target).bind fun x10 => bif x10 then (some true) else ((names_Check.f k x6.Target).bind fun v13 => bif icmp .neq v13 (0 : Int) then (some true) else ((load_named.f k x6.Needs (64 : Int)).bind fun v16 => bif !v16 then (some true) else ((load_once.f k x6.Needs).bind fun v19 => bif !v19 then (some true) else ((load_recipe.f k x6.Recipe x6.Has).bind fun v22 => some (!v22)))))).bind fun s8 => bif s8 then (some (Except.error false)) else ((gput s1.1 x6.Target true).bind fun x25 => load_rules.l0 a0 k (x25, IntKind.i64.wrap (s1.2 + (1 : Int))))) else (some (Except.ok ()))
def load_rules.f (k : Nat) (a0 : List Rule) : Option Bool := (load_rules.l0 a0 k ((gempty : GM Bool), (0 : Int))).bind fun o4 => match o4 with | .error r' => some r' | .ok s2 => (some (icmp .leq (a0.length : Int) (512 : Int)))
set_option maxRecDepth 100000 in
set_option maxHeartbeats 4000000 in
theorem load_rules.con (k : Nat) (a0 : List Rule) (r : Bool) (H : load_rules.f k a0 = some r) : Con Try.prog 46 [VA.k (kslice kRule) a0] [VA.k kbool r] := by
  unfold load_rules.f at H
  refine con_enter Try.func46 rfl rfl rfl (fun w0 S0 θ => ?_)
  refine goes_seq ?_
  refine goes_region ?_
  refine go1 (op_assign rfl (.bool _)) rfl ?_
  refine goesO_nil ?_
  refine ends_then ?_
  refine goes_seq ?_
  refine goes_region ?_
  refine go3 (op_makeMap 9 kbool 6 rfl) rfl ?_
  refine go1 (op_assignA rfl plain_mp (.t (has rfl))) rfl ?_
  refine goesO_nil ?_
  refine ends_then ?_
  refine goes_seq ?_
  refine goes_seq ?_
  refine goes_region ?_
  refine go1 (op_move rfl (.t (has rfl))) rfl ?_
  refine go1 (op_len rfl rfl Try.underlying23 (.t (has rfl))) rfl ?_
  refine go1 (op_move rfl (.int _ _)) rfl ?_
  refine goesO_nil ?_
  refine ends_then ?_
  obtain ⟨o4, h3, H⟩ := bind_some H
  refine goes_cutR (o := o4) (fun s2 : Unit => [Ent.t 0 (VA.k (kslice kRule) a0)]) (fun r a w => bodyPost Try.prog Try.f46 (CPost w0 S0 θ [VA.k kbool r]) .ret a w) ?_ ?_ ?_
  · replace H := h3; clear h3
    refine goes_block ?_
    refine goes_loop (fun s1 : (GM Bool) × Int => [Ent.t 0 (VA.k (kslice kRule) a0), Ent.t 3 (VA.mp false 6), Ent.t 7 (VA.k (kslice kRule) a0), Ent.t 8 (VA.k (kint .i64) (a0.length : Int)), Ent.t 9 (VA.k (kint .i64) s1.2), Ent.h 6 (HE.map Try.prog 9 kbool s1.1)]) (fun k s1 => load_rules.l0 a0 k s1) (fun _ => rfl) H (.cons rfl (.cons rfl (.cons rfl (.cons rfl (.cons rfl (.cons rfl .nil)))))) ?_
    intro k s1 H
    simp only [load_rules.l0] at H
    refine goes_seq ?_
    refine goes_region ?_
    refine go1 (op_icmp rfl rfl (.t (has rfl)) (.t (has rfl))) rfl ?_
    refine goesO_nil ?_
    refine ends_then ?_
    refine goes_seq ?_
    refine goes_if (.t (has rfl)) H (fun hb5 H => ?_) (fun hb5 H => ?_)
    · skip
      refine goes_skip ?_
      refine ends_then ?_
      refine goes_seq ?_
      refine goes_block ?_
      refine goes_seq ?_
      refine goes_region ?_
      obtain ⟨x6, h7, H⟩ := bind_some H
      refine go1 (op_indexAddr rfl Try.underlying23 tk52 h7 (.t (has rfl)) (.t (has rfl))) rfl ?_
      refine go1 (op_loadp rfl tk52 (.t (has rfl))) rfl ?_
      refine go3 (op_alloc 5 rfl zk52) rfl ?_
      refine go1 (op_store (Fld.whole kRule) tk52 (.t (has rfl)) (has rfl) (.t (has rfl))) rfl ?_
      refine goesO_nil ?_
      refine ends_then ?_
      refine goes_seq ?_
      refine goes_seq ?_
      obtain ⟨s8, h9, H⟩ := bind_some H
      refine goes_cut [Ent.t 0 (VA.k (kslice kRule) a0), Ent.t 3 (VA.mp false 6), Ent.t 5 (VA.ptr 5 0), Ent.t 7 (VA.k (kslice kRule) a0), Ent.t 8 (VA.k (kint .i64) (a0.length : Int)), Ent.t 9 (VA.k (kint .i64) s1.2), Ent.t 42 (VA.k kbool s8), Ent.h 5 (HE.box 52 kRule x6), Ent.h 6 (HE.map Try.prog 9 kbool s1.1)] ?_ ?_
      · replace H := h9; clear h9
        refine goes_region ?_
        refine go1 (op_moveA rfl plain_mp (.t (has rfl))) rfl ?_
        refine go1 (op_fieldAddr rfl Try.underlying52 rfl tk9 (.t (has rfl))) rfl ?_
        refine go1 (op_load rfl fldRule_Target tk9 (.t (has rfl)) (has rfl)) rfl ?_
        obtain ⟨x10, h11, H⟩ := bind_some H
        refine go1 (op_lookup rfl xmt100 h11 (.t (has rfl)) (has rfl) (.t (has rfl))) rfl ?_
        refine go1 (op_move rfl (.t (has rfl))) rfl ?_
        refine goesO_split H (fun hb12 H => ?_) (fun hb12 H => ?_)
        · skip
          refine goS rfl rfl rfl rfl rfl rfl hb12 ?_
          refine goS rfl rfl rfl rfl rfl rfl hb12 ?_
          refine goS rfl rfl rfl rfl rfl rfl hb12 ?_
          refine goS rfl rfl rfl rfl rfl rfl hb12 ?_
          refine go1 (op_pick_t rfl hb12 (.t (has rfl)) (.bool _)) rfl ?_
          refine go1 (op_move rfl (.t (has rfl))) rfl ?_
          refine goS rfl rfl rfl rfl rfl rfl rfl ?_
          refine goS rfl rfl rfl rfl rfl rfl rfl ?_
          refine goS rfl rfl rfl rfl rfl rfl rfl ?_
          refine goS rfl rfl rfl rfl rfl rfl rfl ?_
          refine go1 (op_pick_t rfl rfl (.t (has rfl)) (.bool _)) rfl ?_
          refine go1 (op_move rfl (.t (has rfl))) rfl ?_
          refine goS rfl rfl rfl rfl rfl rfl rfl ?_
          refine goS rfl rfl rfl rfl rfl rfl rfl ?_
          refine goS rfl rfl rfl rfl rfl rfl rfl ?_
          refine goS rfl rfl rfl rfl rfl rfl rfl ?_
          refine go1 (op_pick_t rfl rfl (.t (has rfl)) (.bool _)) rfl ?_
          refine go1 (op_move rfl (.t (has rfl))) rfl ?_
          refine goS rfl rfl rfl rfl rfl rfl rfl ?_
          refine goS rfl rfl rfl rfl rfl rfl rfl ?_
          refine goS rfl rfl rfl rfl rfl rfl rfl ?_
          refine goS rfl rfl rfl rfl rfl rfl rfl ?_
          refine goS rfl rfl rfl rfl rfl rfl rfl ?_
          refine goS rfl rfl rfl rfl rfl rfl rfl ?_
          refine go1 (op_pick_t rfl rfl (.t (has rfl)) (.bool _)) rfl ?_
          refine goesO_nil ?_
          obtain rfl := Option.some.inj H
          exact ends_cut (.cons rfl (.cons rfl (.cons rfl (.cons rfl (.cons rfl (.cons rfl (.cons rfl (.cons rfl (.cons rfl .nil)))))))))
        · skip
          refine goG (op_fieldAddr rfl Try.underlying52 rfl tk9 (.t (has rfl))) rfl rfl rfl rfl hb12 ?_
          refine goG (op_load rfl fldRule_Target tk9 (.t (has rfl)) (has rfl)) rfl rfl rfl rfl hb12 ?_
          obtain ⟨v13, h14, H⟩ := bind_some H
          refine goG (op_call' rfl enters35 (names_Check.con _ _ _ h14) rfl (.cons (ArgP.k (.t (has rfl))) .nil)) rfl rfl rfl rfl hb12 ?_
          refine goG (op_icmp rfl rfl (.t (has rfl)) (.int _ _)) rfl rfl rfl rfl hb12 ?_
          refine go1 (op_pick_f rfl hb12 (.t (has rfl)) (.t (has rfl))) rfl ?_
          refine go1 (op_move rfl (.t (has rfl))) rfl ?_
          refine goesO_split H (fun hb15 H => ?_) (fun hb15 H => ?_)
          · skip
            refine goS rfl rfl rfl rfl rfl rfl hb15 ?_
            refine goS rfl rfl rfl rfl rfl rfl hb15 ?_
            refine goS rfl rfl rfl rfl rfl rfl hb15 ?_
            refine goS rfl rfl rfl rfl rfl rfl hb15 ?_
            refine go1 (op_pick_t rfl hb15 (.t (has rfl)) (.bool _)) rfl ?_
            refine go1 (op_move rfl (.t (has rfl))) rfl ?_
            refine goS rfl rfl rfl rfl rfl rfl rfl ?_
            refine goS rfl rfl rfl rfl rfl rfl rfl ?_
            refine goS rfl rfl rfl rfl rfl rfl rfl ?_
            refine goS rfl rfl rfl rfl rfl rfl rfl ?_
            refine go1 (op_pick_t rfl rfl (.t (has rfl)) (.bool _)) rfl ?_
            refine go1 (op_move rfl (.t (has rfl))) rfl ?_
            refine goS rfl rfl rfl rfl rfl rfl rfl ?_
            refine goS rfl rfl rfl rfl rfl rfl rfl ?_
            refine goS rfl rfl rfl rfl rfl rfl rfl ?_
            refine goS rfl rfl rfl rfl rfl rfl rfl ?_
            refine goS rfl rfl rfl rfl rfl rfl rfl ?_
            refine goS rfl rfl rfl rfl rfl rfl rfl ?_
            refine go1 (op_pick_t rfl rfl (.t (has rfl)) (.bool _)) rfl ?_
            refine goesO_nil ?_
            obtain rfl := Option.some.inj H
            exact ends_cut (.cons rfl (.cons rfl (.cons rfl (.cons rfl (.cons rfl (.cons rfl (.cons rfl (.cons rfl (.cons rfl .nil)))))))))
          · skip
            refine goG (op_fieldAddr rfl Try.underlying52 rfl tk25 (.t (has rfl))) rfl rfl rfl rfl hb15 ?_
            refine goG (op_load rfl fldRule_Needs tk25 (.t (has rfl)) (has rfl)) rfl rfl rfl rfl hb15 ?_
            obtain ⟨v16, h17, H⟩ := bind_some H
            refine goG (op_call' rfl enters66 (load_named.con _ _ _ _ h17) rfl (.cons (ArgP.k (.t (has rfl))) (.cons (ArgP.k (.int _ _)) .nil))) rfl rfl rfl rfl hb15 ?_
            refine goG (op_not rfl (.t (has rfl))) rfl rfl rfl rfl hb15 ?_
            refine go1 (op_pick_f rfl hb15 (.t (has rfl)) (.t (has rfl))) rfl ?_
            refine go1 (op_move rfl (.t (has rfl))) rfl ?_
            refine goesO_split H (fun hb18 H => ?_) (fun hb18 H => ?_)
            · skip
              refine goS rfl rfl rfl rfl rfl rfl hb18 ?_
              refine goS rfl rfl rfl rfl rfl rfl hb18 ?_
              refine goS rfl rfl rfl rfl rfl rfl hb18 ?_
              refine goS rfl rfl rfl rfl rfl rfl hb18 ?_
              refine go1 (op_pick_t rfl hb18 (.t (has rfl)) (.bool _)) rfl ?_
              refine go1 (op_move rfl (.t (has rfl))) rfl ?_
              refine goS rfl rfl rfl rfl rfl rfl rfl ?_
              refine goS rfl rfl rfl rfl rfl rfl rfl ?_
              refine goS rfl rfl rfl rfl rfl rfl rfl ?_
              refine goS rfl rfl rfl rfl rfl rfl rfl ?_
              refine goS rfl rfl rfl rfl rfl rfl rfl ?_
              refine goS rfl rfl rfl rfl rfl rfl rfl ?_
              refine go1 (op_pick_t rfl rfl (.t (has rfl)) (.bool _)) rfl ?_
              refine goesO_nil ?_
              obtain rfl := Option.some.inj H
              exact ends_cut (.cons rfl (.cons rfl (.cons rfl (.cons rfl (.cons rfl (.cons rfl (.cons rfl (.cons rfl (.cons rfl .nil)))))))))
            · skip
              refine goG (op_fieldAddr rfl Try.underlying52 rfl tk25 (.t (has rfl))) rfl rfl rfl rfl hb18 ?_
              refine goG (op_load rfl fldRule_Needs tk25 (.t (has rfl)) (has rfl)) rfl rfl rfl rfl hb18 ?_
              obtain ⟨v19, h20, H⟩ := bind_some H
              refine goG (op_call' rfl enters67 (load_once.con _ _ _ h20) rfl (.cons (ArgP.k (.t (has rfl))) .nil)) rfl rfl rfl rfl hb18 ?_
              refine goG (op_not rfl (.t (has rfl))) rfl rfl rfl rfl hb18 ?_
              refine go1 (op_pick_f rfl hb18 (.t (has rfl)) (.t (has rfl))) rfl ?_
              refine go1 (op_move rfl (.t (has rfl))) rfl ?_
              refine goesO_split H (fun hb21 H => ?_) (fun hb21 H => ?_)
              · skip
                refine goS rfl rfl rfl rfl rfl rfl hb21 ?_
                refine goS rfl rfl rfl rfl rfl rfl hb21 ?_
                refine goS rfl rfl rfl rfl rfl rfl hb21 ?_
                refine goS rfl rfl rfl rfl rfl rfl hb21 ?_
                refine goS rfl rfl rfl rfl rfl rfl hb21 ?_
                refine goS rfl rfl rfl rfl rfl rfl hb21 ?_
                refine go1 (op_pick_t rfl hb21 (.t (has rfl)) (.bool _)) rfl ?_
                refine goesO_nil ?_
                obtain rfl := Option.some.inj H
                exact ends_cut (.cons rfl (.cons rfl (.cons rfl (.cons rfl (.cons rfl (.cons rfl (.cons rfl (.cons rfl (.cons rfl .nil)))))))))
              · skip
                refine goG (op_fieldAddr rfl Try.underlying52 rfl tk25 (.t (has rfl))) rfl rfl rfl rfl hb21 ?_
                refine goG (op_load rfl fldRule_Recipe tk25 (.t (has rfl)) (has rfl)) rfl rfl rfl rfl hb21 ?_
                refine goG (op_fieldAddr rfl Try.underlying52 rfl tk4 (.t (has rfl))) rfl rfl rfl rfl hb21 ?_
                refine goG (op_load rfl fldRule_Has tk4 (.t (has rfl)) (has rfl)) rfl rfl rfl rfl hb21 ?_
                obtain ⟨v22, h23, H⟩ := bind_some H
                refine goG (op_call' rfl enters68 (load_recipe.con _ _ _ _ h23) rfl (.cons (ArgP.k (.t (has rfl))) (.cons (ArgP.k (.t (has rfl))) .nil))) rfl rfl rfl rfl hb21 ?_
                refine goG (op_not rfl (.t (has rfl))) rfl rfl rfl rfl hb21 ?_
                refine go1 (op_pick_f rfl hb21 (.t (has rfl)) (.t (has rfl))) rfl ?_
                refine goesO_nil ?_
                obtain rfl := Option.some.inj H
                exact ends_cut (.cons rfl (.cons rfl (.cons rfl (.cons rfl (.cons rfl (.cons rfl (.cons rfl (.cons rfl (.cons rfl .nil)))))))))
      refine ends_then ?_
      refine goes_if (.t (has rfl)) H (fun hb24 H => ?_) (fun hb24 H => ?_)
      · skip
        refine goes_seq ?_
        refine goes_region ?_
        refine go1 (op_assign rfl (.bool _)) rfl ?_
        refine goesO_nil ?_
        refine ends_then ?_
        obtain rfl := Option.some.inj H
        refine goes_ret (ends_then_ret (ends_block_ret (ends_then_ret (ends_then_ret (ends_block_ret (ends_cutR_ret rfl ?_))))))
        exact ends_ret' rfl rfl (.t rfl (.nil _))
      · skip
        refine goes_skip ?_
        refine ends_then ?_
        refine goes_region ?_
        refine go1 (op_moveA rfl plain_mp (.t (has rfl))) rfl ?_
        refine go1 (op_fieldAddr rfl Try.underlying52 rfl tk9 (.t (has rfl))) rfl ?_
        refine go1 (op_load rfl fldRule_Target tk9 (.t (has rfl)) (has rfl)) rfl ?_
        obtain ⟨x25, h26, H⟩ := bind_some H
        refine go1 (op_mapUpdate xmt100 h26 (.t (has rfl)) (has rfl) (.t (has rfl)) (.bool _)) rfl ?_
        refine goesO_nil ?_
        refine ends_block ?_
        refine ends_then ?_
        refine goes_region ?_
        refine go1 (op_add rfl (.t (has rfl)) (.int _ _)) rfl ?_
        refine go1 (op_move rfl (.t (has rfl))) rfl ?_
        refine goesO_nil ?_
        exact loop_next _ H (.cons rfl (.cons rfl (.cons rfl (.cons rfl (.cons rfl (.cons rfl .nil))))))
    · skip
      refine goes_exit (ends_then_exit (ends_then_exit (ends_block_exit ?_)))
      obtain rfl := Option.some.inj H
      exact ends_cutR rfl (.cons rfl .nil)
  · rintro s2 rfl
    clear h3
    dsimp only at H
    refine ends_then ?_
    refine goes_seq ?_
    refine goes_region ?_
    refine go1 (op_move rfl (.t (has rfl))) rfl ?_
    refine go1 (op_len rfl rfl Try.underlying23 (.t (has rfl))) rfl ?_
    refine go1 (op_icmp rfl rfl (.t (has rfl)) (.int _ _)) rfl ?_
    refine go1 (op_assign rfl (.t (has rfl))) rfl ?_
    refine goesO_nil ?_
    refine ends_then ?_
    obtain rfl := Option.some.inj H
    exact goes_ret (ends_ret' rfl rfl (.t rfl (.nil _)))
  · rintro r' rfl a w hr
    obtain rfl := Option.some.inj H
    exact hr
/-! strings.ContainsAny -/
def strings_ContainsAny.f (a0 : ByteArray) (a1 : ByteArray) : Option Bool := bif (asciiB a0 && asciiB a1) && (Nat.blt a0.size 4294967281 && Nat.blt a1.size 4294967281) then some (Lib.containsAny a0.data.toList a1.data.toList) else none
theorem strings_ContainsAny.con (a0 : ByteArray) (a1 : ByteArray) (r : Bool) (H : strings_ContainsAny.f a0 a1 = some r) : Con Try.prog 84 [VA.k kstr a0, VA.k kstr a1] [VA.k kbool r] := by
  unfold strings_ContainsAny.f at H
  cases hb : (asciiB a0 && asciiB a1) && (Nat.blt a0.size 4294967281 && Nat.blt a1.size 4294967281) with
  | false => rw [hb] at H; cases H
  | true =>
    rw [hb, cond_true] at H
    obtain rfl := Option.some.inj H
    simp only [Bool.and_eq_true] at hb
    refine con_below (bool_free _) fun θ S w vs h => ?_
    match vs, h with
    | [v0, v1], h =>
      obtain ⟨h0, h1, _⟩ := h
      obtain rfl := arg_str h0
      obtain rfl := arg_str h1
      exact ⟨_, Try.strings_ContainsAny_laid a0 a1 w (blt_lt hb.2.1) (blt_lt hb.2.2) (asciiB_spec hb.1.1) (asciiB_spec hb.1.2), va_bool _⟩
/-! smithy/special.Suffix -/
def special_Suffix.f (k : Nat) (a0 : ByteArray) : Option Bool := ((names_Check.f k a0).bind fun v3 => bif icmp .eql v3 (0 : Int) then (bif icmp .gtr (a0.size : Int) (1 : Int) then ((bidx a0 (0 : Int)).bind fun x7 => bif icmp .eql x7 (46 : Int) then ((ssub a0 (1 : Int) (a0.size : Int)).bind fun x10 => (strings_ContainsAny.f x10 (⟨#[46, 47]⟩ : ByteArray)).bind fun v12 => some (!v12)) else (some false)) else (some false)) else (some false)).bind fun s1 => some s1
set_option maxRecDepth 100000 in
set_option maxHeartbeats 4000000 in
theorem special_Suffix.con (k : Nat) (a0 : ByteArray) (r : Bool) (H : special_Suffix.f k a0 = some r) : Con Try.prog 69 [VA.k kstr a0] [VA.k kbool r] := by
  unfold special_Suffix.f at H
  refine con_enter Try.func69 rfl rfl rfl (fun w0 S0 θ => ?_)
  refine goes_seq ?_
  refine goes_region ?_
  refine go1 (op_assign rfl (.bool _)) rfl ?_
  refine goesO_nil ?_
  refine ends_then ?_
  refine goes_seq ?_
  obtain ⟨s1, h2, H⟩ := bind_some H
  refine goes_cut [Ent.t 2 (VA.k kbool s1)] ?_ ?_
  · replace H := h2; clear h2
    refine goes_region ?_
    refine go1 (op_move rfl (.t (has rfl))) rfl ?_
    obtain ⟨v3, h4, H⟩ := bind_some H
    refine go1 (op_call' rfl enters35 (names_Check.con _ _ _ h4) rfl (.cons (ArgP.k (.t (has rfl))) .nil)) rfl ?_
    refine go1 (op_icmp rfl rfl (.t (has rfl)) (.int _ _)) rfl ?_
    refine go1 (op_move rfl (.t (has rfl))) rfl ?_
    refine goesO_split H (fun hb5 H => ?_) (fun hb5 H => ?_)
    · skip
      refine goG (op_move rfl (.t (has rfl))) rfl rfl rfl rfl hb5 ?_
      refine goG (op_len_str rfl rfl Try.underlying9 (.t (has rfl))) rfl rfl rfl rfl hb5 ?_
      refine goG (op_icmp rfl rfl (.t (has rfl)) (.int _ _)) rfl rfl rfl rfl hb5 ?_
      refine go1 (op_pick_t rfl hb5 (.t (has rfl)) (.t (has rfl))) rfl ?_
      refine go1 (op_move rfl (.t (has rfl))) rfl ?_
      refine goesO_split H (fun hb6 H => ?_) (fun hb6 H => ?_)
      · skip
        refine goG (op_move rfl (.t (has rfl))) rfl rfl rfl rfl hb6 ?_
        obtain ⟨x7, h8, H⟩ := bind_some H
        refine goG (op_index_str rfl Try.underlying9 h8 (.t (has rfl)) (.int _ _)) rfl rfl rfl rfl hb6 ?_
        refine goG (op_icmp rfl rfl (.t (has rfl)) (.int _ _)) rfl rfl rfl rfl hb6 ?_
        refine go1 (op_pick_t rfl hb6 (.t (has rfl)) (.t (has rfl))) rfl ?_
        refine go1 (op_move rfl (.t (has rfl))) rfl ?_
        refine goesO_split H (fun hb9 H => ?_) (fun hb9 H => ?_)
        · skip
          refine goG (op_move rfl (.t (has rfl))) rfl rfl rfl rfl hb9 ?_
          obtain ⟨x10, h11, H⟩ := bind_some H
          refine goG (op_slice_str (l := some _) (h := none) rfl Try.underlying9 h11 (.t (has rfl)) (.int _ _) trivial) rfl rfl rfl rfl hb9 ?_
          obtain ⟨v12, h13, H⟩ := bind_some H
          refine goG (op_call' rfl enters84 (strings_ContainsAny.con _ _ _ h13) rfl (.cons (ArgP.k (.t (has rfl))) (.cons (ArgP.k (.str _)) .nil))) rfl rfl rfl rfl hb9 ?_
          refine goG (op_not rfl (.t (has rfl))) rfl rfl rfl rfl hb9 ?_
          refine go1 (op_pick_t rfl hb9 (.t (has rfl)) (.t (has rfl))) rfl ?_
          refine go1 (op_assign rfl (.t (has rfl))) rfl ?_
          refine goesO_nil ?_
          obtain rfl := Option.some.inj H
          exact ends_cut (.cons rfl .nil)
        · skip
          refine goS rfl rfl rfl rfl rfl rfl hb9 ?_
          refine goS rfl rfl rfl rfl rfl rfl hb9 ?_
          refine goS rfl rfl rfl rfl rfl rfl hb9 ?_
          refine goS rfl rfl rfl rfl rfl rfl hb9 ?_
          refine go1 (op_pick_f rfl hb9 (.t (has rfl)) (.bool _)) rfl ?_
          refine go1 (op_assign rfl (.t (has rfl))) rfl ?_
          refine goesO_nil ?_
          obtain rfl := Option.some.inj H
          exact ends_cut (.cons rfl .nil)
      · skip
        refine goS rfl rfl rfl rfl rfl rfl hb6 ?_
        refine goS rfl rfl rfl rfl rfl rfl hb6 ?_
        refine goS rfl rfl rfl rfl rfl rfl hb6 ?_
        refine go1 (op_pick_f rfl hb6 (.t (has rfl)) (.bool _)) rfl ?_
        refine go1 (op_move rfl (.t (has rfl))) rfl ?_
        refine goS rfl rfl rfl rfl rfl rfl rfl ?_
        refine goS rfl rfl rfl rfl rfl rfl rfl ?_
        refine goS rfl rfl rfl rfl rfl rfl rfl ?_
        refine goS rfl rfl rfl rfl rfl rfl rfl ?_
        refine go1 (op_pick_f rfl rfl (.t (has rfl)) (.bool _)) rfl ?_
        refine go1 (op_assign rfl (.t (has rfl))) rfl ?_
        refine goesO_nil ?_
        obtain rfl := Option.some.inj H
        exact ends_cut (.cons rfl .nil)
    · skip
      refine goS rfl rfl rfl rfl rfl rfl hb5 ?_
      refine goS rfl rfl rfl rfl rfl rfl hb5 ?_
      refine goS rfl rfl rfl rfl rfl rfl hb5 ?_
      refine go1 (op_pick_f rfl hb5 (.t (has rfl)) (.bool _)) rfl ?_
      refine go1 (op_move rfl (.t (has rfl))) rfl ?_
      refine goS rfl rfl rfl rfl rfl rfl rfl ?_
      refine goS rfl rfl rfl rfl rfl rfl rfl ?_
      refine goS rfl rfl rfl rfl rfl rfl rfl ?_
      refine go1 (op_pick_f rfl rfl (.t (has rfl)) (.bool _)) rfl ?_
      refine go1 (op_move rfl (.t (has rfl))) rfl ?_
      refine goS rfl rfl rfl rfl rfl rfl rfl ?_
      refine goS rfl rfl rfl rfl rfl rfl rfl ?_
      refine goS rfl rfl rfl rfl rfl rfl rfl ?_
      refine goS rfl rfl rfl rfl rfl rfl rfl ?_
      refine go1 (op_pick_f rfl rfl (.t (has rfl)) (.bool _)) rfl ?_
      refine go1 (op_assign rfl (.t (has rfl))) rfl ?_
      refine goesO_nil ?_
      obtain rfl := Option.some.inj H
      exact ends_cut (.cons rfl .nil)
  refine ends_then ?_
  obtain rfl := Option.some.inj H
  exact goes_ret (ends_ret' rfl rfl (.t rfl (.nil _)))
/-! cmp.isNaN[string] -/
def cmp_isNaN_string.f (a0 : ByteArray) : Option Bool := some (scmp .neq a0 a0)
set_option maxRecDepth 100000 in
set_option maxHeartbeats 4000000 in
theorem cmp_isNaN_string.con (a0 : ByteArray) (r : Bool) (H : cmp_isNaN_string.f a0 = some r) : Con Try.prog 63 [VA.k kstr a0] [VA.k kbool r] := by
  unfold cmp_isNaN_string.f at H
  refine con_enter Try.func63 rfl rfl rfl (fun w0 S0 θ => ?_)
  refine goes_seq ?_
  refine goes_region ?_
  refine go1 (op_assign rfl (.bool _)) rfl ?_
  refine goesO_nil ?_
  refine ends_then ?_
  refine goes_seq ?_
  refine goes_region ?_
  refine go1 (op_move rfl (.t (has rfl))) rfl ?_
  refine go1 (op_move rfl (.t (has rfl))) rfl ?_
  refine go1 (op_scmp rfl rfl (.t (has rfl)) (.t (has rfl))) rfl ?_
  refine go1 (op_assign rfl (.t (has rfl))) rfl ?_
  refine goesO_nil ?_
  refine ends_then ?_
  obtain rfl := Option.some.inj H
  exact goes_ret (ends_ret' rfl rfl (.t rfl (.nil _)))
/-! cmp.Less[string] -/
def cmp_Less_string.f (a0 : ByteArray) (a1 : ByteArray) : Option Bool := ((cmp_isNaN_string.f a0).bind fun v3 => bif v3 then ((cmp_isNaN_string.f a1).bind fun v6 => bif !v6 then (some true) else (some (scmp .lss a0 a1))) else (some (scmp .lss a0 a1))).bind fun s1 => some s1
set_option maxRecDepth 100000 in
set_option maxHeartbeats 4000000 in
theorem cmp_Less_string.con (a0 : ByteArray) (a1 : ByteArray) (r : Bool) (H : cmp_Less_string.f a0 a1 = some r) : Con Try.prog 42 [VA.k kstr a0, VA.k kstr a1] [VA.k kbool r] := by
  unfold cmp_Less_string.f at H
  refine con_enter Try.func42 rfl rfl rfl (fun w0 S0 θ => ?_)
  refine goes_seq ?_
  refine goes_region ?_
  refine go1 (op_assign rfl (.bool _)) rfl ?_
  refine goesO_nil ?_
  refine ends_then ?_
  refine goes_seq ?_
  obtain ⟨s1, h2, H⟩ := bind_some H
  refine goes_cut [Ent.t 4 (VA.k kbool s1)] ?_ ?_
  · replace H := h2; clear h2
    refine goes_region ?_
    refine go1 (op_move rfl (.t (has rfl))) rfl ?_
    obtain ⟨v3, h4, H⟩ := bind_some H
    refine go1 (op_call' rfl enters63 (cmp_isNaN_string.con _ _ h4) rfl (.cons (ArgP.k (.t (has rfl))) .nil)) rfl ?_
    refine go1 (op_move rfl (.t (has rfl))) rfl ?_
    refine goesO_split H (fun hb5 H => ?_) (fun hb5 H => ?_)
    · skip
      refine goG (op_move rfl (.t (has rfl))) rfl rfl rfl rfl hb5 ?_
      obtain ⟨v6, h7, H⟩ := bind_some H
      refine goG (op_call' rfl enters63 (cmp_isNaN_string.con _ _ h7) rfl (.cons (ArgP.k (.t (has rfl))) .nil)) rfl rfl rfl rfl hb5 ?_
      refine goG (op_not rfl (.t (has rfl))) rfl rfl rfl rfl hb5 ?_
      refine go1 (op_pick_t rfl hb5 (.t (has rfl)) (.t (has rfl))) rfl ?_
      refine go1 (op_move rfl (.t (has rfl))) rfl ?_
      refine goesO_split H (fun hb8 H => ?_) (fun hb8 H => ?_)
      · skip
        refine goS rfl rfl rfl rfl rfl rfl hb8 ?_
        refine goS rfl rfl rfl rfl rfl rfl hb8 ?_
        refine goS rfl rfl rfl rfl rfl rfl hb8 ?_
        refine go1 (op_pick_t rfl hb8 (.t (has rfl)) (.bool _)) rfl ?_
        refine go1 (op_assign rfl (.t (has rfl))) rfl ?_
        refine goesO_nil ?_
        obtain rfl := Option.some.inj H
        exact ends_cut (.cons rfl .nil)
      · skip
        refine goG (op_move rfl (.t (has rfl))) rfl rfl rfl rfl hb8 ?_
        refine goG (op_move rfl (.t (has rfl))) rfl rfl rfl rfl hb8 ?_
        refine goG (op_scmp rfl rfl (.t (has rfl)) (.t (has rfl))) rfl rfl rfl rfl hb8 ?_
        refine go1 (op_pick_f rfl hb8 (.t (has rfl)) (.t (has rfl))) rfl ?_
        refine go1 (op_assign rfl (.t (has rfl))) rfl ?_
        refine goesO_nil ?_
        obtain rfl := Option.some.inj H
        exact ends_cut (.cons rfl .nil)
    · skip
      refine goS rfl rfl rfl rfl rfl rfl hb5 ?_
      refine goS rfl rfl rfl rfl rfl rfl hb5 ?_
      refine goS rfl rfl rfl rfl rfl rfl hb5 ?_
      refine go1 (op_pick_f rfl hb5 (.t (has rfl)) (.bool _)) rfl ?_
      refine go1 (op_move rfl (.t (has rfl))) rfl ?_
      refine goG (op_move rfl (.t (has rfl))) rfl rfl rfl rfl rfl ?_
      refine goG (op_move rfl (.t (has rfl))) rfl rfl rfl rfl rfl ?_
      refine goG (op_scmp rfl rfl (.t (has rfl)) (.t (has rfl))) rfl rfl rfl rfl rfl ?_
      refine go1 (op_pick_f rfl rfl (.t (has rfl)) (.t (has rfl))) rfl ?_
      refine go1 (op_assign rfl (.t (has rfl))) rfl ?_
      refine goesO_nil ?_
      obtain rfl := Option.some.inj H
      exact ends_cut (.cons rfl .nil)
  refine ends_then ?_
  obtain rfl := Option.some.inj H
  exact goes_ret (ends_ret' rfl rfl (.t rfl (.nil _)))
/-! slices.IsSorted[[]string,string] -/
def slices_IsSorted_string_string.l0 (a0 : List ByteArray) : Nat → Int → Option (Except Bool Unit)
  | 0, _ => none
  | k + 1, s1 => bif icmp .gtr s1 (0 : Int) then ((idx a0 s1).bind fun x6 => (idx a0 (IntKind.i64.wrap (s1 - (1 : Int)))).bind fun x8 => (cmp_Less_string.f x6 x8).bind fun v10 => bif v10 then (some (Except.error false)) else (slices_IsSorted_string_string.l0 a0 k (IntKind.i64.wrap (s1 - (1 : Int))))) else (some (Except.ok ()))
def slices_IsSorted_string_string.f (k : Nat) (a0 : List ByteArray) : Option Bool := (slices_IsSorted_string_string.l0 a0 k (IntKind.i64.wrap ((a0.length : Int) - (1 : Int)))).bind fun o4 => match o4 with | .error r' => some r' | .ok s2 => (some true)
set_option maxRecDepth 100000 in
set_option maxHeartbeats 4000000 in
theorem slices_IsSorted_string_string.con (k : Nat) (a0 : List ByteArray) (r : Bool) (H : slices_IsSorted_string_string.f k a0 = some r) : Con Try.prog 85 [VA.k (kslice kstr) a0] [VA.k kbool r] := by
  unfold slices_IsSorted_string_string.f at H
  refine con_enter Try.func85 rfl rfl rfl (fun w0 S0 θ => ?_)
  refine goes_seq ?_
  refine goes_region ?_
  refine go1 (op_assign rfl (.bool _)) rfl ?_
  refine goesO_nil ?_
  refine ends_then ?_
  refine goes_seq ?_
  refine goes_seq ?_
  refine goes_region ?_
  refine go1 (op_move rfl (.t (has rfl))) rfl ?_
  refine go1 (op_len rfl rfl Try.underlying25 (.t (has rfl))) rfl ?_
  refine go1 (op_sub rfl (.t (has rfl)) (.int _ _)) rfl ?_
  refine go1 (op_assign rfl (.t (has rfl))) rfl ?_
  refine goesO_nil ?_
  refine ends_then ?_
  obtain ⟨o4, h3, H⟩ := bind_some H
  refine goes_cutR (o := o4) (fun s2 : Unit => []) (fun r a w => bodyPost Try.prog Try.f85 (CPost w0 S0 θ [VA.k kbool r]) .ret a w) ?_ ?_ ?_
  · replace H := h3; clear h3
    refine goes_block ?_
    refine goes_loop (fun s1 : Int => [Ent.t 0 (VA.k (kslice kstr) a0), Ent.t 3 (VA.k (kint .i64) s1)]) (fun k s1 => slices_IsSorted_string_string.l0 a0 k s1) (fun _ => rfl) H (.cons rfl (.cons rfl .nil)) ?_
    intro k s1 H
    simp only [slices_IsSorted_string_string.l0] at H
    refine goes_seq ?_
    refine goes_seq ?_
    refine goes_region ?_
    refine go1 (op_move rfl (.t (has rfl))) rfl ?_
    refine go1 (op_icmp rfl rfl (.t (has rfl)) (.int _ _)) rfl ?_
    refine goesO_nil ?_
    refine ends_then ?_
    refine goes_if (.t (has rfl)) H (fun hb5 H => ?_) (fun hb5 H => ?_)
    · skip
      refine goes_skip ?_
      refine ends_then ?_
      refine goes_seq ?_
      refine goes_block ?_
      refine goes_seq ?_
      obtain ⟨x6, h7, H⟩ := bind_some H
      obtain ⟨x8, h9, H⟩ := bind_some H
      obtain ⟨v10, h11, H⟩ := bind_some H
      refine goes_drawn [[Ent.t 11 (VA.k (kslice kstr) a0)], [Ent.t 12 (VA.k (kint .i64) s1)], [Ent.t 13 (VA.pt kstr x6)], [Ent.t 14 (VA.k kstr x6)], [Ent.t 15 (VA.k (kslice kstr) a0)], [Ent.t 16 (VA.k (kint .i64) s1)], [Ent.t 17 (VA.k (kint .i64) (IntKind.i64.wrap (s1 - (1 : Int))))], [Ent.t 18 (VA.pt kstr x8)], [Ent.t 19 (VA.k kstr x8)], [Ent.t 20 (VA.k kbool v10)]] mixed (by kernel_rfl) (by kernel_rfl) (.cons [(none, Ent.t 0 (VA.k (kslice kstr) a0))] (OpSpec.run rfl rfl (op_move rfl (.t NL.h0)) rfl) (.cons (has rfl) .nil) (by kernel_rfl) (.cons [(none, Ent.t 3 (VA.k (kint .i64) s1))] (OpSpec.run rfl rfl (op_move rfl (.t NL.h0)) rfl) (.cons (has rfl) .nil) (by kernel_rfl) (.cons [(some 0, Ent.t 11 (VA.k (kslice kstr) a0)), (some 1, Ent.t 12 (VA.k (kint .i64) s1))] (OpSpec.run rfl rfl (op_indexAddr rfl Try.underlying25 tk9 h7 (.t NL.h0) (.t (NL.hs NL.h0))) rfl) (.cons (has rfl) (.cons (has rfl) .nil)) (by kernel_rfl) (.cons [(some 2, Ent.t 13 (VA.pt kstr x6))] (OpSpec.run rfl rfl (op_loadp rfl tk9 (.t NL.h0)) rfl) (.cons (has rfl) .nil) (by kernel_rfl) (.cons [(none, Ent.t 0 (VA.k (kslice kstr) a0))] (OpSpec.run rfl rfl (op_move rfl (.t NL.h0)) rfl) (.cons (has rfl) .nil) (by kernel_rfl) (.cons [(none, Ent.t 3 (VA.k (kint .i64) s1))] (OpSpec.run rfl rfl (op_move rfl (.t NL.h0)) rfl) (.cons (has rfl) .nil) (by kernel_rfl) (.cons [(some 5, Ent.t 16 (VA.k (kint .i64) s1))] (OpSpec.run rfl rfl (op_sub rfl (.t NL.h0) (.int _ _)) rfl) (.cons (has rfl) .nil) (by kernel_rfl) (.cons [(some 4, Ent.t 15 (VA.k (kslice kstr) a0)), (some 6, Ent.t 17 (VA.k (kint .i64) (IntKind.i64.wrap (s1 - (1 : Int)))))] (OpSpec.run rfl rfl (op_indexAddr rfl Try.underlying25 tk9 h9 (.t NL.h0) (.t (NL.hs NL.h0))) rfl) (.cons (has rfl) (.cons (has rfl) .nil)) (by kernel_rfl) (.cons [(some 7, Ent.t 18 (VA.pt kstr x8))] (OpSpec.run rfl rfl (op_loadp rfl tk9 (.t NL.h0)) rfl) (.cons (has rfl) .nil) (by kernel_rfl) (.cons [(some 3, Ent.t 14 (VA.k kstr x6)), (some 8, Ent.t 19 (VA.k kstr x8))] (OpSpec.run rfl rfl (op_call' rfl enters42 (cmp_Less_string.con _ _ _ h11) rfl (.cons (ArgP.k (.t NL.h0)) (.cons (ArgP.k (.t (NL.hs NL.h0))) .nil))) rfl) (.cons (has rfl) (.cons (has rfl) .nil)) (by kernel_rfl) (.nil _))))))))))) ?_
      refine ends_sub [Ent.t 0 (VA.k (kslice kstr) a0), Ent.t 3 (VA.k (kint .i64) s1), Ent.t 20 (VA.k kbool v10)] (.cons rfl (.cons rfl (.cons rfl .nil))) ?_
      refine ends_then ?_
      refine goes_if (.t (has rfl)) H (fun hb12 H => ?_) (fun hb12 H => ?_)
      · skip
        refine goes_seq ?_
        refine goes_region ?_
        refine go1 (op_assign rfl (.bool _)) rfl ?_
        refine goesO_nil ?_
        refine ends_then ?_
        obtain rfl := Option.some.inj H
        refine goes_ret (ends_block_ret (ends_then_ret (ends_then_ret (ends_block_ret (ends_cutR_ret rfl ?_)))))
        exact ends_ret' rfl rfl (.t rfl (.nil _))
      · skip
        refine goes_skip ?_
        refine ends_block ?_
        refine ends_then ?_
        refine goes_region ?_
        refine go1 (op_move rfl (.t (has rfl))) rfl ?_
        refine go1 (op_sub rfl (.t (has rfl)) (.int _ _)) rfl ?_
        refine go1 (op_assign rfl (.t (has rfl))) rfl ?_
        refine goesO_nil ?_
        exact loop_next _ H (.cons rfl (.cons rfl .nil))
    · skip
      refine goes_exit (ends_then_exit (ends_then_exit (ends_block_exit ?_)))
      obtain rfl := Option.some.inj H
      exact ends_cutR rfl .nil
  · rintro s2 rfl
    clear h3
    dsimp only at H
    refine ends_then ?_
    refine goes_seq ?_
    refine goes_region ?_
    refine go1 (op_assign rfl (.bool _)) rfl ?_
    refine goesO_nil ?_
    refine ends_then ?_
    obtain rfl := Option.some.inj H
    exact goes_ret (ends_ret' rfl rfl (.t rfl (.nil _)))
  · rintro r' rfl a w hr
    obtain rfl := Option.some.inj H
    exact hr
/-! smithy/load.list -/
def load_list.f (k : Nat) (a0 : List ByteArray) : Option Bool := ((load_named.f k a0 (512 : Int)).bind fun v3 => bif v3 then ((slices_IsSorted_string_string.f k a0).bind fun v6 => bif v6 then ((load_once.f k a0).bind fun v9 => some v9) else (some false)) else (some false)).bind fun s1 => some s1
set_option maxRecDepth 100000 in
set_option maxHeartbeats 4000000 in
theorem load_list.con (k : Nat) (a0 : List ByteArray) (r : Bool) (H : load_list.f k a0 = some r) : Con Try.prog 70 [VA.k (kslice kstr) a0] [VA.k kbool r] := by
  unfold load_list.f at H
  refine con_enter Try.func70 rfl rfl rfl (fun w0 S0 θ => ?_)
  refine goes_seq ?_
  refine goes_region ?_
  refine go1 (op_assign rfl (.bool _)) rfl ?_
  refine goesO_nil ?_
  refine ends_then ?_
  refine goes_seq ?_
  obtain ⟨s1, h2, H⟩ := bind_some H
  refine goes_cut [Ent.t 2 (VA.k kbool s1)] ?_ ?_
  · replace H := h2; clear h2
    refine goes_region ?_
    refine go1 (op_move rfl (.t (has rfl))) rfl ?_
    obtain ⟨v3, h4, H⟩ := bind_some H
    refine go1 (op_call' rfl enters66 (load_named.con _ _ _ _ h4) rfl (.cons (ArgP.k (.t (has rfl))) (.cons (ArgP.k (.int _ _)) .nil))) rfl ?_
    refine go1 (op_move rfl (.t (has rfl))) rfl ?_
    refine goesO_split H (fun hb5 H => ?_) (fun hb5 H => ?_)
    · skip
      refine goG (op_move rfl (.t (has rfl))) rfl rfl rfl rfl hb5 ?_
      obtain ⟨v6, h7, H⟩ := bind_some H
      refine goG (op_call' rfl enters85 (slices_IsSorted_string_string.con _ _ _ h7) rfl (.cons (ArgP.k (.t (has rfl))) .nil)) rfl rfl rfl rfl hb5 ?_
      refine go1 (op_pick_t rfl hb5 (.t (has rfl)) (.t (has rfl))) rfl ?_
      refine go1 (op_move rfl (.t (has rfl))) rfl ?_
      refine goesO_split H (fun hb8 H => ?_) (fun hb8 H => ?_)
      · skip
        refine goG (op_move rfl (.t (has rfl))) rfl rfl rfl rfl hb8 ?_
        obtain ⟨v9, h10, H⟩ := bind_some H
        refine goG (op_call' rfl enters67 (load_once.con _ _ _ h10) rfl (.cons (ArgP.k (.t (has rfl))) .nil)) rfl rfl rfl rfl hb8 ?_
        refine go1 (op_pick_t rfl hb8 (.t (has rfl)) (.t (has rfl))) rfl ?_
        refine go1 (op_assign rfl (.t (has rfl))) rfl ?_
        refine goesO_nil ?_
        obtain rfl := Option.some.inj H
        exact ends_cut (.cons rfl .nil)
      · skip
        refine goS rfl rfl rfl rfl rfl rfl hb8 ?_
        refine goS rfl rfl rfl rfl rfl rfl hb8 ?_
        refine go1 (op_pick_f rfl hb8 (.t (has rfl)) (.bool _)) rfl ?_
        refine go1 (op_assign rfl (.t (has rfl))) rfl ?_
        refine goesO_nil ?_
        obtain rfl := Option.some.inj H
        exact ends_cut (.cons rfl .nil)
    · skip
      refine goS rfl rfl rfl rfl rfl rfl hb5 ?_
      refine goS rfl rfl rfl rfl rfl rfl hb5 ?_
      refine go1 (op_pick_f rfl hb5 (.t (has rfl)) (.bool _)) rfl ?_
      refine go1 (op_move rfl (.t (has rfl))) rfl ?_
      refine goS rfl rfl rfl rfl rfl rfl rfl ?_
      refine goS rfl rfl rfl rfl rfl rfl rfl ?_
      refine go1 (op_pick_f rfl rfl (.t (has rfl)) (.bool _)) rfl ?_
      refine go1 (op_assign rfl (.t (has rfl))) rfl ?_
      refine goesO_nil ?_
      obtain rfl := Option.some.inj H
      exact ends_cut (.cons rfl .nil)
  refine ends_then ?_
  obtain rfl := Option.some.inj H
  exact goes_ret (ends_ret' rfl rfl (.t rfl (.nil _)))
/-! smithy/load.settings -/
def load_settings.l0 (a0 : Special) : Nat → Int → Option (Except Bool Unit)
  | 0, _ => none
  | k + 1, s7 => bif icmp .lss s7 (a0.Suffixes.length : Int) then ((idx a0.Suffixes s7).bind fun x12 => (special_Suffix.f k x12).bind fun v14 => bif !v14 then (some (Except.error false)) else (load_settings.l0 a0 k (IntKind.i64.wrap (s7 + (1 : Int))))) else (some (Except.ok ()))
def load_settings.f (k : Nat) (a0 : Special) : Option Bool := (bif icmp .gtr (a0.Suffixes.length : Int) (32 : Int) then (some true) else ((load_once.f k a0.Suffixes).bind fun v4 => some (!v4))).bind fun s1 => bif s1 then (some false) else ((load_settings.l0 a0 k (0 : Int)).bind fun o10 => match o10 with | .error r' => some r' | .ok s8 => (((load_list.f k a0.Phony).bind fun v19 => bif v19 then ((load_list.f k a0.Precious).bind fun v22 => bif v22 then ((load_list.f k a0.Ignore).bind fun v25 => bif v25 then ((load_list.f k a0.Silent).bind fun v28 => bif v28 then ((load_recipe.f k a0.Default a0.HasDefault).bind fun v31 => some v31) else (some false)) else (some false)) else (some false)) else (some false)).bind fun s17 => some s17))
set_option maxRecDepth 100000 in
set_option maxHeartbeats 4000000 in
theorem load_settings.con (k : Nat) (a0 : Special) (r : Bool) (H : load_settings.f k a0 = some r) : Con Try.prog 47 [VA.k kSpecial a0] [VA.k kbool r] := by
  unfold load_settings.f at H
  refine con_enter Try.func47 rfl rfl rfl (fun w0 S0 θ => ?_)
  refine goes_seq ?_
  refine goes_region ?_
  refine go3 (op_box 1 rfl (fun h => by first | rfl | cases h) (.t (has rfl))) rfl ?_
  refine go1 (op_assign rfl (.bool _)) rfl ?_
  refine goesO_nil ?_
  refine ends_then ?_
  refine goes_seq ?_
  refine goes_seq ?_
  obtain ⟨s1, h2, H⟩ := bind_some H
  refine goes_cut [Ent.t 1 (VA.ptr 1 0), Ent.t 14 (VA.k kbool s1), Ent.h 1 (HE.box 27 kSpecial a0)] ?_ ?_
  · replace H := h2; clear h2
    refine goes_region ?_
    refine go1 (op_fieldAddr rfl Try.underlying27 rfl tk25 (.t (has rfl))) rfl ?_
    refine go1 (op_load rfl fldSpecial_Suffixes tk25 (.t (has rfl)) (has rfl)) rfl ?_
    refine go1 (op_len rfl rfl Try.underlying25 (.t (has rfl))) rfl ?_
    refine go1 (op_icmp rfl rfl (.t (has rfl)) (.int _ _)) rfl ?_
    refine go1 (op_move rfl (.t (has rfl))) rfl ?_
    refine goesO_split H (fun hb3 H => ?_) (fun hb3 H => ?_)
    · skip
      refine goS rfl rfl rfl rfl rfl rfl hb3 ?_
      refine goS rfl rfl rfl rfl rfl rfl hb3 ?_
      refine goS rfl rfl rfl rfl rfl rfl hb3 ?_
      refine goS rfl rfl rfl rfl rfl rfl hb3 ?_
      refine go1 (op_pick_t rfl hb3 (.t (has rfl)) (.bool _)) rfl ?_
      refine goesO_nil ?_
      obtain rfl := Option.some.inj H
      exact ends_cut (.cons rfl (.cons rfl (.cons rfl .nil)))
    · skip
      refine goG (op_fieldAddr rfl Try.underlying27 rfl tk25 (.t (has rfl))) rfl rfl rfl rfl hb3 ?_
      refine goG (op_load rfl fldSpecial_Suffixes tk25 (.t (has rfl)) (has rfl)) rfl rfl rfl rfl hb3 ?_
      obtain ⟨v4, h5, H⟩ := bind_some H
      refine goG (op_call' rfl enters67 (load_once.con _ _ _ h5) rfl (.cons (ArgP.k (.t (has rfl))) .nil)) rfl rfl rfl rfl hb3 ?_
      refine goG (op_not rfl (.t (has rfl))) rfl rfl rfl rfl hb3 ?_
      refine go1 (op_pick_f rfl hb3 (.t (has rfl)) (.t (has rfl))) rfl ?_
      refine goesO_nil ?_
      obtain rfl := Option.some.inj H
      exact ends_cut (.cons rfl (.cons rfl (.cons rfl .nil)))
  refine ends_then ?_
  refine goes_if (.t (has rfl)) H (fun hb6 H => ?_) (fun hb6 H => ?_)
  · skip
    refine goes_seq ?_
    refine goes_region ?_
    refine go1 (op_assign rfl (.bool _)) rfl ?_
    refine goesO_nil ?_
    refine ends_then ?_
    obtain rfl := Option.some.inj H
    exact goes_ret (ends_then_ret (ends_ret' rfl rfl (.t rfl (.nil _))))
  · skip
    refine goes_skip ?_
    refine ends_then ?_
    refine goes_seq ?_
    refine goes_seq ?_
    refine goes_region ?_
    refine go1 (op_fieldAddr rfl Try.underlying27 rfl tk25 (.t (has rfl))) rfl ?_
    refine go1 (op_load rfl fldSpecial_Suffixes tk25 (.t (has rfl)) (has rfl)) rfl ?_
    refine go1 (op_len rfl rfl Try.underlying25 (.t (has rfl))) rfl ?_
    refine go1 (op_move rfl (.int _ _)) rfl ?_
    refine goesO_nil ?_
    refine ends_then ?_
    obtain ⟨o10, h9, H⟩ := bind_some H
    refine goes_cutR (o := o10) (fun s8 : Unit => [Ent.t 1 (VA.ptr 1 0), Ent.h 1 (HE.box 27 kSpecial a0)]) (fun r a w => bodyPost Try.prog Try.f47 (CPost w0 S0 θ [VA.k kbool r]) .ret a w) ?_ ?_ ?_
    · replace H := h9; clear h9
      refine goes_block ?_
      refine goes_loop (fun s7 : Int => [Ent.t 1 (VA.ptr 1 0), Ent.t 16 (VA.k (kslice kstr) a0.Suffixes), Ent.t 17 (VA.k (kint .i64) (a0.Suffixes.length : Int)), Ent.t 18 (VA.k (kint .i64) s7), Ent.h 1 (HE.box 27 kSpecial a0)]) (fun k s7 => load_settings.l0 a0 k s7) (fun _ => rfl) H (.cons rfl (.cons rfl (.cons rfl (.cons rfl (.cons rfl .nil))))) ?_
      intro k s7 H
      simp only [load_settings.l0] at H
      refine goes_seq ?_
      refine goes_region ?_
      refine go1 (op_icmp rfl rfl (.t (has rfl)) (.t (has rfl))) rfl ?_
      refine goesO_nil ?_
      refine ends_then ?_
      refine goes_seq ?_
      refine goes_if (.t (has rfl)) H (fun hb11 H => ?_) (fun hb11 H => ?_)
      · skip
        refine goes_skip ?_
        refine ends_then ?_
        refine goes_seq ?_
        refine goes_block ?_
        refine goes_seq ?_
        refine goes_region ?_
        obtain ⟨x12, h13, H⟩ := bind_some H
        refine go1 (op_indexAddr rfl Try.underlying25 tk9 h13 (.t (has rfl)) (.t (has rfl))) rfl ?_
        refine go1 (op_loadp rfl tk9 (.t (has rfl))) rfl ?_
        refine go1 (op_assign rfl (.t (has rfl))) rfl ?_
        refine goesO_nil ?_
        refine ends_then ?_
        refine goes_seq ?_
        refine goes_region ?_
        refine go1 (op_move rfl (.t (has rfl))) rfl ?_
        obtain ⟨v14, h15, H⟩ := bind_some H
        refine go1 (op_call' rfl enters69 (special_Suffix.con _ _ _ h15) rfl (.cons (ArgP.k (.t (has rfl))) .nil)) rfl ?_
        refine go1 (op_not rfl (.t (has rfl))) rfl ?_
        refine goesO_nil ?_
        refine ends_then ?_
        refine goes_if (.t (has rfl)) H (fun hb16 H => ?_) (fun hb16 H => ?_)
        · skip
          refine goes_seq ?_
          refine goes_region ?_
          refine go1 (op_assign rfl (.bool _)) rfl ?_
          refine goesO_nil ?_
          refine ends_then ?_
          obtain rfl := Option.some.inj H
          refine goes_ret (ends_block_ret (ends_then_ret (ends_then_ret (ends_block_ret (ends_cutR_ret rfl ?_)))))
          exact ends_ret' rfl rfl (.t rfl (.nil _))
        · skip
          refine goes_skip ?_
          refine ends_block ?_
          refine ends_then ?_
          refine goes_region ?_
          refine go1 (op_add rfl (.t (has rfl)) (.int _ _)) rfl ?_
          refine go1 (op_move rfl (.t (has rfl))) rfl ?_
          refine goesO_nil ?_
          exact loop_next _ H (.cons rfl (.cons rfl (.cons rfl (.cons rfl (.cons rfl .nil)))))
      · skip
        refine goes_exit (ends_then_exit (ends_then_exit (ends_block_exit ?_)))
        obtain rfl := Option.some.inj H
        exact ends_cutR rfl (.cons rfl (.cons rfl .nil))
    · rintro s8 rfl
      clear h9
      dsimp only at H
      refine ends_then ?_
      refine goes_seq ?_
      obtain ⟨s17, h18, H⟩ := bind_some H
      refine goes_cut [Ent.t 2 (VA.k kbool s17)] ?_ ?_
      · replace H := h18; clear h18
        refine goes_region ?_
        refine go1 (op_fieldAddr rfl Try.underlying27 rfl tk25 (.t (has rfl))) rfl ?_
        refine go1 (op_load rfl fldSpecial_Phony tk25 (.t (has rfl)) (has rfl)) rfl ?_
        obtain ⟨v19, h20, H⟩ := bind_some H
        refine go1 (op_call' rfl enters70 (load_list.con _ _ _ h20) rfl (.cons (ArgP.k (.t (has rfl))) .nil)) rfl ?_
        refine go1 (op_move rfl (.t (has rfl))) rfl ?_
        refine goesO_split H (fun hb21 H => ?_) (fun hb21 H => ?_)
        · skip
          refine goG (op_fieldAddr rfl Try.underlying27 rfl tk25 (.t (has rfl))) rfl rfl rfl rfl hb21 ?_
          refine goG (op_load rfl fldSpecial_Precious tk25 (.t (has rfl)) (has rfl)) rfl rfl rfl rfl hb21 ?_
          obtain ⟨v22, h23, H⟩ := bind_some H
          refine goG (op_call' rfl enters70 (load_list.con _ _ _ h23) rfl (.cons (ArgP.k (.t (has rfl))) .nil)) rfl rfl rfl rfl hb21 ?_
          refine go1 (op_pick_t rfl hb21 (.t (has rfl)) (.t (has rfl))) rfl ?_
          refine go1 (op_move rfl (.t (has rfl))) rfl ?_
          refine goesO_split H (fun hb24 H => ?_) (fun hb24 H => ?_)
          · skip
            refine goG (op_fieldAddr rfl Try.underlying27 rfl tk25 (.t (has rfl))) rfl rfl rfl rfl hb24 ?_
            refine goG (op_load rfl fldSpecial_Ignore tk25 (.t (has rfl)) (has rfl)) rfl rfl rfl rfl hb24 ?_
            obtain ⟨v25, h26, H⟩ := bind_some H
            refine goG (op_call' rfl enters70 (load_list.con _ _ _ h26) rfl (.cons (ArgP.k (.t (has rfl))) .nil)) rfl rfl rfl rfl hb24 ?_
            refine go1 (op_pick_t rfl hb24 (.t (has rfl)) (.t (has rfl))) rfl ?_
            refine go1 (op_move rfl (.t (has rfl))) rfl ?_
            refine goesO_split H (fun hb27 H => ?_) (fun hb27 H => ?_)
            · skip
              refine goG (op_fieldAddr rfl Try.underlying27 rfl tk25 (.t (has rfl))) rfl rfl rfl rfl hb27 ?_
              refine goG (op_load rfl fldSpecial_Silent tk25 (.t (has rfl)) (has rfl)) rfl rfl rfl rfl hb27 ?_
              obtain ⟨v28, h29, H⟩ := bind_some H
              refine goG (op_call' rfl enters70 (load_list.con _ _ _ h29) rfl (.cons (ArgP.k (.t (has rfl))) .nil)) rfl rfl rfl rfl hb27 ?_
              refine go1 (op_pick_t rfl hb27 (.t (has rfl)) (.t (has rfl))) rfl ?_
              refine go1 (op_move rfl (.t (has rfl))) rfl ?_
              refine goesO_split H (fun hb30 H => ?_) (fun hb30 H => ?_)
              · skip
                refine goG (op_fieldAddr rfl Try.underlying27 rfl tk25 (.t (has rfl))) rfl rfl rfl rfl hb30 ?_
                refine goG (op_load rfl fldSpecial_Default tk25 (.t (has rfl)) (has rfl)) rfl rfl rfl rfl hb30 ?_
                refine goG (op_fieldAddr rfl Try.underlying27 rfl tk4 (.t (has rfl))) rfl rfl rfl rfl hb30 ?_
                refine goG (op_load rfl fldSpecial_HasDefault tk4 (.t (has rfl)) (has rfl)) rfl rfl rfl rfl hb30 ?_
                obtain ⟨v31, h32, H⟩ := bind_some H
                refine goG (op_call' rfl enters68 (load_recipe.con _ _ _ _ h32) rfl (.cons (ArgP.k (.t (has rfl))) (.cons (ArgP.k (.t (has rfl))) .nil))) rfl rfl rfl rfl hb30 ?_
                refine go1 (op_pick_t rfl hb30 (.t (has rfl)) (.t (has rfl))) rfl ?_
                refine go1 (op_assign rfl (.t (has rfl))) rfl ?_
                refine goesO_nil ?_
                obtain rfl := Option.some.inj H
                exact ends_cut (.cons rfl .nil)
              · skip
                refine goS rfl rfl rfl rfl rfl rfl hb30 ?_
                refine goS rfl rfl rfl rfl rfl rfl hb30 ?_
                refine goS rfl rfl rfl rfl rfl rfl hb30 ?_
                refine goS rfl rfl rfl rfl rfl rfl hb30 ?_
                refine goS rfl rfl rfl rfl rfl rfl hb30 ?_
                refine go1 (op_pick_f rfl hb30 (.t (has rfl)) (.bool _)) rfl ?_
                refine go1 (op_assign rfl (.t (has rfl))) rfl ?_
                refine goesO_nil ?_
                obtain rfl := Option.some.inj H
                exact ends_cut (.cons rfl .nil)
            · skip
              refine goS rfl rfl rfl rfl rfl rfl hb27 ?_
              refine goS rfl rfl rfl rfl rfl rfl hb27 ?_
              refine goS rfl rfl rfl rfl rfl rfl hb27 ?_
              refine go1 (op_pick_f rfl hb27 (.t (has rfl)) (.bool _)) rfl ?_
              refine go1 (op_move rfl (.t (has rfl))) rfl ?_
              refine goS rfl rfl rfl rfl rfl rfl rfl ?_
              refine goS rfl rfl rfl rfl rfl rfl rfl ?_
              refine goS rfl rfl rfl rfl rfl rfl rfl ?_
              refine goS rfl rfl rfl rfl rfl rfl rfl ?_
              refine goS rfl rfl rfl rfl rfl rfl rfl ?_
              refine go1 (op_pick_f rfl rfl (.t (has rfl)) (.bool _)) rfl ?_
              refine go1 (op_assign rfl (.t (has rfl))) rfl ?_
              refine goesO_nil ?_
              obtain rfl := Option.some.inj H
              exact ends_cut (.cons rfl .nil)
          · skip
            refine goS rfl rfl rfl rfl rfl rfl hb24 ?_
            refine goS rfl rfl rfl rfl rfl rfl hb24 ?_
            refine goS rfl rfl rfl rfl rfl rfl hb24 ?_
            refine go1 (op_pick_f rfl hb24 (.t (has rfl)) (.bool _)) rfl ?_
            refine go1 (op_move rfl (.t (has rfl))) rfl ?_
            refine goS rfl rfl rfl rfl rfl rfl rfl ?_
            refine goS rfl rfl rfl rfl rfl rfl rfl ?_
            refine goS rfl rfl rfl rfl rfl rfl rfl ?_
            refine go1 (op_pick_f rfl rfl (.t (has rfl)) (.bool _)) rfl ?_
            refine go1 (op_move rfl (.t (has rfl))) rfl ?_
            refine goS rfl rfl rfl rfl rfl rfl rfl ?_
            refine goS rfl rfl rfl rfl rfl rfl rfl ?_
            refine goS rfl rfl rfl rfl rfl rfl rfl ?_
            refine goS rfl rfl rfl rfl rfl rfl rfl ?_
            refine goS rfl rfl rfl rfl rfl rfl rfl ?_
            refine go1 (op_pick_f rfl rfl (.t (has rfl)) (.bool _)) rfl ?_
            refine go1 (op_assign rfl (.t (has rfl))) rfl ?_
            refine goesO_nil ?_
            obtain rfl := Option.some.inj H
            exact ends_cut (.cons rfl .nil)
        · skip
          refine goS rfl rfl rfl rfl rfl rfl hb21 ?_
          refine goS rfl rfl rfl rfl rfl rfl hb21 ?_
          refine goS rfl rfl rfl rfl rfl rfl hb21 ?_
          refine go1 (op_pick_f rfl hb21 (.t (has rfl)) (.bool _)) rfl ?_
          refine go1 (op_move rfl (.t (has rfl))) rfl ?_
          refine goS rfl rfl rfl rfl rfl rfl rfl ?_
          refine goS rfl rfl rfl rfl rfl rfl rfl ?_
          refine goS rfl rfl rfl rfl rfl rfl rfl ?_
          refine go1 (op_pick_f rfl rfl (.t (has rfl)) (.bool _)) rfl ?_
          refine go1 (op_move rfl (.t (has rfl))) rfl ?_
          refine goS rfl rfl rfl rfl rfl rfl rfl ?_
          refine goS rfl rfl rfl rfl rfl rfl rfl ?_
          refine goS rfl rfl rfl rfl rfl rfl rfl ?_
          refine go1 (op_pick_f rfl rfl (.t (has rfl)) (.bool _)) rfl ?_
          refine go1 (op_move rfl (.t (has rfl))) rfl ?_
          refine goS rfl rfl rfl rfl rfl rfl rfl ?_
          refine goS rfl rfl rfl rfl rfl rfl rfl ?_
          refine goS rfl rfl rfl rfl rfl rfl rfl ?_
          refine goS rfl rfl rfl rfl rfl rfl rfl ?_
          refine goS rfl rfl rfl rfl rfl rfl rfl ?_
          refine go1 (op_pick_f rfl rfl (.t (has rfl)) (.bool _)) rfl ?_
          refine go1 (op_assign rfl (.t (has rfl))) rfl ?_
          refine goesO_nil ?_
          obtain rfl := Option.some.inj H
          exact ends_cut (.cons rfl .nil)
      refine ends_then ?_
      obtain rfl := Option.some.inj H
      exact goes_ret (ends_ret' rfl rfl (.t rfl (.nil _)))
    · rintro r' rfl a w hr
      obtain rfl := Option.some.inj H
      exact hr
/-! smithy/load.infers -/
def load_infers.l0 (a0 : List Infer) (a1 : List ByteArray) : Nat → ((GM Bool) × Int) → Option (Except Bool Unit)
  | 0, _ => none
  | k + 1, s1 => bif icmp .lss s1.2 (a0.length : Int) then ((idx a0 s1.2).bind fun x6 => ((gget s1.1 false (enc2 (x6.From, x6.To))).bind fun x10 => bif x10 then (some true) else ((slices_Contains_string_string.f k a1 x6.From).bind fun v13 => bif !v13 then (some true) else (bif scmp .neq x6.To (⟨#[]⟩ : ByteArray) then ((slices_Contains_string_string.f k a1 x6.To).bind fun v17 => bif !v17 then (some true) else ((load_recipe.f k x6.Recipe true).bind fun v20 => some (!v20))) else ((load_recipe.f k x6.Recipe true).bind fun v22 => some (!v22))))).bind fun s8 => bif s8 then (some (Except.error false)) else ((gput s1.1 (enc2 (x6.From, x6.To)) true).bind fun x25 => load_infers.l0 a0 a1 k (x25, IntKind.i64.wrap (s1.2 + (1 : Int))))) else (some (Except.ok ()))
def load_infers.f (k : Nat) (a0 : List Infer) (a1 : List ByteArray) : Option Bool := (load_infers.l0 a0 a1 k ((gempty : GM Bool), (0 : Int))).bind fun o4 => match o4 with | .error r' => some r' | .ok s2 => (some (icmp .leq (a0.length : Int) (512 : Int)))
set_option maxRecDepth 100000 in
set_option maxHeartbeats 4000000 in
theorem load_infers.con (k : Nat) (a0 : List Infer) (a1 : List ByteArray) (r : Bool) (H : load_infers.f k a0 a1 = some r) : Con Try.prog 48 [VA.k (kslice kInfer) a0, VA.k (kslice kstr) a1] [VA.k kbool r] := by
  unfold load_infers.f at H
  refine con_enter Try.func48 rfl rfl rfl (fun w0 S0 θ => ?_)
  refine goes_seq ?_
  refine goes_region ?_
  refine go1 (op_assign rfl (.bool _)) rfl ?_
  refine goesO_nil ?_
  refine ends_then ?_
  refine goes_seq ?_
  refine goes_region ?_
  refine go3 (op_makeMap 103 kbool 9 rfl) rfl ?_
  refine go1 (op_assignA rfl plain_mp (.t (has rfl))) rfl ?_
  refine goesO_nil ?_
  refine ends_then ?_
  refine goes_seq ?_
  refine goes_seq ?_
  refine goes_region ?_
  refine go1 (op_move rfl (.t (has rfl))) rfl ?_
  refine go1 (op_len rfl rfl Try.underlying24 (.t (has rfl))) rfl ?_
  refine go1 (op_move rfl (.int _ _)) rfl ?_
  refine goesO_nil ?_
  refine ends_then ?_
  obtain ⟨o4, h3, H⟩ := bind_some H
  refine goes_cutR (o := o4) (fun s2 : Unit => [Ent.t 0 (VA.k (kslice kInfer) a0)]) (fun r a w => bodyPost Try.prog Try.f48 (CPost w0 S0 θ [VA.k kbool r]) .ret a w) ?_ ?_ ?_
  · replace H := h3; clear h3
    refine goes_block ?_
    refine goes_loop (fun s1 : (GM Bool) × Int => [Ent.t 0 (VA.k (kslice kInfer) a0), Ent.t 1 (VA.k (kslice kstr) a1), Ent.t 5 (VA.mp false 9), Ent.t 10 (VA.k (kslice kInfer) a0), Ent.t 11 (VA.k (kint .i64) (a0.length : Int)), Ent.t 12 (VA.k (kint .i64) s1.2), Ent.h 9 (HE.map Try.prog 103 kbool s1.1)]) (fun k s1 => load_infers.l0 a0 a1 k s1) (fun _ => rfl) H (.cons rfl (.cons rfl (.cons rfl (.cons rfl (.cons rfl (.cons rfl (.cons rfl .nil))))))) ?_
    intro k s1 H
    simp only [load_infers.l0] at H
    refine goes_seq ?_
    refine goes_region ?_
    refine go1 (op_icmp rfl rfl (.t (has rfl)) (.t (has rfl))) rfl ?_
    refine goesO_nil ?_
    refine ends_then ?_
    refine goes_seq ?_
    refine goes_if (.t (has rfl)) H (fun hb5 H => ?_) (fun hb5 H => ?_)
    · skip
      refine goes_skip ?_
      refine ends_then ?_
      refine goes_seq ?_
      refine goes_block ?_
      refine goes_seq ?_
      refine goes_region ?_
      obtain ⟨x6, h7, H⟩ := bind_some H
      refine go1 (op_indexAddr rfl Try.underlying24 tk77 h7 (.t (has rfl)) (.t (has rfl))) rfl ?_
      refine go1 (op_loadp rfl tk77 (.t (has rfl))) rfl ?_
      refine go3 (op_alloc 7 rfl zk77) rfl ?_
      refine go1 (op_store (Fld.whole kInfer) tk77 (.t (has rfl)) (has rfl) (.t (has rfl))) rfl ?_
      refine goesO_nil ?_
      refine ends_then ?_
      refine goes_seq ?_
      refine goes_region ?_
      refine go1 (op_fieldAddr rfl Try.underlying77 rfl tk9 (.t (has rfl))) rfl ?_
      refine go1 (op_load rfl fldInfer_From tk9 (.t (has rfl)) (has rfl)) rfl ?_
      refine go1 (op_fieldAddr rfl Try.underlying77 rfl tk9 (.t (has rfl))) rfl ?_
      refine go1 (op_load rfl fldInfer_To tk9 (.t (has rfl)) (has rfl)) rfl ?_
      refine go1 (op_build_arr2 rfl xba103 (.t (has rfl)) (.t (has rfl))) rfl ?_
      refine go3 (op_alloc 8 rfl zk103) rfl ?_
      refine go1 (op_store (Fld.whole kstr2) tk103 (.t (has rfl)) (has rfl) (.t (has rfl))) rfl ?_
      refine goesO_nil ?_
      refine ends_then ?_
      refine goes_seq ?_
      refine goes_seq ?_
      obtain ⟨s8, h9, H⟩ := bind_some H
      refine goes_cut [Ent.t 0 (VA.k (kslice kInfer) a0), Ent.t 1 (VA.k (kslice kstr) a1), Ent.t 5 (VA.mp false 9), Ent.t 8 (VA.ptr 8 0), Ent.t 10 (VA.k (kslice kInfer) a0), Ent.t 11 (VA.k (kint .i64) (a0.length : Int)), Ent.t 12 (VA.k (kint .i64) s1.2), Ent.t 48 (VA.k kbool s8), Ent.h 8 (HE.box 103 kstr2 (x6.From, x6.To)), Ent.h 9 (HE.map Try.prog 103 kbool s1.1)] ?_ ?_
      · replace H := h9; clear h9
        refine goes_region ?_
        refine go1 (op_moveA rfl plain_mp (.t (has rfl))) rfl ?_
        refine go1 (op_load rfl (Fld.whole kstr2) tk103 (.t (has rfl)) (has rfl)) rfl ?_
        obtain ⟨x10, h11, H⟩ := bind_some H
        refine go1 (op_lookupP rfl xmtp102 h11 (.t (has rfl)) (has rfl) (.t (has rfl))) rfl ?_
        refine go1 (op_move rfl (.t (has rfl))) rfl ?_
        refine goesO_split H (fun hb12 H => ?_) (fun hb12 H => ?_)
        · skip
          refine goS rfl rfl rfl rfl rfl rfl hb12 ?_
          refine goS rfl rfl rfl rfl rfl rfl hb12 ?_
          refine goS rfl rfl rfl rfl rfl rfl hb12 ?_
          refine goS rfl rfl rfl rfl rfl rfl hb12 ?_
          refine goS rfl rfl rfl rfl rfl rfl hb12 ?_
          refine go1 (op_pick_t rfl hb12 (.t (has rfl)) (.bool _)) rfl ?_
          refine go1 (op_move rfl (.t (has rfl))) rfl ?_
          refine goS rfl rfl rfl rfl rfl rfl rfl ?_
          refine goS rfl rfl rfl rfl rfl rfl rfl ?_
          refine goS rfl rfl rfl rfl rfl rfl rfl ?_
          refine goS rfl rfl rfl rfl rfl rfl rfl ?_
          refine goSU rfl rfl rfl rfl rfl rfl ?_
          refine goSU rfl rfl rfl rfl rfl rfl ?_
          refine goSU rfl rfl rfl rfl rfl rfl ?_
          refine goSU rfl rfl rfl rfl rfl rfl ?_
          refine goSU rfl rfl rfl rfl rfl rfl ?_
          refine goS rfl rfl rfl rfl rfl rfl rfl ?_
          refine go1 (op_pick_t rfl rfl (.t (has rfl)) (.bool _)) rfl ?_
          refine go1 (op_move rfl (.t (has rfl))) rfl ?_
          refine goS rfl rfl rfl rfl rfl rfl rfl ?_
          refine goS rfl rfl rfl rfl rfl rfl rfl ?_
          refine goS rfl rfl rfl rfl rfl rfl rfl ?_
          refine goS rfl rfl rfl rfl rfl rfl rfl ?_
          refine go1 (op_pick_t rfl rfl (.t (has rfl)) (.bool _)) rfl ?_
          refine goesO_nil ?_
          obtain rfl := Option.some.inj H
          exact ends_cut (.cons rfl (.cons rfl (.cons rfl (.cons rfl (.cons rfl (.cons rfl (.cons rfl (.cons rfl (.cons rfl (.cons rfl .nil))))))))))
        · skip
          refine goG (op_move rfl (.t (has rfl))) rfl rfl rfl rfl hb12 ?_
          refine goG (op_fieldAddr rfl Try.underlying77 rfl tk9 (.t (has rfl))) rfl rfl rfl rfl hb12 ?_
          refine goG (op_load rfl fldInfer_From tk9 (.t (has rfl)) (has rfl)) rfl rfl rfl rfl hb12 ?_
          obtain ⟨v13, h14, H⟩ := bind_some H
          refine goG (op_call' rfl enters20 (slices_Contains_string_string.con _ _ _ _ h14) rfl (.cons (ArgP.k (.t (has rfl))) (.cons (ArgP.k (.t (has rfl))) .nil))) rfl rfl rfl rfl hb12 ?_
          refine goG (op_not rfl (.t (has rfl))) rfl rfl rfl rfl hb12 ?_
          refine go1 (op_pick_f rfl hb12 (.t (has rfl)) (.t (has rfl))) rfl ?_
          refine go1 (op_move rfl (.t (has rfl))) rfl ?_
          refine goesO_split H (fun hb15 H => ?_) (fun hb15 H => ?_)
          · skip
            refine goS rfl rfl rfl rfl rfl rfl hb15 ?_
            refine goS rfl rfl rfl rfl rfl rfl hb15 ?_
            refine goS rfl rfl rfl rfl rfl rfl hb15 ?_
            refine goS rfl rfl rfl rfl rfl rfl hb15 ?_
            refine goSU rfl rfl rfl rfl rfl rfl ?_
            refine goSU rfl rfl rfl rfl rfl rfl ?_
            refine goSU rfl rfl rfl rfl rfl rfl ?_
            refine goSU rfl rfl rfl rfl rfl rfl ?_
            refine goSU rfl rfl rfl rfl rfl rfl ?_
            refine goS rfl rfl rfl rfl rfl rfl hb15 ?_
            refine go1 (op_pick_t rfl hb15 (.t (has rfl)) (.bool _)) rfl ?_
            refine go1 (op_move rfl (.t (has rfl))) rfl ?_
            refine goS rfl rfl rfl rfl rfl rfl rfl ?_
            refine goS rfl rfl rfl rfl rfl rfl rfl ?_
            refine goS rfl rfl rfl rfl rfl rfl rfl ?_
            refine goS rfl rfl rfl rfl rfl rfl rfl ?_
            refine go1 (op_pick_t rfl rfl (.t (has rfl)) (.bool _)) rfl ?_
            refine goesO_nil ?_
            obtain rfl := Option.some.inj H
            exact ends_cut (.cons rfl (.cons rfl (.cons rfl (.cons rfl (.cons rfl (.cons rfl (.cons rfl (.cons rfl (.cons rfl (.cons rfl .nil))))))))))
          · skip
            refine goG (op_fieldAddr rfl Try.underlying77 rfl tk9 (.t (has rfl))) rfl rfl rfl rfl hb15 ?_
            refine goG (op_load rfl fldInfer_To tk9 (.t (has rfl)) (has rfl)) rfl rfl rfl rfl hb15 ?_
            refine goG (op_scmp rfl rfl (.t (has rfl)) (.str _)) rfl rfl rfl rfl hb15 ?_
            refine goG (op_move rfl (.t (has rfl))) rfl rfl rfl rfl hb15 ?_
            refine goesO_split H (fun hb16 H => ?_) (fun hb16 H => ?_)
            · skip
              refine goG (op_move rfl (.t (has rfl))) rfl rfl rfl rfl hb16 ?_
              refine goG (op_fieldAddr rfl Try.underlying77 rfl tk9 (.t (has rfl))) rfl rfl rfl rfl hb16 ?_
              refine goG (op_load rfl fldInfer_To tk9 (.t (has rfl)) (has rfl)) rfl rfl rfl rfl hb16 ?_
              obtain ⟨v17, h18, H⟩ := bind_some H
              refine goG (op_call' rfl enters20 (slices_Contains_string_string.con _ _ _ _ h18) rfl (.cons (ArgP.k (.t (has rfl))) (.cons (ArgP.k (.t (has rfl))) .nil))) rfl rfl rfl rfl hb16 ?_
              refine goG (op_not rfl (.t (has rfl))) rfl rfl rfl rfl hb16 ?_
              refine goG (op_pick_t rfl hb16 (.t (has rfl)) (.t (has rfl))) rfl rfl rfl rfl hb15 ?_
              refine go1 (op_pick_f rfl hb15 (.t (has rfl)) (.t (has rfl))) rfl ?_
              refine go1 (op_move rfl (.t (has rfl))) rfl ?_
              refine goesO_split H (fun hb19 H => ?_) (fun hb19 H => ?_)
              · skip
                refine goS rfl rfl rfl rfl rfl rfl hb19 ?_
                refine goS rfl rfl rfl rfl rfl rfl hb19 ?_
                refine goS rfl rfl rfl rfl rfl rfl hb19 ?_
                refine goS rfl rfl rfl rfl rfl rfl hb19 ?_
                refine go1 (op_pick_t rfl hb19 (.t (has rfl)) (.bool _)) rfl ?_
                refine goesO_nil ?_
                obtain rfl := Option.some.inj H
                exact ends_cut (.cons rfl (.cons rfl (.cons rfl (.cons rfl (.cons rfl (.cons rfl (.cons rfl (.cons rfl (.cons rfl (.cons rfl .nil))))))))))
              · skip
                refine goG (op_fieldAddr rfl Try.underlying77 rfl tk25 (.t (has rfl))) rfl rfl rfl rfl hb19 ?_
                refine goG (op_load rfl fldInfer_Recipe tk25 (.t (has rfl)) (has rfl)) rfl rfl rfl rfl hb19 ?_
                obtain ⟨v20, h21, H⟩ := bind_some H
                refine goG (op_call' rfl enters68 (load_recipe.con _ _ _ _ h21) rfl (.cons (ArgP.k (.t (has rfl))) (.cons (ArgP.k (.bool _)) .nil))) rfl rfl rfl rfl hb19 ?_
                refine goG (op_not rfl (.t (has rfl))) rfl rfl rfl rfl hb19 ?_
                refine go1 (op_pick_f rfl hb19 (.t (has rfl)) (.t (has rfl))) rfl ?_
                refine goesO_nil ?_
                obtain rfl := Option.some.inj H
                exact ends_cut (.cons rfl (.cons rfl (.cons rfl (.cons rfl (.cons rfl (.cons rfl (.cons rfl (.cons rfl (.cons rfl (.cons rfl .nil))))))))))
            · skip
              refine goS rfl rfl rfl rfl rfl rfl hb16 ?_
              refine goS rfl rfl rfl rfl rfl rfl hb16 ?_
              refine goS rfl rfl rfl rfl rfl rfl hb16 ?_
              refine goS rfl rfl rfl rfl rfl rfl hb16 ?_
              refine goS rfl rfl rfl rfl rfl rfl hb16 ?_
              refine goG (op_pick_f rfl hb16 (.t (has rfl)) (.bool _)) rfl rfl rfl rfl hb15 ?_
              refine go1 (op_pick_f rfl hb15 (.t (has rfl)) (.t (has rfl))) rfl ?_
              refine go1 (op_move rfl (.t (has rfl))) rfl ?_
              refine goG (op_fieldAddr rfl Try.underlying77 rfl tk25 (.t (has rfl))) rfl rfl rfl rfl rfl ?_
              refine goG (op_load rfl fldInfer_Recipe tk25 (.t (has rfl)) (has rfl)) rfl rfl rfl rfl rfl ?_
              obtain ⟨v22, h23, H⟩ := bind_some H
              refine goG (op_call' rfl enters68 (load_recipe.con _ _ _ _ h23) rfl (.cons (ArgP.k (.t (has rfl))) (.cons (ArgP.k (.bool _)) .nil))) rfl rfl rfl rfl rfl ?_
              refine goG (op_not rfl (.t (has rfl))) rfl rfl rfl rfl rfl ?_
              refine go1 (op_pick_f rfl rfl (.t (has rfl)) (.t (has rfl))) rfl ?_
              refine goesO_nil ?_
              obtain rfl := Option.some.inj H
              exact ends_cut (.cons rfl (.cons rfl (.cons rfl (.cons rfl (.cons rfl (.cons rfl (.cons rfl (.cons rfl (.cons rfl (.cons rfl .nil))))))))))
      refine ends_then ?_
      refine goes_if (.t (has rfl)) H (fun hb24 H => ?_) (fun hb24 H => ?_)
      · skip
        refine goes_seq ?_
        refine goes_region ?_
        refine go1 (op_assign rfl (.bool _)) rfl ?_
        refine goesO_nil ?_
        refine ends_then ?_
        obtain rfl := Option.some.inj H
        refine goes_ret (ends_then_ret (ends_block_ret (ends_then_ret (ends_then_ret (ends_block_ret (ends_cutR_ret rfl ?_))))))
        exact ends_ret' rfl rfl (.t rfl (.nil _))
      · skip
        refine goes_skip ?_
        refine ends_then ?_
        refine goes_region ?_
        refine go1 (op_moveA rfl plain_mp (.t (has rfl))) rfl ?_
        refine go1 (op_load rfl (Fld.whole kstr2) tk103 (.t (has rfl)) (has rfl)) rfl ?_
        obtain ⟨x25, h26, H⟩ := bind_some H
        refine go1 (op_mapUpdateP xmtp102 h26 (.t (has rfl)) (has rfl) (.t (has rfl)) (.bool _)) rfl ?_
        refine goesO_nil ?_
        refine ends_block ?_
        refine ends_then ?_
        refine goes_region ?_
        refine go1 (op_add rfl (.t (has rfl)) (.int _ _)) rfl ?_
        refine go1 (op_move rfl (.t (has rfl))) rfl ?_
        refine goesO_nil ?_
        exact loop_next _ H (.cons rfl (.cons rfl (.cons rfl (.cons rfl (.cons rfl (.cons rfl (.cons rfl .nil)))))))
    · skip
      refine goes_exit (ends_then_exit (ends_then_exit (ends_block_exit ?_)))
      obtain rfl := Option.some.inj H
      exact ends_cutR rfl (.cons rfl .nil)
  · rintro s2 rfl
    clear h3
    dsimp only at H
    refine ends_then ?_
    refine goes_seq ?_
    refine goes_region ?_
    refine go1 (op_move rfl (.t (has rfl))) rfl ?_
    refine go1 (op_len rfl rfl Try.underlying24 (.t (has rfl))) rfl ?_
    refine go1 (op_icmp rfl rfl (.t (has rfl)) (.int _ _)) rfl ?_
    refine go1 (op_assign rfl (.t (has rfl))) rfl ?_
    refine goesO_nil ?_
    refine ends_then ?_
    obtain rfl := Option.some.inj H
    exact goes_ret (ends_ret' rfl rfl (.t rfl (.nil _)))
  · rintro r' rfl a w hr
    obtain rfl := Option.some.inj H
    exact hr
/-! smithy/load.Check$1 -/
def load_Check_1.f (a0 : Rule) (c0 : Make) : Option Bool := some (scmp .eql a0.Target c0.First)
set_option maxRecDepth 100000 in
set_option maxHeartbeats 4000000 in
theorem load_Check_1.con (a0 : Rule) (c0 : Make) (r : Bool) (H : load_Check_1.f a0 c0 = some r) : Con Try.prog 50 [VA.k kRule a0, VA.pt kMake c0] [VA.k kbool r] := by
  unfold load_Check_1.f at H
  refine con_enter Try.func50 rfl rfl rfl (fun w0 S0 θ => ?_)
  refine goes_seq ?_
  refine goes_region ?_
  refine go3 (op_box 2 rfl (fun h => by first | rfl | cases h) (.t (has rfl))) rfl ?_
  refine go1 (op_assign rfl (.bool _)) rfl ?_
  refine goesO_nil ?_
  refine ends_then ?_
  refine goes_seq ?_
  refine goes_region ?_
  refine go1 (op_fieldAddr rfl Try.underlying52 rfl tk9 (.t (has rfl))) rfl ?_
  refine go1 (op_load rfl fldRule_Target tk9 (.t (has rfl)) (has rfl)) rfl ?_
  refine go1 (op_fieldAddrp rfl fldMake_First Try.underlying29 rfl tk9 (.t (has rfl))) rfl ?_
  refine go1 (op_loadp rfl tk9 (.t (has rfl))) rfl ?_
  refine go1 (op_scmp rfl rfl (.t (has rfl)) (.t (has rfl))) rfl ?_
  refine go1 (op_assign rfl (.t (has rfl))) rfl ?_
  refine goesO_nil ?_
  refine ends_then ?_
  obtain rfl := Option.some.inj H
  exact goes_ret (ends_ret' rfl rfl (.t rfl (.nil _)))
/-! slices.IndexFunc[[]smithy/api.Rule,smithy/api.Rule] -/
def slices_IndexFunc_api_Rule_api_Rule.l0 (a0 : List Rule) (a1 : Rule → Option Bool) : Nat → Int → Option (Except Int Unit)
  | 0, _ => none
  | k + 1, s1 => bif icmp .lss s1 (a0.length : Int) then ((idx a0 s1).bind fun x6 => (a1 x6).bind fun v8 => bif v8 then (some (Except.error s1)) else (slices_IndexFunc_api_Rule_api_Rule.l0 a0 a1 k (IntKind.i64.wrap (s1 + (1 : Int))))) else (some (Except.ok ()))
def slices_IndexFunc_api_Rule_api_Rule.f (k : Nat) (a0 : List Rule) (a1 : Rule → Option Bool) : Option Int := (slices_IndexFunc_api_Rule_api_Rule.l0 a0 a1 k (0 : Int)).bind fun o4 => match o4 with | .error r' => some r' | .ok s2 => (some (-1 : Int))
set_option maxRecDepth 100000 in
set_option maxHeartbeats 4000000 in
theorem slices_IndexFunc_api_Rule_api_Rule.con (F1 : FuncId) (pre1 caps1 : List VA) (k : Nat) (a0 : List Rule) (a1 : Rule → Option Bool) (hE1 : Enters Try.prog F1) (hp1 : ∀ (z0 : Rule) r, a1 z0 = some r → Con Try.prog F1 (pre1 ++ ([VA.k kRule z0] ++ caps1)) [VA.k kbool r]) (r : Int) (H : slices_IndexFunc_api_Rule_api_Rule.f k a0 a1 = some r) : Con Try.prog 71 [VA.k (kslice kRule) a0, VA.clo F1 pre1 caps1] [VA.k (kint .i64) r] := by
  unfold slices_IndexFunc_api_Rule_api_Rule.f at H
  refine con_enter Try.func71 rfl rfl rfl (fun w0 S0 θ => ?_)
  refine goes_seq ?_
  refine goes_region ?_
  refine go1 (op_assign rfl (.int _ _)) rfl ?_
  refine goesO_nil ?_
  refine ends_then ?_
  refine goes_seq ?_
  refine goes_seq ?_
  refine goes_region ?_
  refine go1 (op_move rfl (.t (has rfl))) rfl ?_
  refine go1 (op_len rfl rfl Try.underlying23 (.t (has rfl))) rfl ?_
  refine go1 (op_move rfl (.int _ _)) rfl ?_
  refine goesO_nil ?_
  refine ends_then ?_
  obtain ⟨o4, h3, H⟩ := bind_some H
  refine goes_cutR (o := o4) (fun s2 : Unit => []) (fun r a w => bodyPost Try.prog Try.f71 (CPost w0 S0 θ [VA.k (kint .i64) r]) .ret a w) ?_ ?_ ?_
  · replace H := h3; clear h3
    refine goes_block ?_
    refine goes_loop (fun s1 : Int => [Ent.t 0 (VA.k (kslice kRule) a0), Ent.t 1 (VA.clo F1 pre1 caps1), Ent.t 7 (VA.k (kint .i64) (a0.length : Int)), Ent.t 8 (VA.k (kint .i64) s1)]) (fun k s1 => slices_IndexFunc_api_Rule_api_Rule.l0 a0 a1 k s1) (fun _ => rfl) H (.cons rfl (.cons rfl (.cons rfl (.cons rfl .nil)))) ?_
    intro k s1 H
    simp only [slices_IndexFunc_api_Rule_api_Rule.l0] at H
    refine goes_seq ?_
    refine goes_region ?_
    refine go1 (op_icmp rfl rfl (.t (has rfl)) (.t (has rfl))) rfl ?_
    refine goesO_nil ?_
    refine ends_then ?_
    refine goes_seq ?_
    refine goes_if (.t (has rfl)) H (fun hb5 H => ?_) (fun hb5 H => ?_)
    · skip
      refine goes_skip ?_
      refine ends_then ?_
      refine goes_seq ?_
      refine goes_block ?_
      refine goes_seq ?_
      refine goes_region ?_
      refine go1 (op_move rfl (.t (has rfl))) rfl ?_
      refine go1 (op_assign rfl (.t (has rfl))) rfl ?_
      refine goesO_nil ?_
      refine ends_then ?_
      refine goes_seq ?_
      refine goes_region ?_
      refine go1 (op_moveA rfl plain_clo (.t (has rfl))) rfl ?_
      refine go1 (op_move rfl (.t (has rfl))) rfl ?_
      refine go1 (op_move rfl (.t (has rfl))) rfl ?_
      obtain ⟨x6, h7, H⟩ := bind_some H
      refine go1 (op_indexAddr rfl Try.underlying23 tk52 h7 (.t (has rfl)) (.t (has rfl))) rfl ?_
      refine go1 (op_loadp rfl tk52 (.t (has rfl))) rfl ?_
      obtain ⟨v8, h9, H⟩ := bind_some H
      refine go1 (op_callv rfl (.t (has rfl)) hE1 (hp1 _ _ h9) rfl (.cons (ArgP.k (.t (has rfl))) .nil)) rfl ?_
      refine goesO_nil ?_
      refine ends_then ?_
      refine goes_if (.t (has rfl)) H (fun hb10 H => ?_) (fun hb10 H => ?_)
      · skip
        refine goes_seq ?_
        refine goes_region ?_
        refine go1 (op_move rfl (.t (has rfl))) rfl ?_
        refine go1 (op_assign rfl (.t (has rfl))) rfl ?_
        refine goesO_nil ?_
        refine ends_then ?_
        obtain rfl := Option.some.inj H
        refine goes_ret (ends_block_ret (ends_then_ret (ends_then_ret (ends_block_ret (ends_cutR_ret rfl ?_)))))
        exact ends_ret' rfl rfl (.t rfl (.nil _))
      · skip
        refine goes_skip ?_
        refine ends_block ?_
        refine ends_then ?_
        refine goes_region ?_
        refine go1 (op_add rfl (.t (has rfl)) (.int _ _)) rfl ?_
        refine go1 (op_move rfl (.t (has rfl))) rfl ?_
        refine goesO_nil ?_
        exact loop_next _ H (.cons rfl (.cons rfl (.cons rfl (.cons rfl .nil))))
    · skip
      refine goes_exit (ends_then_exit (ends_then_exit (ends_block_exit ?_)))
      obtain rfl := Option.some.inj H
      exact ends_cutR rfl .nil
  · rintro s2 rfl
    clear h3
    dsimp only at H
    refine ends_then ?_
    refine goes_seq ?_
    refine goes_region ?_
    refine go1 (op_assign rfl (.int _ _)) rfl ?_
    refine goesO_nil ?_
    refine ends_then ?_
    obtain rfl := Option.some.inj H
    exact goes_ret (ends_ret' rfl rfl (.t rfl (.nil _)))
  · rintro r' rfl a w hr
    obtain rfl := Option.some.inj H
    exact hr
/-! slices.ContainsFunc[[]smithy/api.Rule,smithy/api.Rule] -/
def slices_ContainsFunc_api_Rule_api_Rule.f (k : Nat) (a0 : List Rule) (a1 : Rule → Option Bool) : Option Bool := (slices_IndexFunc_api_Rule_api_Rule.f k a0 a1).bind fun v1 => some (icmp .geq v1 (0 : Int))
set_option maxRecDepth 100000 in
set_option maxHeartbeats 4000000 in
theorem slices_ContainsFunc_api_Rule_api_Rule.con (F1 : FuncId) (pre1 caps1 : List VA) (k : Nat) (a0 : List Rule) (a1 : Rule → Option Bool) (hE1 : Enters Try.prog F1) (hp1 : ∀ (z0 : Rule) r, a1 z0 = some r → Con Try.prog F1 (pre1 ++ ([VA.k kRule z0] ++ caps1)) [VA.k kbool r]) (r : Bool) (H : slices_ContainsFunc_api_Rule_api_Rule.f k a0 a1 = some r) : Con Try.prog 49 [VA.k (kslice kRule) a0, VA.clo F1 pre1 caps1] [VA.k kbool r] := by
  unfold slices_ContainsFunc_api_Rule_api_Rule.f at H
  refine con_enter Try.func49 rfl rfl rfl (fun w0 S0 θ => ?_)
  refine goes_seq ?_
  refine goes_region ?_
  refine go1 (op_assign rfl (.bool _)) rfl ?_
  refine goesO_nil ?_
  refine ends_then ?_
  refine goes_seq ?_
  refine goes_region ?_
  refine go1 (op_move rfl (.t (has rfl))) rfl ?_
  refine go1 (op_moveA rfl plain_clo (.t (has rfl))) rfl ?_
  obtain ⟨v1, h2, H⟩ := bind_some H
  refine go1 (op_call' rfl enters71 (slices_IndexFunc_api_Rule_api_Rule.con F1 pre1 caps1 _ _ a1 hE1 hp1 _ h2) rfl (.cons (ArgP.k (.t (has rfl))) (.cons (ArgP.clo (.t (has rfl))) .nil))) rfl ?_
  refine go1 (op_icmp rfl rfl (.t (has rfl)) (.int _ _)) rfl ?_
  refine go1 (op_assign rfl (.t (has rfl))) rfl ?_
  refine goesO_nil ?_
  refine ends_then ?_
  obtain rfl := Option.some.inj H
  exact goes_ret (ends_ret' rfl rfl (.t rfl (.nil _)))
theorem slices_ContainsFunc_api_Rule_api_Rule.conF (F1 : FuncId) (pre1 caps1 : List VA) (k : Nat) (a0 : List Rule) (a1 : Rule → Option Bool) (hE1 : Enters Try.prog F1) (hp1 : ∀ (z0 : Rule) r, a1 z0 = some r → Con Try.prog F1 (pre1 ++ ([VA.k kRule z0] ++ caps1)) [VA.k kbool r]) (r : Bool) (H : slices_ContainsFunc_api_Rule_api_Rule.f k a0 a1 = some r) : ConF Try.prog 49 [VA.k (kslice kRule) a0, VA.clo F1 pre1 caps1] [VA.k kbool r] := (slices_ContainsFunc_api_Rule_api_Rule.con F1 pre1 caps1 k a0 a1 hE1 hp1 r H).freeL (.cons (KFree.k KFree.bool _) .nil)
/-! smithy/load.Check -/
def load_Check.f (k : Nat) (a0 : Make) : Option Int := ((macro_Check.f k a0.Macros).bind fun v3 => bif icmp .eql v3 (0 : Int) then ((load_rules.f k a0.Rules).bind fun v6 => bif v6 then ((load_settings.f k a0.Special).bind fun v9 => bif v9 then ((load_infers.f k a0.Infers a0.Special.Suffixes).bind fun v12 => some v12) else (some false)) else (some false)) else (some false)).bind fun s1 => (bif s1 then (bif scmp .eql a0.First (⟨#[]⟩ : ByteArray) then (some true) else ((slices_ContainsFunc_api_Rule_api_Rule.f k a0.Rules (fun (z0 : Rule) => load_Check_1.f z0 a0)).bind fun v18 => some v18)) else (some false)).bind fun s14 => bif !s14 then (some (6 : Int)) else (some (0 : Int))
set_option maxRecDepth 100000 in
set_option maxHeartbeats 4000000 in
theorem load_Check.con (k : Nat) (a0 : Make) (r : Int) (H : load_Check.f k a0 = some r) : Con Try.prog 34 [VA.k kMake a0] [VA.k (kint .i64) r] := by
  unfold load_Check.f at H
  refine con_enter Try.func34 rfl rfl rfl (fun w0 S0 θ => ?_)
  refine goes_seq ?_
  refine goes_region ?_
  refine go3 (op_box 1 rfl (fun h => by first | rfl | cases h) (.t (has rfl))) rfl ?_
  refine go1 (op_assign rfl (.int _ _)) rfl ?_
  refine goesO_nil ?_
  refine ends_then ?_
  refine goes_seq ?_
  obtain ⟨s1, h2, H⟩ := bind_some H
  refine goes_cut [Ent.t 1 (VA.ptr 1 0), Ent.t 3 (VA.k kbool s1), Ent.h 1 (HE.box 29 kMake a0)] ?_ ?_
  · replace H := h2; clear h2
    refine goes_region ?_
    refine go1 (op_fieldAddr rfl Try.underlying29 rfl tk22 (.t (has rfl))) rfl ?_
    refine go1 (op_load rfl fldMake_Macros tk22 (.t (has rfl)) (has rfl)) rfl ?_
    obtain ⟨v3, h4, H⟩ := bind_some H
    refine go1 (op_call' rfl enters45 (macro_Check.con _ _ _ h4) rfl (.cons (ArgP.k (.t (has rfl))) .nil)) rfl ?_
    refine go1 (op_icmp rfl rfl (.t (has rfl)) (.int _ _)) rfl ?_
    refine go1 (op_move rfl (.t (has rfl))) rfl ?_
    refine goesO_split H (fun hb5 H => ?_) (fun hb5 H => ?_)
    · skip
      refine goG (op_fieldAddr rfl Try.underlying29 rfl tk23 (.t (has rfl))) rfl rfl rfl rfl hb5 ?_
      refine goG (op_load rfl fldMake_Rules tk23 (.t (has rfl)) (has rfl)) rfl rfl rfl rfl hb5 ?_
      obtain ⟨v6, h7, H⟩ := bind_some H
      refine goG (op_call' rfl enters46 (load_rules.con _ _ _ h7) rfl (.cons (ArgP.k (.t (has rfl))) .nil)) rfl rfl rfl rfl hb5 ?_
      refine go1 (op_pick_t rfl hb5 (.t (has rfl)) (.t (has rfl))) rfl ?_
      refine go1 (op_move rfl (.t (has rfl))) rfl ?_
      refine goesO_split H (fun hb8 H => ?_) (fun hb8 H => ?_)
      · skip
        refine goG (op_fieldAddr rfl Try.underlying29 rfl tk27 (.t (has rfl))) rfl rfl rfl rfl hb8 ?_
        refine goG (op_load rfl fldMake_Special tk27 (.t (has rfl)) (has rfl)) rfl rfl rfl rfl hb8 ?_
        obtain ⟨v9, h10, H⟩ := bind_some H
        refine goG (op_call' rfl enters47 (load_settings.con _ _ _ h10) rfl (.cons (ArgP.k (.t (has rfl))) .nil)) rfl rfl rfl rfl hb8 ?_
        refine go1 (op_pick_t rfl hb8 (.t (has rfl)) (.t (has rfl))) rfl ?_
        refine go1 (op_move rfl (.t (has rfl))) rfl ?_
        refine goesO_split H (fun hb11 H => ?_) (fun hb11 H => ?_)
        · skip
          refine goG (op_fieldAddr rfl Try.underlying29 rfl tk24 (.t (has rfl))) rfl rfl rfl rfl hb11 ?_
          refine goG (op_load rfl fldMake_Infers tk24 (.t (has rfl)) (has rfl)) rfl rfl rfl rfl hb11 ?_
          refine goG (op_fieldAddr rfl Try.underlying29 rfl tk27 (.t (has rfl))) rfl rfl rfl rfl hb11 ?_
          refine goG (op_fieldAddr rfl Try.underlying27 rfl tk25 (.t (has rfl))) rfl rfl rfl rfl hb11 ?_
          refine goG (op_load rfl (Fld.comp fldMake_Special fldSpecial_Suffixes) tk25 (.t (has rfl)) (has rfl)) rfl rfl rfl rfl hb11 ?_
          obtain ⟨v12, h13, H⟩ := bind_some H
          refine goG (op_call' rfl enters48 (load_infers.con _ _ _ _ h13) rfl (.cons (ArgP.k (.t (has rfl))) (.cons (ArgP.k (.t (has rfl))) .nil))) rfl rfl rfl rfl hb11 ?_
          refine go1 (op_pick_t rfl hb11 (.t (has rfl)) (.t (has rfl))) rfl ?_
          refine go1 (op_assign rfl (.t (has rfl))) rfl ?_
          refine goesO_nil ?_
          obtain rfl := Option.some.inj H
          exact ends_cut (.cons rfl (.cons rfl (.cons rfl .nil)))
        · skip
          refine goS rfl rfl rfl rfl rfl rfl hb11 ?_
          refine goS rfl rfl rfl rfl rfl rfl hb11 ?_
          refine goS rfl rfl rfl rfl rfl rfl hb11 ?_
          refine goS rfl rfl rfl rfl rfl rfl hb11 ?_
          refine goS rfl rfl rfl rfl rfl rfl hb11 ?_
          refine goS rfl rfl rfl rfl rfl rfl hb11 ?_
          refine go1 (op_pick_f rfl hb11 (.t (has rfl)) (.bool _)) rfl ?_
          refine go1 (op_assign rfl (.t (has rfl))) rfl ?_
          refine goesO_nil ?_
          obtain rfl := Option.some.inj H
          exact ends_cut (.cons rfl (.cons rfl (.cons rfl .nil)))
      · skip
        refine goS rfl rfl rfl rfl rfl rfl hb8 ?_
        refine goS rfl rfl rfl rfl rfl rfl hb8 ?_
        refine goS rfl rfl rfl rfl rfl rfl hb8 ?_
        refine go1 (op_pick_f rfl hb8 (.t (has rfl)) (.bool _)) rfl ?_
        refine go1 (op_move rfl (.t (has rfl))) rfl ?_
        refine goS rfl rfl rfl rfl rfl rfl rfl ?_
        refine goS rfl rfl rfl rfl rfl rfl rfl ?_
        refine goS rfl rfl rfl rfl rfl rfl rfl ?_
        refine goS rfl rfl rfl rfl rfl rfl rfl ?_
        refine goS rfl rfl rfl rfl rfl rfl rfl ?_
        refine goS rfl rfl rfl rfl rfl rfl rfl ?_
        refine go1 (op_pick_f rfl rfl (.t (has rfl)) (.bool _)) rfl ?_
        refine go1 (op_assign rfl (.t (has rfl))) rfl ?_
        refine goesO_nil ?_
        obtain rfl := Option.some.inj H
        exact ends_cut (.cons rfl (.cons rfl (.cons rfl .nil)))
    · skip
      refine goS rfl rfl rfl rfl rfl rfl hb5 ?_
      refine goS rfl rfl rfl rfl rfl rfl hb5 ?_
      refine goS rfl rfl rfl rfl rfl rfl hb5 ?_
      refine go1 (op_pick_f rfl hb5 (.t (has rfl)) (.bool _)) rfl ?_
      refine go1 (op_move rfl (.t (has rfl))) rfl ?_
      refine goS rfl rfl rfl rfl rfl rfl rfl ?_
      refine goS rfl rfl rfl rfl rfl rfl rfl ?_
      refine goS rfl rfl rfl rfl rfl rfl rfl ?_
      refine go1 (op_pick_f rfl rfl (.t (has rfl)) (.bool _)) rfl ?_
      refine go1 (op_move rfl (.t (has rfl))) rfl ?_
      refine goS rfl rfl rfl rfl rfl rfl rfl ?_
      refine goS rfl rfl rfl rfl rfl rfl rfl ?_
      refine goS rfl rfl rfl rfl rfl rfl rfl ?_
      refine goS rfl rfl rfl rfl rfl rfl rfl ?_
      refine goS rfl rfl rfl rfl rfl rfl rfl ?_
      refine goS rfl rfl rfl rfl rfl rfl rfl ?_
      refine go1 (op_pick_f rfl rfl (.t (has rfl)) (.bool _)) rfl ?_
      refine go1 (op_assign rfl (.t (has rfl))) rfl ?_
      refine goesO_nil ?_
      obtain rfl := Option.some.inj H
      exact ends_cut (.cons rfl (.cons rfl (.cons rfl .nil)))
  refine ends_then ?_
  refine goes_seq ?_
  obtain ⟨s14, h15, H⟩ := bind_some H
  refine goes_cut [Ent.t 3 (VA.k kbool s14)] ?_ ?_
  · replace H := h15; clear h15
    refine goes_region ?_
    refine go1 (op_move rfl (.t (has rfl))) rfl ?_
    refine go1 (op_move rfl (.t (has rfl))) rfl ?_
    refine goesO_split H (fun hb16 H => ?_) (fun hb16 H => ?_)
    · skip
      refine goG (op_fieldAddr rfl Try.underlying29 rfl tk9 (.t (has rfl))) rfl rfl rfl rfl hb16 ?_
      refine goG (op_load rfl fldMake_First tk9 (.t (has rfl)) (has rfl)) rfl rfl rfl rfl hb16 ?_
      refine goG (op_scmp rfl rfl (.t (has rfl)) (.str _)) rfl rfl rfl rfl hb16 ?_
      refine goG (op_move rfl (.t (has rfl))) rfl rfl rfl rfl hb16 ?_
      refine goesO_split H (fun hb17 H => ?_) (fun hb17 H => ?_)
      · skip
        refine goS rfl rfl rfl rfl rfl rfl hb17 ?_
        refine goS rfl rfl rfl rfl rfl rfl hb17 ?_
        refine goS rfl rfl rfl rfl rfl rfl hb17 ?_
        refine goS rfl rfl rfl rfl rfl rfl hb17 ?_
        refine goG (op_pick_t rfl hb17 (.t (has rfl)) (.bool _)) rfl rfl rfl rfl hb16 ?_
        refine go1 (op_pick_t rfl hb16 (.t (has rfl)) (.t (has rfl))) rfl ?_
        refine go1 (op_assign rfl (.t (has rfl))) rfl ?_
        refine goesO_nil ?_
        obtain rfl := Option.some.inj H
        exact ends_cut (.cons rfl .nil)
      · skip
        refine goG (op_fieldAddr rfl Try.underlying29 rfl tk23 (.t (has rfl))) rfl rfl rfl rfl hb17 ?_
        refine goG (op_load rfl fldMake_Rules tk23 (.t (has rfl)) (has rfl)) rfl rfl rfl rfl hb17 ?_
        refine goG (op_makeFunc (ys := []) (xs := [1]) rfl rfl rfl rfl) rfl rfl rfl rfl hb17 ?_
        obtain ⟨v18, h19, H⟩ := bind_some H
        refine goG (op_callF' rfl enters49 (slices_ContainsFunc_api_Rule_api_Rule.conF 50 ([]) ([VA.pt kMake a0]) _ _ (fun (z0 : Rule) => load_Check_1.f z0 a0) enters50 (fun z0 r h => load_Check_1.con z0 a0 r h) _ h19) rfl (.cons (ArgB.k (.t (has rfl))) (.cons (ArgB.mf rfl rfl (has rfl) .nil (.cons (ArgB.ptk (get := fun x => x) (y := a0) (Fld.whole kMake) (.t (has rfl)) (has rfl)) .nil)) .nil))) rfl rfl rfl rfl hb17 ?_
        refine goG (op_pick_f rfl hb17 (.t (has rfl)) (.t (has rfl))) rfl rfl rfl rfl hb16 ?_
        refine go1 (op_pick_t rfl hb16 (.t (has rfl)) (.t (has rfl))) rfl ?_
        refine go1 (op_assign rfl (.t (has rfl))) rfl ?_
        refine goesO_nil ?_
        obtain rfl := Option.some.inj H
        exact ends_cut (.cons rfl .nil)
    · skip
      refine goS rfl rfl rfl rfl rfl rfl hb16 ?_
      refine goS rfl rfl rfl rfl rfl rfl hb16 ?_
      refine goS rfl rfl rfl rfl rfl rfl hb16 ?_
      refine goS rfl rfl rfl rfl rfl rfl hb16 ?_
      refine goSU rfl rfl rfl rfl rfl rfl ?_
      refine goSU rfl rfl rfl rfl rfl rfl ?_
      refine goSU rfl rfl rfl rfl rfl rfl ?_
      refine goSU rfl rfl rfl rfl rfl rfl ?_
      refine goS rfl rfl rfl rfl rfl rfl hb16 ?_
      refine go1 (op_pick_f rfl hb16 (.t (has rfl)) (.bool _)) rfl ?_
      refine go1 (op_assign rfl (.t (has rfl))) rfl ?_
      refine goesO_nil ?_
      obtain rfl := Option.some.inj H
      exact ends_cut (.cons rfl .nil)
  refine ends_then ?_
  refine goes_seq ?_
  refine goes_seq ?_
  refine goes_region ?_
  refine go1 (op_move rfl (.t (has rfl))) rfl ?_
  refine go1 (op_not rfl (.t (has rfl))) rfl ?_
  refine goesO_nil ?_
  refine ends_then ?_
  refine goes_if (.t (has rfl)) H (fun hb20 H => ?_) (fun hb20 H => ?_)
  · skip
    refine goes_seq ?_
    refine goes_region ?_
    refine go1 (op_assign rfl (.int _ _)) rfl ?_
    refine goesO_nil ?_
    refine ends_then ?_
    obtain rfl := Option.some.inj H
    exact goes_ret (ends_then_ret (ends_ret' rfl rfl (.t rfl (.nil _))))
  · skip
    refine goes_skip ?_
    refine ends_then ?_
    refine goes_seq ?_
    refine goes_region ?_
    refine go1 (op_assign rfl (.int _ _)) rfl ?_
    refine goesO_nil ?_
    refine ends_then ?_
    obtain rfl := Option.some.inj H
    exact goes_ret (ends_ret' rfl rfl (.t rfl (.nil _)))
end Go.Proofs.Ytlpmolohppoofaa.F
