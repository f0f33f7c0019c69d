import Derived.Test.YtlpmolohppoofaaFOx3
set_option linter.unusedVariables false
set_option linter.unusedSimpArgs false
set_option linter.unnecessarySimpa false
set_option linter.deprecated false
namespace Go.Proofs.Ytlpmolohppoofaa.F
open Go Go.RowKit Go.Proofs.Ytlpmolohppoofaa.Sl
/-! smithy/smithyref03.Is -/
def smithyref03_Is.l0 (a0 : ByteArray) : Nat → Int → Option (Except Bool Unit)
  | 0, _ => none
  | k + 1, s5 => bif icmp .lss s5 (a0.size : Int) then ((bidx a0 s5).bind fun x10 => (smithyref03_letter.f x10).bind fun v12 => bif !v12 then (some (Except.error false)) else (smithyref03_Is.l0 a0 k (IntKind.i64.wrap (s5 + (1 : Int))))) else (some (Except.ok ()))
def smithyref03_Is.f (k : Nat) (a0 : ByteArray) : Option Bool := (bif icmp .lss (a0.size : Int) (1 : Int) then (some true) else (some (icmp .gtr (a0.size : Int) (64 : Int)))).bind fun s1 => bif s1 then (some false) else ((smithyref03_Is.l0 a0 k (0 : Int)).bind fun o8 => match o8 with | .error r' => some r' | .ok s6 => (some true))
set_option maxRecDepth 100000 in
set_option maxHeartbeats 4000000 in
theorem smithyref03_Is.con (k : Nat) (a0 : ByteArray) (r : Bool) (H : smithyref03_Is.f k a0 = some r) : Con Try.prog 25 [VA.k kstr a0] [VA.k kbool r] := by
  unfold smithyref03_Is.f at H
  refine con_enter Try.func25 rfl rfl rfl (fun w0 S0 θ => ?_)
  refine goes_seq ?_
  refine goes_region ?_
  refine go1 (op_assign rfl (.bool _)) rfl ?_
  refine goesO_nil ?_
  refine ends_then ?_
  refine goes_seq ?_
  refine goes_seq ?_
  obtain ⟨s1, h2, H⟩ := bind_some H
  refine goes_cut [Ent.t 0 (VA.k kstr a0), Ent.t 11 (VA.k kbool s1)] ?_ ?_
  · replace H := h2; clear h2
    refine goes_region ?_
    refine go1 (op_move rfl (.t (has rfl))) rfl ?_
    refine go1 (op_len_str rfl rfl Try.underlying9 (.t (has rfl))) rfl ?_
    refine go1 (op_icmp rfl rfl (.t (has rfl)) (.int _ _)) rfl ?_
    refine go1 (op_move rfl (.t (has rfl))) rfl ?_
    refine goesO_split H (fun hb3 H => ?_) (fun hb3 H => ?_)
    · skip
      refine goS rfl rfl rfl rfl rfl rfl hb3 ?_
      refine goS rfl rfl rfl rfl rfl rfl hb3 ?_
      refine goS rfl rfl rfl rfl rfl rfl hb3 ?_
      refine go1 (op_pick_t rfl hb3 (.t (has rfl)) (.bool _)) rfl ?_
      refine goesO_nil ?_
      obtain rfl := Option.some.inj H
      exact ends_cut (.cons rfl (.cons rfl .nil))
    · skip
      refine goG (op_move rfl (.t (has rfl))) rfl rfl rfl rfl hb3 ?_
      refine goG (op_len_str rfl rfl Try.underlying9 (.t (has rfl))) rfl rfl rfl rfl hb3 ?_
      refine goG (op_icmp rfl rfl (.t (has rfl)) (.int _ _)) rfl rfl rfl rfl hb3 ?_
      refine go1 (op_pick_f rfl hb3 (.t (has rfl)) (.t (has rfl))) rfl ?_
      refine goesO_nil ?_
      obtain rfl := Option.some.inj H
      exact ends_cut (.cons rfl (.cons rfl .nil))
  refine ends_then ?_
  refine goes_if (.t (has rfl)) H (fun hb4 H => ?_) (fun hb4 H => ?_)
  · skip
    refine goes_seq ?_
    refine goes_region ?_
    refine go1 (op_assign rfl (.bool _)) rfl ?_
    refine goesO_nil ?_
    refine ends_then ?_
    obtain rfl := Option.some.inj H
    exact goes_ret (ends_then_ret (ends_ret' rfl rfl (.t rfl (.nil _))))
  · skip
    refine goes_skip ?_
    refine ends_then ?_
    refine goes_seq ?_
    refine goes_seq ?_
    refine goes_region ?_
    refine go1 (op_assign rfl (.int _ _)) rfl ?_
    refine goesO_nil ?_
    refine ends_then ?_
    obtain ⟨o8, h7, H⟩ := bind_some H
    refine goes_cutR (o := o8) (fun s6 : Unit => []) (fun r a w => bodyPost Try.prog Try.f25 (CPost w0 S0 θ [VA.k kbool r]) .ret a w) ?_ ?_ ?_
    · replace H := h7; clear h7
      refine goes_block ?_
      refine goes_loop (fun s5 : Int => [Ent.t 0 (VA.k kstr a0), Ent.t 3 (VA.k (kint .i64) s5)]) (fun k s5 => smithyref03_Is.l0 a0 k s5) (fun _ => rfl) H (.cons rfl (.cons rfl .nil)) ?_
      intro k s5 H
      simp only [smithyref03_Is.l0] at H
      refine goes_seq ?_
      refine goes_seq ?_
      refine goes_region ?_
      refine go1 (op_move rfl (.t (has rfl))) rfl ?_
      refine go1 (op_move rfl (.t (has rfl))) rfl ?_
      refine go1 (op_len_str rfl rfl Try.underlying9 (.t (has rfl))) rfl ?_
      refine go1 (op_icmp rfl rfl (.t (has rfl)) (.t (has rfl))) rfl ?_
      refine goesO_nil ?_
      refine ends_then ?_
      refine goes_if (.t (has rfl)) H (fun hb9 H => ?_) (fun hb9 H => ?_)
      · skip
        refine goes_skip ?_
        refine ends_then ?_
        refine goes_seq ?_
        refine goes_block ?_
        refine goes_seq ?_
        refine goes_region ?_
        refine go1 (op_move rfl (.t (has rfl))) rfl ?_
        refine go1 (op_move rfl (.t (has rfl))) rfl ?_
        obtain ⟨x10, h11, H⟩ := bind_some H
        refine go1 (op_index_str rfl Try.underlying9 h11 (.t (has rfl)) (.t (has rfl))) rfl ?_
        obtain ⟨v12, h13, H⟩ := bind_some H
        refine go1 (op_call' rfl enters39 (smithyref03_letter.con _ _ h13) rfl (.cons (ArgP.k (.t (has rfl))) .nil)) rfl ?_
        refine go1 (op_not rfl (.t (has rfl))) rfl ?_
        refine goesO_nil ?_
        refine ends_then ?_
        refine goes_if (.t (has rfl)) H (fun hb14 H => ?_) (fun hb14 H => ?_)
        · skip
          refine goes_seq ?_
          refine goes_region ?_
          refine go1 (op_assign rfl (.bool _)) rfl ?_
          refine goesO_nil ?_
          refine ends_then ?_
          obtain rfl := Option.some.inj H
          refine goes_ret (ends_block_ret (ends_then_ret (ends_then_ret (ends_block_ret (ends_cutR_ret rfl ?_)))))
          exact ends_ret' rfl rfl (.t rfl (.nil _))
        · skip
          refine goes_skip ?_
          refine ends_block ?_
          refine ends_then ?_
          refine goes_region ?_
          refine go1 (op_move rfl (.t (has rfl))) rfl ?_
          refine go1 (op_add rfl (.t (has rfl)) (.int _ _)) rfl ?_
          refine go1 (op_assign rfl (.t (has rfl))) rfl ?_
          refine goesO_nil ?_
          exact loop_next _ H (.cons rfl (.cons rfl .nil))
      · skip
        refine goes_exit (ends_then_exit (ends_then_exit (ends_block_exit ?_)))
        obtain rfl := Option.some.inj H
        exact ends_cutR rfl .nil
    · rintro s6 rfl
      clear h7
      dsimp only at H
      refine ends_then ?_
      refine goes_seq ?_
      refine goes_region ?_
      refine go1 (op_assign rfl (.bool _)) rfl ?_
      refine goesO_nil ?_
      refine ends_then ?_
      obtain rfl := Option.some.inj H
      exact goes_ret (ends_ret' rfl rfl (.t rfl (.nil _)))
    · rintro r' rfl a w hr
      obtain rfl := Option.some.inj H
      exact hr
/-! smithy/smithyref09.listed -/
def smithyref09_listed.l0 (a0 : List ByteArray) : Nat → Int → Option (Except Bool Unit)
  | 0, _ => none
  | k + 1, s1 => bif icmp .lss s1 (a0.length : Int) then ((idx a0 s1).bind fun x6 => ((smithyref03_Is.f k x6).bind fun v10 => bif !v10 then (some true) else (bif icmp .gtr s1 (0 : Int) then ((idx a0 (IntKind.i64.wrap (s1 - (1 : Int)))).bind fun x14 => some (scmp .geq x14 x6)) else (some false))).bind fun s8 => bif s8 then (some (Except.error false)) else (smithyref09_listed.l0 a0 k (IntKind.i64.wrap (s1 + (1 : Int))))) else (some (Except.ok ()))
def smithyref09_listed.f (k : Nat) (a0 : List ByteArray) : Option Bool := (smithyref09_listed.l0 a0 k (0 : Int)).bind fun o4 => match o4 with | .error r' => some r' | .ok s2 => (some (icmp .leq (a0.length : Int) (512 : Int)))
set_option maxRecDepth 100000 in
set_option maxHeartbeats 4000000 in
theorem smithyref09_listed.con (k : Nat) (a0 : List ByteArray) (r : Bool) (H : smithyref09_listed.f k a0 = some r) : Con Try.prog 38 [VA.k (kslice kstr) a0] [VA.k kbool r] := by
  unfold smithyref09_listed.f at H
  refine con_enter Try.func38 rfl rfl rfl (fun w0 S0 θ => ?_)
  refine goes_seq ?_
  refine goes_region ?_
  refine go1 (op_assign rfl (.bool _)) rfl ?_
  refine goesO_nil ?_
  refine ends_then ?_
  refine goes_seq ?_
  refine goes_seq ?_
  refine goes_region ?_
  refine go1 (op_move rfl (.t (has rfl))) rfl ?_
  refine go1 (op_len rfl rfl Try.underlying25 (.t (has rfl))) rfl ?_
  refine go1 (op_move rfl (.int _ _)) rfl ?_
  refine goesO_nil ?_
  refine ends_then ?_
  obtain ⟨o4, h3, H⟩ := bind_some H
  refine goes_cutR (o := o4) (fun s2 : Unit => [Ent.t 0 (VA.k (kslice kstr) a0)]) (fun r a w => bodyPost Try.prog Try.f38 (CPost w0 S0 θ [VA.k kbool r]) .ret a w) ?_ ?_ ?_
  · replace H := h3; clear h3
    refine goes_block ?_
    refine goes_loop (fun s1 : Int => [Ent.t 0 (VA.k (kslice kstr) a0), Ent.t 5 (VA.k (kslice kstr) a0), Ent.t 6 (VA.k (kint .i64) (a0.length : Int)), Ent.t 7 (VA.k (kint .i64) s1)]) (fun k s1 => smithyref09_listed.l0 a0 k s1) (fun _ => rfl) H (.cons rfl (.cons rfl (.cons rfl (.cons rfl .nil)))) ?_
    intro k s1 H
    simp only [smithyref09_listed.l0] at H
    refine goes_seq ?_
    refine goes_region ?_
    refine go1 (op_icmp rfl rfl (.t (has rfl)) (.t (has rfl))) rfl ?_
    refine goesO_nil ?_
    refine ends_then ?_
    refine goes_seq ?_
    refine goes_if (.t (has rfl)) H (fun hb5 H => ?_) (fun hb5 H => ?_)
    · skip
      refine goes_skip ?_
      refine ends_then ?_
      refine goes_seq ?_
      refine goes_block ?_
      refine goes_seq ?_
      refine goes_region ?_
      refine go1 (op_move rfl (.t (has rfl))) rfl ?_
      obtain ⟨x6, h7, H⟩ := bind_some H
      refine go1 (op_indexAddr rfl Try.underlying25 tk9 h7 (.t (has rfl)) (.t (has rfl))) rfl ?_
      refine go1 (op_loadp rfl tk9 (.t (has rfl))) rfl ?_
      refine go1 (op_assign rfl (.t (has rfl))) rfl ?_
      refine go1 (op_assign rfl (.t (has rfl))) rfl ?_
      refine goesO_nil ?_
      refine ends_then ?_
      refine goes_seq ?_
      obtain ⟨s8, h9, H⟩ := bind_some H
      refine goes_cut [Ent.t 0 (VA.k (kslice kstr) a0), Ent.t 5 (VA.k (kslice kstr) a0), Ent.t 6 (VA.k (kint .i64) (a0.length : Int)), Ent.t 7 (VA.k (kint .i64) s1), Ent.t 27 (VA.k kbool s8)] ?_ ?_
      · replace H := h9; clear h9
        refine goes_region ?_
        refine go1 (op_move rfl (.t (has rfl))) rfl ?_
        obtain ⟨v10, h11, H⟩ := bind_some H
        refine go1 (op_call' rfl enters25 (smithyref03_Is.con _ _ _ h11) rfl (.cons (ArgP.k (.t (has rfl))) .nil)) rfl ?_
        refine go1 (op_not rfl (.t (has rfl))) rfl ?_
        refine go1 (op_move rfl (.t (has rfl))) rfl ?_
        refine goesO_split H (fun hb12 H => ?_) (fun hb12 H => ?_)
        · skip
          refine goS rfl rfl rfl rfl rfl rfl hb12 ?_
          refine goS rfl rfl rfl rfl rfl rfl hb12 ?_
          refine goS rfl rfl rfl rfl rfl rfl hb12 ?_
          refine goSU rfl rfl rfl rfl rfl rfl ?_
          refine goSU rfl rfl rfl rfl rfl rfl ?_
          refine goSU rfl rfl rfl rfl rfl rfl ?_
          refine goSU rfl rfl rfl rfl rfl rfl ?_
          refine goSU rfl rfl rfl rfl rfl rfl ?_
          refine goSU rfl rfl rfl rfl rfl rfl ?_
          refine goSU rfl rfl rfl rfl rfl rfl ?_
          refine goS rfl rfl rfl rfl rfl rfl hb12 ?_
          refine go1 (op_pick_t rfl hb12 (.t (has rfl)) (.bool _)) rfl ?_
          refine goesO_nil ?_
          obtain rfl := Option.some.inj H
          exact ends_cut (.cons rfl (.cons rfl (.cons rfl (.cons rfl (.cons rfl .nil)))))
        · skip
          refine goG (op_move rfl (.t (has rfl))) rfl rfl rfl rfl hb12 ?_
          refine goG (op_icmp rfl rfl (.t (has rfl)) (.int _ _)) rfl rfl rfl rfl hb12 ?_
          refine goG (op_move rfl (.t (has rfl))) rfl rfl rfl rfl hb12 ?_
          refine goesO_split H (fun hb13 H => ?_) (fun hb13 H => ?_)
          · skip
            refine goG (op_move rfl (.t (has rfl))) rfl rfl rfl rfl hb13 ?_
            refine goG (op_move rfl (.t (has rfl))) rfl rfl rfl rfl hb13 ?_
            refine goG (op_sub rfl (.t (has rfl)) (.int _ _)) rfl rfl rfl rfl hb13 ?_
            obtain ⟨x14, h15, H⟩ := bind_some H
            refine goG (op_indexAddr rfl Try.underlying25 tk9 h15 (.t (has rfl)) (.t (has rfl))) rfl rfl rfl rfl hb13 ?_
            refine goG (op_loadp rfl tk9 (.t (has rfl))) rfl rfl rfl rfl hb13 ?_
            refine goG (op_move rfl (.t (has rfl))) rfl rfl rfl rfl hb13 ?_
            refine goG (op_scmp rfl rfl (.t (has rfl)) (.t (has rfl))) rfl rfl rfl rfl hb13 ?_
            refine goG (op_pick_t rfl hb13 (.t (has rfl)) (.t (has rfl))) rfl rfl rfl rfl hb12 ?_
            refine go1 (op_pick_f rfl hb12 (.t (has rfl)) (.t (has rfl))) rfl ?_
            refine goesO_nil ?_
            obtain rfl := Option.some.inj H
            exact ends_cut (.cons rfl (.cons rfl (.cons rfl (.cons rfl (.cons rfl .nil)))))
          · skip
            refine goS rfl rfl rfl rfl rfl rfl hb13 ?_
            refine goS rfl rfl rfl rfl rfl rfl hb13 ?_
            refine goS rfl rfl rfl rfl rfl rfl hb13 ?_
            refine goS rfl rfl rfl rfl rfl rfl hb13 ?_
            refine goS rfl rfl rfl rfl rfl rfl hb13 ?_
            refine goS rfl rfl rfl rfl rfl rfl hb13 ?_
            refine goS rfl rfl rfl rfl rfl rfl hb13 ?_
            refine goG (op_pick_f rfl hb13 (.t (has rfl)) (.bool _)) rfl rfl rfl rfl hb12 ?_
            refine go1 (op_pick_f rfl hb12 (.t (has rfl)) (.t (has rfl))) rfl ?_
            refine goesO_nil ?_
            obtain rfl := Option.some.inj H
            exact ends_cut (.cons rfl (.cons rfl (.cons rfl (.cons rfl (.cons rfl .nil)))))
      refine ends_then ?_
      refine goes_if (.t (has rfl)) H (fun hb16 H => ?_) (fun hb16 H => ?_)
      · skip
        refine goes_seq ?_
        refine goes_region ?_
        refine go1 (op_assign rfl (.bool _)) rfl ?_
        refine goesO_nil ?_
        refine ends_then ?_
        obtain rfl := Option.some.inj H
        refine goes_ret (ends_block_ret (ends_then_ret (ends_then_ret (ends_block_ret (ends_cutR_ret rfl ?_)))))
        exact ends_ret' rfl rfl (.t rfl (.nil _))
      · skip
        refine goes_skip ?_
        refine ends_block ?_
        refine ends_then ?_
        refine goes_region ?_
        refine go1 (op_add rfl (.t (has rfl)) (.int _ _)) rfl ?_
        refine go1 (op_move rfl (.t (has rfl))) rfl ?_
        refine goesO_nil ?_
        exact loop_next _ H (.cons rfl (.cons rfl (.cons rfl (.cons rfl .nil))))
    · skip
      refine goes_exit (ends_then_exit (ends_then_exit (ends_block_exit ?_)))
      obtain rfl := Option.some.inj H
      exact ends_cutR rfl (.cons rfl .nil)
  · rintro s2 rfl
    clear h3
    dsimp only at H
    refine ends_then ?_
    refine goes_seq ?_
    refine goes_region ?_
    refine go1 (op_move rfl (.t (has rfl))) rfl ?_
    refine go1 (op_len rfl rfl Try.underlying25 (.t (has rfl))) rfl ?_
    refine go1 (op_icmp rfl rfl (.t (has rfl)) (.int _ _)) rfl ?_
    refine go1 (op_assign rfl (.t (has rfl))) rfl ?_
    refine goesO_nil ?_
    refine ends_then ?_
    obtain rfl := Option.some.inj H
    exact goes_ret (ends_ret' rfl rfl (.t rfl (.nil _)))
  · rintro r' rfl a w hr
    obtain rfl := Option.some.inj H
    exact hr
/-! smithy/smithyref09.lines -/
def smithyref09_lines.l0 (a0 : List ByteArray) : Nat → Int → Option (Except Bool Unit)
  | 0, _ => none
  | k + 1, s6 => bif icmp .lss s6 (a0.length : Int) then ((idx a0 s6).bind fun x11 => bif icmp .gtr (x11.size : Int) (65536 : Int) then (some (Except.error false)) else (smithyref09_lines.l0 a0 k (IntKind.i64.wrap (s6 + (1 : Int))))) else (some (Except.ok ()))
def smithyref09_lines.f (k : Nat) (a0 : List ByteArray) (a1 : Bool) : Option Bool := (bif icmp .gtr (a0.length : Int) (64 : Int) then (some true) else (bif !a1 then (some (icmp .gtr (a0.length : Int) (0 : Int))) else (some false))).bind fun s1 => bif s1 then (some false) else ((smithyref09_lines.l0 a0 k (0 : Int)).bind fun o9 => match o9 with | .error r' => some r' | .ok s7 => (some true))
set_option maxRecDepth 100000 in
set_option maxHeartbeats 4000000 in
theorem smithyref09_lines.con (k : Nat) (a0 : List ByteArray) (a1 : Bool) (r : Bool) (H : smithyref09_lines.f k a0 a1 = some r) : Con Try.prog 26 [VA.k (kslice kstr) a0, VA.k kbool a1] [VA.k kbool r] := by
  unfold smithyref09_lines.f at H
  refine con_enter Try.func26 rfl rfl rfl (fun w0 S0 θ => ?_)
  refine goes_seq ?_
  refine goes_region ?_
  refine go1 (op_assign rfl (.bool _)) rfl ?_
  refine goesO_nil ?_
  refine ends_then ?_
  refine goes_seq ?_
  refine goes_seq ?_
  obtain ⟨s1, h2, H⟩ := bind_some H
  refine goes_cut [Ent.t 0 (VA.k (kslice kstr) a0), Ent.t 18 (VA.k kbool s1)] ?_ ?_
  · replace H := h2; clear h2
    refine goes_region ?_
    refine go1 (op_move rfl (.t (has rfl))) rfl ?_
    refine go1 (op_len rfl rfl Try.underlying25 (.t (has rfl))) rfl ?_
    refine go1 (op_icmp rfl rfl (.t (has rfl)) (.int _ _)) rfl ?_
    refine go1 (op_move rfl (.t (has rfl))) rfl ?_
    refine goesO_split H (fun hb3 H => ?_) (fun hb3 H => ?_)
    · skip
      refine goS rfl rfl rfl rfl rfl rfl hb3 ?_
      refine goS rfl rfl rfl rfl rfl rfl hb3 ?_
      refine goS rfl rfl rfl rfl rfl rfl hb3 ?_
      refine goSU rfl rfl rfl rfl rfl rfl ?_
      refine goSU rfl rfl rfl rfl rfl rfl ?_
      refine goSU rfl rfl rfl rfl rfl rfl ?_
      refine goS rfl rfl rfl rfl rfl rfl hb3 ?_
      refine go1 (op_pick_t rfl hb3 (.t (has rfl)) (.bool _)) rfl ?_
      refine goesO_nil ?_
      obtain rfl := Option.some.inj H
      exact ends_cut (.cons rfl (.cons rfl .nil))
    · skip
      refine goG (op_move rfl (.t (has rfl))) rfl rfl rfl rfl hb3 ?_
      refine goG (op_not rfl (.t (has rfl))) rfl rfl rfl rfl hb3 ?_
      refine goG (op_move rfl (.t (has rfl))) rfl rfl rfl rfl hb3 ?_
      refine goesO_split H (fun hb4 H => ?_) (fun hb4 H => ?_)
      · skip
        refine goG (op_move rfl (.t (has rfl))) rfl rfl rfl rfl hb4 ?_
        refine goG (op_len rfl rfl Try.underlying25 (.t (has rfl))) rfl rfl rfl rfl hb4 ?_
        refine goG (op_icmp rfl rfl (.t (has rfl)) (.int _ _)) rfl rfl rfl rfl hb4 ?_
        refine goG (op_pick_t rfl hb4 (.t (has rfl)) (.t (has rfl))) rfl rfl rfl rfl hb3 ?_
        refine go1 (op_pick_f rfl hb3 (.t (has rfl)) (.t (has rfl))) rfl ?_
        refine goesO_nil ?_
        obtain rfl := Option.some.inj H
        exact ends_cut (.cons rfl (.cons rfl .nil))
      · skip
        refine goS rfl rfl rfl rfl rfl rfl hb4 ?_
        refine goS rfl rfl rfl rfl rfl rfl hb4 ?_
        refine goS rfl rfl rfl rfl rfl rfl hb4 ?_
        refine goG (op_pick_f rfl hb4 (.t (has rfl)) (.bool _)) rfl rfl rfl rfl hb3 ?_
        refine go1 (op_pick_f rfl hb3 (.t (has rfl)) (.t (has rfl))) rfl ?_
        refine goesO_nil ?_
        obtain rfl := Option.some.inj H
        exact ends_cut (.cons rfl (.cons rfl .nil))
  refine ends_then ?_
  refine goes_if (.t (has rfl)) H (fun hb5 H => ?_) (fun hb5 H => ?_)
  · skip
    refine goes_seq ?_
    refine goes_region ?_
    refine go1 (op_assign rfl (.bool _)) rfl ?_
    refine goesO_nil ?_
    refine ends_then ?_
    obtain rfl := Option.some.inj H
    exact goes_ret (ends_then_ret (ends_ret' rfl rfl (.t rfl (.nil _))))
  · skip
    refine goes_skip ?_
    refine ends_then ?_
    refine goes_seq ?_
    refine goes_seq ?_
    refine goes_region ?_
    refine go1 (op_move rfl (.t (has rfl))) rfl ?_
    refine go1 (op_len rfl rfl Try.underlying25 (.t (has rfl))) rfl ?_
    refine go1 (op_move rfl (.int _ _)) rfl ?_
    refine goesO_nil ?_
    refine ends_then ?_
    obtain ⟨o9, h8, H⟩ := bind_some H
    refine goes_cutR (o := o9) (fun s7 : Unit => []) (fun r a w => bodyPost Try.prog Try.f26 (CPost w0 S0 θ [VA.k kbool r]) .ret a w) ?_ ?_ ?_
    · replace H := h8; clear h8
      refine goes_block ?_
      refine goes_loop (fun s6 : Int => [Ent.t 19 (VA.k (kslice kstr) a0), Ent.t 20 (VA.k (kint .i64) (a0.length : Int)), Ent.t 21 (VA.k (kint .i64) s6)]) (fun k s6 => smithyref09_lines.l0 a0 k s6) (fun _ => rfl) H (.cons rfl (.cons rfl (.cons rfl .nil))) ?_
      intro k s6 H
      simp only [smithyref09_lines.l0] at H
      refine goes_seq ?_
      refine goes_region ?_
      refine go1 (op_icmp rfl rfl (.t (has rfl)) (.t (has rfl))) rfl ?_
      refine goesO_nil ?_
      refine ends_then ?_
      refine goes_seq ?_
      refine goes_if (.t (has rfl)) H (fun hb10 H => ?_) (fun hb10 H => ?_)
      · skip
        refine goes_skip ?_
        refine ends_then ?_
        refine goes_seq ?_
        refine goes_block ?_
        refine goes_seq ?_
        refine goes_region ?_
        obtain ⟨x11, h12, H⟩ := bind_some H
        refine go1 (op_indexAddr rfl Try.underlying25 tk9 h12 (.t (has rfl)) (.t (has rfl))) rfl ?_
        refine go1 (op_loadp rfl tk9 (.t (has rfl))) rfl ?_
        refine go1 (op_assign rfl (.t (has rfl))) rfl ?_
        refine goesO_nil ?_
        refine ends_then ?_
        refine goes_seq ?_
        refine goes_region ?_
        refine go1 (op_move rfl (.t (has rfl))) rfl ?_
        refine go1 (op_len_str rfl rfl Try.underlying9 (.t (has rfl))) rfl ?_
        refine go1 (op_icmp rfl rfl (.t (has rfl)) (.int _ _)) rfl ?_
        refine goesO_nil ?_
        refine ends_then ?_
        refine goes_if (.t (has rfl)) H (fun hb13 H => ?_) (fun hb13 H => ?_)
        · skip
          refine goes_seq ?_
          refine goes_region ?_
          refine go1 (op_assign rfl (.bool _)) rfl ?_
          refine goesO_nil ?_
          refine ends_then ?_
          obtain rfl := Option.some.inj H
          refine goes_ret (ends_block_ret (ends_then_ret (ends_then_ret (ends_block_ret (ends_cutR_ret rfl ?_)))))
          exact ends_ret' rfl rfl (.t rfl (.nil _))
        · skip
          refine goes_skip ?_
          refine ends_block ?_
          refine ends_then ?_
          refine goes_region ?_
          refine go1 (op_add rfl (.t (has rfl)) (.int _ _)) rfl ?_
          refine go1 (op_move rfl (.t (has rfl))) rfl ?_
          refine goesO_nil ?_
          exact loop_next _ H (.cons rfl (.cons rfl (.cons rfl .nil)))
      · skip
        refine goes_exit (ends_then_exit (ends_then_exit (ends_block_exit ?_)))
        obtain rfl := Option.some.inj H
        exact ends_cutR rfl .nil
    · rintro s7 rfl
      clear h8
      dsimp only at H
      refine ends_then ?_
      refine goes_seq ?_
      refine goes_region ?_
      refine go1 (op_assign rfl (.bool _)) rfl ?_
      refine goesO_nil ?_
      refine ends_then ?_
      obtain rfl := Option.some.inj H
      exact goes_ret (ends_ret' rfl rfl (.t rfl (.nil _)))
    · rintro r' rfl a w hr
      obtain rfl := Option.some.inj H
      exact hr
/-! smithy/smithyref09.special -/
def smithyref09_special.l0 (a0 : Special) : Nat → Int → Option (Except Bool Unit)
  | 0, _ => none
  | k + 1, s2 => bif icmp .lss s2 (a0.Suffixes.length : Int) then ((idx a0.Suffixes s2).bind fun x7 => ((smithyref08_Suffix.f k x7).bind fun v11 => bif !v11 then (some true) else ((sub a0.Suffixes (0 : Int) s2).bind fun x14 => (smithyref03_Has.f k x14 x7).bind fun v16 => some v16)).bind fun s9 => bif s9 then (some (Except.error false)) else (smithyref09_special.l0 a0 k (IntKind.i64.wrap (s2 + (1 : Int))))) else (some (Except.ok ()))
def smithyref09_special.f (k : Nat) (a0 : Special) : Option Bool := bif icmp .gtr (a0.Suffixes.length : Int) (32 : Int) then (some false) else ((smithyref09_special.l0 a0 k (0 : Int)).bind fun o5 => match o5 with | .error r' => some r' | .ok s3 => (((smithyref09_listed.f k a0.Phony).bind fun v21 => bif v21 then ((smithyref09_listed.f k a0.Precious).bind fun v24 => bif v24 then ((smithyref09_listed.f k a0.Ignore).bind fun v27 => bif v27 then ((smithyref09_listed.f k a0.Silent).bind fun v30 => bif v30 then ((smithyref09_lines.f k a0.Default a0.HasDefault).bind fun v33 => some v33) else (some false)) else (some false)) else (some false)) else (some false)).bind fun s19 => some s19))
set_option maxRecDepth 100000 in
set_option maxHeartbeats 4000000 in
theorem smithyref09_special.con (k : Nat) (a0 : Special) (r : Bool) (H : smithyref09_special.f k a0 = some r) : Con Try.prog 23 [VA.k kSpecial a0] [VA.k kbool r] := by
  unfold smithyref09_special.f at H
  refine con_enter Try.func23 rfl rfl rfl (fun w0 S0 θ => ?_)
  refine goes_seq ?_
  refine goes_region ?_
  refine go3 (op_box 1 rfl (fun h => by first | rfl | cases h) (.t (has rfl))) rfl ?_
  refine go1 (op_assign rfl (.bool _)) rfl ?_
  refine goesO_nil ?_
  refine ends_then ?_
  refine goes_seq ?_
  refine goes_seq ?_
  refine goes_region ?_
  refine go1 (op_fieldAddr rfl Try.underlying27 rfl tk25 (.t (has rfl))) rfl ?_
  refine go1 (op_load rfl fldSpecial_Suffixes tk25 (.t (has rfl)) (has rfl)) rfl ?_
  refine go1 (op_len rfl rfl Try.underlying25 (.t (has rfl))) rfl ?_
  refine go1 (op_icmp rfl rfl (.t (has rfl)) (.int _ _)) rfl ?_
  refine goesO_nil ?_
  refine ends_then ?_
  refine goes_if (.t (has rfl)) H (fun hb1 H => ?_) (fun hb1 H => ?_)
  · skip
    refine goes_seq ?_
    refine goes_region ?_
    refine go1 (op_assign rfl (.bool _)) rfl ?_
    refine goesO_nil ?_
    refine ends_then ?_
    obtain rfl := Option.some.inj H
    exact goes_ret (ends_then_ret (ends_ret' rfl rfl (.t rfl (.nil _))))
  · skip
    refine goes_skip ?_
    refine ends_then ?_
    refine goes_seq ?_
    refine goes_seq ?_
    refine goes_region ?_
    refine go1 (op_fieldAddr rfl Try.underlying27 rfl tk25 (.t (has rfl))) rfl ?_
    refine go1 (op_load rfl fldSpecial_Suffixes tk25 (.t (has rfl)) (has rfl)) rfl ?_
    refine go1 (op_len rfl rfl Try.underlying25 (.t (has rfl))) rfl ?_
    refine go1 (op_move rfl (.int _ _)) rfl ?_
    refine goesO_nil ?_
    refine ends_then ?_
    obtain ⟨o5, h4, H⟩ := bind_some H
    refine goes_cutR (o := o5) (fun s3 : Unit => [Ent.t 1 (VA.ptr 1 0), Ent.h 1 (HE.box 27 kSpecial a0)]) (fun r a w => bodyPost Try.prog Try.f23 (CPost w0 S0 θ [VA.k kbool r]) .ret a w) ?_ ?_ ?_
    · replace H := h4; clear h4
      refine goes_block ?_
      refine goes_loop (fun s2 : Int => [Ent.t 1 (VA.ptr 1 0), Ent.t 10 (VA.k (kslice kstr) a0.Suffixes), Ent.t 11 (VA.k (kint .i64) (a0.Suffixes.length : Int)), Ent.t 12 (VA.k (kint .i64) s2), Ent.h 1 (HE.box 27 kSpecial a0)]) (fun k s2 => smithyref09_special.l0 a0 k s2) (fun _ => rfl) H (.cons rfl (.cons rfl (.cons rfl (.cons rfl (.cons rfl .nil))))) ?_
      intro k s2 H
      simp only [smithyref09_special.l0] at H
      refine goes_seq ?_
      refine goes_region ?_
      refine go1 (op_icmp rfl rfl (.t (has rfl)) (.t (has rfl))) rfl ?_
      refine goesO_nil ?_
      refine ends_then ?_
      refine goes_seq ?_
      refine goes_if (.t (has rfl)) H (fun hb6 H => ?_) (fun hb6 H => ?_)
      · skip
        refine goes_skip ?_
        refine ends_then ?_
        refine goes_seq ?_
        refine goes_block ?_
        refine goes_seq ?_
        refine goes_region ?_
        refine go1 (op_move rfl (.t (has rfl))) rfl ?_
        obtain ⟨x7, h8, H⟩ := bind_some H
        refine go1 (op_indexAddr rfl Try.underlying25 tk9 h8 (.t (has rfl)) (.t (has rfl))) rfl ?_
        refine go1 (op_loadp rfl tk9 (.t (has rfl))) rfl ?_
        refine go1 (op_assign rfl (.t (has rfl))) rfl ?_
        refine go1 (op_assign rfl (.t (has rfl))) rfl ?_
        refine goesO_nil ?_
        refine ends_then ?_
        refine goes_seq ?_
        obtain ⟨s9, h10, H⟩ := bind_some H
        refine goes_cut [Ent.t 1 (VA.ptr 1 0), Ent.t 10 (VA.k (kslice kstr) a0.Suffixes), Ent.t 11 (VA.k (kint .i64) (a0.Suffixes.length : Int)), Ent.t 12 (VA.k (kint .i64) s2), Ent.t 27 (VA.k kbool s9), Ent.h 1 (HE.box 27 kSpecial a0)] ?_ ?_
        · replace H := h10; clear h10
          refine goes_region ?_
          refine go1 (op_move rfl (.t (has rfl))) rfl ?_
          obtain ⟨v11, h12, H⟩ := bind_some H
          refine go1 (op_call' rfl enters37 (smithyref08_Suffix.con _ _ _ h12) rfl (.cons (ArgP.k (.t (has rfl))) .nil)) rfl ?_
          refine go1 (op_not rfl (.t (has rfl))) rfl ?_
          refine go1 (op_move rfl (.t (has rfl))) rfl ?_
          refine goesO_split H (fun hb13 H => ?_) (fun hb13 H => ?_)
          · skip
            refine goS rfl rfl rfl rfl rfl rfl hb13 ?_
            refine goS rfl rfl rfl rfl rfl rfl hb13 ?_
            refine goS rfl rfl rfl rfl rfl rfl hb13 ?_
            refine goS rfl rfl rfl rfl rfl rfl hb13 ?_
            refine goS rfl rfl rfl rfl rfl rfl hb13 ?_
            refine goS rfl rfl rfl rfl rfl rfl hb13 ?_
            refine go1 (op_pick_t rfl hb13 (.t (has rfl)) (.bool _)) rfl ?_
            refine goesO_nil ?_
            obtain rfl := Option.some.inj H
            exact ends_cut (.cons rfl (.cons rfl (.cons rfl (.cons rfl (.cons rfl (.cons rfl .nil))))))
          · skip
            refine goG (op_fieldAddr rfl Try.underlying27 rfl tk25 (.t (has rfl))) rfl rfl rfl rfl hb13 ?_
            refine goG (op_load rfl fldSpecial_Suffixes tk25 (.t (has rfl)) (has rfl)) rfl rfl rfl rfl hb13 ?_
            refine goG (op_move rfl (.t (has rfl))) rfl rfl rfl rfl hb13 ?_
            obtain ⟨x14, h15, H⟩ := bind_some H
            refine goG (op_slice (l := none) (h := some _) rfl Try.underlying25 tk9 h15 (.t (has rfl)) trivial (.t (has rfl))) rfl rfl rfl rfl hb13 ?_
            refine goG (op_move rfl (.t (has rfl))) rfl rfl rfl rfl hb13 ?_
            obtain ⟨v16, h17, H⟩ := bind_some H
            refine goG (op_call' rfl enters10 (smithyref03_Has.con _ _ _ _ h17) rfl (.cons (ArgP.k (.t (has rfl))) (.cons (ArgP.k (.t (has rfl))) .nil))) rfl rfl rfl rfl hb13 ?_
            refine go1 (op_pick_f rfl hb13 (.t (has rfl)) (.t (has rfl))) rfl ?_
            refine goesO_nil ?_
            obtain rfl := Option.some.inj H
            exact ends_cut (.cons rfl (.cons rfl (.cons rfl (.cons rfl (.cons rfl (.cons rfl .nil))))))
        refine ends_then ?_
        refine goes_if (.t (has rfl)) H (fun hb18 H => ?_) (fun hb18 H => ?_)
        · skip
          refine goes_seq ?_
          refine goes_region ?_
          refine go1 (op_assign rfl (.bool _)) rfl ?_
          refine goesO_nil ?_
          refine ends_then ?_
          obtain rfl := Option.some.inj H
          refine goes_ret (ends_block_ret (ends_then_ret (ends_then_ret (ends_block_ret (ends_cutR_ret rfl ?_)))))
          exact ends_ret' rfl rfl (.t rfl (.nil _))
        · skip
          refine goes_skip ?_
          refine ends_block ?_
          refine ends_then ?_
          refine goes_region ?_
          refine go1 (op_add rfl (.t (has rfl)) (.int _ _)) rfl ?_
          refine go1 (op_move rfl (.t (has rfl))) rfl ?_
          refine goesO_nil ?_
          exact loop_next _ H (.cons rfl (.cons rfl (.cons rfl (.cons rfl (.cons rfl .nil)))))
      · skip
        refine goes_exit (ends_then_exit (ends_then_exit (ends_block_exit ?_)))
        obtain rfl := Option.some.inj H
        exact ends_cutR rfl (.cons rfl (.cons rfl .nil))
    · rintro s3 rfl
      clear h4
      dsimp only at H
      refine ends_then ?_
      refine goes_seq ?_
      obtain ⟨s19, h20, H⟩ := bind_some H
      refine goes_cut [Ent.t 2 (VA.k kbool s19)] ?_ ?_
      · replace H := h20; clear h20
        refine goes_region ?_
        refine go1 (op_fieldAddr rfl Try.underlying27 rfl tk25 (.t (has rfl))) rfl ?_
        refine go1 (op_load rfl fldSpecial_Phony tk25 (.t (has rfl)) (has rfl)) rfl ?_
        obtain ⟨v21, h22, H⟩ := bind_some H
        refine go1 (op_call' rfl enters38 (smithyref09_listed.con _ _ _ h22) rfl (.cons (ArgP.k (.t (has rfl))) .nil)) rfl ?_
        refine go1 (op_move rfl (.t (has rfl))) rfl ?_
        refine goesO_split H (fun hb23 H => ?_) (fun hb23 H => ?_)
        · skip
          refine goG (op_fieldAddr rfl Try.underlying27 rfl tk25 (.t (has rfl))) rfl rfl rfl rfl hb23 ?_
          refine goG (op_load rfl fldSpecial_Precious tk25 (.t (has rfl)) (has rfl)) rfl rfl rfl rfl hb23 ?_
          obtain ⟨v24, h25, H⟩ := bind_some H
          refine goG (op_call' rfl enters38 (smithyref09_listed.con _ _ _ h25) rfl (.cons (ArgP.k (.t (has rfl))) .nil)) rfl rfl rfl rfl hb23 ?_
          refine go1 (op_pick_t rfl hb23 (.t (has rfl)) (.t (has rfl))) rfl ?_
          refine go1 (op_move rfl (.t (has rfl))) rfl ?_
          refine goesO_split H (fun hb26 H => ?_) (fun hb26 H => ?_)
          · skip
            refine goG (op_fieldAddr rfl Try.underlying27 rfl tk25 (.t (has rfl))) rfl rfl rfl rfl hb26 ?_
            refine goG (op_load rfl fldSpecial_Ignore tk25 (.t (has rfl)) (has rfl)) rfl rfl rfl rfl hb26 ?_
            obtain ⟨v27, h28, H⟩ := bind_some H
            refine goG (op_call' rfl enters38 (smithyref09_listed.con _ _ _ h28) rfl (.cons (ArgP.k (.t (has rfl))) .nil)) rfl rfl rfl rfl hb26 ?_
            refine go1 (op_pick_t rfl hb26 (.t (has rfl)) (.t (has rfl))) rfl ?_
            refine go1 (op_move rfl (.t (has rfl))) rfl ?_
            refine goesO_split H (fun hb29 H => ?_) (fun hb29 H => ?_)
            · skip
              refine goG (op_fieldAddr rfl Try.underlying27 rfl tk25 (.t (has rfl))) rfl rfl rfl rfl hb29 ?_
              refine goG (op_load rfl fldSpecial_Silent tk25 (.t (has rfl)) (has rfl)) rfl rfl rfl rfl hb29 ?_
              obtain ⟨v30, h31, H⟩ := bind_some H
              refine goG (op_call' rfl enters38 (smithyref09_listed.con _ _ _ h31) rfl (.cons (ArgP.k (.t (has rfl))) .nil)) rfl rfl rfl rfl hb29 ?_
              refine go1 (op_pick_t rfl hb29 (.t (has rfl)) (.t (has rfl))) rfl ?_
              refine go1 (op_move rfl (.t (has rfl))) rfl ?_
              refine goesO_split H (fun hb32 H => ?_) (fun hb32 H => ?_)
              · skip
                refine goG (op_fieldAddr rfl Try.underlying27 rfl tk25 (.t (has rfl))) rfl rfl rfl rfl hb32 ?_
                refine goG (op_load rfl fldSpecial_Default tk25 (.t (has rfl)) (has rfl)) rfl rfl rfl rfl hb32 ?_
                refine goG (op_fieldAddr rfl Try.underlying27 rfl tk4 (.t (has rfl))) rfl rfl rfl rfl hb32 ?_
                refine goG (op_load rfl fldSpecial_HasDefault tk4 (.t (has rfl)) (has rfl)) rfl rfl rfl rfl hb32 ?_
                obtain ⟨v33, h34, H⟩ := bind_some H
                refine goG (op_call' rfl enters26 (smithyref09_lines.con _ _ _ _ h34) rfl (.cons (ArgP.k (.t (has rfl))) (.cons (ArgP.k (.t (has rfl))) .nil))) rfl rfl rfl rfl hb32 ?_
                refine go1 (op_pick_t rfl hb32 (.t (has rfl)) (.t (has rfl))) rfl ?_
                refine go1 (op_assign rfl (.t (has rfl))) rfl ?_
                refine goesO_nil ?_
                obtain rfl := Option.some.inj H
                exact ends_cut (.cons rfl .nil)
              · skip
                refine goS rfl rfl rfl rfl rfl rfl hb32 ?_
                refine goS rfl rfl rfl rfl rfl rfl hb32 ?_
                refine goS rfl rfl rfl rfl rfl rfl hb32 ?_
                refine goS rfl rfl rfl rfl rfl rfl hb32 ?_
                refine goS rfl rfl rfl rfl rfl rfl hb32 ?_
                refine go1 (op_pick_f rfl hb32 (.t (has rfl)) (.bool _)) rfl ?_
                refine go1 (op_assign rfl (.t (has rfl))) rfl ?_
                refine goesO_nil ?_
                obtain rfl := Option.some.inj H
                exact ends_cut (.cons rfl .nil)
            · skip
              refine goS rfl rfl rfl rfl rfl rfl hb29 ?_
              refine goS rfl rfl rfl rfl rfl rfl hb29 ?_
              refine goS rfl rfl rfl rfl rfl rfl hb29 ?_
              refine go1 (op_pick_f rfl hb29 (.t (has rfl)) (.bool _)) rfl ?_
              refine go1 (op_move rfl (.t (has rfl))) rfl ?_
              refine goS rfl rfl rfl rfl rfl rfl rfl ?_
              refine goS rfl rfl rfl rfl rfl rfl rfl ?_
              refine goS rfl rfl rfl rfl rfl rfl rfl ?_
              refine goS rfl rfl rfl rfl rfl rfl rfl ?_
              refine goS rfl rfl rfl rfl rfl rfl rfl ?_
              refine go1 (op_pick_f rfl rfl (.t (has rfl)) (.bool _)) rfl ?_
              refine go1 (op_assign rfl (.t (has rfl))) rfl ?_
              refine goesO_nil ?_
              obtain rfl := Option.some.inj H
              exact ends_cut (.cons rfl .nil)
          · skip
            refine goS rfl rfl rfl rfl rfl rfl hb26 ?_
            refine goS rfl rfl rfl rfl rfl rfl hb26 ?_
            refine goS rfl rfl rfl rfl rfl rfl hb26 ?_
            refine go1 (op_pick_f rfl hb26 (.t (has rfl)) (.bool _)) rfl ?_
            refine go1 (op_move rfl (.t (has rfl))) rfl ?_
            refine goS rfl rfl rfl rfl rfl rfl rfl ?_
            refine goS rfl rfl rfl rfl rfl rfl rfl ?_
            refine goS rfl rfl rfl rfl rfl rfl rfl ?_
            refine go1 (op_pick_f rfl rfl (.t (has rfl)) (.bool _)) rfl ?_
            refine go1 (op_move rfl (.t (has rfl))) rfl ?_
            refine goS rfl rfl rfl rfl rfl rfl rfl ?_
            refine goS rfl rfl rfl rfl rfl rfl rfl ?_
            refine goS rfl rfl rfl rfl rfl rfl rfl ?_
            refine goS rfl rfl rfl rfl rfl rfl rfl ?_
            refine goS rfl rfl rfl rfl rfl rfl rfl ?_
            refine go1 (op_pick_f rfl rfl (.t (has rfl)) (.bool _)) rfl ?_
            refine go1 (op_assign rfl (.t (has rfl))) rfl ?_
            refine goesO_nil ?_
            obtain rfl := Option.some.inj H
            exact ends_cut (.cons rfl .nil)
        · skip
          refine goS rfl rfl rfl rfl rfl rfl hb23 ?_
          refine goS rfl rfl rfl rfl rfl rfl hb23 ?_
          refine goS rfl rfl rfl rfl rfl rfl hb23 ?_
          refine go1 (op_pick_f rfl hb23 (.t (has rfl)) (.bool _)) rfl ?_
          refine go1 (op_move rfl (.t (has rfl))) rfl ?_
          refine goS rfl rfl rfl rfl rfl rfl rfl ?_
          refine goS rfl rfl rfl rfl rfl rfl rfl ?_
          refine goS rfl rfl rfl rfl rfl rfl rfl ?_
          refine go1 (op_pick_f rfl rfl (.t (has rfl)) (.bool _)) rfl ?_
          refine go1 (op_move rfl (.t (has rfl))) rfl ?_
          refine goS rfl rfl rfl rfl rfl rfl rfl ?_
          refine goS rfl rfl rfl rfl rfl rfl rfl ?_
          refine goS rfl rfl rfl rfl rfl rfl rfl ?_
          refine go1 (op_pick_f rfl rfl (.t (has rfl)) (.bool _)) rfl ?_
          refine go1 (op_move rfl (.t (has rfl))) rfl ?_
          refine goS rfl rfl rfl rfl rfl rfl rfl ?_
          refine goS rfl rfl rfl rfl rfl rfl rfl ?_
          refine goS rfl rfl rfl rfl rfl rfl rfl ?_
          refine goS rfl rfl rfl rfl rfl rfl rfl ?_
          refine goS rfl rfl rfl rfl rfl rfl rfl ?_
          refine go1 (op_pick_f rfl rfl (.t (has rfl)) (.bool _)) rfl ?_
          refine go1 (op_assign rfl (.t (has rfl))) rfl ?_
          refine goesO_nil ?_
          obtain rfl := Option.some.inj H
          exact ends_cut (.cons rfl .nil)
      refine ends_then ?_
      obtain rfl := Option.some.inj H
      exact goes_ret (ends_ret' rfl rfl (.t rfl (.nil _)))
    · rintro r' rfl a w hr
      obtain rfl := Option.some.inj H
      exact hr
/-! smithy/smithyref09.infers -/
def smithyref09_infers.l1 (x7 : Infer) (x23 : List Infer) : Nat → Int → Option (Except Bool Unit)
  | 0, _ => none
  | k + 1, s25 => bif icmp .lss s25 (x23.length : Int) then ((idx x23 s25).bind fun x30 => (bif scmp .eql x30.From x7.From then (some (scmp .eql x30.To x7.To)) else (some false)).bind fun s32 => bif s32 then (some (Except.error false)) else (smithyref09_infers.l1 x7 x23 k (IntKind.i64.wrap (s25 + (1 : Int))))) else (some (Except.ok ()))
def smithyref09_infers.l0 (a0 : List Infer) (a1 : List ByteArray) : Nat → Int → Option (Except Bool Unit)
  | 0, _ => none
  | k + 1, s2 => bif icmp .lss s2 (a0.length : Int) then ((idx a0 s2).bind fun x7 => ((smithyref03_Has.f k a1 x7.From).bind fun v11 => bif !v11 then (some true) else (bif scmp .neq x7.To (⟨#[]⟩ : ByteArray) then ((smithyref03_Has.f k a1 x7.To).bind fun v15 => bif !v15 then (some true) else ((smithyref09_lines.f k x7.Recipe true).bind fun v18 => some (!v18))) else ((smithyref09_lines.f k x7.Recipe true).bind fun v20 => some (!v20)))).bind fun s9 => bif s9 then (some (Except.error false)) else ((sub a0 (0 : Int) s2).bind fun x23 => (smithyref09_infers.l1 x7 x23 k (0 : Int)).bind fun o28 => match o28 with | .error r' => some (Except.error r') | .ok s26 => (smithyref09_infers.l0 a0 a1 k (IntKind.i64.wrap (s2 + (1 : Int)))))) else (some (Except.ok ()))
def smithyref09_infers.f (k : Nat) (a0 : List Infer) (a1 : List ByteArray) : Option Bool := bif icmp .gtr (a0.length : Int) (512 : Int) then (some false) else ((smithyref09_infers.l0 a0 a1 k (0 : Int)).bind fun o5 => match o5 with | .error r' => some r' | .ok s3 => (some true))
set_option maxRecDepth 100000 in
set_option maxHeartbeats 4000000 in
theorem smithyref09_infers.con (k : Nat) (a0 : List Infer) (a1 : List ByteArray) (r : Bool) (H : smithyref09_infers.f k a0 a1 = some r) : Con Try.prog 24 [VA.k (kslice kInfer) a0, VA.k (kslice kstr) a1] [VA.k kbool r] := by
  unfold smithyref09_infers.f at H
  refine con_enter Try.func24 rfl rfl rfl (fun w0 S0 θ => ?_)
  refine goes_seq ?_
  refine goes_region ?_
  refine go1 (op_assign rfl (.bool _)) rfl ?_
  refine goesO_nil ?_
  refine ends_then ?_
  refine goes_seq ?_
  refine goes_seq ?_
  refine goes_region ?_
  refine go1 (op_move rfl (.t (has rfl))) rfl ?_
  refine go1 (op_len rfl rfl Try.underlying24 (.t (has rfl))) rfl ?_
  refine go1 (op_icmp rfl rfl (.t (has rfl)) (.int _ _)) rfl ?_
  refine goesO_nil ?_
  refine ends_then ?_
  refine goes_if (.t (has rfl)) H (fun hb1 H => ?_) (fun hb1 H => ?_)
  · skip
    refine goes_seq ?_
    refine goes_region ?_
    refine go1 (op_assign rfl (.bool _)) rfl ?_
    refine goesO_nil ?_
    refine ends_then ?_
    obtain rfl := Option.some.inj H
    exact goes_ret (ends_then_ret (ends_ret' rfl rfl (.t rfl (.nil _))))
  · skip
    refine goes_skip ?_
    refine ends_then ?_
    refine goes_seq ?_
    refine goes_seq ?_
    refine goes_region ?_
    refine go1 (op_move rfl (.t (has rfl))) rfl ?_
    refine go1 (op_len rfl rfl Try.underlying24 (.t (has rfl))) rfl ?_
    refine go1 (op_move rfl (.int _ _)) rfl ?_
    refine goesO_nil ?_
    refine ends_then ?_
    obtain ⟨o5, h4, H⟩ := bind_some H
    refine goes_cutR (o := o5) (fun s3 : Unit => []) (fun r a w => bodyPost Try.prog Try.f24 (CPost w0 S0 θ [VA.k kbool r]) .ret a w) ?_ ?_ ?_
    · replace H := h4; clear h4
      refine goes_block ?_
      refine goes_loop (fun s2 : Int => [Ent.t 0 (VA.k (kslice kInfer) a0), Ent.t 1 (VA.k (kslice kstr) a1), Ent.t 12 (VA.k (kslice kInfer) a0), Ent.t 13 (VA.k (kint .i64) (a0.length : Int)), Ent.t 14 (VA.k (kint .i64) s2)]) (fun k s2 => smithyref09_infers.l0 a0 a1 k s2) (fun _ => rfl) H (.cons rfl (.cons rfl (.cons rfl (.cons rfl (.cons rfl .nil))))) ?_
      intro k s2 H
      simp only [smithyref09_infers.l0] at H
      refine goes_seq ?_
      refine goes_region ?_
      refine go1 (op_icmp rfl rfl (.t (has rfl)) (.t (has rfl))) rfl ?_
      refine goesO_nil ?_
      refine ends_then ?_
      refine goes_seq ?_
      refine goes_if (.t (has rfl)) H (fun hb6 H => ?_) (fun hb6 H => ?_)
      · skip
        refine goes_skip ?_
        refine ends_then ?_
        refine goes_seq ?_
        refine goes_block ?_
        refine goes_seq ?_
        refine goes_region ?_
        refine go1 (op_move rfl (.t (has rfl))) rfl ?_
        obtain ⟨x7, h8, H⟩ := bind_some H
        refine go1 (op_indexAddr rfl Try.underlying24 tk77 h8 (.t (has rfl)) (.t (has rfl))) rfl ?_
        refine go1 (op_loadp rfl tk77 (.t (has rfl))) rfl ?_
        refine go3 (op_alloc 6 rfl zk77) rfl ?_
        refine go1 (op_assign rfl (.t (has rfl))) rfl ?_
        refine go1 (op_store (Fld.whole kInfer) tk77 (.t (has rfl)) (has rfl) (.t (has rfl))) rfl ?_
        refine goesO_nil ?_
        refine ends_then ?_
        refine goes_seq ?_
        refine goes_seq ?_
        obtain ⟨s9, h10, H⟩ := bind_some H
        refine goes_cut [Ent.t 0 (VA.k (kslice kInfer) a0), Ent.t 1 (VA.k (kslice kstr) a1), Ent.t 5 (VA.k (kint .i64) s2), Ent.t 6 (VA.ptr 6 0), Ent.t 12 (VA.k (kslice kInfer) a0), Ent.t 13 (VA.k (kint .i64) (a0.length : Int)), Ent.t 14 (VA.k (kint .i64) s2), Ent.t 41 (VA.k kbool s9), Ent.h 6 (HE.box 77 kInfer x7)] ?_ ?_
        · replace H := h10; clear h10
          refine goes_region ?_
          refine go1 (op_move rfl (.t (has rfl))) rfl ?_
          refine go1 (op_fieldAddr rfl Try.underlying77 rfl tk9 (.t (has rfl))) rfl ?_
          refine go1 (op_load rfl fldInfer_From tk9 (.t (has rfl)) (has rfl)) rfl ?_
          obtain ⟨v11, h12, H⟩ := bind_some H
          refine go1 (op_call' rfl enters10 (smithyref03_Has.con _ _ _ _ h12) rfl (.cons (ArgP.k (.t (has rfl))) (.cons (ArgP.k (.t (has rfl))) .nil))) rfl ?_
          refine go1 (op_not rfl (.t (has rfl))) rfl ?_
          refine go1 (op_move rfl (.t (has rfl))) rfl ?_
          refine goesO_split H (fun hb13 H => ?_) (fun hb13 H => ?_)
          · skip
            refine goS rfl rfl rfl rfl rfl rfl hb13 ?_
            refine goS rfl rfl rfl rfl rfl rfl hb13 ?_
            refine goS rfl rfl rfl rfl rfl rfl hb13 ?_
            refine goS rfl rfl rfl rfl rfl rfl hb13 ?_
            refine goSU rfl rfl rfl rfl rfl rfl ?_
            refine goSU rfl rfl rfl rfl rfl rfl ?_
            refine goSU rfl rfl rfl rfl rfl rfl ?_
            refine goSU rfl rfl rfl rfl rfl rfl ?_
            refine goSU rfl rfl rfl rfl rfl rfl ?_
            refine goS rfl rfl rfl rfl rfl rfl hb13 ?_
            refine go1 (op_pick_t rfl hb13 (.t (has rfl)) (.bool _)) rfl ?_
            refine go1 (op_move rfl (.t (has rfl))) rfl ?_
            refine goS rfl rfl rfl rfl rfl rfl rfl ?_
            refine goS rfl rfl rfl rfl rfl rfl rfl ?_
            refine goS rfl rfl rfl rfl rfl rfl rfl ?_
            refine goS rfl rfl rfl rfl rfl rfl rfl ?_
            refine go1 (op_pick_t rfl rfl (.t (has rfl)) (.bool _)) rfl ?_
            refine goesO_nil ?_
            obtain rfl := Option.some.inj H
            exact ends_cut (.cons rfl (.cons rfl (.cons rfl (.cons rfl (.cons rfl (.cons rfl (.cons rfl (.cons rfl (.cons rfl .nil)))))))))
          · skip
            refine goG (op_fieldAddr rfl Try.underlying77 rfl tk9 (.t (has rfl))) rfl rfl rfl rfl hb13 ?_
            refine goG (op_load rfl fldInfer_To tk9 (.t (has rfl)) (has rfl)) rfl rfl rfl rfl hb13 ?_
            refine goG (op_scmp rfl rfl (.t (has rfl)) (.str _)) rfl rfl rfl rfl hb13 ?_
            refine goG (op_move rfl (.t (has rfl))) rfl rfl rfl rfl hb13 ?_
            refine goesO_split H (fun hb14 H => ?_) (fun hb14 H => ?_)
            · skip
              refine goG (op_move rfl (.t (has rfl))) rfl rfl rfl rfl hb14 ?_
              refine goG (op_fieldAddr rfl Try.underlying77 rfl tk9 (.t (has rfl))) rfl rfl rfl rfl hb14 ?_
              refine goG (op_load rfl fldInfer_To tk9 (.t (has rfl)) (has rfl)) rfl rfl rfl rfl hb14 ?_
              obtain ⟨v15, h16, H⟩ := bind_some H
              refine goG (op_call' rfl enters10 (smithyref03_Has.con _ _ _ _ h16) rfl (.cons (ArgP.k (.t (has rfl))) (.cons (ArgP.k (.t (has rfl))) .nil))) rfl rfl rfl rfl hb14 ?_
              refine goG (op_not rfl (.t (has rfl))) rfl rfl rfl rfl hb14 ?_
              refine goG (op_pick_t rfl hb14 (.t (has rfl)) (.t (has rfl))) rfl rfl rfl rfl hb13 ?_
              refine go1 (op_pick_f rfl hb13 (.t (has rfl)) (.t (has rfl))) rfl ?_
              refine go1 (op_move rfl (.t (has rfl))) rfl ?_
              refine goesO_split H (fun hb17 H => ?_) (fun hb17 H => ?_)
              · skip
                refine goS rfl rfl rfl rfl rfl rfl hb17 ?_
                refine goS rfl rfl rfl rfl rfl rfl hb17 ?_
                refine goS rfl rfl rfl rfl rfl rfl hb17 ?_
                refine goS rfl rfl rfl rfl rfl rfl hb17 ?_
                refine go1 (op_pick_t rfl hb17 (.t (has rfl)) (.bool _)) rfl ?_
                refine goesO_nil ?_
                obtain rfl := Option.some.inj H
                exact ends_cut (.cons rfl (.cons rfl (.cons rfl (.cons rfl (.cons rfl (.cons rfl (.cons rfl (.cons rfl (.cons rfl .nil)))))))))
              · skip
                refine goG (op_fieldAddr rfl Try.underlying77 rfl tk25 (.t (has rfl))) rfl rfl rfl rfl hb17 ?_
                refine goG (op_load rfl fldInfer_Recipe tk25 (.t (has rfl)) (has rfl)) rfl rfl rfl rfl hb17 ?_
                obtain ⟨v18, h19, H⟩ := bind_some H
                refine goG (op_call' rfl enters26 (smithyref09_lines.con _ _ _ _ h19) rfl (.cons (ArgP.k (.t (has rfl))) (.cons (ArgP.k (.bool _)) .nil))) rfl rfl rfl rfl hb17 ?_
                refine goG (op_not rfl (.t (has rfl))) rfl rfl rfl rfl hb17 ?_
                refine go1 (op_pick_f rfl hb17 (.t (has rfl)) (.t (has rfl))) rfl ?_
                refine goesO_nil ?_
                obtain rfl := Option.some.inj H
                exact ends_cut (.cons rfl (.cons rfl (.cons rfl (.cons rfl (.cons rfl (.cons rfl (.cons rfl (.cons rfl (.cons rfl .nil)))))))))
            · skip
              refine goS rfl rfl rfl rfl rfl rfl hb14 ?_
              refine goS rfl rfl rfl rfl rfl rfl hb14 ?_
              refine goS rfl rfl rfl rfl rfl rfl hb14 ?_
              refine goS rfl rfl rfl rfl rfl rfl hb14 ?_
              refine goS rfl rfl rfl rfl rfl rfl hb14 ?_
              refine goG (op_pick_f rfl hb14 (.t (has rfl)) (.bool _)) rfl rfl rfl rfl hb13 ?_
              refine go1 (op_pick_f rfl hb13 (.t (has rfl)) (.t (has rfl))) rfl ?_
              refine go1 (op_move rfl (.t (has rfl))) rfl ?_
              refine goG (op_fieldAddr rfl Try.underlying77 rfl tk25 (.t (has rfl))) rfl rfl rfl rfl rfl ?_
              refine goG (op_load rfl fldInfer_Recipe tk25 (.t (has rfl)) (has rfl)) rfl rfl rfl rfl rfl ?_
              obtain ⟨v20, h21, H⟩ := bind_some H
              refine goG (op_call' rfl enters26 (smithyref09_lines.con _ _ _ _ h21) rfl (.cons (ArgP.k (.t (has rfl))) (.cons (ArgP.k (.bool _)) .nil))) rfl rfl rfl rfl rfl ?_
              refine goG (op_not rfl (.t (has rfl))) rfl rfl rfl rfl rfl ?_
              refine go1 (op_pick_f rfl rfl (.t (has rfl)) (.t (has rfl))) rfl ?_
              refine goesO_nil ?_
              obtain rfl := Option.some.inj H
              exact ends_cut (.cons rfl (.cons rfl (.cons rfl (.cons rfl (.cons rfl (.cons rfl (.cons rfl (.cons rfl (.cons rfl .nil)))))))))
        refine ends_then ?_
        refine goes_if (.t (has rfl)) H (fun hb22 H => ?_) (fun hb22 H => ?_)
        · skip
          refine goes_seq ?_
          refine goes_region ?_
          refine go1 (op_assign rfl (.bool _)) rfl ?_
          refine goesO_nil ?_
          refine ends_then ?_
          obtain rfl := Option.some.inj H
          refine goes_ret (ends_then_ret (ends_block_ret (ends_then_ret (ends_then_ret (ends_block_ret (ends_cutR_ret rfl ?_))))))
          exact ends_ret' rfl rfl (.t rfl (.nil _))
        · skip
          refine goes_skip ?_
          refine ends_then ?_
          refine goes_seq ?_
          refine goes_region ?_
          refine go1 (op_move rfl (.t (has rfl))) rfl ?_
          refine go1 (op_move rfl (.t (has rfl))) rfl ?_
          obtain ⟨x23, h24, H⟩ := bind_some H
          refine go1 (op_slice (l := none) (h := some _) rfl Try.underlying24 tk77 h24 (.t (has rfl)) trivial (.t (has rfl))) rfl ?_
          refine go1 (op_len rfl rfl Try.underlying24 (.t (has rfl))) rfl ?_
          refine go1 (op_move rfl (.int _ _)) rfl ?_
          refine goesO_nil ?_
          refine ends_then ?_
          obtain ⟨o28, h27, H⟩ := bind_some H
          refine goes_cutR (o := o28) (fun s26 : Unit => [Ent.t 0 (VA.k (kslice kInfer) a0), Ent.t 1 (VA.k (kslice kstr) a1), Ent.t 12 (VA.k (kslice kInfer) a0), Ent.t 13 (VA.k (kint .i64) (a0.length : Int)), Ent.t 14 (VA.k (kint .i64) s2)]) (fun r a w => bodyPost Try.prog Try.f24 (CPost w0 S0 θ [VA.k kbool r]) .ret a w) ?_ ?_ ?_
          · replace H := h27; clear h27
            refine goes_block ?_
            refine goes_loop (fun s25 : Int => [Ent.t 0 (VA.k (kslice kInfer) a0), Ent.t 1 (VA.k (kslice kstr) a1), Ent.t 6 (VA.ptr 6 0), Ent.t 12 (VA.k (kslice kInfer) a0), Ent.t 13 (VA.k (kint .i64) (a0.length : Int)), Ent.t 14 (VA.k (kint .i64) s2), Ent.t 44 (VA.k (kslice kInfer) x23), Ent.t 45 (VA.k (kint .i64) (x23.length : Int)), Ent.t 46 (VA.k (kint .i64) s25), Ent.h 6 (HE.box 77 kInfer x7)]) (fun k s25 => smithyref09_infers.l1 x7 x23 k s25) (fun _ => rfl) H (.cons rfl (.cons rfl (.cons rfl (.cons rfl (.cons rfl (.cons rfl (.cons rfl (.cons rfl (.cons rfl (.cons rfl .nil)))))))))) ?_
            intro k s25 H
            simp only [smithyref09_infers.l1] at H
            refine goes_seq ?_
            refine goes_region ?_
            refine go1 (op_icmp rfl rfl (.t (has rfl)) (.t (has rfl))) rfl ?_
            refine goesO_nil ?_
            refine ends_then ?_
            refine goes_seq ?_
            refine goes_if (.t (has rfl)) H (fun hb29 H => ?_) (fun hb29 H => ?_)
            · skip
              refine goes_skip ?_
              refine ends_then ?_
              refine goes_seq ?_
              refine goes_block ?_
              refine goes_seq ?_
              refine goes_region ?_
              obtain ⟨x30, h31, H⟩ := bind_some H
              refine go1 (op_indexAddr rfl Try.underlying24 tk77 h31 (.t (has rfl)) (.t (has rfl))) rfl ?_
              refine go1 (op_loadp rfl tk77 (.t (has rfl))) rfl ?_
              refine go3 (op_alloc 8 rfl zk77) rfl ?_
              refine go1 (op_store (Fld.whole kInfer) tk77 (.t (has rfl)) (has rfl) (.t (has rfl))) rfl ?_
              refine goesO_nil ?_
              refine ends_then ?_
              refine goes_seq ?_
              obtain ⟨s32, h33, H⟩ := bind_some H
              refine goes_cut [Ent.t 0 (VA.k (kslice kInfer) a0), Ent.t 1 (VA.k (kslice kstr) a1), Ent.t 6 (VA.ptr 6 0), Ent.t 12 (VA.k (kslice kInfer) a0), Ent.t 13 (VA.k (kint .i64) (a0.length : Int)), Ent.t 14 (VA.k (kint .i64) s2), Ent.t 44 (VA.k (kslice kInfer) x23), Ent.t 45 (VA.k (kint .i64) (x23.length : Int)), Ent.t 46 (VA.k (kint .i64) s25), Ent.t 61 (VA.k kbool s32), Ent.h 6 (HE.box 77 kInfer x7)] ?_ ?_
              · replace H := h33; clear h33
                refine goes_region ?_
                refine go1 (op_fieldAddr rfl Try.underlying77 rfl tk9 (.t (has rfl))) rfl ?_
                refine go1 (op_load rfl fldInfer_From tk9 (.t (has rfl)) (has rfl)) rfl ?_
                refine go1 (op_fieldAddr rfl Try.underlying77 rfl tk9 (.t (has rfl))) rfl ?_
                refine go1 (op_load rfl fldInfer_From tk9 (.t (has rfl)) (has rfl)) rfl ?_
                refine go1 (op_scmp rfl rfl (.t (has rfl)) (.t (has rfl))) rfl ?_
                refine go1 (op_move rfl (.t (has rfl))) rfl ?_
                refine goesO_split H (fun hb34 H => ?_) (fun hb34 H => ?_)
                · skip
                  refine goG (op_fieldAddr rfl Try.underlying77 rfl tk9 (.t (has rfl))) rfl rfl rfl rfl hb34 ?_
                  refine goG (op_load rfl fldInfer_To tk9 (.t (has rfl)) (has rfl)) rfl rfl rfl rfl hb34 ?_
                  refine goG (op_fieldAddr rfl Try.underlying77 rfl tk9 (.t (has rfl))) rfl rfl rfl rfl hb34 ?_
                  refine goG (op_load rfl fldInfer_To tk9 (.t (has rfl)) (has rfl)) rfl rfl rfl rfl hb34 ?_
                  refine goG (op_scmp rfl rfl (.t (has rfl)) (.t (has rfl))) rfl rfl rfl rfl hb34 ?_
                  refine go1 (op_pick_t rfl hb34 (.t (has rfl)) (.t (has rfl))) rfl ?_
                  refine goesO_nil ?_
                  obtain rfl := Option.some.inj H
                  exact ends_cut (.cons rfl (.cons rfl (.cons rfl (.cons rfl (.cons rfl (.cons rfl (.cons rfl (.cons rfl (.cons rfl (.cons rfl (.cons rfl .nil)))))))))))
                · skip
                  refine goS rfl rfl rfl rfl rfl rfl hb34 ?_
                  refine goS rfl rfl rfl rfl rfl rfl hb34 ?_
                  refine goS rfl rfl rfl rfl rfl rfl hb34 ?_
                  refine goS rfl rfl rfl rfl rfl rfl hb34 ?_
                  refine goS rfl rfl rfl rfl rfl rfl hb34 ?_
                  refine go1 (op_pick_f rfl hb34 (.t (has rfl)) (.bool _)) rfl ?_
                  refine goesO_nil ?_
                  obtain rfl := Option.some.inj H
                  exact ends_cut (.cons rfl (.cons rfl (.cons rfl (.cons rfl (.cons rfl (.cons rfl (.cons rfl (.cons rfl (.cons rfl (.cons rfl (.cons rfl .nil)))))))))))
              refine ends_then ?_
              refine goes_if (.t (has rfl)) H (fun hb35 H => ?_) (fun hb35 H => ?_)
              · skip
                refine goes_seq ?_
                refine goes_region ?_
                refine go1 (op_assign rfl (.bool _)) rfl ?_
                refine goesO_nil ?_
                refine ends_then ?_
                obtain rfl := Option.some.inj H
                refine goes_ret (ends_block_ret (ends_then_ret (ends_then_ret (ends_block_ret (ends_cutR_ret rfl ?_)))))
                exact ends_ret' rfl rfl (.t rfl (.nil _))
              · skip
                refine goes_skip ?_
                refine ends_block ?_
                refine ends_then ?_
                refine goes_region ?_
                refine go1 (op_add rfl (.t (has rfl)) (.int _ _)) rfl ?_
                refine go1 (op_move rfl (.t (has rfl))) rfl ?_
                refine goesO_nil ?_
                exact loop_next _ H (.cons rfl (.cons rfl (.cons rfl (.cons rfl (.cons rfl (.cons rfl (.cons rfl (.cons rfl (.cons rfl (.cons rfl .nil))))))))))
            · skip
              refine goes_exit (ends_then_exit (ends_then_exit (ends_block_exit ?_)))
              obtain rfl := Option.some.inj H
              exact ends_cutR rfl (.cons rfl (.cons rfl (.cons rfl (.cons rfl (.cons rfl .nil)))))
          · rintro s26 rfl
            clear h27
            dsimp only at H
            refine ends_block ?_
            refine ends_then ?_
            refine goes_region ?_
            refine go1 (op_add rfl (.t (has rfl)) (.int _ _)) rfl ?_
            refine go1 (op_move rfl (.t (has rfl))) rfl ?_
            refine goesO_nil ?_
            exact loop_next _ H (.cons rfl (.cons rfl (.cons rfl (.cons rfl (.cons rfl .nil)))))
          · rintro r' rfl a w hr
            obtain rfl := Option.some.inj H
            exact ⟨_, rfl, hr⟩
      · skip
        refine goes_exit (ends_then_exit (ends_then_exit (ends_block_exit ?_)))
        obtain rfl := Option.some.inj H
        exact ends_cutR rfl .nil
    · rintro s3 rfl
      clear h4
      dsimp only at H
      refine ends_then ?_
      refine goes_seq ?_
      refine goes_region ?_
      refine go1 (op_assign rfl (.bool _)) rfl ?_
      refine goesO_nil ?_
      refine ends_then ?_
      obtain rfl := Option.some.inj H
      exact goes_ret (ends_ret' rfl rfl (.t rfl (.nil _)))
    · rintro r' rfl a w hr
      obtain rfl := Option.some.inj H
      exact hr
/-! smithy/smithyref09.Right -/
def smithyref09_Right.l1 (x18 : Rule) : Nat → Int → Option (Except Bool Unit)
  | 0, _ => none
  | k + 1, s29 => bif icmp .lss s29 (x18.Needs.length : Int) then ((idx x18.Needs s29).bind fun x34 => ((smithyref03_Is.f k x34).bind fun v38 => bif !v38 then (some true) else ((sub x18.Needs (0 : Int) s29).bind fun x41 => (smithyref03_Has.f k x41 x34).bind fun v43 => some v43)).bind fun s36 => bif s36 then (some (Except.error false)) else (smithyref09_Right.l1 x18 k (IntKind.i64.wrap (s29 + (1 : Int))))) else (some (Except.ok ()))
def smithyref09_Right.l2 (x18 : Rule) (x46 : List Rule) : Nat → Int → Option (Except Bool Unit)
  | 0, _ => none
  | k + 1, s48 => bif icmp .lss s48 (x46.length : Int) then ((idx x46 s48).bind fun x53 => bif scmp .eql x53.Target x18.Target then (some (Except.error false)) else (smithyref09_Right.l2 x18 x46 k (IntKind.i64.wrap (s48 + (1 : Int))))) else (some (Except.ok ()))
def smithyref09_Right.l0 (a0 : Make) : Nat → (Bool × Int) → Option (Except Bool Bool)
  | 0, _ => none
  | k + 1, s13 => bif icmp .lss s13.2 (a0.Rules.length : Int) then ((idx a0.Rules s13.2).bind fun x18 => ((smithyref03_Is.f k x18.Target).bind fun v22 => bif !v22 then (some true) else (bif icmp .gtr (x18.Needs.length : Int) (64 : Int) then (some true) else ((smithyref09_lines.f k x18.Recipe x18.Has).bind fun v26 => some (!v26)))).bind fun s20 => bif s20 then (some (Except.error false)) else ((smithyref09_Right.l1 x18 k (0 : Int)).bind fun o32 => match o32 with | .error r' => some (Except.error r') | .ok s30 => ((sub a0.Rules (0 : Int) s13.2).bind fun x46 => (smithyref09_Right.l2 x18 x46 k (0 : Int)).bind fun o51 => match o51 with | .error r' => some (Except.error r') | .ok s49 => ((bif s13.1 then (some true) else (some (scmp .eql x18.Target a0.First))).bind fun s56 => smithyref09_Right.l0 a0 k (s56, IntKind.i64.wrap (s13.2 + (1 : Int))))))) else (some (Except.ok s13.1))
def smithyref09_Right.f (k : Nat) (a0 : Make) : Option Bool := ((smithyref05_Check.f k a0.Macros).bind fun v3 => bif icmp .neq v3 (0 : Int) then (some true) else (bif icmp .gtr (a0.Rules.length : Int) (512 : Int) then (some true) else ((smithyref09_special.f k a0.Special).bind fun v7 => bif !v7 then (some true) else ((smithyref09_infers.f k a0.Infers a0.Special.Suffixes).bind fun v10 => some (!v10))))).bind fun s1 => bif s1 then (some false) else ((smithyref09_Right.l0 a0 k (scmp .eql a0.First (⟨#[]⟩ : ByteArray), (0 : Int))).bind fun o16 => match o16 with | .error r' => some r' | .ok s14 => (some s14))
set_option maxRecDepth 100000 in
set_option maxHeartbeats 4000000 in
theorem smithyref09_Right.con (k : Nat) (a0 : Make) (r : Bool) (H : smithyref09_Right.f k a0 = some r) : Con Try.prog 13 [VA.k kMake a0] [VA.k kbool r] := by
  unfold smithyref09_Right.f at H
  refine con_enter Try.func13 rfl rfl rfl (fun w0 S0 θ => ?_)
  refine goes_seq ?_
  refine goes_region ?_
  refine go3 (op_box 1 rfl (fun h => by first | rfl | cases h) (.t (has rfl))) rfl ?_
  refine go1 (op_assign rfl (.bool _)) rfl ?_
  refine goesO_nil ?_
  refine ends_then ?_
  refine goes_seq ?_
  refine goes_seq ?_
  obtain ⟨s1, h2, H⟩ := bind_some H
  refine goes_cut [Ent.t 1 (VA.ptr 1 0), Ent.t 34 (VA.k kbool s1), Ent.h 1 (HE.box 29 kMake a0)] ?_ ?_
  · replace H := h2; clear h2
    refine goes_region ?_
    refine go1 (op_fieldAddr rfl Try.underlying29 rfl tk22 (.t (has rfl))) rfl ?_
    refine go1 (op_load rfl fldMake_Macros tk22 (.t (has rfl)) (has rfl)) rfl ?_
    obtain ⟨v3, h4, H⟩ := bind_some H
    refine go1 (op_call' rfl enters22 (smithyref05_Check.con _ _ _ h4) rfl (.cons (ArgP.k (.t (has rfl))) .nil)) rfl ?_
    refine go1 (op_icmp rfl rfl (.t (has rfl)) (.int _ _)) rfl ?_
    refine go1 (op_move rfl (.t (has rfl))) rfl ?_
    refine goesO_split H (fun hb5 H => ?_) (fun hb5 H => ?_)
    · skip
      refine goS rfl rfl rfl rfl rfl rfl hb5 ?_
      refine goS rfl rfl rfl rfl rfl rfl hb5 ?_
      refine goS rfl rfl rfl rfl rfl rfl hb5 ?_
      refine goS rfl rfl rfl rfl rfl rfl hb5 ?_
      refine go1 (op_pick_t rfl hb5 (.t (has rfl)) (.bool _)) rfl ?_
      refine go1 (op_move rfl (.t (has rfl))) rfl ?_
      refine goS rfl rfl rfl rfl rfl rfl rfl ?_
      refine goS rfl rfl rfl rfl rfl rfl rfl ?_
      refine goS rfl rfl rfl rfl rfl rfl rfl ?_
      refine goS rfl rfl rfl rfl rfl rfl rfl ?_
      refine go1 (op_pick_t rfl rfl (.t (has rfl)) (.bool _)) rfl ?_
      refine go1 (op_move rfl (.t (has rfl))) rfl ?_
      refine goS rfl rfl rfl rfl rfl rfl rfl ?_
      refine goS rfl rfl rfl rfl rfl rfl rfl ?_
      refine goS rfl rfl rfl rfl rfl rfl rfl ?_
      refine goS rfl rfl rfl rfl rfl rfl rfl ?_
      refine goS rfl rfl rfl rfl rfl rfl rfl ?_
      refine goS rfl rfl rfl rfl rfl rfl rfl ?_
      refine goS rfl rfl rfl rfl rfl rfl rfl ?_
      refine go1 (op_pick_t rfl rfl (.t (has rfl)) (.bool _)) rfl ?_
      refine goesO_nil ?_
      obtain rfl := Option.some.inj H
      exact ends_cut (.cons rfl (.cons rfl (.cons rfl .nil)))
    · skip
      refine goG (op_fieldAddr rfl Try.underlying29 rfl tk23 (.t (has rfl))) rfl rfl rfl rfl hb5 ?_
      refine goG (op_load rfl fldMake_Rules tk23 (.t (has rfl)) (has rfl)) rfl rfl rfl rfl hb5 ?_
      refine goG (op_len rfl rfl Try.underlying23 (.t (has rfl))) rfl rfl rfl rfl hb5 ?_
      refine goG (op_icmp rfl rfl (.t (has rfl)) (.int _ _)) rfl rfl rfl rfl hb5 ?_
      refine go1 (op_pick_f rfl hb5 (.t (has rfl)) (.t (has rfl))) rfl ?_
      refine go1 (op_move rfl (.t (has rfl))) rfl ?_
      refine goesO_split H (fun hb6 H => ?_) (fun hb6 H => ?_)
      · skip
        refine goS rfl rfl rfl rfl rfl rfl hb6 ?_
        refine goS rfl rfl rfl rfl rfl rfl hb6 ?_
        refine goS rfl rfl rfl rfl rfl rfl hb6 ?_
        refine goS rfl rfl rfl rfl rfl rfl hb6 ?_
        refine go1 (op_pick_t rfl hb6 (.t (has rfl)) (.bool _)) rfl ?_
        refine go1 (op_move rfl (.t (has rfl))) rfl ?_
        refine goS rfl rfl rfl rfl rfl rfl rfl ?_
        refine goS rfl rfl rfl rfl rfl rfl rfl ?_
        refine goS rfl rfl rfl rfl rfl rfl rfl ?_
        refine goS rfl rfl rfl rfl rfl rfl rfl ?_
        refine goS rfl rfl rfl rfl rfl rfl rfl ?_
        refine goS rfl rfl rfl rfl rfl rfl rfl ?_
        refine goS rfl rfl rfl rfl rfl rfl rfl ?_
        refine go1 (op_pick_t rfl rfl (.t (has rfl)) (.bool _)) rfl ?_
        refine goesO_nil ?_
        obtain rfl := Option.some.inj H
        exact ends_cut (.cons rfl (.cons rfl (.cons rfl .nil)))
      · skip
        refine goG (op_fieldAddr rfl Try.underlying29 rfl tk27 (.t (has rfl))) rfl rfl rfl rfl hb6 ?_
        refine goG (op_load rfl fldMake_Special tk27 (.t (has rfl)) (has rfl)) rfl rfl rfl rfl hb6 ?_
        obtain ⟨v7, h8, H⟩ := bind_some H
        refine goG (op_call' rfl enters23 (smithyref09_special.con _ _ _ h8) rfl (.cons (ArgP.k (.t (has rfl))) .nil)) rfl rfl rfl rfl hb6 ?_
        refine goG (op_not rfl (.t (has rfl))) rfl rfl rfl rfl hb6 ?_
        refine go1 (op_pick_f rfl hb6 (.t (has rfl)) (.t (has rfl))) rfl ?_
        refine go1 (op_move rfl (.t (has rfl))) rfl ?_
        refine goesO_split H (fun hb9 H => ?_) (fun hb9 H => ?_)
        · skip
          refine goS rfl rfl rfl rfl rfl rfl hb9 ?_
          refine goS rfl rfl rfl rfl rfl rfl hb9 ?_
          refine goS rfl rfl rfl rfl rfl rfl hb9 ?_
          refine goS rfl rfl rfl rfl rfl rfl hb9 ?_
          refine goS rfl rfl rfl rfl rfl rfl hb9 ?_
          refine goS rfl rfl rfl rfl rfl rfl hb9 ?_
          refine goS rfl rfl rfl rfl rfl rfl hb9 ?_
          refine go1 (op_pick_t rfl hb9 (.t (has rfl)) (.bool _)) rfl ?_
          refine goesO_nil ?_
          obtain rfl := Option.some.inj H
          exact ends_cut (.cons rfl (.cons rfl (.cons rfl .nil)))
        · skip
          refine goG (op_fieldAddr rfl Try.underlying29 rfl tk24 (.t (has rfl))) rfl rfl rfl rfl hb9 ?_
          refine goG (op_load rfl fldMake_Infers tk24 (.t (has rfl)) (has rfl)) rfl rfl rfl rfl hb9 ?_
          refine goG (op_fieldAddr rfl Try.underlying29 rfl tk27 (.t (has rfl))) rfl rfl rfl rfl hb9 ?_
          refine goG (op_fieldAddr rfl Try.underlying27 rfl tk25 (.t (has rfl))) rfl rfl rfl rfl hb9 ?_
          refine goG (op_load rfl (Fld.comp fldMake_Special fldSpecial_Suffixes) tk25 (.t (has rfl)) (has rfl)) rfl rfl rfl rfl hb9 ?_
          obtain ⟨v10, h11, H⟩ := bind_some H
          refine goG (op_call' rfl enters24 (smithyref09_infers.con _ _ _ _ h11) rfl (.cons (ArgP.k (.t (has rfl))) (.cons (ArgP.k (.t (has rfl))) .nil))) rfl rfl rfl rfl hb9 ?_
          refine goG (op_not rfl (.t (has rfl))) rfl rfl rfl rfl hb9 ?_
          refine go1 (op_pick_f rfl hb9 (.t (has rfl)) (.t (has rfl))) rfl ?_
          refine goesO_nil ?_
          obtain rfl := Option.some.inj H
          exact ends_cut (.cons rfl (.cons rfl (.cons rfl .nil)))
  refine ends_then ?_
  refine goes_if (.t (has rfl)) H (fun hb12 H => ?_) (fun hb12 H => ?_)
  · skip
    refine goes_seq ?_
    refine goes_region ?_
    refine go1 (op_assign rfl (.bool _)) rfl ?_
    refine goesO_nil ?_
    refine ends_then ?_
    obtain rfl := Option.some.inj H
    exact goes_ret (ends_then_ret (ends_ret' rfl rfl (.t rfl (.nil _))))
  · skip
    refine goes_skip ?_
    refine ends_then ?_
    refine goes_seq ?_
    refine goes_region ?_
    refine go1 (op_fieldAddr rfl Try.underlying29 rfl tk9 (.t (has rfl))) rfl ?_
    refine go1 (op_load rfl fldMake_First tk9 (.t (has rfl)) (has rfl)) rfl ?_
    refine go1 (op_scmp rfl rfl (.t (has rfl)) (.str _)) rfl ?_
    refine go1 (op_assign rfl (.t (has rfl))) rfl ?_
    refine goesO_nil ?_
    refine ends_then ?_
    refine goes_seq ?_
    refine goes_seq ?_
    refine goes_region ?_
    refine go1 (op_fieldAddr rfl Try.underlying29 rfl tk23 (.t (has rfl))) rfl ?_
    refine go1 (op_load rfl fldMake_Rules tk23 (.t (has rfl)) (has rfl)) rfl ?_
    refine go1 (op_len rfl rfl Try.underlying23 (.t (has rfl))) rfl ?_
    refine go1 (op_move rfl (.int _ _)) rfl ?_
    refine goesO_nil ?_
    refine ends_then ?_
    obtain ⟨o16, h15, H⟩ := bind_some H
    refine goes_cutR (o := o16) (fun s14 : Bool => [Ent.t 3 (VA.k kbool s14)]) (fun r a w => bodyPost Try.prog Try.f13 (CPost w0 S0 θ [VA.k kbool r]) .ret a w) ?_ ?_ ?_
    · replace H := h15; clear h15
      refine goes_block ?_
      refine goes_loop (fun s13 : Bool × Int => [Ent.t 1 (VA.ptr 1 0), Ent.t 3 (VA.k kbool s13.1), Ent.t 39 (VA.k (kslice kRule) a0.Rules), Ent.t 40 (VA.k (kint .i64) (a0.Rules.length : Int)), Ent.t 41 (VA.k (kint .i64) s13.2), Ent.h 1 (HE.box 29 kMake a0)]) (fun k s13 => smithyref09_Right.l0 a0 k s13) (fun _ => rfl) H (.cons rfl (.cons rfl (.cons rfl (.cons rfl (.cons rfl (.cons rfl .nil)))))) ?_
      intro k s13 H
      simp only [smithyref09_Right.l0] at H
      refine goes_seq ?_
      refine goes_region ?_
      refine go1 (op_icmp rfl rfl (.t (has rfl)) (.t (has rfl))) rfl ?_
      refine goesO_nil ?_
      refine ends_then ?_
      refine goes_seq ?_
      refine goes_if (.t (has rfl)) H (fun hb17 H => ?_) (fun hb17 H => ?_)
      · skip
        refine goes_skip ?_
        refine ends_then ?_
        refine goes_seq ?_
        refine goes_block ?_
        refine goes_seq ?_
        refine goes_region ?_
        refine go1 (op_move rfl (.t (has rfl))) rfl ?_
        obtain ⟨x18, h19, H⟩ := bind_some H
        refine go1 (op_indexAddr rfl Try.underlying23 tk52 h19 (.t (has rfl)) (.t (has rfl))) rfl ?_
        refine go1 (op_loadp rfl tk52 (.t (has rfl))) rfl ?_
        refine go3 (op_alloc 5 rfl zk52) rfl ?_
        refine go1 (op_assign rfl (.t (has rfl))) rfl ?_
        refine go1 (op_store (Fld.whole kRule) tk52 (.t (has rfl)) (has rfl) (.t (has rfl))) rfl ?_
        refine goesO_nil ?_
        refine ends_then ?_
        refine goes_seq ?_
        refine goes_seq ?_
        obtain ⟨s20, h21, H⟩ := bind_some H
        refine goes_cut [Ent.t 1 (VA.ptr 1 0), Ent.t 3 (VA.k kbool s13.1), Ent.t 4 (VA.k (kint .i64) s13.2), Ent.t 5 (VA.ptr 5 0), Ent.t 39 (VA.k (kslice kRule) a0.Rules), Ent.t 40 (VA.k (kint .i64) (a0.Rules.length : Int)), Ent.t 41 (VA.k (kint .i64) s13.2), Ent.t 63 (VA.k kbool s20), Ent.h 1 (HE.box 29 kMake a0), Ent.h 5 (HE.box 52 kRule x18)] ?_ ?_
        · replace H := h21; clear h21
          refine goes_region ?_
          refine go1 (op_fieldAddr rfl Try.underlying52 rfl tk9 (.t (has rfl))) rfl ?_
          refine go1 (op_load rfl fldRule_Target tk9 (.t (has rfl)) (has rfl)) rfl ?_
          obtain ⟨v22, h23, H⟩ := bind_some H
          refine go1 (op_call' rfl enters25 (smithyref03_Is.con _ _ _ h23) rfl (.cons (ArgP.k (.t (has rfl))) .nil)) rfl ?_
          refine go1 (op_not rfl (.t (has rfl))) rfl ?_
          refine go1 (op_move rfl (.t (has rfl))) rfl ?_
          refine goesO_split H (fun hb24 H => ?_) (fun hb24 H => ?_)
          · skip
            refine goS rfl rfl rfl rfl rfl rfl hb24 ?_
            refine goS rfl rfl rfl rfl rfl rfl hb24 ?_
            refine goS rfl rfl rfl rfl rfl rfl hb24 ?_
            refine goS rfl rfl rfl rfl rfl rfl hb24 ?_
            refine go1 (op_pick_t rfl hb24 (.t (has rfl)) (.bool _)) rfl ?_
            refine go1 (op_move rfl (.t (has rfl))) rfl ?_
            refine goS rfl rfl rfl rfl rfl rfl rfl ?_
            refine goS rfl rfl rfl rfl rfl rfl rfl ?_
            refine goS rfl rfl rfl rfl rfl rfl rfl ?_
            refine goS rfl rfl rfl rfl rfl rfl rfl ?_
            refine goS rfl rfl rfl rfl rfl rfl rfl ?_
            refine goS rfl rfl rfl rfl rfl rfl rfl ?_
            refine go1 (op_pick_t rfl rfl (.t (has rfl)) (.bool _)) rfl ?_
            refine goesO_nil ?_
            obtain rfl := Option.some.inj H
            exact ends_cut (.cons rfl (.cons rfl (.cons rfl (.cons rfl (.cons rfl (.cons rfl (.cons rfl (.cons rfl (.cons rfl (.cons rfl .nil))))))))))
          · skip
            refine goG (op_fieldAddr rfl Try.underlying52 rfl tk25 (.t (has rfl))) rfl rfl rfl rfl hb24 ?_
            refine goG (op_load rfl fldRule_Needs tk25 (.t (has rfl)) (has rfl)) rfl rfl rfl rfl hb24 ?_
            refine goG (op_len rfl rfl Try.underlying25 (.t (has rfl))) rfl rfl rfl rfl hb24 ?_
            refine goG (op_icmp rfl rfl (.t (has rfl)) (.int _ _)) rfl rfl rfl rfl hb24 ?_
            refine go1 (op_pick_f rfl hb24 (.t (has rfl)) (.t (has rfl))) rfl ?_
            refine go1 (op_move rfl (.t (has rfl))) rfl ?_
            refine goesO_split H (fun hb25 H => ?_) (fun hb25 H => ?_)
            · skip
              refine goS rfl rfl rfl rfl rfl rfl hb25 ?_
              refine goS rfl rfl rfl rfl rfl rfl hb25 ?_
              refine goS rfl rfl rfl rfl rfl rfl hb25 ?_
              refine goS rfl rfl rfl rfl rfl rfl hb25 ?_
              refine goS rfl rfl rfl rfl rfl rfl hb25 ?_
              refine goS rfl rfl rfl rfl rfl rfl hb25 ?_
              refine go1 (op_pick_t rfl hb25 (.t (has rfl)) (.bool _)) rfl ?_
              refine goesO_nil ?_
              obtain rfl := Option.some.inj H
              exact ends_cut (.cons rfl (.cons rfl (.cons rfl (.cons rfl (.cons rfl (.cons rfl (.cons rfl (.cons rfl (.cons rfl (.cons rfl .nil))))))))))
            · skip
              refine goG (op_fieldAddr rfl Try.underlying52 rfl tk25 (.t (has rfl))) rfl rfl rfl rfl hb25 ?_
              refine goG (op_load rfl fldRule_Recipe tk25 (.t (has rfl)) (has rfl)) rfl rfl rfl rfl hb25 ?_
              refine goG (op_fieldAddr rfl Try.underlying52 rfl tk4 (.t (has rfl))) rfl rfl rfl rfl hb25 ?_
              refine goG (op_load rfl fldRule_Has tk4 (.t (has rfl)) (has rfl)) rfl rfl rfl rfl hb25 ?_
              obtain ⟨v26, h27, H⟩ := bind_some H
              refine goG (op_call' rfl enters26 (smithyref09_lines.con _ _ _ _ h27) rfl (.cons (ArgP.k (.t (has rfl))) (.cons (ArgP.k (.t (has rfl))) .nil))) rfl rfl rfl rfl hb25 ?_
              refine goG (op_not rfl (.t (has rfl))) rfl rfl rfl rfl hb25 ?_
              refine go1 (op_pick_f rfl hb25 (.t (has rfl)) (.t (has rfl))) rfl ?_
              refine goesO_nil ?_
              obtain rfl := Option.some.inj H
              exact ends_cut (.cons rfl (.cons rfl (.cons rfl (.cons rfl (.cons rfl (.cons rfl (.cons rfl (.cons rfl (.cons rfl (.cons rfl .nil))))))))))
        refine ends_then ?_
        refine goes_if (.t (has rfl)) H (fun hb28 H => ?_) (fun hb28 H => ?_)
        · skip
          refine goes_seq ?_
          refine goes_region ?_
          refine go1 (op_assign rfl (.bool _)) rfl ?_
          refine goesO_nil ?_
          refine ends_then ?_
          obtain rfl := Option.some.inj H
          refine goes_ret (ends_then_ret (ends_block_ret (ends_then_ret (ends_then_ret (ends_block_ret (ends_cutR_ret rfl ?_))))))
          exact ends_ret' rfl rfl (.t rfl (.nil _))
        · skip
          refine goes_skip ?_
          refine ends_then ?_
          refine goes_seq ?_
          refine goes_seq ?_
          refine goes_region ?_
          refine go1 (op_fieldAddr rfl Try.underlying52 rfl tk25 (.t (has rfl))) rfl ?_
          refine go1 (op_load rfl fldRule_Needs tk25 (.t (has rfl)) (has rfl)) rfl ?_
          refine go1 (op_len rfl rfl Try.underlying25 (.t (has rfl))) rfl ?_
          refine go1 (op_move rfl (.int _ _)) rfl ?_
          refine goesO_nil ?_
          refine ends_then ?_
          obtain ⟨o32, h31, H⟩ := bind_some H
          refine goes_cutR (o := o32) (fun s30 : Unit => [Ent.t 1 (VA.ptr 1 0), Ent.t 3 (VA.k kbool s13.1), Ent.t 4 (VA.k (kint .i64) s13.2), Ent.t 5 (VA.ptr 5 0), Ent.t 39 (VA.k (kslice kRule) a0.Rules), Ent.t 40 (VA.k (kint .i64) (a0.Rules.length : Int)), Ent.t 41 (VA.k (kint .i64) s13.2), Ent.h 1 (HE.box 29 kMake a0), Ent.h 5 (HE.box 52 kRule x18)]) (fun r a w => bodyPost Try.prog Try.f13 (CPost w0 S0 θ [VA.k kbool r]) .ret a w) ?_ ?_ ?_
          · replace H := h31; clear h31
            refine goes_block ?_
            refine goes_loop (fun s29 : Int => [Ent.t 1 (VA.ptr 1 0), Ent.t 3 (VA.k kbool s13.1), Ent.t 4 (VA.k (kint .i64) s13.2), Ent.t 5 (VA.ptr 5 0), Ent.t 39 (VA.k (kslice kRule) a0.Rules), Ent.t 40 (VA.k (kint .i64) (a0.Rules.length : Int)), Ent.t 41 (VA.k (kint .i64) s13.2), Ent.t 65 (VA.k (kslice kstr) x18.Needs), Ent.t 66 (VA.k (kint .i64) (x18.Needs.length : Int)), Ent.t 67 (VA.k (kint .i64) s29), Ent.h 1 (HE.box 29 kMake a0), Ent.h 5 (HE.box 52 kRule x18)]) (fun k s29 => smithyref09_Right.l1 x18 k s29) (fun _ => rfl) H (.cons rfl (.cons rfl (.cons rfl (.cons rfl (.cons rfl (.cons rfl (.cons rfl (.cons rfl (.cons rfl (.cons rfl (.cons rfl (.cons rfl .nil)))))))))))) ?_
            intro k s29 H
            simp only [smithyref09_Right.l1] at H
            refine goes_seq ?_
            refine goes_region ?_
            refine go1 (op_icmp rfl rfl (.t (has rfl)) (.t (has rfl))) rfl ?_
            refine goesO_nil ?_
            refine ends_then ?_
            refine goes_seq ?_
            refine goes_if (.t (has rfl)) H (fun hb33 H => ?_) (fun hb33 H => ?_)
            · skip
              refine goes_skip ?_
              refine ends_then ?_
              refine goes_seq ?_
              refine goes_block ?_
              refine goes_seq ?_
              refine goes_region ?_
              refine go1 (op_move rfl (.t (has rfl))) rfl ?_
              obtain ⟨x34, h35, H⟩ := bind_some H
              refine go1 (op_indexAddr rfl Try.underlying25 tk9 h35 (.t (has rfl)) (.t (has rfl))) rfl ?_
              refine go1 (op_loadp rfl tk9 (.t (has rfl))) rfl ?_
              refine go1 (op_assign rfl (.t (has rfl))) rfl ?_
              refine go1 (op_assign rfl (.t (has rfl))) rfl ?_
              refine goesO_nil ?_
              refine ends_then ?_
              refine goes_seq ?_
              obtain ⟨s36, h37, H⟩ := bind_some H
              refine goes_cut [Ent.t 1 (VA.ptr 1 0), Ent.t 3 (VA.k kbool s13.1), Ent.t 4 (VA.k (kint .i64) s13.2), Ent.t 5 (VA.ptr 5 0), Ent.t 39 (VA.k (kslice kRule) a0.Rules), Ent.t 40 (VA.k (kint .i64) (a0.Rules.length : Int)), Ent.t 41 (VA.k (kint .i64) s13.2), Ent.t 65 (VA.k (kslice kstr) x18.Needs), Ent.t 66 (VA.k (kint .i64) (x18.Needs.length : Int)), Ent.t 67 (VA.k (kint .i64) s29), Ent.t 82 (VA.k kbool s36), Ent.h 1 (HE.box 29 kMake a0), Ent.h 5 (HE.box 52 kRule x18)] ?_ ?_
              · replace H := h37; clear h37
                refine goes_region ?_
                refine go1 (op_move rfl (.t (has rfl))) rfl ?_
                obtain ⟨v38, h39, H⟩ := bind_some H
                refine go1 (op_call' rfl enters25 (smithyref03_Is.con _ _ _ h39) rfl (.cons (ArgP.k (.t (has rfl))) .nil)) rfl ?_
                refine go1 (op_not rfl (.t (has rfl))) rfl ?_
                refine go1 (op_move rfl (.t (has rfl))) rfl ?_
                refine goesO_split H (fun hb40 H => ?_) (fun hb40 H => ?_)
                · skip
                  refine goS rfl rfl rfl rfl rfl rfl hb40 ?_
                  refine goS rfl rfl rfl rfl rfl rfl hb40 ?_
                  refine goS rfl rfl rfl rfl rfl rfl hb40 ?_
                  refine goS rfl rfl rfl rfl rfl rfl hb40 ?_
                  refine goS rfl rfl rfl rfl rfl rfl hb40 ?_
                  refine goS rfl rfl rfl rfl rfl rfl hb40 ?_
                  refine go1 (op_pick_t rfl hb40 (.t (has rfl)) (.bool _)) rfl ?_
                  refine goesO_nil ?_
                  obtain rfl := Option.some.inj H
                  exact ends_cut (.cons rfl (.cons rfl (.cons rfl (.cons rfl (.cons rfl (.cons rfl (.cons rfl (.cons rfl (.cons rfl (.cons rfl (.cons rfl (.cons rfl (.cons rfl .nil)))))))))))))
                · skip
                  refine goG (op_fieldAddr rfl Try.underlying52 rfl tk25 (.t (has rfl))) rfl rfl rfl rfl hb40 ?_
                  refine goG (op_load rfl fldRule_Needs tk25 (.t (has rfl)) (has rfl)) rfl rfl rfl rfl hb40 ?_
                  refine goG (op_move rfl (.t (has rfl))) rfl rfl rfl rfl hb40 ?_
                  obtain ⟨x41, h42, H⟩ := bind_some H
                  refine goG (op_slice (l := none) (h := some _) rfl Try.underlying25 tk9 h42 (.t (has rfl)) trivial (.t (has rfl))) rfl rfl rfl rfl hb40 ?_
                  refine goG (op_move rfl (.t (has rfl))) rfl rfl rfl rfl hb40 ?_
                  obtain ⟨v43, h44, H⟩ := bind_some H
                  refine goG (op_call' rfl enters10 (smithyref03_Has.con _ _ _ _ h44) rfl (.cons (ArgP.k (.t (has rfl))) (.cons (ArgP.k (.t (has rfl))) .nil))) rfl rfl rfl rfl hb40 ?_
                  refine go1 (op_pick_f rfl hb40 (.t (has rfl)) (.t (has rfl))) rfl ?_
                  refine goesO_nil ?_
                  obtain rfl := Option.some.inj H
                  exact ends_cut (.cons rfl (.cons rfl (.cons rfl (.cons rfl (.cons rfl (.cons rfl (.cons rfl (.cons rfl (.cons rfl (.cons rfl (.cons rfl (.cons rfl (.cons rfl .nil)))))))))))))
              refine ends_then ?_
              refine goes_if (.t (has rfl)) H (fun hb45 H => ?_) (fun hb45 H => ?_)
              · skip
                refine goes_seq ?_
                refine goes_region ?_
                refine go1 (op_assign rfl (.bool _)) rfl ?_
                refine goesO_nil ?_
                refine ends_then ?_
                obtain rfl := Option.some.inj H
                refine goes_ret (ends_block_ret (ends_then_ret (ends_then_ret (ends_block_ret (ends_cutR_ret rfl ?_)))))
                exact ends_ret' rfl rfl (.t rfl (.nil _))
              · skip
                refine goes_skip ?_
                refine ends_block ?_
                refine ends_then ?_
                refine goes_region ?_
                refine go1 (op_add rfl (.t (has rfl)) (.int _ _)) rfl ?_
                refine go1 (op_move rfl (.t (has rfl))) rfl ?_
                refine goesO_nil ?_
                exact loop_next _ H (.cons rfl (.cons rfl (.cons rfl (.cons rfl (.cons rfl (.cons rfl (.cons rfl (.cons rfl (.cons rfl (.cons rfl (.cons rfl (.cons rfl .nil))))))))))))
            · skip
              refine goes_exit (ends_then_exit (ends_then_exit (ends_block_exit ?_)))
              obtain rfl := Option.some.inj H
              exact ends_cutR rfl (.cons rfl (.cons rfl (.cons rfl (.cons rfl (.cons rfl (.cons rfl (.cons rfl (.cons rfl (.cons rfl .nil)))))))))
          · rintro s30 rfl
            clear h31
            dsimp only at H
            refine ends_then ?_
            refine goes_seq ?_
            refine goes_seq ?_
            refine goes_region ?_
            refine go1 (op_fieldAddr rfl Try.underlying29 rfl tk23 (.t (has rfl))) rfl ?_
            refine go1 (op_load rfl fldMake_Rules tk23 (.t (has rfl)) (has rfl)) rfl ?_
            refine go1 (op_move rfl (.t (has rfl))) rfl ?_
            obtain ⟨x46, h47, H⟩ := bind_some H
            refine go1 (op_slice (l := none) (h := some _) rfl Try.underlying23 tk52 h47 (.t (has rfl)) trivial (.t (has rfl))) rfl ?_
            refine go1 (op_len rfl rfl Try.underlying23 (.t (has rfl))) rfl ?_
            refine go1 (op_move rfl (.int _ _)) rfl ?_
            refine goesO_nil ?_
            refine ends_then ?_
            obtain ⟨o51, h50, H⟩ := bind_some H
            refine goes_cutR (o := o51) (fun s49 : Unit => [Ent.t 1 (VA.ptr 1 0), Ent.t 3 (VA.k kbool s13.1), Ent.t 5 (VA.ptr 5 0), Ent.t 39 (VA.k (kslice kRule) a0.Rules), Ent.t 40 (VA.k (kint .i64) (a0.Rules.length : Int)), Ent.t 41 (VA.k (kint .i64) s13.2), Ent.h 1 (HE.box 29 kMake a0), Ent.h 5 (HE.box 52 kRule x18)]) (fun r a w => bodyPost Try.prog Try.f13 (CPost w0 S0 θ [VA.k kbool r]) .ret a w) ?_ ?_ ?_
            · replace H := h50; clear h50
              refine goes_block ?_
              refine goes_loop (fun s48 : Int => [Ent.t 1 (VA.ptr 1 0), Ent.t 3 (VA.k kbool s13.1), Ent.t 5 (VA.ptr 5 0), Ent.t 39 (VA.k (kslice kRule) a0.Rules), Ent.t 40 (VA.k (kint .i64) (a0.Rules.length : Int)), Ent.t 41 (VA.k (kint .i64) s13.2), Ent.t 87 (VA.k (kslice kRule) x46), Ent.t 88 (VA.k (kint .i64) (x46.length : Int)), Ent.t 89 (VA.k (kint .i64) s48), Ent.h 1 (HE.box 29 kMake a0), Ent.h 5 (HE.box 52 kRule x18)]) (fun k s48 => smithyref09_Right.l2 x18 x46 k s48) (fun _ => rfl) H (.cons rfl (.cons rfl (.cons rfl (.cons rfl (.cons rfl (.cons rfl (.cons rfl (.cons rfl (.cons rfl (.cons rfl (.cons rfl .nil))))))))))) ?_
              intro k s48 H
              simp only [smithyref09_Right.l2] at H
              refine goes_seq ?_
              refine goes_region ?_
              refine go1 (op_icmp rfl rfl (.t (has rfl)) (.t (has rfl))) rfl ?_
              refine goesO_nil ?_
              refine ends_then ?_
              refine goes_seq ?_
              refine goes_if (.t (has rfl)) H (fun hb52 H => ?_) (fun hb52 H => ?_)
              · skip
                refine goes_skip ?_
                refine ends_then ?_
                refine goes_seq ?_
                refine goes_block ?_
                refine goes_seq ?_
                refine goes_region ?_
                obtain ⟨x53, h54, H⟩ := bind_some H
                refine go1 (op_indexAddr rfl Try.underlying23 tk52 h54 (.t (has rfl)) (.t (has rfl))) rfl ?_
                refine go1 (op_loadp rfl tk52 (.t (has rfl))) rfl ?_
                refine go3 (op_alloc 9 rfl zk52) rfl ?_
                refine go1 (op_store (Fld.whole kRule) tk52 (.t (has rfl)) (has rfl) (.t (has rfl))) rfl ?_
                refine goesO_nil ?_
                refine ends_then ?_
                refine goes_seq ?_
                refine goes_region ?_
                refine go1 (op_fieldAddr rfl Try.underlying52 rfl tk9 (.t (has rfl))) rfl ?_
                refine go1 (op_load rfl fldRule_Target tk9 (.t (has rfl)) (has rfl)) rfl ?_
                refine go1 (op_fieldAddr rfl Try.underlying52 rfl tk9 (.t (has rfl))) rfl ?_
                refine go1 (op_load rfl fldRule_Target tk9 (.t (has rfl)) (has rfl)) rfl ?_
                refine go1 (op_scmp rfl rfl (.t (has rfl)) (.t (has rfl))) rfl ?_
                refine goesO_nil ?_
                refine ends_then ?_
                refine goes_if (.t (has rfl)) H (fun hb55 H => ?_) (fun hb55 H => ?_)
                · skip
                  refine goes_seq ?_
                  refine goes_region ?_
                  refine go1 (op_assign rfl (.bool _)) rfl ?_
                  refine goesO_nil ?_
                  refine ends_then ?_
                  obtain rfl := Option.some.inj H
                  refine goes_ret (ends_block_ret (ends_then_ret (ends_then_ret (ends_block_ret (ends_cutR_ret rfl ?_)))))
                  exact ends_ret' rfl rfl (.t rfl (.nil _))
                · skip
                  refine goes_skip ?_
                  refine ends_block ?_
                  refine ends_then ?_
                  refine goes_region ?_
                  refine go1 (op_add rfl (.t (has rfl)) (.int _ _)) rfl ?_
                  refine go1 (op_move rfl (.t (has rfl))) rfl ?_
                  refine goesO_nil ?_
                  exact loop_next _ H (.cons rfl (.cons rfl (.cons rfl (.cons rfl (.cons rfl (.cons rfl (.cons rfl (.cons rfl (.cons rfl (.cons rfl (.cons rfl .nil)))))))))))
              · skip
                refine goes_exit (ends_then_exit (ends_then_exit (ends_block_exit ?_)))
                obtain rfl := Option.some.inj H
                exact ends_cutR rfl (.cons rfl (.cons rfl (.cons rfl (.cons rfl (.cons rfl (.cons rfl (.cons rfl (.cons rfl .nil))))))))
            · rintro s49 rfl
              clear h50
              dsimp only at H
              refine ends_then ?_
              obtain ⟨s56, h57, H⟩ := bind_some H
              refine goes_cut [Ent.t 1 (VA.ptr 1 0), Ent.t 3 (VA.k kbool s56), Ent.t 39 (VA.k (kslice kRule) a0.Rules), Ent.t 40 (VA.k (kint .i64) (a0.Rules.length : Int)), Ent.t 41 (VA.k (kint .i64) s13.2), Ent.h 1 (HE.box 29 kMake a0)] ?_ ?_
              · replace H := h57; clear h57
                refine goes_region ?_
                refine go1 (op_move rfl (.t (has rfl))) rfl ?_
                refine go1 (op_move rfl (.t (has rfl))) rfl ?_
                refine goesO_split H (fun hb58 H => ?_) (fun hb58 H => ?_)
                · skip
                  refine goS rfl rfl rfl rfl rfl rfl hb58 ?_
                  refine goS rfl rfl rfl rfl rfl rfl hb58 ?_
                  refine goS rfl rfl rfl rfl rfl rfl hb58 ?_
                  refine goS rfl rfl rfl rfl rfl rfl hb58 ?_
                  refine goS rfl rfl rfl rfl rfl rfl hb58 ?_
                  refine go1 (op_pick_t rfl hb58 (.t (has rfl)) (.bool _)) rfl ?_
                  refine go1 (op_assign rfl (.t (has rfl))) rfl ?_
                  refine goesO_nil ?_
                  obtain rfl := Option.some.inj H
                  exact ends_cut (.cons rfl (.cons rfl (.cons rfl (.cons rfl (.cons rfl (.cons rfl .nil))))))
                · skip
                  refine goG (op_fieldAddr rfl Try.underlying52 rfl tk9 (.t (has rfl))) rfl rfl rfl rfl hb58 ?_
                  refine goG (op_load rfl fldRule_Target tk9 (.t (has rfl)) (has rfl)) rfl rfl rfl rfl hb58 ?_
                  refine goG (op_fieldAddr rfl Try.underlying29 rfl tk9 (.t (has rfl))) rfl rfl rfl rfl hb58 ?_
                  refine goG (op_load rfl fldMake_First tk9 (.t (has rfl)) (has rfl)) rfl rfl rfl rfl hb58 ?_
                  refine goG (op_scmp rfl rfl (.t (has rfl)) (.t (has rfl))) rfl rfl rfl rfl hb58 ?_
                  refine go1 (op_pick_f rfl hb58 (.t (has rfl)) (.t (has rfl))) rfl ?_
                  refine go1 (op_assign rfl (.t (has rfl))) rfl ?_
                  refine goesO_nil ?_
                  obtain rfl := Option.some.inj H
                  exact ends_cut (.cons rfl (.cons rfl (.cons rfl (.cons rfl (.cons rfl (.cons rfl .nil))))))
              refine ends_block ?_
              refine ends_then ?_
              refine goes_region ?_
              refine go1 (op_add rfl (.t (has rfl)) (.int _ _)) rfl ?_
              refine go1 (op_move rfl (.t (has rfl))) rfl ?_
              refine goesO_nil ?_
              exact loop_next _ H (.cons rfl (.cons rfl (.cons rfl (.cons rfl (.cons rfl (.cons rfl .nil))))))
            · rintro r' rfl a w hr
              obtain rfl := Option.some.inj H
              exact ⟨_, rfl, hr⟩
          · rintro r' rfl a w hr
            obtain rfl := Option.some.inj H
            exact ⟨_, rfl, hr⟩
      · skip
        refine goes_exit (ends_then_exit (ends_then_exit (ends_block_exit ?_)))
        obtain rfl := Option.some.inj H
        exact ends_cutR rfl (.cons rfl .nil)
    · rintro s14 rfl
      clear h15
      dsimp only at H
      refine ends_then ?_
      refine goes_seq ?_
      refine goes_region ?_
      refine go1 (op_move rfl (.t (has rfl))) rfl ?_
      refine go1 (op_assign rfl (.t (has rfl))) rfl ?_
      refine goesO_nil ?_
      refine ends_then ?_
      obtain rfl := Option.some.inj H
      exact goes_ret (ends_ret' rfl rfl (.t rfl (.nil _)))
    · rintro r' rfl a w hr
      obtain rfl := Option.some.inj H
      exact hr
/-! smithy/smithyref02.List -/
def smithyref02_List.l0 (a0 : List ByteArray) : Nat → Int → Option (Except Int Unit)
  | 0, _ => none
  | k + 1, s2 => bif icmp .lss s2 (a0.length : Int) then ((idx a0 s2).bind fun x7 => (smithyref02_Name.f k x7).bind fun v9 => bif !v9 then (some (Except.error (3 : Int))) else (smithyref02_List.l0 a0 k (IntKind.i64.wrap (s2 + (1 : Int))))) else (some (Except.ok ()))
def smithyref02_List.f (k : Nat) (a0 : List ByteArray) : Option Int := bif icmp .gtr (a0.length : Int) (512 : Int) then (some (2 : Int)) else ((smithyref02_List.l0 a0 k (0 : Int)).bind fun o5 => match o5 with | .error r' => some r' | .ok s3 => (some (0 : Int)))
set_option maxRecDepth 100000 in
set_option maxHeartbeats 4000000 in
theorem smithyref02_List.con (k : Nat) (a0 : List ByteArray) (r : Int) (H : smithyref02_List.f k a0 = some r) : Con Try.prog 14 [VA.k (kslice kstr) a0] [VA.k (kint .i64) r] := by
  unfold smithyref02_List.f at H
  refine con_enter Try.func14 rfl rfl rfl (fun w0 S0 θ => ?_)
  refine goes_seq ?_
  refine goes_region ?_
  refine go1 (op_assign rfl (.int _ _)) rfl ?_
  refine goesO_nil ?_
  refine ends_then ?_
  refine goes_seq ?_
  refine goes_seq ?_
  refine goes_region ?_
  refine go1 (op_move rfl (.t (has rfl))) rfl ?_
  refine go1 (op_len rfl rfl Try.underlying25 (.t (has rfl))) rfl ?_
  refine go1 (op_icmp rfl rfl (.t (has rfl)) (.int _ _)) rfl ?_
  refine goesO_nil ?_
  refine ends_then ?_
  refine goes_if (.t (has rfl)) H (fun hb1 H => ?_) (fun hb1 H => ?_)
  · skip
    refine goes_seq ?_
    refine goes_region ?_
    refine go1 (op_assign rfl (.int _ _)) rfl ?_
    refine goesO_nil ?_
    refine ends_then ?_
    obtain rfl := Option.some.inj H
    exact goes_ret (ends_then_ret (ends_ret' rfl rfl (.t rfl (.nil _))))
  · skip
    refine goes_skip ?_
    refine ends_then ?_
    refine goes_seq ?_
    refine goes_seq ?_
    refine goes_region ?_
    refine go1 (op_assign rfl (.int _ _)) rfl ?_
    refine goesO_nil ?_
    refine ends_then ?_
    obtain ⟨o5, h4, H⟩ := bind_some H
    refine goes_cutR (o := o5) (fun s3 : Unit => []) (fun r a w => bodyPost Try.prog Try.f14 (CPost w0 S0 θ [VA.k (kint .i64) r]) .ret a w) ?_ ?_ ?_
    · replace H := h4; clear h4
      refine goes_block ?_
      refine goes_loop (fun s2 : Int => [Ent.t 0 (VA.k (kslice kstr) a0), Ent.t 3 (VA.k (kint .i64) s2)]) (fun k s2 => smithyref02_List.l0 a0 k s2) (fun _ => rfl) H (.cons rfl (.cons rfl .nil)) ?_
      intro k s2 H
      simp only [smithyref02_List.l0] at H
      refine goes_seq ?_
      refine goes_seq ?_
      refine goes_region ?_
      refine go1 (op_move rfl (.t (has rfl))) rfl ?_
      refine go1 (op_move rfl (.t (has rfl))) rfl ?_
      refine go1 (op_len rfl rfl Try.underlying25 (.t (has rfl))) rfl ?_
      refine go1 (op_icmp rfl rfl (.t (has rfl)) (.t (has rfl))) rfl ?_
      refine goesO_nil ?_
      refine ends_then ?_
      refine goes_if (.t (has rfl)) H (fun hb6 H => ?_) (fun hb6 H => ?_)
      · skip
        refine goes_skip ?_
        refine ends_then ?_
        refine goes_seq ?_
        refine goes_block ?_
        refine goes_seq ?_
        refine goes_region ?_
        refine go1 (op_move rfl (.t (has rfl))) rfl ?_
        refine go1 (op_move rfl (.t (has rfl))) rfl ?_
        obtain ⟨x7, h8, H⟩ := bind_some H
        refine go1 (op_indexAddr rfl Try.underlying25 tk9 h8 (.t (has rfl)) (.t (has rfl))) rfl ?_
        refine go1 (op_loadp rfl tk9 (.t (has rfl))) rfl ?_
        obtain ⟨v9, h10, H⟩ := bind_some H
        refine go1 (op_call' rfl enters27 (smithyref02_Name.con _ _ _ h10) rfl (.cons (ArgP.k (.t (has rfl))) .nil)) rfl ?_
        refine go1 (op_not rfl (.t (has rfl))) rfl ?_
        refine goesO_nil ?_
        refine ends_then ?_
        refine goes_if (.t (has rfl)) H (fun hb11 H => ?_) (fun hb11 H => ?_)
        · skip
          refine goes_seq ?_
          refine goes_region ?_
          refine go1 (op_assign rfl (.int _ _)) rfl ?_
          refine goesO_nil ?_
          refine ends_then ?_
          obtain rfl := Option.some.inj H
          refine goes_ret (ends_block_ret (ends_then_ret (ends_then_ret (ends_block_ret (ends_cutR_ret rfl ?_)))))
          exact ends_ret' rfl rfl (.t rfl (.nil _))
        · skip
          refine goes_skip ?_
          refine ends_block ?_
          refine ends_then ?_
          refine goes_region ?_
          refine go1 (op_move rfl (.t (has rfl))) rfl ?_
          refine go1 (op_add rfl (.t (has rfl)) (.int _ _)) rfl ?_
          refine go1 (op_assign rfl (.t (has rfl))) rfl ?_
          refine goesO_nil ?_
          exact loop_next _ H (.cons rfl (.cons rfl .nil))
      · skip
        refine goes_exit (ends_then_exit (ends_then_exit (ends_block_exit ?_)))
        obtain rfl := Option.some.inj H
        exact ends_cutR rfl .nil
    · rintro s3 rfl
      clear h4
      dsimp only at H
      refine ends_then ?_
      refine goes_seq ?_
      refine goes_region ?_
      refine go1 (op_assign rfl (.int _ _)) rfl ?_
      refine goesO_nil ?_
      refine ends_then ?_
      obtain rfl := Option.some.inj H
      exact goes_ret (ends_ret' rfl rfl (.t rfl (.nil _)))
    · rintro r' rfl a w hr
      obtain rfl := Option.some.inj H
      exact hr
/-! slices.Sort[[]string,string] -/
def slices_Sort_string_string.f (a0 : List ByteArray) : Option (List ByteArray) := bif Nat.blt a0.length 4611686018427387904 then some (sortB a0) else none
theorem slices_Sort_string_string.con (i : Nat) (a0 : List ByteArray) (r : List ByteArray) (H : slices_Sort_string_string.f a0 = some r) : ConE Try.prog 29 [i, 500000 + i] [Ent.r i 9 kstr a0] [VA.rw i (a0).length] [] [Ent.r i 9 kstr r] := by
  unfold slices_Sort_string_string.f at H
  cases hb : Nat.blt a0.length 4611686018427387904 with
  | false => rw [hb] at H; cases H
  | true =>
    rw [hb, cond_true] at H
    obtain rfl := Option.some.inj H
    exact conE_sort i (fun blk off cap ss w h1 h2 h3 => Try.slices_Sort_string blk off cap ss w h1 h2 h3) (fun p cap w => Try.slices_Sort_string_none p cap w) a0 (blt_lt hb)
theorem slices_Sort_string_string.len {a0 r : List ByteArray} (H : slices_Sort_string_string.f a0 = some r) : (a0).length = (r).length := by
  unfold slices_Sort_string_string.f at H
  cases hb : Nat.blt a0.length 4611686018427387904 with
  | false => rw [hb] at H; cases H
  | true =>
    rw [hb, cond_true] at H
    obtain rfl := Option.some.inj H
    exact (sortB_length a0).symm
/-! slices.Compact[[]string,string] -/
def slices_Compact_string_string.f (a0 : List ByteArray) : Option (List ByteArray) := some (compactB a0)
theorem slices_Compact_string_string.con (i : Nat) (a0 : List ByteArray) (r : List ByteArray) (H : slices_Compact_string_string.f a0 = some r) : ConE Try.prog 44 [] [Ent.r i 9 kstr a0] [VA.rw i (a0).length] [VA.own 9 kstr r] [] := by
  obtain rfl := Option.some.inj H
  exact conE_compact i (fun blk off cap zs w h1 h2 h3 => Try.slices_Compact_string blk off cap zs w h1 h2 h3) (fun a cap w => Try.slices_Compact_string_empty a cap w) a0
/-! smithy/graph.all -/
def graph_all.l0 (a0 : Make) : Nat → ((List ByteArray) × Int) → Option (List ByteArray)
  | 0, _ => none
  | k + 1, s1 => bif icmp .lss s1.2 (a0.Rules.length : Int) then ((idx a0.Rules s1.2).bind fun x5 => (app 16 s1.1 ([x5.Target])).bind fun x7 => (app 16 x7 x5.Needs).bind fun x9 => graph_all.l0 a0 k (x9, IntKind.i64.wrap (s1.2 + (1 : Int)))) else (some s1.1)
def graph_all.f (k : Nat) (a0 : Make) : Option (List ByteArray) := (graph_all.l0 a0 k (([] : List ByteArray), (0 : Int))).bind fun s2 => (slices_Sort_string_string.f s2).bind fun v11 => (slices_Compact_string_string.f v11).bind fun v13 => some v13
set_option maxRecDepth 100000 in
set_option maxHeartbeats 4000000 in
theorem graph_all.con (k : Nat) (a0 : Make) (r : List ByteArray) (H : graph_all.f k a0 = some r) : Con Try.prog 31 [VA.k kMake a0] [VA.own 9 kstr r] := by
  unfold graph_all.f at H
  refine con_enter Try.func31 rfl rfl rfl (fun w0 S0 θ => ?_)
  refine goes_seq ?_
  refine goes_region ?_
  refine go3 (op_box 1 rfl (fun h => by first | rfl | cases h) (.t (has rfl))) rfl ?_
  refine go1 (op_assign_nil 9 kstr (.inr rfl) rfl) rfl ?_
  refine goesO_nil ?_
  refine ends_then ?_
  refine goes_seq ?_
  refine goes_region ?_
  refine go1 (op_assign_nil 9 kstr (.inr rfl) rfl) rfl ?_
  refine goesO_nil ?_
  refine ends_then ?_
  refine goes_seq ?_
  refine goes_seq ?_
  refine goes_region ?_
  refine go1 (op_fieldAddr rfl Try.underlying29 rfl tk23 (.t (has rfl))) rfl ?_
  refine go1 (op_load rfl fldMake_Rules tk23 (.t (has rfl)) (has rfl)) rfl ?_
  refine go1 (op_len rfl rfl Try.underlying23 (.t (has rfl))) rfl ?_
  refine go1 (op_move rfl (.int _ _)) rfl ?_
  refine goesO_nil ?_
  refine ends_then ?_
  obtain ⟨s2, h3, H⟩ := bind_some H
  refine goes_cut [Ent.t 3 (VA.own 9 kstr s2)] ?_ ?_
  · replace H := h3; clear h3
    refine goes_block ?_
    refine goes_loop (fun s1 : (List ByteArray) × Int => [Ent.t 3 (VA.own 9 kstr s1.1), Ent.t 7 (VA.k (kslice kRule) a0.Rules), Ent.t 8 (VA.k (kint .i64) (a0.Rules.length : Int)), Ent.t 9 (VA.k (kint .i64) s1.2)]) (fun k s1 => graph_all.l0 a0 k s1) (fun _ => rfl) H (.cons rfl (.cons rfl (.cons rfl (.cons rfl .nil)))) ?_
    intro k s1 H
    simp only [graph_all.l0] at H
    refine goes_seq ?_
    refine goes_region ?_
    refine go1 (op_icmp rfl rfl (.t (has rfl)) (.t (has rfl))) rfl ?_
    refine goesO_nil ?_
    refine ends_then ?_
    refine goes_seq ?_
    refine goes_if (.t (has rfl)) H (fun hb4 H => ?_) (fun hb4 H => ?_)
    · skip
      refine goes_skip ?_
      refine ends_then ?_
      refine goes_seq ?_
      refine goes_block ?_
      refine goes_seq ?_
      refine goes_region ?_
      obtain ⟨x5, h6, H⟩ := bind_some H
      refine go1 (op_indexAddr rfl Try.underlying23 tk52 h6 (.t (has rfl)) (.t (has rfl))) rfl ?_
      refine go1 (op_loadp rfl tk52 (.t (has rfl))) rfl ?_
      refine go3 (op_alloc 5 rfl zk52) rfl ?_
      refine go1 (op_store (Fld.whole kRule) tk52 (.t (has rfl)) (has rfl) (.t (has rfl))) rfl ?_
      refine goesO_nil ?_
      refine ends_then ?_
      obtain ⟨x7, h8, H⟩ := bind_some H
      obtain ⟨x9, h10, H⟩ := bind_some H
      refine goes_drawn [[Ent.t 13 (VA.own 9 kstr s1.1), Ent.t 3 (VA.any)], [Ent.t 14 (VA.ptr 5 0)], [Ent.t 15 (VA.k kstr x5.Target)], [Ent.t 16 (VA.own 9 kstr ([x5.Target]))], [Ent.t 17 (VA.own 9 kstr x7), Ent.t 13 (VA.any)], [Ent.t 18 (VA.ptr 5 1)], [Ent.t 19 (VA.k (kslice kstr) x5.Needs)], [Ent.t 20 (VA.own 9 kstr x9), Ent.t 17 (VA.any)], [Ent.t 3 (VA.own 9 kstr x9), Ent.t 20 (VA.any)]] mixed (by kernel_rfl) (by kernel_rfl) (.cons [(none, Ent.t 3 (VA.own 9 kstr s1.1))] (OpSpec.run rfl rfl (op_mv (.inl rfl) rfl rfl NL.h0) rfl) (.cons (has rfl) .nil) (by kernel_rfl) (.cons [(none, Ent.t 5 (VA.ptr 5 0))] (OpSpec.run rfl rfl (op_fieldAddr rfl Try.underlying52 rfl tk9 (.t NL.h0)) rfl) (.cons (has rfl) .nil) (by kernel_rfl) (.cons [(some 1, Ent.t 14 (VA.ptr 5 0)), (none, Ent.h 5 (HE.box 52 kRule x5))] (OpSpec.run rfl rfl (op_load rfl fldRule_Target tk9 (.t NL.h0) (NL.hs NL.h0)) rfl) (.cons (has rfl) (.cons (has rfl) .nil)) (by kernel_rfl) (.cons [(some 2, Ent.t 15 (VA.k kstr x5.Target))] (OpSpec.run rfl rfl (op_buildSlice rfl at25 (fun h => by first | rfl | cases h) rfl rfl rfl (.cons (.t NL.h0) (.nil _))) rfl) (.cons (has rfl) .nil) (by kernel_rfl) (.cons [(some 3, Ent.t 16 (VA.own 9 kstr ([x5.Target]))), (some 0, Ent.t 13 (VA.own 9 kstr s1.1))] (OpSpec.run rfl rfl (op_append rfl rfl at25 h8 (NL.hs NL.h0) (ReadsArg.own (.t NL.h0))) rfl) (.cons (has rfl) (.cons (has rfl) .nil)) (by kernel_rfl) (.cons [(none, Ent.t 5 (VA.ptr 5 0))] (OpSpec.run rfl rfl (op_fieldAddr rfl Try.underlying52 rfl tk25 (.t NL.h0)) rfl) (.cons (has rfl) .nil) (by kernel_rfl) (.cons [(some 5, Ent.t 18 (VA.ptr 5 1)), (none, Ent.h 5 (HE.box 52 kRule x5))] (OpSpec.run rfl rfl (op_load rfl fldRule_Needs tk25 (.t NL.h0) (NL.hs NL.h0)) rfl) (.cons (has rfl) (.cons (has rfl) .nil)) (by kernel_rfl) (.cons [(some 6, Ent.t 19 (VA.k (kslice kstr) x5.Needs)), (some 4, Ent.t 17 (VA.own 9 kstr x7))] (OpSpec.run rfl rfl (op_append rfl rfl at25 h10 (NL.hs NL.h0) (ReadsArg.k (.t NL.h0))) rfl) (.cons (has rfl) (.cons (has rfl) .nil)) (by kernel_rfl) (.cons [(some 7, Ent.t 20 (VA.own 9 kstr x9))] (OpSpec.run rfl rfl (op_mv (.inr rfl) rfl rfl NL.h0) rfl) (.cons (has rfl) .nil) (by kernel_rfl) (.nil _)))))))))) ?_
      refine ends_sub [Ent.t 3 (VA.own 9 kstr x9), Ent.t 7 (VA.k (kslice kRule) a0.Rules), Ent.t 8 (VA.k (kint .i64) (a0.Rules.length : Int)), Ent.t 9 (VA.k (kint .i64) s1.2)] (.cons rfl (.cons rfl (.cons rfl (.cons rfl .nil)))) ?_
      refine ends_block ?_
      refine ends_then ?_
      refine goes_region ?_
      refine go1 (op_add rfl (.t (has rfl)) (.int _ _)) rfl ?_
      refine go1 (op_move rfl (.t (has rfl))) rfl ?_
      refine goesO_nil ?_
      exact loop_next _ H (.cons rfl (.cons rfl (.cons rfl (.cons rfl .nil))))
    · skip
      refine goes_exit (ends_then_exit (ends_then_exit (ends_block_exit ?_)))
      obtain rfl := Option.some.inj H
      exact ends_cut (.cons rfl .nil)
  refine ends_then ?_
  refine goes_seq ?_
  refine goes_region ?_
  refine goesO_number 3 900 rfl rfl rfl ?_
  refine go1 (op_moveA rfl plain_rw (.t (has rfl))) rfl ?_
  obtain ⟨v11, h12, H⟩ := bind_some H
  refine goN (op_callE [] [] rfl enters29 (slices_Sort_string_string.con 900 _ _ h12) rfl (.cons (has rfl) .nil) (.cons (ArgP.a plain_rw (.t (has rfl))) .nil)) rfl ?_
  refine goesO_relen 3 (slices_Sort_string_string.len h12) rfl ?_
  refine goesO_nil ?_
  refine ends_then ?_
  refine goes_seq ?_
  refine goes_region ?_
  refine go1 (op_moveA rfl plain_rw (.t (has rfl))) rfl ?_
  obtain ⟨v13, h14, H⟩ := bind_some H
  refine goN (op_callE [5000900] [] rfl enters44 (slices_Compact_string_string.con 900 _ _ h14) rfl (.cons (has rfl) .nil) (.cons (ArgP.a plain_rw (.t (has rfl))) .nil)) rfl ?_
  refine go2 (op_mv (.inr rfl) rfl rfl (has rfl)) rfl ?_
  refine goesO_nil ?_
  refine ends_then ?_
  obtain rfl := Option.some.inj H
  exact goes_ret (ends_ret' rfl rfl (.t rfl (.nil _)))
/-! slices.isNaN[string] -/
def slices_isNaN_string.f (a0 : ByteArray) : Option Bool := some (scmp .neq a0 a0)
set_option maxRecDepth 100000 in
set_option maxHeartbeats 4000000 in
theorem slices_isNaN_string.con (a0 : ByteArray) (r : Bool) (H : slices_isNaN_string.f a0 = some r) : Con Try.prog 43 [VA.k kstr a0] [VA.k kbool r] := by
  unfold slices_isNaN_string.f at H
  refine con_enter Try.func43 rfl rfl rfl (fun w0 S0 θ => ?_)
  refine goes_seq ?_
  refine goes_region ?_
  refine go1 (op_assign rfl (.bool _)) rfl ?_
  refine goesO_nil ?_
  refine ends_then ?_
  refine goes_seq ?_
  refine goes_region ?_
  refine go1 (op_move rfl (.t (has rfl))) rfl ?_
  refine go1 (op_move rfl (.t (has rfl))) rfl ?_
  refine go1 (op_scmp rfl rfl (.t (has rfl)) (.t (has rfl))) rfl ?_
  refine go1 (op_assign rfl (.t (has rfl))) rfl ?_
  refine goesO_nil ?_
  refine ends_then ?_
  obtain rfl := Option.some.inj H
  exact goes_ret (ends_ret' rfl rfl (.t rfl (.nil _)))
end Go.Proofs.Ytlpmolohppoofaa.F
