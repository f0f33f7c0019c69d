import Derived.Test.YtodogppelokapaaFKx0
set_option linter.unusedVariables false
set_option linter.unusedSimpArgs false
set_option linter.unnecessarySimpa false
set_option linter.deprecated false
namespace Go.Proofs.Ytodogppelokapaa.F
open Go Go.RowKit Go.Proofs.Ytodogppelokapaa.Sl
/-! smithy/smithyref05.Refs -/
def smithyref05_Refs.l1 (a0 : ByteArray) (s20 : Int) : Nat → Int → Option Int
  | 0, _ => none
  | k + 1, s23 => (bif icmp .lss s23 (a0.size : Int) then ((bidx a0 s23).bind fun x29 => some (icmp .neq x29 s20)) else (some false)).bind fun s26 => bif s26 then (smithyref05_Refs.l1 a0 s20 k (IntKind.i64.wrap (s23 + (1 : Int)))) else (some s23)
def smithyref05_Refs.l2 (a0 : ByteArray) (s2 : (List ByteArray) × Int) : Nat → (Int × Int) → Option Int
  | 0, _ => none
  | k + 1, s33 => bif icmp .gtr s33.2 (IntKind.i64.wrap (s2.2 + (1 : Int))) then (((bidx a0 s33.2).bind fun x39 => bif icmp .eql x39 (58 : Int) then (some s33.2) else (some s33.1)).bind fun s37 => smithyref05_Refs.l2 a0 s2 k (s37, IntKind.i64.wrap (s33.2 - (1 : Int)))) else (some s33.1)
def smithyref05_Refs.l0 (a0 : ByteArray) : Nat → ((List ByteArray) × Int) → Option (List ByteArray)
  | 0, _ => none
  | k + 1, s2 => bif icmp .lss (IntKind.i64.wrap (s2.2 + (1 : Int))) (a0.size : Int) then ((bidx a0 s2.2).bind fun x6 => bif icmp .neq x6 (36 : Int) then (smithyref05_Refs.l0 a0 k (s2.1, IntKind.i64.wrap (s2.2 + (1 : Int)))) else ((bidx a0 (IntKind.i64.wrap (s2.2 + (1 : Int)))).bind fun x9 => bif icmp .eql x9 (36 : Int) then (smithyref05_Refs.l0 a0 k (s2.1, IntKind.i64.wrap (IntKind.i64.wrap (s2.2 + (1 : Int)) + (1 : Int)))) else ((bif icmp .neq x9 (40 : Int) then (some (icmp .neq x9 (123 : Int))) else (some false)).bind fun s12 => bif s12 then ((ssub a0 (IntKind.i64.wrap (s2.2 + (1 : Int))) (IntKind.i64.wrap (IntKind.i64.wrap (s2.2 + (1 : Int)) + (1 : Int)))).bind fun x16 => (smithyref05_put.f k s2.1 x16).bind fun v18 => smithyref05_Refs.l0 a0 k (v18, IntKind.i64.wrap (IntKind.i64.wrap (s2.2 + (1 : Int)) + (1 : Int)))) else ((bif icmp .eql x9 (123 : Int) then (some (125 : Int)) else (some (41 : Int))).bind fun s20 => (smithyref05_Refs.l1 a0 s20 k (IntKind.i64.wrap (IntKind.i64.wrap (s2.2 + (1 : Int)) + (1 : Int)))).bind fun s24 => bif icmp .eql s24 (a0.size : Int) then (some s2.1) else ((smithyref05_Refs.l2 a0 s2 k (s24, IntKind.i64.wrap (s24 - (1 : Int)))).bind fun s34 => (ssub a0 (IntKind.i64.wrap (IntKind.i64.wrap (s2.2 + (1 : Int)) + (1 : Int))) s34).bind fun x42 => (smithyref05_put.f k s2.1 x42).bind fun v44 => smithyref05_Refs.l0 a0 k (v44, IntKind.i64.wrap (s24 + (1 : Int)))))))) else (some s2.1)
def smithyref05_Refs.f (k : Nat) (a0 : ByteArray) : Option ((List ByteArray) × Int) := bif icmp .gtr (a0.size : Int) (65536 : Int) then (some (([] : List ByteArray), (2 : Int))) else ((smithyref05_Refs.l0 a0 k (([] : List ByteArray), (0 : Int))).bind fun s3 => some (s3, (0 : Int)))
set_option maxRecDepth 100000 in
set_option maxHeartbeats 4000000 in
theorem smithyref05_Refs.con (k : Nat) (a0 : ByteArray) (r : (List ByteArray) × Int) (H : smithyref05_Refs.f k a0 = some r) : Con Try.prog 26 [VA.k kstr a0] [VA.k (kslice kstr) r.1, VA.k (kint .i64) r.2] := by
  unfold smithyref05_Refs.f at H
  refine con_enter Try.func26 rfl rfl rfl (fun w0 S0 θ => ?_)
  refine goes_seq ?_
  refine goes_region ?_
  refine go1 (op_assign_nil 9 kstr (.inr rfl) rfl) rfl ?_
  refine go1 (op_assign rfl (.int _ _)) rfl ?_
  refine goesO_nil ?_
  refine ends_then ?_
  refine goes_seq ?_
  refine goes_seq ?_
  refine goes_region ?_
  refine go1 (op_move rfl (.t (has rfl))) rfl ?_
  refine go1 (op_len_str rfl rfl Try.underlying9 (.t (has rfl))) rfl ?_
  refine go1 (op_icmp rfl rfl (.t (has rfl)) (.int _ _)) rfl ?_
  refine goesO_nil ?_
  refine ends_then ?_
  refine goes_if (.t (has rfl)) H (fun hb1 H => ?_) (fun hb1 H => ?_)
  · skip
    refine goes_seq ?_
    refine goes_region ?_
    refine go1 (op_assign_nil 9 kstr (.inr rfl) rfl) rfl ?_
    refine go1 (op_assign rfl (.int _ _)) rfl ?_
    refine goesO_nil ?_
    refine ends_then ?_
    refine goes_settle 2 rfl rfl ?_
    obtain rfl := Option.some.inj H
    exact goes_ret (ends_then_ret (ends_ret' rfl rfl (.t rfl (.t rfl (.nil _)))))
  · skip
    refine goes_skip ?_
    refine ends_then ?_
    refine goes_seq ?_
    refine goes_region ?_
    refine go1 (op_assign_nil 9 kstr (.inr rfl) rfl) rfl ?_
    refine goesO_nil ?_
    refine ends_then ?_
    refine goes_seq ?_
    refine goes_seq ?_
    refine goes_region ?_
    refine go1 (op_assign rfl (.int _ _)) rfl ?_
    refine goesO_nil ?_
    refine ends_then ?_
    refine goes_settle 4 rfl rfl ?_
    obtain ⟨s3, h4, H⟩ := bind_some H
    refine goes_cut [Ent.t 4 (VA.k (kslice kstr) s3)] ?_ ?_
    · replace H := h4; clear h4
      refine goes_block ?_
      refine goes_loop (fun s2 : (List ByteArray) × Int => [Ent.t 0 (VA.k kstr a0), Ent.t 4 (VA.k (kslice kstr) s2.1), Ent.t 5 (VA.k (kint .i64) s2.2)]) (fun k s2 => smithyref05_Refs.l0 a0 k s2) (fun _ => rfl) H (.cons rfl (.cons rfl (.cons rfl .nil))) ?_
      intro k s2 H
      simp only [smithyref05_Refs.l0] at H
      refine goes_seq ?_
      refine goes_seq ?_
      refine goes_region ?_
      refine go1 (op_move rfl (.t (has rfl))) rfl ?_
      refine go1 (op_add rfl (.t (has rfl)) (.int _ _)) rfl ?_
      refine go1 (op_move rfl (.t (has rfl))) rfl ?_
      refine go1 (op_len_str rfl rfl Try.underlying9 (.t (has rfl))) rfl ?_
      refine go1 (op_icmp rfl rfl (.t (has rfl)) (.t (has rfl))) rfl ?_
      refine goesO_nil ?_
      refine ends_then ?_
      refine goes_if (.t (has rfl)) H (fun hb5 H => ?_) (fun hb5 H => ?_)
      · skip
        refine goes_skip ?_
        refine ends_then ?_
        refine goes_seq ?_
        refine goes_block ?_
        refine goes_seq ?_
        refine goes_seq ?_
        refine goes_region ?_
        refine go1 (op_move rfl (.t (has rfl))) rfl ?_
        refine go1 (op_move rfl (.t (has rfl))) rfl ?_
        obtain ⟨x6, h7, H⟩ := bind_some H
        refine go1 (op_index_str rfl Try.underlying9 h7 (.t (has rfl)) (.t (has rfl))) rfl ?_
        refine go1 (op_icmp rfl rfl (.t (has rfl)) (.int _ _)) rfl ?_
        refine goesO_nil ?_
        refine ends_then ?_
        refine goes_if (.t (has rfl)) H (fun hb8 H => ?_) (fun hb8 H => ?_)
        · skip
          refine goes_exit (ends_then_exit (ends_block_exit ?_))
          refine ends_then ?_
          refine goes_region ?_
          refine go1 (op_move rfl (.t (has rfl))) rfl ?_
          refine go1 (op_add rfl (.t (has rfl)) (.int _ _)) rfl ?_
          refine go1 (op_assign rfl (.t (has rfl))) rfl ?_
          refine goesO_nil ?_
          exact loop_next _ H (.cons rfl (.cons rfl (.cons rfl .nil)))
        · skip
          refine goes_skip ?_
          refine ends_then ?_
          refine goes_seq ?_
          refine goes_region ?_
          refine go1 (op_move rfl (.t (has rfl))) rfl ?_
          refine go1 (op_add rfl (.t (has rfl)) (.int _ _)) rfl ?_
          refine go1 (op_assign rfl (.t (has rfl))) rfl ?_
          refine goesO_nil ?_
          refine ends_then ?_
          refine goes_seq ?_
          refine goes_region ?_
          refine go1 (op_move rfl (.t (has rfl))) rfl ?_
          refine go1 (op_move rfl (.t (has rfl))) rfl ?_
          obtain ⟨x9, h10, H⟩ := bind_some H
          refine go1 (op_index_str rfl Try.underlying9 h10 (.t (has rfl)) (.t (has rfl))) rfl ?_
          refine go1 (op_assign rfl (.t (has rfl))) rfl ?_
          refine goesO_nil ?_
          refine ends_then ?_
          refine goes_seq ?_
          refine goes_seq ?_
          refine goes_region ?_
          refine go1 (op_move rfl (.t (has rfl))) rfl ?_
          refine go1 (op_icmp rfl rfl (.t (has rfl)) (.int _ _)) rfl ?_
          refine goesO_nil ?_
          refine ends_then ?_
          refine goes_if (.t (has rfl)) H (fun hb11 H => ?_) (fun hb11 H => ?_)
          · skip
            refine goes_exit (ends_then_exit (ends_block_exit ?_))
            refine ends_then ?_
            refine goes_region ?_
            refine go1 (op_move rfl (.t (has rfl))) rfl ?_
            refine go1 (op_add rfl (.t (has rfl)) (.int _ _)) rfl ?_
            refine go1 (op_assign rfl (.t (has rfl))) rfl ?_
            refine goesO_nil ?_
            exact loop_next _ H (.cons rfl (.cons rfl (.cons rfl .nil)))
          · skip
            refine goes_skip ?_
            refine ends_then ?_
            refine goes_seq ?_
            refine goes_seq ?_
            obtain ⟨s12, h13, H⟩ := bind_some H
            refine goes_cut [Ent.t 0 (VA.k kstr a0), Ent.t 4 (VA.k (kslice kstr) s2.1), Ent.t 5 (VA.k (kint .i64) (IntKind.i64.wrap (s2.2 + (1 : Int)))), Ent.t 6 (VA.k (kint .u8) x9), Ent.t 37 (VA.k kbool s12)] ?_ ?_
            · replace H := h13; clear h13
              refine goes_region ?_
              refine go1 (op_move rfl (.t (has rfl))) rfl ?_
              refine go1 (op_icmp rfl rfl (.t (has rfl)) (.int _ _)) rfl ?_
              refine go1 (op_move rfl (.t (has rfl))) rfl ?_
              refine goesO_split H (fun hb14 H => ?_) (fun hb14 H => ?_)
              · skip
                refine goG (op_move rfl (.t (has rfl))) rfl rfl rfl rfl hb14 ?_
                refine goG (op_icmp rfl rfl (.t (has rfl)) (.int _ _)) rfl rfl rfl rfl hb14 ?_
                refine go1 (op_pick_t rfl hb14 (.t (has rfl)) (.t (has rfl))) rfl ?_
                refine goesO_nil ?_
                obtain rfl := Option.some.inj H
                exact ends_cut (.cons rfl (.cons rfl (.cons rfl (.cons rfl (.cons rfl .nil)))))
              · skip
                refine goS rfl rfl rfl rfl rfl rfl hb14 ?_
                refine goS rfl rfl rfl rfl rfl rfl hb14 ?_
                refine go1 (op_pick_f rfl hb14 (.t (has rfl)) (.bool _)) rfl ?_
                refine goesO_nil ?_
                obtain rfl := Option.some.inj H
                exact ends_cut (.cons rfl (.cons rfl (.cons rfl (.cons rfl (.cons rfl .nil)))))
            refine ends_then ?_
            refine goes_if (.t (has rfl)) H (fun hb15 H => ?_) (fun hb15 H => ?_)
            · skip
              refine goes_seq ?_
              refine goes_region ?_
              refine go1 (op_move rfl (.t (has rfl))) rfl ?_
              refine go1 (op_move rfl (.t (has rfl))) rfl ?_
              refine go1 (op_move rfl (.t (has rfl))) rfl ?_
              refine go1 (op_move rfl (.t (has rfl))) rfl ?_
              refine go1 (op_add rfl (.t (has rfl)) (.int _ _)) rfl ?_
              obtain ⟨x16, h17, H⟩ := bind_some H
              refine go1 (op_slice_str (l := some _) (h := some _) rfl Try.underlying9 h17 (.t (has rfl)) (.t (has rfl)) (.t (has rfl))) rfl ?_
              obtain ⟨v18, h19, H⟩ := bind_some H
              refine go1 (op_call' rfl enters44 (smithyref05_put.con _ _ _ _ h19) rfl (.cons (ArgP.k (.t (has rfl))) (.cons (ArgP.k (.t (has rfl))) .nil))) rfl ?_
              refine go1 (op_assign rfl (.t (has rfl))) rfl ?_
              refine goesO_nil ?_
              refine ends_then ?_
              refine goes_exit (ends_then_exit (ends_block_exit ?_))
              refine ends_then ?_
              refine goes_region ?_
              refine go1 (op_move rfl (.t (has rfl))) rfl ?_
              refine go1 (op_add rfl (.t (has rfl)) (.int _ _)) rfl ?_
              refine go1 (op_assign rfl (.t (has rfl))) rfl ?_
              refine goesO_nil ?_
              exact loop_next _ H (.cons rfl (.cons rfl (.cons rfl .nil)))
            · skip
              refine goes_skip ?_
              refine ends_then ?_
              refine goes_seq ?_
              refine goes_region ?_
              refine go1 (op_assign rfl (.int _ _)) rfl ?_
              refine goesO_nil ?_
              refine ends_then ?_
              refine goes_seq ?_
              refine goes_seq ?_
              refine goes_region ?_
              refine go1 (op_move rfl (.t (has rfl))) rfl ?_
              refine go1 (op_icmp rfl rfl (.t (has rfl)) (.int _ _)) rfl ?_
              refine goesO_nil ?_
              refine ends_then ?_
              obtain ⟨s20, h21, H⟩ := bind_some H
              refine goes_cut [Ent.t 0 (VA.k kstr a0), Ent.t 4 (VA.k (kslice kstr) s2.1), Ent.t 5 (VA.k (kint .i64) (IntKind.i64.wrap (s2.2 + (1 : Int)))), Ent.t 7 (VA.k (kint .u8) s20)] ?_ ?_
              · replace H := h21; clear h21
                refine goes_if (.t (has rfl)) H (fun hb22 H => ?_) (fun hb22 H => ?_)
                · skip
                  refine goes_region ?_
                  refine go1 (op_assign rfl (.int _ _)) rfl ?_
                  refine goesO_nil ?_
                  obtain rfl := Option.some.inj H
                  exact ends_cut (.cons rfl (.cons rfl (.cons rfl (.cons rfl .nil))))
                · skip
                  refine goes_skip ?_
                  obtain rfl := Option.some.inj H
                  exact ends_cut (.cons rfl (.cons rfl (.cons rfl (.cons rfl .nil))))
              refine ends_then ?_
              refine goes_seq ?_
              refine goes_region ?_
              refine go1 (op_move rfl (.t (has rfl))) rfl ?_
              refine go1 (op_add rfl (.t (has rfl)) (.int _ _)) rfl ?_
              refine go1 (op_assign rfl (.t (has rfl))) rfl ?_
              refine goesO_nil ?_
              refine ends_then ?_
              refine goes_seq ?_
              obtain ⟨s24, h25, H⟩ := bind_some H
              refine goes_cut [Ent.t 0 (VA.k kstr a0), Ent.t 4 (VA.k (kslice kstr) s2.1), Ent.t 5 (VA.k (kint .i64) (IntKind.i64.wrap (s2.2 + (1 : Int)))), Ent.t 8 (VA.k (kint .i64) s24)] ?_ ?_
              · replace H := h25; clear h25
                refine goes_block ?_
                refine goes_loop (fun s23 : Int => [Ent.t 0 (VA.k kstr a0), Ent.t 4 (VA.k (kslice kstr) s2.1), Ent.t 5 (VA.k (kint .i64) (IntKind.i64.wrap (s2.2 + (1 : Int)))), Ent.t 7 (VA.k (kint .u8) s20), Ent.t 8 (VA.k (kint .i64) s23)]) (fun k s23 => smithyref05_Refs.l1 a0 s20 k s23) (fun _ => rfl) H (.cons rfl (.cons rfl (.cons rfl (.cons rfl (.cons rfl .nil))))) ?_
                intro k s23 H
                simp only [smithyref05_Refs.l1] at H
                refine goes_seq ?_
                refine goes_seq ?_
                obtain ⟨s26, h27, H⟩ := bind_some H
                refine goes_cut [Ent.t 0 (VA.k kstr a0), Ent.t 4 (VA.k (kslice kstr) s2.1), Ent.t 5 (VA.k (kint .i64) (IntKind.i64.wrap (s2.2 + (1 : Int)))), Ent.t 7 (VA.k (kint .u8) s20), Ent.t 8 (VA.k (kint .i64) s23), Ent.t 59 (VA.k kbool s26)] ?_ ?_
                · replace H := h27; clear h27
                  refine goes_region ?_
                  refine go1 (op_move rfl (.t (has rfl))) rfl ?_
                  refine go1 (op_move rfl (.t (has rfl))) rfl ?_
                  refine go1 (op_len_str rfl rfl Try.underlying9 (.t (has rfl))) rfl ?_
                  refine go1 (op_icmp rfl rfl (.t (has rfl)) (.t (has rfl))) rfl ?_
                  refine go1 (op_move rfl (.t (has rfl))) rfl ?_
                  refine goesO_split H (fun hb28 H => ?_) (fun hb28 H => ?_)
                  · skip
                    refine goG (op_move rfl (.t (has rfl))) rfl rfl rfl rfl hb28 ?_
                    refine goG (op_move rfl (.t (has rfl))) rfl rfl rfl rfl hb28 ?_
                    obtain ⟨x29, h30, H⟩ := bind_some H
                    refine goG (op_index_str rfl Try.underlying9 h30 (.t (has rfl)) (.t (has rfl))) rfl rfl rfl rfl hb28 ?_
                    refine goG (op_move rfl (.t (has rfl))) rfl rfl rfl rfl hb28 ?_
                    refine goG (op_icmp rfl rfl (.t (has rfl)) (.t (has rfl))) rfl rfl rfl rfl hb28 ?_
                    refine go1 (op_pick_t rfl hb28 (.t (has rfl)) (.t (has rfl))) rfl ?_
                    refine goesO_nil ?_
                    obtain rfl := Option.some.inj H
                    exact ends_cut (.cons rfl (.cons rfl (.cons rfl (.cons rfl (.cons rfl (.cons rfl .nil))))))
                  · skip
                    refine goS rfl rfl rfl rfl rfl rfl hb28 ?_
                    refine goS rfl rfl rfl rfl rfl rfl hb28 ?_
                    refine goS rfl rfl rfl rfl rfl rfl hb28 ?_
                    refine goS rfl rfl rfl rfl rfl rfl hb28 ?_
                    refine goS rfl rfl rfl rfl rfl rfl hb28 ?_
                    refine go1 (op_pick_f rfl hb28 (.t (has rfl)) (.bool _)) rfl ?_
                    refine goesO_nil ?_
                    obtain rfl := Option.some.inj H
                    exact ends_cut (.cons rfl (.cons rfl (.cons rfl (.cons rfl (.cons rfl (.cons rfl .nil))))))
                refine ends_then ?_
                refine goes_if (.t (has rfl)) H (fun hb31 H => ?_) (fun hb31 H => ?_)
                · skip
                  refine goes_skip ?_
                  refine ends_then ?_
                  refine goes_block ?_
                  refine goes_region ?_
                  refine go1 (op_move rfl (.t (has rfl))) rfl ?_
                  refine go1 (op_add rfl (.t (has rfl)) (.int _ _)) rfl ?_
                  refine go1 (op_assign rfl (.t (has rfl))) rfl ?_
                  refine goesO_nil ?_
                  refine ends_block ?_
                  exact loop_next _ H (.cons rfl (.cons rfl (.cons rfl (.cons rfl (.cons rfl .nil)))))
                · skip
                  refine goes_exit (ends_then_exit (ends_then_exit (ends_block_exit ?_)))
                  obtain rfl := Option.some.inj H
                  exact ends_cut (.cons rfl (.cons rfl (.cons rfl (.cons rfl .nil))))
              refine ends_then ?_
              refine goes_seq ?_
              refine goes_seq ?_
              refine goes_region ?_
              refine go1 (op_move rfl (.t (has rfl))) rfl ?_
              refine go1 (op_move rfl (.t (has rfl))) rfl ?_
              refine go1 (op_len_str rfl rfl Try.underlying9 (.t (has rfl))) rfl ?_
              refine go1 (op_icmp rfl rfl (.t (has rfl)) (.t (has rfl))) rfl ?_
              refine goesO_nil ?_
              refine ends_then ?_
              refine goes_if (.t (has rfl)) H (fun hb32 H => ?_) (fun hb32 H => ?_)
              · skip
                refine goes_exit (ends_then_exit (ends_block_ne rfl (ends_then_exit (ends_then_exit (ends_block_exit ?_)))))
                obtain rfl := Option.some.inj H
                exact ends_cut (.cons rfl .nil)
              · skip
                refine goes_skip ?_
                refine ends_then ?_
                refine goes_seq ?_
                refine goes_region ?_
                refine go1 (op_move rfl (.t (has rfl))) rfl ?_
                refine go1 (op_assign rfl (.t (has rfl))) rfl ?_
                refine goesO_nil ?_
                refine ends_then ?_
                refine goes_seq ?_
                refine goes_seq ?_
                refine goes_region ?_
                refine go1 (op_move rfl (.t (has rfl))) rfl ?_
                refine go1 (op_sub rfl (.t (has rfl)) (.int _ _)) rfl ?_
                refine go1 (op_assign rfl (.t (has rfl))) rfl ?_
                refine goesO_nil ?_
                refine ends_then ?_
                obtain ⟨s34, h35, H⟩ := bind_some H
                refine goes_cut [Ent.t 0 (VA.k kstr a0), Ent.t 4 (VA.k (kslice kstr) s2.1), Ent.t 5 (VA.k (kint .i64) (IntKind.i64.wrap (s2.2 + (1 : Int)))), Ent.t 8 (VA.k (kint .i64) s24), Ent.t 9 (VA.k (kint .i64) s34)] ?_ ?_
                · replace H := h35; clear h35
                  refine goes_block ?_
                  refine goes_loop (fun s33 : Int × Int => [Ent.t 0 (VA.k kstr a0), Ent.t 4 (VA.k (kslice kstr) s2.1), Ent.t 5 (VA.k (kint .i64) (IntKind.i64.wrap (s2.2 + (1 : Int)))), Ent.t 8 (VA.k (kint .i64) s24), Ent.t 9 (VA.k (kint .i64) s33.1), Ent.t 10 (VA.k (kint .i64) s33.2)]) (fun k s33 => smithyref05_Refs.l2 a0 s2 k s33) (fun _ => rfl) H (.cons rfl (.cons rfl (.cons rfl (.cons rfl (.cons rfl (.cons rfl .nil)))))) ?_
                  intro k s33 H
                  simp only [smithyref05_Refs.l2] at H
                  refine goes_seq ?_
                  refine goes_seq ?_
                  refine goes_region ?_
                  refine go1 (op_move rfl (.t (has rfl))) rfl ?_
                  refine go1 (op_move rfl (.t (has rfl))) rfl ?_
                  refine go1 (op_icmp rfl rfl (.t (has rfl)) (.t (has rfl))) rfl ?_
                  refine goesO_nil ?_
                  refine ends_then ?_
                  refine goes_if (.t (has rfl)) H (fun hb36 H => ?_) (fun hb36 H => ?_)
                  · skip
                    refine goes_skip ?_
                    refine ends_then ?_
                    refine goes_seq ?_
                    obtain ⟨s37, h38, H⟩ := bind_some H
                    refine goes_cut [Ent.t 0 (VA.k kstr a0), Ent.t 4 (VA.k (kslice kstr) s2.1), Ent.t 5 (VA.k (kint .i64) (IntKind.i64.wrap (s2.2 + (1 : Int)))), Ent.t 8 (VA.k (kint .i64) s24), Ent.t 9 (VA.k (kint .i64) s37), Ent.t 10 (VA.k (kint .i64) s33.2)] ?_ ?_
                    · replace H := h38; clear h38
                      refine goes_block ?_
                      refine goes_seq ?_
                      refine goes_region ?_
                      refine go1 (op_move rfl (.t (has rfl))) rfl ?_
                      refine go1 (op_move rfl (.t (has rfl))) rfl ?_
                      obtain ⟨x39, h40, H⟩ := bind_some H
                      refine go1 (op_index_str rfl Try.underlying9 h40 (.t (has rfl)) (.t (has rfl))) rfl ?_
                      refine go1 (op_icmp rfl rfl (.t (has rfl)) (.int _ _)) rfl ?_
                      refine goesO_nil ?_
                      refine ends_then ?_
                      refine goes_if (.t (has rfl)) H (fun hb41 H => ?_) (fun hb41 H => ?_)
                      · skip
                        refine goes_region ?_
                        refine go1 (op_move rfl (.t (has rfl))) rfl ?_
                        refine go1 (op_assign rfl (.t (has rfl))) rfl ?_
                        refine goesO_nil ?_
                        refine ends_block ?_
                        obtain rfl := Option.some.inj H
                        exact ends_cut (.cons rfl (.cons rfl (.cons rfl (.cons rfl (.cons rfl (.cons rfl .nil))))))
                      · skip
                        refine goes_skip ?_
                        refine ends_block ?_
                        obtain rfl := Option.some.inj H
                        exact ends_cut (.cons rfl (.cons rfl (.cons rfl (.cons rfl (.cons rfl (.cons rfl .nil))))))
                    refine ends_then ?_
                    refine goes_region ?_
                    refine go1 (op_move rfl (.t (has rfl))) rfl ?_
                    refine go1 (op_sub rfl (.t (has rfl)) (.int _ _)) rfl ?_
                    refine go1 (op_assign rfl (.t (has rfl))) rfl ?_
                    refine goesO_nil ?_
                    exact loop_next _ H (.cons rfl (.cons rfl (.cons rfl (.cons rfl (.cons rfl (.cons rfl .nil))))))
                  · skip
                    refine goes_exit (ends_then_exit (ends_then_exit (ends_block_exit ?_)))
                    obtain rfl := Option.some.inj H
                    exact ends_cut (.cons rfl (.cons rfl (.cons rfl (.cons rfl (.cons rfl .nil)))))
                refine ends_then ?_
                refine goes_seq ?_
                refine goes_region ?_
                refine go1 (op_move rfl (.t (has rfl))) rfl ?_
                refine go1 (op_move rfl (.t (has rfl))) rfl ?_
                refine go1 (op_move rfl (.t (has rfl))) rfl ?_
                refine go1 (op_add rfl (.t (has rfl)) (.int _ _)) rfl ?_
                refine go1 (op_move rfl (.t (has rfl))) rfl ?_
                obtain ⟨x42, h43, H⟩ := bind_some H
                refine go1 (op_slice_str (l := some _) (h := some _) rfl Try.underlying9 h43 (.t (has rfl)) (.t (has rfl)) (.t (has rfl))) rfl ?_
                obtain ⟨v44, h45, H⟩ := bind_some H
                refine go1 (op_call' rfl enters44 (smithyref05_put.con _ _ _ _ h45) rfl (.cons (ArgP.k (.t (has rfl))) (.cons (ArgP.k (.t (has rfl))) .nil))) rfl ?_
                refine go1 (op_assign rfl (.t (has rfl))) rfl ?_
                refine goesO_nil ?_
                refine ends_then ?_
                refine goes_region ?_
                refine go1 (op_move rfl (.t (has rfl))) rfl ?_
                refine go1 (op_assign rfl (.t (has rfl))) rfl ?_
                refine goesO_nil ?_
                refine ends_block ?_
                refine ends_then ?_
                refine goes_region ?_
                refine go1 (op_move rfl (.t (has rfl))) rfl ?_
                refine go1 (op_add rfl (.t (has rfl)) (.int _ _)) rfl ?_
                refine go1 (op_assign rfl (.t (has rfl))) rfl ?_
                refine goesO_nil ?_
                exact loop_next _ H (.cons rfl (.cons rfl (.cons rfl .nil)))
      · skip
        refine goes_exit (ends_then_exit (ends_then_exit (ends_block_exit ?_)))
        obtain rfl := Option.some.inj H
        exact ends_cut (.cons rfl .nil)
    refine ends_then ?_
    refine goes_seq ?_
    refine goes_region ?_
    refine go1 (op_move rfl (.t (has rfl))) rfl ?_
    refine go1 (op_assign rfl (.t (has rfl))) rfl ?_
    refine go1 (op_assign rfl (.int _ _)) rfl ?_
    refine goesO_nil ?_
    refine ends_then ?_
    obtain rfl := Option.some.inj H
    exact goes_ret (ends_ret' rfl rfl (.t rfl (.t rfl (.nil _))))
/-! smithy/smithyplain.Texts -/
def smithyplain_Texts.l0 (a0 : List ByteArray) (a1 : List ByteArray) : Nat → Int → Option (Except Bool Unit)
  | 0, _ => none
  | k + 1, s2 => bif icmp .lss s2 (a0.length : Int) then ((idx a0 s2).bind fun x7 => (idx a1 s2).bind fun x9 => bif scmp .neq x7 x9 then (some (Except.error false)) else (smithyplain_Texts.l0 a0 a1 k (IntKind.i64.wrap (s2 + (1 : Int))))) else (some (Except.ok ()))
def smithyplain_Texts.f (k : Nat) (a0 : List ByteArray) (a1 : List ByteArray) : Option Bool := bif icmp .neq (a0.length : Int) (a1.length : Int) then (some false) else ((smithyplain_Texts.l0 a0 a1 k (0 : Int)).bind fun o5 => match o5 with | .error r' => some r' | .ok s3 => (some true))
set_option maxRecDepth 100000 in
set_option maxHeartbeats 4000000 in
theorem smithyplain_Texts.con (k : Nat) (a0 : List ByteArray) (a1 : List ByteArray) (r : Bool) (H : smithyplain_Texts.f k a0 a1 = some r) : Con Try.prog 27 [VA.k (kslice kstr) a0, VA.k (kslice kstr) a1] [VA.k kbool r] := by
  unfold smithyplain_Texts.f at H
  refine con_enter Try.func27 rfl rfl rfl (fun w0 S0 θ => ?_)
  refine goes_seq ?_
  refine goes_region ?_
  refine go1 (op_assign rfl (.bool _)) rfl ?_
  refine goesO_nil ?_
  refine ends_then ?_
  refine goes_seq ?_
  refine goes_seq ?_
  refine goes_region ?_
  refine go1 (op_move rfl (.t (has rfl))) rfl ?_
  refine go1 (op_len rfl rfl Try.underlying49 (.t (has rfl))) rfl ?_
  refine go1 (op_move rfl (.t (has rfl))) rfl ?_
  refine go1 (op_len rfl rfl Try.underlying49 (.t (has rfl))) rfl ?_
  refine go1 (op_icmp rfl rfl (.t (has rfl)) (.t (has rfl))) rfl ?_
  refine goesO_nil ?_
  refine ends_then ?_
  refine goes_if (.t (has rfl)) H (fun hb1 H => ?_) (fun hb1 H => ?_)
  · skip
    refine goes_seq ?_
    refine goes_region ?_
    refine go1 (op_assign rfl (.bool _)) rfl ?_
    refine goesO_nil ?_
    refine ends_then ?_
    obtain rfl := Option.some.inj H
    exact goes_ret (ends_then_ret (ends_ret' rfl rfl (.t rfl (.nil _))))
  · skip
    refine goes_skip ?_
    refine ends_then ?_
    refine goes_seq ?_
    refine goes_seq ?_
    refine goes_region ?_
    refine go1 (op_move rfl (.t (has rfl))) rfl ?_
    refine go1 (op_len rfl rfl Try.underlying49 (.t (has rfl))) rfl ?_
    refine go1 (op_move rfl (.int _ _)) rfl ?_
    refine goesO_nil ?_
    refine ends_then ?_
    obtain ⟨o5, h4, H⟩ := bind_some H
    refine goes_cutR (o := o5) (fun s3 : Unit => []) (fun r a w => bodyPost Try.prog Try.f27 (CPost w0 S0 θ [VA.k kbool r]) .ret a w) ?_ ?_ ?_
    · replace H := h4; clear h4
      refine goes_block ?_
      refine goes_loop (fun s2 : Int => [Ent.t 0 (VA.k (kslice kstr) a0), Ent.t 1 (VA.k (kslice kstr) a1), Ent.t 12 (VA.k (kint .i64) (a0.length : Int)), Ent.t 13 (VA.k (kint .i64) s2)]) (fun k s2 => smithyplain_Texts.l0 a0 a1 k s2) (fun _ => rfl) H (.cons rfl (.cons rfl (.cons rfl (.cons rfl .nil)))) ?_
      intro k s2 H
      simp only [smithyplain_Texts.l0] at H
      refine goes_seq ?_
      refine goes_region ?_
      refine go1 (op_icmp rfl rfl (.t (has rfl)) (.t (has rfl))) rfl ?_
      refine goesO_nil ?_
      refine ends_then ?_
      refine goes_seq ?_
      refine goes_if (.t (has rfl)) H (fun hb6 H => ?_) (fun hb6 H => ?_)
      · skip
        refine goes_skip ?_
        refine ends_then ?_
        refine goes_seq ?_
        refine goes_block ?_
        refine goes_seq ?_
        refine goes_region ?_
        refine go1 (op_move rfl (.t (has rfl))) rfl ?_
        refine go1 (op_assign rfl (.t (has rfl))) rfl ?_
        refine goesO_nil ?_
        refine ends_then ?_
        refine goes_seq ?_
        obtain ⟨x7, h8, H⟩ := bind_some H
        obtain ⟨x9, h10, H⟩ := bind_some H
        refine goes_drawn [[Ent.t 16 (VA.k (kslice kstr) a0)], [Ent.t 17 (VA.k (kint .i64) s2)], [Ent.t 18 (VA.pt kstr x7)], [Ent.t 19 (VA.k kstr x7)], [Ent.t 20 (VA.k (kslice kstr) a1)], [Ent.t 21 (VA.k (kint .i64) s2)], [Ent.t 22 (VA.pt kstr x9)], [Ent.t 23 (VA.k kstr x9)], [Ent.t 24 (VA.k kbool (scmp .neq x7 x9))]] mixed (by kernel_rfl) (by kernel_rfl) (.cons [(none, Ent.t 0 (VA.k (kslice kstr) a0))] (OpSpec.run rfl rfl (op_move rfl (.t NL.h0)) rfl) (.cons (has rfl) .nil) (by kernel_rfl) (.cons [(none, Ent.t 5 (VA.k (kint .i64) s2))] (OpSpec.run rfl rfl (op_move rfl (.t NL.h0)) rfl) (.cons (has rfl) .nil) (by kernel_rfl) (.cons [(some 0, Ent.t 16 (VA.k (kslice kstr) a0)), (some 1, Ent.t 17 (VA.k (kint .i64) s2))] (OpSpec.run rfl rfl (op_indexAddr rfl Try.underlying49 tk9 h8 (.t NL.h0) (.t (NL.hs NL.h0))) rfl) (.cons (has rfl) (.cons (has rfl) .nil)) (by kernel_rfl) (.cons [(some 2, Ent.t 18 (VA.pt kstr x7))] (OpSpec.run rfl rfl (op_loadp rfl tk9 (.t NL.h0)) rfl) (.cons (has rfl) .nil) (by kernel_rfl) (.cons [(none, Ent.t 1 (VA.k (kslice kstr) a1))] (OpSpec.run rfl rfl (op_move rfl (.t NL.h0)) rfl) (.cons (has rfl) .nil) (by kernel_rfl) (.cons [(none, Ent.t 5 (VA.k (kint .i64) s2))] (OpSpec.run rfl rfl (op_move rfl (.t NL.h0)) rfl) (.cons (has rfl) .nil) (by kernel_rfl) (.cons [(some 4, Ent.t 20 (VA.k (kslice kstr) a1)), (some 5, Ent.t 21 (VA.k (kint .i64) s2))] (OpSpec.run rfl rfl (op_indexAddr rfl Try.underlying49 tk9 h10 (.t NL.h0) (.t (NL.hs NL.h0))) rfl) (.cons (has rfl) (.cons (has rfl) .nil)) (by kernel_rfl) (.cons [(some 6, Ent.t 22 (VA.pt kstr x9))] (OpSpec.run rfl rfl (op_loadp rfl tk9 (.t NL.h0)) rfl) (.cons (has rfl) .nil) (by kernel_rfl) (.cons [(some 3, Ent.t 19 (VA.k kstr x7)), (some 7, Ent.t 23 (VA.k kstr x9))] (OpSpec.run rfl rfl (op_scmp rfl rfl (.t NL.h0) (.t (NL.hs NL.h0))) rfl) (.cons (has rfl) (.cons (has rfl) .nil)) (by kernel_rfl) (.nil _)))))))))) ?_
        refine ends_sub [Ent.t 0 (VA.k (kslice kstr) a0), Ent.t 1 (VA.k (kslice kstr) a1), Ent.t 12 (VA.k (kint .i64) (a0.length : Int)), Ent.t 13 (VA.k (kint .i64) s2), Ent.t 24 (VA.k kbool (scmp .neq x7 x9))] (.cons rfl (.cons rfl (.cons rfl (.cons rfl (.cons rfl .nil))))) ?_
        refine ends_then ?_
        refine goes_if (.t (has rfl)) H (fun hb11 H => ?_) (fun hb11 H => ?_)
        · skip
          refine goes_seq ?_
          refine goes_region ?_
          refine go1 (op_assign rfl (.bool _)) rfl ?_
          refine goesO_nil ?_
          refine ends_then ?_
          obtain rfl := Option.some.inj H
          refine goes_ret (ends_block_ret (ends_then_ret (ends_then_ret (ends_block_ret (ends_cutR_ret rfl ?_)))))
          exact ends_ret' rfl rfl (.t rfl (.nil _))
        · skip
          refine goes_skip ?_
          refine ends_block ?_
          refine ends_then ?_
          refine goes_region ?_
          refine go1 (op_add rfl (.t (has rfl)) (.int _ _)) rfl ?_
          refine go1 (op_move rfl (.t (has rfl))) rfl ?_
          refine goesO_nil ?_
          exact loop_next _ H (.cons rfl (.cons rfl (.cons rfl (.cons rfl .nil))))
      · skip
        refine goes_exit (ends_then_exit (ends_then_exit (ends_block_exit ?_)))
        obtain rfl := Option.some.inj H
        exact ends_cutR rfl .nil
    · rintro s3 rfl
      clear h4
      dsimp only at H
      refine ends_then ?_
      refine goes_seq ?_
      refine goes_region ?_
      refine go1 (op_assign rfl (.bool _)) rfl ?_
      refine goesO_nil ?_
      refine ends_then ?_
      obtain rfl := Option.some.inj H
      exact goes_ret (ends_ret' rfl rfl (.t rfl (.nil _)))
    · rintro r' rfl a w hr
      obtain rfl := Option.some.inj H
      exact hr
theorem smithyplain_Texts.conF (k : Nat) (a0 : List ByteArray) (a1 : List ByteArray) (r : Bool) (H : smithyplain_Texts.f k a0 a1 = some r) : ConF Try.prog 27 [VA.k (kslice kstr) a0, VA.k (kslice kstr) a1] [VA.k kbool r] := (smithyplain_Texts.con k a0 a1 r H).freeL (.cons (KFree.k KFree.bool _) .nil)
end Go.Proofs.Ytodogppelokapaa.F
