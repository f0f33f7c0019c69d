import Derived.Test.YtedgkcdofiildaaFSx2
set_option linter.unusedVariables false
set_option linter.unusedSimpArgs false
set_option linter.unnecessarySimpa false
set_option linter.deprecated false
namespace Go.Proofs.Ytedgkcdofiildaa.F
open Go Go.RowKit Go.Proofs.Ytedgkcdofiildaa.Sl
/-! smithy/resolve.right -/
def resolve_right.l0 (a0 : Node) (a1 : GM Int) : Nat → Int → Option (Except Bool Unit)
  | 0, _ => none
  | k + 1, s13 => bif icmp .lss s13 (a0.Needs.length : Int) then ((idx a0.Needs s13).bind fun x18 => ((names_Check.f k x18).bind fun v22 => bif icmp .neq v22 (0 : Int) then (some true) else ((sub a0.Needs (0 : Int) s13).bind fun x25 => (slices_Contains_string_string.f k x25 x18).bind fun v27 => bif v27 then (some true) else ((gget a1 (0 : Int) x18).bind fun x30 => some (icmp .neq x30 (1 : Int))))).bind fun s20 => bif s20 then (some (Except.error false)) else (resolve_right.l0 a0 a1 k (IntKind.i64.wrap (s13 + (1 : Int))))) else (some (Except.ok ()))
def resolve_right.f (k : Nat) (a0 : Node) (a1 : GM Int) : Option Bool := ((names_Check.f k a0.Target).bind fun v3 => bif icmp .neq v3 (0 : Int) then (some true) else ((gget a1 (0 : Int) a0.Target).bind fun x6 => bif icmp .eql x6 (1 : Int) then (some true) else (bif icmp .gtr (a0.Needs.length : Int) (65 : Int) then (some true) else (bif icmp .gtr (a0.Recipe.length : Int) (64 : Int) then (some true) else (bif !a0.Has then (some (icmp .gtr (a0.Recipe.length : Int) (0 : Int))) else (some false)))))).bind fun s1 => bif s1 then (some false) else ((resolve_right.l0 a0 a1 k (0 : Int)).bind fun o16 => match o16 with | .error r' => some r' | .ok s14 => ((slices_ContainsFunc_string_string.f k a0.Recipe (fun (z0 : ByteArray) => resolve_right_1.f z0)).bind fun v33 => bif v33 then (some false) else (bif scmp .eql a0.Source (⟨#[]⟩ : ByteArray) then (some (scmp .eql a0.Stem (⟨#[]⟩ : ByteArray))) else ((bif icmp .gtr (a0.Needs.length : Int) (0 : Int) then ((idx a0.Needs (0 : Int)).bind fun x40 => bif scmp .eql x40 a0.Source then (some (icmp .leq (a0.Stem.size : Int) (64 : Int))) else (some false)) else (some false)).bind fun s37 => some s37))))
set_option maxRecDepth 100000 in
set_option maxHeartbeats 4000000 in
theorem resolve_right.con (k : Nat) (a0 : Node) (a1 : GM Int) (r : Bool) (H : resolve_right.f k a0 a1 = some r) : Con Try.prog 62 [VA.k kNode a0, VA.k (kmap Try.prog 9 (kint .i64)) a1] [VA.k kbool r] := by
  unfold resolve_right.f at H
  refine con_enter Try.func62 rfl rfl rfl (fun w0 S0 θ => ?_)
  refine goes_seq ?_
  refine goes_region ?_
  refine go3 (op_box 2 rfl (fun h => by first | rfl | cases h) (.t (has rfl))) rfl ?_
  refine go1 (op_assign rfl (.bool _)) rfl ?_
  refine goesO_nil ?_
  refine ends_then ?_
  refine goes_seq ?_
  refine goes_seq ?_
  obtain ⟨s1, h2, H⟩ := bind_some H
  refine goes_cut [Ent.t 1 (VA.k (kmap Try.prog 9 (kint .i64)) a1), Ent.t 2 (VA.ptr 2 0), Ent.t 40 (VA.k kbool s1), Ent.h 2 (HE.box 48 kNode a0)] ?_ ?_
  · replace H := h2; clear h2
    refine goes_region ?_
    refine go1 (op_fieldAddr rfl Try.underlying48 rfl tk9 (.t (has rfl))) rfl ?_
    refine go1 (op_load rfl fldNode_Target tk9 (.t (has rfl)) (has rfl)) rfl ?_
    obtain ⟨v3, h4, H⟩ := bind_some H
    refine go1 (op_call' rfl enters55 (names_Check.con _ _ _ h4) rfl (.cons (ArgP.k (.t (has rfl))) .nil)) rfl ?_
    refine go1 (op_icmp rfl rfl (.t (has rfl)) (.int _ _)) rfl ?_
    refine go1 (op_move rfl (.t (has rfl))) rfl ?_
    refine goesO_split H (fun hb5 H => ?_) (fun hb5 H => ?_)
    · skip
      refine goS rfl rfl rfl rfl rfl rfl hb5 ?_
      refine goS rfl rfl rfl rfl rfl rfl hb5 ?_
      refine goS rfl rfl rfl rfl rfl rfl hb5 ?_
      refine goS rfl rfl rfl rfl rfl rfl hb5 ?_
      refine goS rfl rfl rfl rfl rfl rfl hb5 ?_
      refine go1 (op_pick_t rfl hb5 (.t (has rfl)) (.bool _)) rfl ?_
      refine go1 (op_move rfl (.t (has rfl))) rfl ?_
      refine goS rfl rfl rfl rfl rfl rfl rfl ?_
      refine goS rfl rfl rfl rfl rfl rfl rfl ?_
      refine goS rfl rfl rfl rfl rfl rfl rfl ?_
      refine goS rfl rfl rfl rfl rfl rfl rfl ?_
      refine go1 (op_pick_t rfl rfl (.t (has rfl)) (.bool _)) rfl ?_
      refine go1 (op_move rfl (.t (has rfl))) rfl ?_
      refine goS rfl rfl rfl rfl rfl rfl rfl ?_
      refine goS rfl rfl rfl rfl rfl rfl rfl ?_
      refine goS rfl rfl rfl rfl rfl rfl rfl ?_
      refine goS rfl rfl rfl rfl rfl rfl rfl ?_
      refine go1 (op_pick_t rfl rfl (.t (has rfl)) (.bool _)) rfl ?_
      refine go1 (op_move rfl (.t (has rfl))) rfl ?_
      refine goS rfl rfl rfl rfl rfl rfl rfl ?_
      refine goS rfl rfl rfl rfl rfl rfl rfl ?_
      refine goS rfl rfl rfl rfl rfl rfl rfl ?_
      refine goS rfl rfl rfl rfl rfl rfl rfl ?_
      refine goSU rfl rfl rfl rfl rfl rfl ?_
      refine goSU rfl rfl rfl rfl rfl rfl ?_
      refine goSU rfl rfl rfl rfl rfl rfl ?_
      refine goSU rfl rfl rfl rfl rfl rfl ?_
      refine goS rfl rfl rfl rfl rfl rfl rfl ?_
      refine go1 (op_pick_t rfl rfl (.t (has rfl)) (.bool _)) rfl ?_
      refine goesO_nil ?_
      obtain rfl := Option.some.inj H
      exact ends_cut (.cons rfl (.cons rfl (.cons rfl (.cons rfl .nil))))
    · skip
      refine goG (op_move rfl (.t (has rfl))) rfl rfl rfl rfl hb5 ?_
      refine goG (op_fieldAddr rfl Try.underlying48 rfl tk9 (.t (has rfl))) rfl rfl rfl rfl hb5 ?_
      refine goG (op_load rfl fldNode_Target tk9 (.t (has rfl)) (has rfl)) rfl rfl rfl rfl hb5 ?_
      obtain ⟨x6, h7, H⟩ := bind_some H
      refine goG (op_lookup_k rfl xmt64 h7 (.t (has rfl)) (.t (has rfl))) rfl rfl rfl rfl hb5 ?_
      refine goG (op_icmp rfl rfl (.t (has rfl)) (.int _ _)) rfl rfl rfl rfl hb5 ?_
      refine go1 (op_pick_f rfl hb5 (.t (has rfl)) (.t (has rfl))) rfl ?_
      refine go1 (op_move rfl (.t (has rfl))) rfl ?_
      refine goesO_split H (fun hb8 H => ?_) (fun hb8 H => ?_)
      · skip
        refine goS rfl rfl rfl rfl rfl rfl hb8 ?_
        refine goS rfl rfl rfl rfl rfl rfl hb8 ?_
        refine goS rfl rfl rfl rfl rfl rfl hb8 ?_
        refine goS rfl rfl rfl rfl rfl rfl hb8 ?_
        refine go1 (op_pick_t rfl hb8 (.t (has rfl)) (.bool _)) rfl ?_
        refine go1 (op_move rfl (.t (has rfl))) rfl ?_
        refine goS rfl rfl rfl rfl rfl rfl rfl ?_
        refine goS rfl rfl rfl rfl rfl rfl rfl ?_
        refine goS rfl rfl rfl rfl rfl rfl rfl ?_
        refine goS rfl rfl rfl rfl rfl rfl rfl ?_
        refine go1 (op_pick_t rfl rfl (.t (has rfl)) (.bool _)) rfl ?_
        refine go1 (op_move rfl (.t (has rfl))) rfl ?_
        refine goS rfl rfl rfl rfl rfl rfl rfl ?_
        refine goS rfl rfl rfl rfl rfl rfl rfl ?_
        refine goS rfl rfl rfl rfl rfl rfl rfl ?_
        refine goS rfl rfl rfl rfl rfl rfl rfl ?_
        refine goSU rfl rfl rfl rfl rfl rfl ?_
        refine goSU rfl rfl rfl rfl rfl rfl ?_
        refine goSU rfl rfl rfl rfl rfl rfl ?_
        refine goSU rfl rfl rfl rfl rfl rfl ?_
        refine goS rfl rfl rfl rfl rfl rfl rfl ?_
        refine go1 (op_pick_t rfl rfl (.t (has rfl)) (.bool _)) rfl ?_
        refine goesO_nil ?_
        obtain rfl := Option.some.inj H
        exact ends_cut (.cons rfl (.cons rfl (.cons rfl (.cons rfl .nil))))
      · skip
        refine goG (op_fieldAddr rfl Try.underlying48 rfl tk23 (.t (has rfl))) rfl rfl rfl rfl hb8 ?_
        refine goG (op_load rfl fldNode_Needs tk23 (.t (has rfl)) (has rfl)) rfl rfl rfl rfl hb8 ?_
        refine goG (op_len rfl rfl Try.underlying23 (.t (has rfl))) rfl rfl rfl rfl hb8 ?_
        refine goG (op_icmp rfl rfl (.t (has rfl)) (.int _ _)) rfl rfl rfl rfl hb8 ?_
        refine go1 (op_pick_f rfl hb8 (.t (has rfl)) (.t (has rfl))) rfl ?_
        refine go1 (op_move rfl (.t (has rfl))) rfl ?_
        refine goesO_split H (fun hb9 H => ?_) (fun hb9 H => ?_)
        · skip
          refine goS rfl rfl rfl rfl rfl rfl hb9 ?_
          refine goS rfl rfl rfl rfl rfl rfl hb9 ?_
          refine goS rfl rfl rfl rfl rfl rfl hb9 ?_
          refine goS rfl rfl rfl rfl rfl rfl hb9 ?_
          refine go1 (op_pick_t rfl hb9 (.t (has rfl)) (.bool _)) rfl ?_
          refine go1 (op_move rfl (.t (has rfl))) rfl ?_
          refine goS rfl rfl rfl rfl rfl rfl rfl ?_
          refine goS rfl rfl rfl rfl rfl rfl rfl ?_
          refine goS rfl rfl rfl rfl rfl rfl rfl ?_
          refine goS rfl rfl rfl rfl rfl rfl rfl ?_
          refine goSU rfl rfl rfl rfl rfl rfl ?_
          refine goSU rfl rfl rfl rfl rfl rfl ?_
          refine goSU rfl rfl rfl rfl rfl rfl ?_
          refine goSU rfl rfl rfl rfl rfl rfl ?_
          refine goS rfl rfl rfl rfl rfl rfl rfl ?_
          refine go1 (op_pick_t rfl rfl (.t (has rfl)) (.bool _)) rfl ?_
          refine goesO_nil ?_
          obtain rfl := Option.some.inj H
          exact ends_cut (.cons rfl (.cons rfl (.cons rfl (.cons rfl .nil))))
        · skip
          refine goG (op_fieldAddr rfl Try.underlying48 rfl tk23 (.t (has rfl))) rfl rfl rfl rfl hb9 ?_
          refine goG (op_load rfl fldNode_Recipe tk23 (.t (has rfl)) (has rfl)) rfl rfl rfl rfl hb9 ?_
          refine goG (op_len rfl rfl Try.underlying23 (.t (has rfl))) rfl rfl rfl rfl hb9 ?_
          refine goG (op_icmp rfl rfl (.t (has rfl)) (.int _ _)) rfl rfl rfl rfl hb9 ?_
          refine go1 (op_pick_f rfl hb9 (.t (has rfl)) (.t (has rfl))) rfl ?_
          refine go1 (op_move rfl (.t (has rfl))) rfl ?_
          refine goesO_split H (fun hb10 H => ?_) (fun hb10 H => ?_)
          · skip
            refine goS rfl rfl rfl rfl rfl rfl hb10 ?_
            refine goS rfl rfl rfl rfl rfl rfl hb10 ?_
            refine goS rfl rfl rfl rfl rfl rfl hb10 ?_
            refine goS rfl rfl rfl rfl rfl rfl hb10 ?_
            refine goSU rfl rfl rfl rfl rfl rfl ?_
            refine goSU rfl rfl rfl rfl rfl rfl ?_
            refine goSU rfl rfl rfl rfl rfl rfl ?_
            refine goSU rfl rfl rfl rfl rfl rfl ?_
            refine goS rfl rfl rfl rfl rfl rfl hb10 ?_
            refine go1 (op_pick_t rfl hb10 (.t (has rfl)) (.bool _)) rfl ?_
            refine goesO_nil ?_
            obtain rfl := Option.some.inj H
            exact ends_cut (.cons rfl (.cons rfl (.cons rfl (.cons rfl .nil))))
          · skip
            refine goG (op_fieldAddr rfl Try.underlying48 rfl tk4 (.t (has rfl))) rfl rfl rfl rfl hb10 ?_
            refine goG (op_load rfl fldNode_Has tk4 (.t (has rfl)) (has rfl)) rfl rfl rfl rfl hb10 ?_
            refine goG (op_not rfl (.t (has rfl))) rfl rfl rfl rfl hb10 ?_
            refine goG (op_move rfl (.t (has rfl))) rfl rfl rfl rfl hb10 ?_
            refine goesO_split H (fun hb11 H => ?_) (fun hb11 H => ?_)
            · skip
              refine goG (op_fieldAddr rfl Try.underlying48 rfl tk23 (.t (has rfl))) rfl rfl rfl rfl hb11 ?_
              refine goG (op_load rfl fldNode_Recipe tk23 (.t (has rfl)) (has rfl)) rfl rfl rfl rfl hb11 ?_
              refine goG (op_len rfl rfl Try.underlying23 (.t (has rfl))) rfl rfl rfl rfl hb11 ?_
              refine goG (op_icmp rfl rfl (.t (has rfl)) (.int _ _)) rfl rfl rfl rfl hb11 ?_
              refine goG (op_pick_t rfl hb11 (.t (has rfl)) (.t (has rfl))) rfl rfl rfl rfl hb10 ?_
              refine go1 (op_pick_f rfl hb10 (.t (has rfl)) (.t (has rfl))) rfl ?_
              refine goesO_nil ?_
              obtain rfl := Option.some.inj H
              exact ends_cut (.cons rfl (.cons rfl (.cons rfl (.cons rfl .nil))))
            · skip
              refine goS rfl rfl rfl rfl rfl rfl hb11 ?_
              refine goS rfl rfl rfl rfl rfl rfl hb11 ?_
              refine goS rfl rfl rfl rfl rfl rfl hb11 ?_
              refine goS rfl rfl rfl rfl rfl rfl hb11 ?_
              refine goG (op_pick_f rfl hb11 (.t (has rfl)) (.bool _)) rfl rfl rfl rfl hb10 ?_
              refine go1 (op_pick_f rfl hb10 (.t (has rfl)) (.t (has rfl))) rfl ?_
              refine goesO_nil ?_
              obtain rfl := Option.some.inj H
              exact ends_cut (.cons rfl (.cons rfl (.cons rfl (.cons rfl .nil))))
  refine ends_then ?_
  refine goes_if (.t (has rfl)) H (fun hb12 H => ?_) (fun hb12 H => ?_)
  · skip
    refine goes_seq ?_
    refine goes_region ?_
    refine go1 (op_assign rfl (.bool _)) rfl ?_
    refine goesO_nil ?_
    refine ends_then ?_
    obtain rfl := Option.some.inj H
    exact goes_ret (ends_then_ret (ends_ret' rfl rfl (.t rfl (.nil _))))
  · skip
    refine goes_skip ?_
    refine ends_then ?_
    refine goes_seq ?_
    refine goes_seq ?_
    refine goes_region ?_
    refine go1 (op_fieldAddr rfl Try.underlying48 rfl tk23 (.t (has rfl))) rfl ?_
    refine go1 (op_load rfl fldNode_Needs tk23 (.t (has rfl)) (has rfl)) rfl ?_
    refine go1 (op_len rfl rfl Try.underlying23 (.t (has rfl))) rfl ?_
    refine go1 (op_move rfl (.int _ _)) rfl ?_
    refine goesO_nil ?_
    refine ends_then ?_
    obtain ⟨o16, h15, H⟩ := bind_some H
    refine goes_cutR (o := o16) (fun s14 : Unit => [Ent.t 2 (VA.ptr 2 0), Ent.h 2 (HE.box 48 kNode a0)]) (fun r a w => bodyPost Try.prog Try.f62 (CPost w0 S0 θ [VA.k kbool r]) .ret a w) ?_ ?_ ?_
    · replace H := h15; clear h15
      refine goes_block ?_
      refine goes_loop (fun s13 : Int => [Ent.t 1 (VA.k (kmap Try.prog 9 (kint .i64)) a1), Ent.t 2 (VA.ptr 2 0), Ent.t 42 (VA.k (kslice kstr) a0.Needs), Ent.t 43 (VA.k (kint .i64) (a0.Needs.length : Int)), Ent.t 44 (VA.k (kint .i64) s13), Ent.h 2 (HE.box 48 kNode a0)]) (fun k s13 => resolve_right.l0 a0 a1 k s13) (fun _ => rfl) H (.cons rfl (.cons rfl (.cons rfl (.cons rfl (.cons rfl (.cons rfl .nil)))))) ?_
      intro k s13 H
      simp only [resolve_right.l0] at H
      refine goes_seq ?_
      refine goes_region ?_
      refine go1 (op_icmp rfl rfl (.t (has rfl)) (.t (has rfl))) rfl ?_
      refine goesO_nil ?_
      refine ends_then ?_
      refine goes_seq ?_
      refine goes_if (.t (has rfl)) H (fun hb17 H => ?_) (fun hb17 H => ?_)
      · skip
        refine goes_skip ?_
        refine ends_then ?_
        refine goes_seq ?_
        refine goes_block ?_
        refine goes_seq ?_
        refine goes_region ?_
        refine go1 (op_move rfl (.t (has rfl))) rfl ?_
        obtain ⟨x18, h19, H⟩ := bind_some H
        refine go1 (op_indexAddr rfl Try.underlying23 tk9 h19 (.t (has rfl)) (.t (has rfl))) rfl ?_
        refine go1 (op_loadp rfl tk9 (.t (has rfl))) rfl ?_
        refine go1 (op_assign rfl (.t (has rfl))) rfl ?_
        refine go1 (op_assign rfl (.t (has rfl))) rfl ?_
        refine goesO_nil ?_
        refine ends_then ?_
        refine goes_seq ?_
        obtain ⟨s20, h21, H⟩ := bind_some H
        refine goes_cut [Ent.t 1 (VA.k (kmap Try.prog 9 (kint .i64)) a1), Ent.t 2 (VA.ptr 2 0), Ent.t 42 (VA.k (kslice kstr) a0.Needs), Ent.t 43 (VA.k (kint .i64) (a0.Needs.length : Int)), Ent.t 44 (VA.k (kint .i64) s13), Ent.t 65 (VA.k kbool s20), Ent.h 2 (HE.box 48 kNode a0)] ?_ ?_
        · replace H := h21; clear h21
          refine goes_region ?_
          refine go1 (op_move rfl (.t (has rfl))) rfl ?_
          obtain ⟨v22, h23, H⟩ := bind_some H
          refine go1 (op_call' rfl enters55 (names_Check.con _ _ _ h23) rfl (.cons (ArgP.k (.t (has rfl))) .nil)) rfl ?_
          refine go1 (op_icmp rfl rfl (.t (has rfl)) (.int _ _)) rfl ?_
          refine go1 (op_move rfl (.t (has rfl))) rfl ?_
          refine goesO_split H (fun hb24 H => ?_) (fun hb24 H => ?_)
          · skip
            refine goS rfl rfl rfl rfl rfl rfl hb24 ?_
            refine goS rfl rfl rfl rfl rfl rfl hb24 ?_
            refine goS rfl rfl rfl rfl rfl rfl hb24 ?_
            refine goS rfl rfl rfl rfl rfl rfl hb24 ?_
            refine goS rfl rfl rfl rfl rfl rfl hb24 ?_
            refine goS rfl rfl rfl rfl rfl rfl hb24 ?_
            refine go1 (op_pick_t rfl hb24 (.t (has rfl)) (.bool _)) rfl ?_
            refine go1 (op_move rfl (.t (has rfl))) rfl ?_
            refine goS rfl rfl rfl rfl rfl rfl rfl ?_
            refine goS rfl rfl rfl rfl rfl rfl rfl ?_
            refine goS rfl rfl rfl rfl rfl rfl rfl ?_
            refine goS rfl rfl rfl rfl rfl rfl rfl ?_
            refine go1 (op_pick_t rfl rfl (.t (has rfl)) (.bool _)) rfl ?_
            refine goesO_nil ?_
            obtain rfl := Option.some.inj H
            exact ends_cut (.cons rfl (.cons rfl (.cons rfl (.cons rfl (.cons rfl (.cons rfl (.cons rfl .nil)))))))
          · skip
            refine goG (op_fieldAddr rfl Try.underlying48 rfl tk23 (.t (has rfl))) rfl rfl rfl rfl hb24 ?_
            refine goG (op_load rfl fldNode_Needs tk23 (.t (has rfl)) (has rfl)) rfl rfl rfl rfl hb24 ?_
            refine goG (op_move rfl (.t (has rfl))) rfl rfl rfl rfl hb24 ?_
            obtain ⟨x25, h26, H⟩ := bind_some H
            refine goG (op_slice (l := none) (h := some _) rfl Try.underlying23 tk9 h26 (.t (has rfl)) trivial (.t (has rfl))) rfl rfl rfl rfl hb24 ?_
            refine goG (op_move rfl (.t (has rfl))) rfl rfl rfl rfl hb24 ?_
            obtain ⟨v27, h28, H⟩ := bind_some H
            refine goG (op_call' rfl enters63 (slices_Contains_string_string.con _ _ _ _ h28) rfl (.cons (ArgP.k (.t (has rfl))) (.cons (ArgP.k (.t (has rfl))) .nil))) rfl rfl rfl rfl hb24 ?_
            refine go1 (op_pick_f rfl hb24 (.t (has rfl)) (.t (has rfl))) rfl ?_
            refine go1 (op_move rfl (.t (has rfl))) rfl ?_
            refine goesO_split H (fun hb29 H => ?_) (fun hb29 H => ?_)
            · skip
              refine goS rfl rfl rfl rfl rfl rfl hb29 ?_
              refine goS rfl rfl rfl rfl rfl rfl hb29 ?_
              refine goS rfl rfl rfl rfl rfl rfl hb29 ?_
              refine goS rfl rfl rfl rfl rfl rfl hb29 ?_
              refine go1 (op_pick_t rfl hb29 (.t (has rfl)) (.bool _)) rfl ?_
              refine goesO_nil ?_
              obtain rfl := Option.some.inj H
              exact ends_cut (.cons rfl (.cons rfl (.cons rfl (.cons rfl (.cons rfl (.cons rfl (.cons rfl .nil)))))))
            · skip
              refine goG (op_move rfl (.t (has rfl))) rfl rfl rfl rfl hb29 ?_
              refine goG (op_move rfl (.t (has rfl))) rfl rfl rfl rfl hb29 ?_
              obtain ⟨x30, h31, H⟩ := bind_some H
              refine goG (op_lookup_k rfl xmt64 h31 (.t (has rfl)) (.t (has rfl))) rfl rfl rfl rfl hb29 ?_
              refine goG (op_icmp rfl rfl (.t (has rfl)) (.int _ _)) rfl rfl rfl rfl hb29 ?_
              refine go1 (op_pick_f rfl hb29 (.t (has rfl)) (.t (has rfl))) rfl ?_
              refine goesO_nil ?_
              obtain rfl := Option.some.inj H
              exact ends_cut (.cons rfl (.cons rfl (.cons rfl (.cons rfl (.cons rfl (.cons rfl (.cons rfl .nil)))))))
        refine ends_then ?_
        refine goes_if (.t (has rfl)) H (fun hb32 H => ?_) (fun hb32 H => ?_)
        · skip
          refine goes_seq ?_
          refine goes_region ?_
          refine go1 (op_assign rfl (.bool _)) rfl ?_
          refine goesO_nil ?_
          refine ends_then ?_
          obtain rfl := Option.some.inj H
          refine goes_ret (ends_block_ret (ends_then_ret (ends_then_ret (ends_block_ret (ends_cutR_ret rfl ?_)))))
          exact ends_ret' rfl rfl (.t rfl (.nil _))
        · skip
          refine goes_skip ?_
          refine ends_block ?_
          refine ends_then ?_
          refine goes_region ?_
          refine go1 (op_add rfl (.t (has rfl)) (.int _ _)) rfl ?_
          refine go1 (op_move rfl (.t (has rfl))) rfl ?_
          refine goesO_nil ?_
          exact loop_next _ H (.cons rfl (.cons rfl (.cons rfl (.cons rfl (.cons rfl (.cons rfl .nil))))))
      · skip
        refine goes_exit (ends_then_exit (ends_then_exit (ends_block_exit ?_)))
        obtain rfl := Option.some.inj H
        exact ends_cutR rfl (.cons rfl (.cons rfl .nil))
    · rintro s14 rfl
      clear h15
      dsimp only at H
      refine ends_then ?_
      refine goes_seq ?_
      refine goes_seq ?_
      refine goes_region ?_
      refine go1 (op_fieldAddr rfl Try.underlying48 rfl tk23 (.t (has rfl))) rfl ?_
      refine go1 (op_load rfl fldNode_Recipe tk23 (.t (has rfl)) (has rfl)) rfl ?_
      obtain ⟨v33, h34, H⟩ := bind_some H
      refine go1 (op_call' rfl enters37 (slices_ContainsFunc_string_string.con 66 ([]) ([]) _ _ (fun (z0 : ByteArray) => resolve_right_1.f z0) enters66 (fun z0 r h => resolve_right_1.con z0 r h) _ h34) rfl (.cons (ArgP.k (.t (has rfl))) (.cons ArgP.fn .nil))) rfl ?_
      refine goesO_nil ?_
      refine ends_then ?_
      refine goes_if (.t (has rfl)) H (fun hb35 H => ?_) (fun hb35 H => ?_)
      · skip
        refine goes_seq ?_
        refine goes_region ?_
        refine go1 (op_assign rfl (.bool _)) rfl ?_
        refine goesO_nil ?_
        refine ends_then ?_
        obtain rfl := Option.some.inj H
        exact goes_ret (ends_then_ret (ends_ret' rfl rfl (.t rfl (.nil _))))
      · skip
        refine goes_skip ?_
        refine ends_then ?_
        refine goes_seq ?_
        refine goes_seq ?_
        refine goes_region ?_
        refine go1 (op_fieldAddr rfl Try.underlying48 rfl tk9 (.t (has rfl))) rfl ?_
        refine go1 (op_load rfl fldNode_Source tk9 (.t (has rfl)) (has rfl)) rfl ?_
        refine go1 (op_scmp rfl rfl (.t (has rfl)) (.str _)) rfl ?_
        refine goesO_nil ?_
        refine ends_then ?_
        refine goes_if (.t (has rfl)) H (fun hb36 H => ?_) (fun hb36 H => ?_)
        · skip
          refine goes_seq ?_
          refine goes_region ?_
          refine go1 (op_fieldAddr rfl Try.underlying48 rfl tk9 (.t (has rfl))) rfl ?_
          refine go1 (op_load rfl fldNode_Stem tk9 (.t (has rfl)) (has rfl)) rfl ?_
          refine go1 (op_scmp rfl rfl (.t (has rfl)) (.str _)) rfl ?_
          refine go1 (op_assign rfl (.t (has rfl))) rfl ?_
          refine goesO_nil ?_
          refine ends_then ?_
          obtain rfl := Option.some.inj H
          exact goes_ret (ends_then_ret (ends_ret' rfl rfl (.t rfl (.nil _))))
        · skip
          refine goes_skip ?_
          refine ends_then ?_
          refine goes_seq ?_
          obtain ⟨s37, h38, H⟩ := bind_some H
          refine goes_cut [Ent.t 4 (VA.k kbool s37)] ?_ ?_
          · replace H := h38; clear h38
            refine goes_split H (fun hb39 H => ?_) (fun hb39 H => ?_)
            · skip
              obtain ⟨x40, h41, H⟩ := bind_some H
              refine goes_split H (fun hb42 H => ?_) (fun hb42 H => ?_)
              · skip
                refine goes_drawn [[Ent.t 76 (VA.ptr 2 1)], [Ent.t 77 (VA.k (kslice kstr) a0.Needs)], [Ent.t 78 (VA.k (kint .i64) (a0.Needs.length : Int))], [Ent.t 79 (VA.k kbool (icmp .gtr (a0.Needs.length : Int) (0 : Int)))], [Ent.t 80 (VA.k kbool (icmp .gtr (a0.Needs.length : Int) (0 : Int)))], [Ent.t 81 (VA.ptr 2 1)], [Ent.t 82 (VA.k (kslice kstr) a0.Needs)], [Ent.t 83 (VA.pt kstr x40)], [Ent.t 84 (VA.k kstr x40)], [Ent.t 85 (VA.ptr 2 4)], [Ent.t 86 (VA.k kstr a0.Source)], [Ent.t 87 (VA.k kbool (scmp .eql x40 a0.Source))], [Ent.t 88 (VA.k kbool (scmp .eql x40 a0.Source))], [Ent.t 89 (VA.k kbool (scmp .eql x40 a0.Source))], [Ent.t 90 (VA.ptr 2 5)], [Ent.t 91 (VA.k kstr a0.Stem)], [Ent.t 92 (VA.k (kint .i64) (a0.Stem.size : Int))], [Ent.t 93 (VA.k kbool (icmp .leq (a0.Stem.size : Int) (64 : Int)))], [Ent.t 94 (VA.k kbool (icmp .leq (a0.Stem.size : Int) (64 : Int)))], [Ent.t 4 (VA.k kbool (icmp .leq (a0.Stem.size : Int) (64 : Int)))]] mixed (by kernel_rfl) (by kernel_rfl) (.cons [(none, Ent.t 2 (VA.ptr 2 0))] (OpSpec.run rfl rfl (op_fieldAddr rfl Try.underlying48 rfl tk23 (.t NL.h0)) rfl) (.cons (has rfl) .nil) (by kernel_rfl) (.cons [(some 0, Ent.t 76 (VA.ptr 2 1)), (none, Ent.h 2 (HE.box 48 kNode a0))] (OpSpec.run rfl rfl (op_load rfl fldNode_Needs tk23 (.t NL.h0) (NL.hs NL.h0)) rfl) (.cons (has rfl) (.cons (has rfl) .nil)) (by kernel_rfl) (.cons [(some 1, Ent.t 77 (VA.k (kslice kstr) a0.Needs))] (OpSpec.run rfl rfl (op_len rfl rfl Try.underlying23 (.t NL.h0)) rfl) (.cons (has rfl) .nil) (by kernel_rfl) (.cons [(some 2, Ent.t 78 (VA.k (kint .i64) (a0.Needs.length : Int)))] (OpSpec.run rfl rfl (op_icmp rfl rfl (.t NL.h0) (.int _ _)) rfl) (.cons (has rfl) .nil) (by kernel_rfl) (.cons [(some 3, Ent.t 79 (VA.k kbool (icmp .gtr (a0.Needs.length : Int) (0 : Int))))] (OpSpec.run rfl rfl (op_move rfl (.t NL.h0)) rfl) (.cons (has rfl) .nil) (by kernel_rfl) (.cons [(some 4, Ent.t 80 (VA.k kbool (icmp .gtr (a0.Needs.length : Int) (0 : Int)))), (none, Ent.t 2 (VA.ptr 2 0))] (OpSpec.runG rfl rfl rfl rfl NL.h0 hb39 (op_fieldAddr rfl Try.underlying48 rfl tk23 (.t (NL.hs NL.h0))) rfl) (.cons (has rfl) (.cons (has rfl) .nil)) (by kernel_rfl) (.cons [(some 4, Ent.t 80 (VA.k kbool (icmp .gtr (a0.Needs.length : Int) (0 : Int)))), (some 5, Ent.t 81 (VA.ptr 2 1)), (none, Ent.h 2 (HE.box 48 kNode a0))] (OpSpec.runG rfl rfl rfl rfl NL.h0 hb39 (op_load rfl fldNode_Needs tk23 (.t (NL.hs NL.h0)) (NL.hs (NL.hs NL.h0))) rfl) (.cons (has rfl) (.cons (has rfl) (.cons (has rfl) .nil))) (by kernel_rfl) (.cons [(some 4, Ent.t 80 (VA.k kbool (icmp .gtr (a0.Needs.length : Int) (0 : Int)))), (some 6, Ent.t 82 (VA.k (kslice kstr) a0.Needs))] (OpSpec.runG rfl rfl rfl rfl NL.h0 hb39 (op_indexAddr rfl Try.underlying23 tk9 h41 (.t (NL.hs NL.h0)) (.int _ _)) rfl) (.cons (has rfl) (.cons (has rfl) .nil)) (by kernel_rfl) (.cons [(some 4, Ent.t 80 (VA.k kbool (icmp .gtr (a0.Needs.length : Int) (0 : Int)))), (some 7, Ent.t 83 (VA.pt kstr x40))] (OpSpec.runG rfl rfl rfl rfl NL.h0 hb39 (op_loadp rfl tk9 (.t (NL.hs NL.h0))) rfl) (.cons (has rfl) (.cons (has rfl) .nil)) (by kernel_rfl) (.cons [(some 4, Ent.t 80 (VA.k kbool (icmp .gtr (a0.Needs.length : Int) (0 : Int)))), (none, Ent.t 2 (VA.ptr 2 0))] (OpSpec.runG rfl rfl rfl rfl NL.h0 hb39 (op_fieldAddr rfl Try.underlying48 rfl tk9 (.t (NL.hs NL.h0))) rfl) (.cons (has rfl) (.cons (has rfl) .nil)) (by kernel_rfl) (.cons [(some 4, Ent.t 80 (VA.k kbool (icmp .gtr (a0.Needs.length : Int) (0 : Int)))), (some 9, Ent.t 85 (VA.ptr 2 4)), (none, Ent.h 2 (HE.box 48 kNode a0))] (OpSpec.runG rfl rfl rfl rfl NL.h0 hb39 (op_load rfl fldNode_Source tk9 (.t (NL.hs NL.h0)) (NL.hs (NL.hs NL.h0))) rfl) (.cons (has rfl) (.cons (has rfl) (.cons (has rfl) .nil))) (by kernel_rfl) (.cons [(some 4, Ent.t 80 (VA.k kbool (icmp .gtr (a0.Needs.length : Int) (0 : Int)))), (some 8, Ent.t 84 (VA.k kstr x40)), (some 10, Ent.t 86 (VA.k kstr a0.Source))] (OpSpec.runG rfl rfl rfl rfl NL.h0 hb39 (op_scmp rfl rfl (.t (NL.hs NL.h0)) (.t (NL.hs (NL.hs NL.h0)))) rfl) (.cons (has rfl) (.cons (has rfl) (.cons (has rfl) .nil))) (by kernel_rfl) (.cons [(some 4, Ent.t 80 (VA.k kbool (icmp .gtr (a0.Needs.length : Int) (0 : Int)))), (some 11, Ent.t 87 (VA.k kbool (scmp .eql x40 a0.Source)))] (OpSpec.run rfl rfl (op_pick_t rfl hb39 (.t NL.h0) (.t (NL.hs NL.h0))) rfl) (.cons (has rfl) (.cons (has rfl) .nil)) (by kernel_rfl) (.cons [(some 12, Ent.t 88 (VA.k kbool (scmp .eql x40 a0.Source)))] (OpSpec.run rfl rfl (op_move rfl (.t NL.h0)) rfl) (.cons (has rfl) .nil) (by kernel_rfl) (.cons [(some 13, Ent.t 89 (VA.k kbool (scmp .eql x40 a0.Source))), (none, Ent.t 2 (VA.ptr 2 0))] (OpSpec.runG rfl rfl rfl rfl NL.h0 hb42 (op_fieldAddr rfl Try.underlying48 rfl tk9 (.t (NL.hs NL.h0))) rfl) (.cons (has rfl) (.cons (has rfl) .nil)) (by kernel_rfl) (.cons [(some 13, Ent.t 89 (VA.k kbool (scmp .eql x40 a0.Source))), (some 14, Ent.t 90 (VA.ptr 2 5)), (none, Ent.h 2 (HE.box 48 kNode a0))] (OpSpec.runG rfl rfl rfl rfl NL.h0 hb42 (op_load rfl fldNode_Stem tk9 (.t (NL.hs NL.h0)) (NL.hs (NL.hs NL.h0))) rfl) (.cons (has rfl) (.cons (has rfl) (.cons (has rfl) .nil))) (by kernel_rfl) (.cons [(some 13, Ent.t 89 (VA.k kbool (scmp .eql x40 a0.Source))), (some 15, Ent.t 91 (VA.k kstr a0.Stem))] (OpSpec.runG rfl rfl rfl rfl NL.h0 hb42 (op_len_str rfl rfl Try.underlying9 (.t (NL.hs NL.h0))) rfl) (.cons (has rfl) (.cons (has rfl) .nil)) (by kernel_rfl) (.cons [(some 13, Ent.t 89 (VA.k kbool (scmp .eql x40 a0.Source))), (some 16, Ent.t 92 (VA.k (kint .i64) (a0.Stem.size : Int)))] (OpSpec.runG rfl rfl rfl rfl NL.h0 hb42 (op_icmp rfl rfl (.t (NL.hs NL.h0)) (.int _ _)) rfl) (.cons (has rfl) (.cons (has rfl) .nil)) (by kernel_rfl) (.cons [(some 13, Ent.t 89 (VA.k kbool (scmp .eql x40 a0.Source))), (some 17, Ent.t 93 (VA.k kbool (icmp .leq (a0.Stem.size : Int) (64 : Int))))] (OpSpec.run rfl rfl (op_pick_t rfl hb42 (.t NL.h0) (.t (NL.hs NL.h0))) rfl) (.cons (has rfl) (.cons (has rfl) .nil)) (by kernel_rfl) (.cons [(some 18, Ent.t 94 (VA.k kbool (icmp .leq (a0.Stem.size : Int) (64 : Int))))] (OpSpec.run rfl rfl (op_assign rfl (.t NL.h0)) rfl) (.cons (has rfl) .nil) (by kernel_rfl) (.nil _))))))))))))))))))))) ?_
                refine ends_sub [Ent.t 4 (VA.k kbool (icmp .leq (a0.Stem.size : Int) (64 : Int)))] (.cons rfl .nil) ?_
                obtain rfl := Option.some.inj H
                exact ends_cut (.cons rfl .nil)
              · skip
                refine goes_drawn [[Ent.t 76 (VA.ptr 2 1)], [Ent.t 77 (VA.k (kslice kstr) a0.Needs)], [Ent.t 78 (VA.k (kint .i64) (a0.Needs.length : Int))], [Ent.t 79 (VA.k kbool (icmp .gtr (a0.Needs.length : Int) (0 : Int)))], [Ent.t 80 (VA.k kbool (icmp .gtr (a0.Needs.length : Int) (0 : Int)))], [Ent.t 81 (VA.ptr 2 1)], [Ent.t 82 (VA.k (kslice kstr) a0.Needs)], [Ent.t 83 (VA.pt kstr x40)], [Ent.t 84 (VA.k kstr x40)], [Ent.t 85 (VA.ptr 2 4)], [Ent.t 86 (VA.k kstr a0.Source)], [Ent.t 87 (VA.k kbool (scmp .eql x40 a0.Source))], [Ent.t 88 (VA.k kbool (scmp .eql x40 a0.Source))], [Ent.t 89 (VA.k kbool (scmp .eql x40 a0.Source))], [Ent.t 90 (VA.v undef)], [Ent.t 91 (VA.v undef)], [Ent.t 92 (VA.v undef)], [Ent.t 93 (VA.v undef)], [Ent.t 94 (VA.k kbool false)], [Ent.t 4 (VA.k kbool false)]] mixed (by kernel_rfl) (by kernel_rfl) (.cons [(none, Ent.t 2 (VA.ptr 2 0))] (OpSpec.run rfl rfl (op_fieldAddr rfl Try.underlying48 rfl tk23 (.t NL.h0)) rfl) (.cons (has rfl) .nil) (by kernel_rfl) (.cons [(some 0, Ent.t 76 (VA.ptr 2 1)), (none, Ent.h 2 (HE.box 48 kNode a0))] (OpSpec.run rfl rfl (op_load rfl fldNode_Needs tk23 (.t NL.h0) (NL.hs NL.h0)) rfl) (.cons (has rfl) (.cons (has rfl) .nil)) (by kernel_rfl) (.cons [(some 1, Ent.t 77 (VA.k (kslice kstr) a0.Needs))] (OpSpec.run rfl rfl (op_len rfl rfl Try.underlying23 (.t NL.h0)) rfl) (.cons (has rfl) .nil) (by kernel_rfl) (.cons [(some 2, Ent.t 78 (VA.k (kint .i64) (a0.Needs.length : Int)))] (OpSpec.run rfl rfl (op_icmp rfl rfl (.t NL.h0) (.int _ _)) rfl) (.cons (has rfl) .nil) (by kernel_rfl) (.cons [(some 3, Ent.t 79 (VA.k kbool (icmp .gtr (a0.Needs.length : Int) (0 : Int))))] (OpSpec.run rfl rfl (op_move rfl (.t NL.h0)) rfl) (.cons (has rfl) .nil) (by kernel_rfl) (.cons [(some 4, Ent.t 80 (VA.k kbool (icmp .gtr (a0.Needs.length : Int) (0 : Int)))), (none, Ent.t 2 (VA.ptr 2 0))] (OpSpec.runG rfl rfl rfl rfl NL.h0 hb39 (op_fieldAddr rfl Try.underlying48 rfl tk23 (.t (NL.hs NL.h0))) rfl) (.cons (has rfl) (.cons (has rfl) .nil)) (by kernel_rfl) (.cons [(some 4, Ent.t 80 (VA.k kbool (icmp .gtr (a0.Needs.length : Int) (0 : Int)))), (some 5, Ent.t 81 (VA.ptr 2 1)), (none, Ent.h 2 (HE.box 48 kNode a0))] (OpSpec.runG rfl rfl rfl rfl NL.h0 hb39 (op_load rfl fldNode_Needs tk23 (.t (NL.hs NL.h0)) (NL.hs (NL.hs NL.h0))) rfl) (.cons (has rfl) (.cons (has rfl) (.cons (has rfl) .nil))) (by kernel_rfl) (.cons [(some 4, Ent.t 80 (VA.k kbool (icmp .gtr (a0.Needs.length : Int) (0 : Int)))), (some 6, Ent.t 82 (VA.k (kslice kstr) a0.Needs))] (OpSpec.runG rfl rfl rfl rfl NL.h0 hb39 (op_indexAddr rfl Try.underlying23 tk9 h41 (.t (NL.hs NL.h0)) (.int _ _)) rfl) (.cons (has rfl) (.cons (has rfl) .nil)) (by kernel_rfl) (.cons [(some 4, Ent.t 80 (VA.k kbool (icmp .gtr (a0.Needs.length : Int) (0 : Int)))), (some 7, Ent.t 83 (VA.pt kstr x40))] (OpSpec.runG rfl rfl rfl rfl NL.h0 hb39 (op_loadp rfl tk9 (.t (NL.hs NL.h0))) rfl) (.cons (has rfl) (.cons (has rfl) .nil)) (by kernel_rfl) (.cons [(some 4, Ent.t 80 (VA.k kbool (icmp .gtr (a0.Needs.length : Int) (0 : Int)))), (none, Ent.t 2 (VA.ptr 2 0))] (OpSpec.runG rfl rfl rfl rfl NL.h0 hb39 (op_fieldAddr rfl Try.underlying48 rfl tk9 (.t (NL.hs NL.h0))) rfl) (.cons (has rfl) (.cons (has rfl) .nil)) (by kernel_rfl) (.cons [(some 4, Ent.t 80 (VA.k kbool (icmp .gtr (a0.Needs.length : Int) (0 : Int)))), (some 9, Ent.t 85 (VA.ptr 2 4)), (none, Ent.h 2 (HE.box 48 kNode a0))] (OpSpec.runG rfl rfl rfl rfl NL.h0 hb39 (op_load rfl fldNode_Source tk9 (.t (NL.hs NL.h0)) (NL.hs (NL.hs NL.h0))) rfl) (.cons (has rfl) (.cons (has rfl) (.cons (has rfl) .nil))) (by kernel_rfl) (.cons [(some 4, Ent.t 80 (VA.k kbool (icmp .gtr (a0.Needs.length : Int) (0 : Int)))), (some 8, Ent.t 84 (VA.k kstr x40)), (some 10, Ent.t 86 (VA.k kstr a0.Source))] (OpSpec.runG rfl rfl rfl rfl NL.h0 hb39 (op_scmp rfl rfl (.t (NL.hs NL.h0)) (.t (NL.hs (NL.hs NL.h0)))) rfl) (.cons (has rfl) (.cons (has rfl) (.cons (has rfl) .nil))) (by kernel_rfl) (.cons [(some 4, Ent.t 80 (VA.k kbool (icmp .gtr (a0.Needs.length : Int) (0 : Int)))), (some 11, Ent.t 87 (VA.k kbool (scmp .eql x40 a0.Source)))] (OpSpec.run rfl rfl (op_pick_t rfl hb39 (.t NL.h0) (.t (NL.hs NL.h0))) rfl) (.cons (has rfl) (.cons (has rfl) .nil)) (by kernel_rfl) (.cons [(some 12, Ent.t 88 (VA.k kbool (scmp .eql x40 a0.Source)))] (OpSpec.run rfl rfl (op_move rfl (.t NL.h0)) rfl) (.cons (has rfl) .nil) (by kernel_rfl) (.cons [(some 13, Ent.t 89 (VA.k kbool (scmp .eql x40 a0.Source)))] (run_skip rfl rfl rfl rfl rfl rfl NL.h0 hb42) (.cons (has rfl) .nil) (by kernel_rfl) (.cons [(some 13, Ent.t 89 (VA.k kbool (scmp .eql x40 a0.Source)))] (run_skip rfl rfl rfl rfl rfl rfl NL.h0 hb42) (.cons (has rfl) .nil) (by kernel_rfl) (.cons [(some 13, Ent.t 89 (VA.k kbool (scmp .eql x40 a0.Source)))] (run_skip rfl rfl rfl rfl rfl rfl NL.h0 hb42) (.cons (has rfl) .nil) (by kernel_rfl) (.cons [(some 13, Ent.t 89 (VA.k kbool (scmp .eql x40 a0.Source)))] (run_skip rfl rfl rfl rfl rfl rfl NL.h0 hb42) (.cons (has rfl) .nil) (by kernel_rfl) (.cons [(some 13, Ent.t 89 (VA.k kbool (scmp .eql x40 a0.Source)))] (OpSpec.run rfl rfl (op_pick_f rfl hb42 (.t NL.h0) (.bool _)) rfl) (.cons (has rfl) .nil) (by kernel_rfl) (.cons [(some 18, Ent.t 94 (VA.k kbool false))] (OpSpec.run rfl rfl (op_assign rfl (.t NL.h0)) rfl) (.cons (has rfl) .nil) (by kernel_rfl) (.nil _))))))))))))))))))))) ?_
                refine ends_sub [Ent.t 4 (VA.k kbool false)] (.cons rfl .nil) ?_
                obtain rfl := Option.some.inj H
                exact ends_cut (.cons rfl .nil)
            · skip
              refine goes_drawn [[Ent.t 76 (VA.ptr 2 1)], [Ent.t 77 (VA.k (kslice kstr) a0.Needs)], [Ent.t 78 (VA.k (kint .i64) (a0.Needs.length : Int))], [Ent.t 79 (VA.k kbool (icmp .gtr (a0.Needs.length : Int) (0 : Int)))], [Ent.t 80 (VA.k kbool (icmp .gtr (a0.Needs.length : Int) (0 : Int)))], [Ent.t 81 (VA.v undef)], [Ent.t 82 (VA.v undef)], [Ent.t 83 (VA.v undef)], [Ent.t 84 (VA.v undef)], [Ent.t 85 (VA.v undef)], [Ent.t 86 (VA.v undef)], [Ent.t 87 (VA.v undef)], [Ent.t 88 (VA.k kbool false)], [Ent.t 89 (VA.k kbool false)], [Ent.t 90 (VA.v undef)], [Ent.t 91 (VA.v undef)], [Ent.t 92 (VA.v undef)], [Ent.t 93 (VA.v undef)], [Ent.t 94 (VA.k kbool false)], [Ent.t 4 (VA.k kbool false)]] mixed (by kernel_rfl) (by kernel_rfl) (.cons [(none, Ent.t 2 (VA.ptr 2 0))] (OpSpec.run rfl rfl (op_fieldAddr rfl Try.underlying48 rfl tk23 (.t NL.h0)) rfl) (.cons (has rfl) .nil) (by kernel_rfl) (.cons [(some 0, Ent.t 76 (VA.ptr 2 1)), (none, Ent.h 2 (HE.box 48 kNode a0))] (OpSpec.run rfl rfl (op_load rfl fldNode_Needs tk23 (.t NL.h0) (NL.hs NL.h0)) rfl) (.cons (has rfl) (.cons (has rfl) .nil)) (by kernel_rfl) (.cons [(some 1, Ent.t 77 (VA.k (kslice kstr) a0.Needs))] (OpSpec.run rfl rfl (op_len rfl rfl Try.underlying23 (.t NL.h0)) rfl) (.cons (has rfl) .nil) (by kernel_rfl) (.cons [(some 2, Ent.t 78 (VA.k (kint .i64) (a0.Needs.length : Int)))] (OpSpec.run rfl rfl (op_icmp rfl rfl (.t NL.h0) (.int _ _)) rfl) (.cons (has rfl) .nil) (by kernel_rfl) (.cons [(some 3, Ent.t 79 (VA.k kbool (icmp .gtr (a0.Needs.length : Int) (0 : Int))))] (OpSpec.run rfl rfl (op_move rfl (.t NL.h0)) rfl) (.cons (has rfl) .nil) (by kernel_rfl) (.cons [(some 4, Ent.t 80 (VA.k kbool (icmp .gtr (a0.Needs.length : Int) (0 : Int))))] (run_skip rfl rfl rfl rfl rfl rfl NL.h0 hb39) (.cons (has rfl) .nil) (by kernel_rfl) (.cons [(some 4, Ent.t 80 (VA.k kbool (icmp .gtr (a0.Needs.length : Int) (0 : Int))))] (run_skip rfl rfl rfl rfl rfl rfl NL.h0 hb39) (.cons (has rfl) .nil) (by kernel_rfl) (.cons [(some 4, Ent.t 80 (VA.k kbool (icmp .gtr (a0.Needs.length : Int) (0 : Int))))] (run_skip rfl rfl rfl rfl rfl rfl NL.h0 hb39) (.cons (has rfl) .nil) (by kernel_rfl) (.cons [(some 4, Ent.t 80 (VA.k kbool (icmp .gtr (a0.Needs.length : Int) (0 : Int))))] (run_skip rfl rfl rfl rfl rfl rfl NL.h0 hb39) (.cons (has rfl) .nil) (by kernel_rfl) (.cons [(some 4, Ent.t 80 (VA.k kbool (icmp .gtr (a0.Needs.length : Int) (0 : Int))))] (run_skip rfl rfl rfl rfl rfl rfl NL.h0 hb39) (.cons (has rfl) .nil) (by kernel_rfl) (.cons [(some 4, Ent.t 80 (VA.k kbool (icmp .gtr (a0.Needs.length : Int) (0 : Int))))] (run_skip rfl rfl rfl rfl rfl rfl NL.h0 hb39) (.cons (has rfl) .nil) (by kernel_rfl) (.cons [(some 4, Ent.t 80 (VA.k kbool (icmp .gtr (a0.Needs.length : Int) (0 : Int))))] (run_skip rfl rfl rfl rfl rfl rfl NL.h0 hb39) (.cons (has rfl) .nil) (by kernel_rfl) (.cons [(some 4, Ent.t 80 (VA.k kbool (icmp .gtr (a0.Needs.length : Int) (0 : Int))))] (OpSpec.run rfl rfl (op_pick_f rfl hb39 (.t NL.h0) (.bool _)) rfl) (.cons (has rfl) .nil) (by kernel_rfl) (.cons [(some 12, Ent.t 88 (VA.k kbool false))] (OpSpec.run rfl rfl (op_move rfl (.t NL.h0)) rfl) (.cons (has rfl) .nil) (by kernel_rfl) (.cons [(some 13, Ent.t 89 (VA.k kbool false))] (run_skip rfl rfl rfl rfl rfl rfl NL.h0 rfl) (.cons (has rfl) .nil) (by kernel_rfl) (.cons [(some 13, Ent.t 89 (VA.k kbool false))] (run_skip rfl rfl rfl rfl rfl rfl NL.h0 rfl) (.cons (has rfl) .nil) (by kernel_rfl) (.cons [(some 13, Ent.t 89 (VA.k kbool false))] (run_skip rfl rfl rfl rfl rfl rfl NL.h0 rfl) (.cons (has rfl) .nil) (by kernel_rfl) (.cons [(some 13, Ent.t 89 (VA.k kbool false))] (run_skip rfl rfl rfl rfl rfl rfl NL.h0 rfl) (.cons (has rfl) .nil) (by kernel_rfl) (.cons [(some 13, Ent.t 89 (VA.k kbool false))] (OpSpec.run rfl rfl (op_pick_f rfl rfl (.t NL.h0) (.bool _)) rfl) (.cons (has rfl) .nil) (by kernel_rfl) (.cons [(some 18, Ent.t 94 (VA.k kbool false))] (OpSpec.run rfl rfl (op_assign rfl (.t NL.h0)) rfl) (.cons (has rfl) .nil) (by kernel_rfl) (.nil _))))))))))))))))))))) ?_
              refine ends_sub [Ent.t 4 (VA.k kbool false)] (.cons rfl .nil) ?_
              obtain rfl := Option.some.inj H
              exact ends_cut (.cons rfl .nil)
          refine ends_then ?_
          obtain rfl := Option.some.inj H
          exact goes_ret (ends_ret' rfl rfl (.t rfl (.nil _)))
    · rintro r' rfl a w hr
      obtain rfl := Option.some.inj H
      exact hr
theorem resolve_right.conF (k : Nat) (a0 : Node) (a1 : GM Int) (r : Bool) (H : resolve_right.f k a0 a1 = some r) : ConF Try.prog 62 [VA.k kNode a0, VA.k (kmap Try.prog 9 (kint .i64)) a1] [VA.k kbool r] := (resolve_right.con k a0 a1 r H).freeL (.cons (KFree.k KFree.bool _) .nil)
/-! smithy/resolve.Check -/
def resolve_Check.l0 (a0 : Plan) : Nat → ((GM Int) × Int) → Option (Except Int (GM Int))
  | 0, _ => none
  | k + 1, s6 => bif icmp .lss s6.2 (a0.Nodes.length : Int) then ((idx a0.Nodes s6.2).bind fun x11 => (resolve_right.f k x11 s6.1).bind fun v13 => bif !v13 then (some (Except.error (7 : Int))) else ((gput s6.1 x11.Target (1 : Int)).bind fun x16 => resolve_Check.l0 a0 k (x16, IntKind.i64.wrap (s6.2 + (1 : Int))))) else (some (Except.ok s6.1))
def resolve_Check.l1 (a0 : Plan) (s7 : (GM Int)) : Nat → Int → Option (Except Int Unit)
  | 0, _ => none
  | k + 1, s18 => bif icmp .lss s18 (a0.Goals.length : Int) then ((idx a0.Goals s18).bind fun x23 => ((gget s7 (0 : Int) x23).bind fun x27 => bif icmp .neq x27 (1 : Int) then (some true) else ((sub a0.Goals (0 : Int) s18).bind fun x30 => (slices_Contains_string_string.f k x30 x23).bind fun v32 => some v32)).bind fun s25 => bif s25 then (some (Except.error (7 : Int))) else (resolve_Check.l1 a0 s7 k (IntKind.i64.wrap (s18 + (1 : Int))))) else (some (Except.ok ()))
def resolve_Check.f (k : Nat) (a0 : Plan) : Option Int := (bif icmp .gtr (a0.Nodes.length : Int) (256 : Int) then (some true) else (bif icmp .lss (a0.Goals.length : Int) (1 : Int) then (some true) else (some (icmp .gtr (a0.Goals.length : Int) (512 : Int))))).bind fun s1 => bif s1 then (some (7 : Int)) else ((resolve_Check.l0 a0 k ((gempty : GM Int), (0 : Int))).bind fun o9 => match o9 with | .error r' => some r' | .ok s7 => ((resolve_Check.l1 a0 s7 k (0 : Int)).bind fun o21 => match o21 with | .error r' => some r' | .ok s19 => (some (0 : Int))))
set_option maxRecDepth 100000 in
set_option maxHeartbeats 4000000 in
theorem resolve_Check.con (k : Nat) (a0 : Plan) (r : Int) (H : resolve_Check.f k a0 = some r) : Con Try.prog 54 [VA.k kPlan a0] [VA.k (kint .i64) r] := by
  unfold resolve_Check.f at H
  refine con_enter Try.func54 rfl rfl rfl (fun w0 S0 θ => ?_)
  refine goes_seq ?_
  refine goes_region ?_
  refine go3 (op_box 1 rfl (fun h => by first | rfl | cases h) (.t (has rfl))) rfl ?_
  refine go1 (op_assign rfl (.int _ _)) rfl ?_
  refine goesO_nil ?_
  refine ends_then ?_
  refine goes_seq ?_
  refine goes_seq ?_
  obtain ⟨s1, h2, H⟩ := bind_some H
  refine goes_cut [Ent.t 1 (VA.ptr 1 0), Ent.t 23 (VA.k kbool s1), Ent.h 1 (HE.box 25 kPlan a0)] ?_ ?_
  · replace H := h2; clear h2
    refine goes_region ?_
    refine go1 (op_fieldAddr rfl Try.underlying25 rfl tk22 (.t (has rfl))) rfl ?_
    refine go1 (op_load rfl fldPlan_Nodes tk22 (.t (has rfl)) (has rfl)) rfl ?_
    refine go1 (op_len rfl rfl Try.underlying22 (.t (has rfl))) rfl ?_
    refine go1 (op_icmp rfl rfl (.t (has rfl)) (.int _ _)) rfl ?_
    refine go1 (op_move rfl (.t (has rfl))) rfl ?_
    refine goesO_split H (fun hb3 H => ?_) (fun hb3 H => ?_)
    · skip
      refine goS rfl rfl rfl rfl rfl rfl hb3 ?_
      refine goS rfl rfl rfl rfl rfl rfl hb3 ?_
      refine goS rfl rfl rfl rfl rfl rfl hb3 ?_
      refine goS rfl rfl rfl rfl rfl rfl hb3 ?_
      refine go1 (op_pick_t rfl hb3 (.t (has rfl)) (.bool _)) rfl ?_
      refine go1 (op_move rfl (.t (has rfl))) rfl ?_
      refine goS rfl rfl rfl rfl rfl rfl rfl ?_
      refine goS rfl rfl rfl rfl rfl rfl rfl ?_
      refine goS rfl rfl rfl rfl rfl rfl rfl ?_
      refine goS rfl rfl rfl rfl rfl rfl rfl ?_
      refine go1 (op_pick_t rfl rfl (.t (has rfl)) (.bool _)) rfl ?_
      refine goesO_nil ?_
      obtain rfl := Option.some.inj H
      exact ends_cut (.cons rfl (.cons rfl (.cons rfl .nil)))
    · skip
      refine goG (op_fieldAddr rfl Try.underlying25 rfl tk23 (.t (has rfl))) rfl rfl rfl rfl hb3 ?_
      refine goG (op_load rfl fldPlan_Goals tk23 (.t (has rfl)) (has rfl)) rfl rfl rfl rfl hb3 ?_
      refine goG (op_len rfl rfl Try.underlying23 (.t (has rfl))) rfl rfl rfl rfl hb3 ?_
      refine goG (op_icmp rfl rfl (.t (has rfl)) (.int _ _)) rfl rfl rfl rfl hb3 ?_
      refine go1 (op_pick_f rfl hb3 (.t (has rfl)) (.t (has rfl))) rfl ?_
      refine go1 (op_move rfl (.t (has rfl))) rfl ?_
      refine goesO_split H (fun hb4 H => ?_) (fun hb4 H => ?_)
      · skip
        refine goS rfl rfl rfl rfl rfl rfl hb4 ?_
        refine goS rfl rfl rfl rfl rfl rfl hb4 ?_
        refine goS rfl rfl rfl rfl rfl rfl hb4 ?_
        refine goS rfl rfl rfl rfl rfl rfl hb4 ?_
        refine go1 (op_pick_t rfl hb4 (.t (has rfl)) (.bool _)) rfl ?_
        refine goesO_nil ?_
        obtain rfl := Option.some.inj H
        exact ends_cut (.cons rfl (.cons rfl (.cons rfl .nil)))
      · skip
        refine goG (op_fieldAddr rfl Try.underlying25 rfl tk23 (.t (has rfl))) rfl rfl rfl rfl hb4 ?_
        refine goG (op_load rfl fldPlan_Goals tk23 (.t (has rfl)) (has rfl)) rfl rfl rfl rfl hb4 ?_
        refine goG (op_len rfl rfl Try.underlying23 (.t (has rfl))) rfl rfl rfl rfl hb4 ?_
        refine goG (op_icmp rfl rfl (.t (has rfl)) (.int _ _)) rfl rfl rfl rfl hb4 ?_
        refine go1 (op_pick_f rfl hb4 (.t (has rfl)) (.t (has rfl))) rfl ?_
        refine goesO_nil ?_
        obtain rfl := Option.some.inj H
        exact ends_cut (.cons rfl (.cons rfl (.cons rfl .nil)))
  refine ends_then ?_
  refine goes_if (.t (has rfl)) H (fun hb5 H => ?_) (fun hb5 H => ?_)
  · skip
    refine goes_seq ?_
    refine goes_region ?_
    refine go1 (op_assign rfl (.int _ _)) rfl ?_
    refine goesO_nil ?_
    refine ends_then ?_
    obtain rfl := Option.some.inj H
    exact goes_ret (ends_then_ret (ends_ret' rfl rfl (.t rfl (.nil _))))
  · skip
    refine goes_skip ?_
    refine ends_then ?_
    refine goes_seq ?_
    refine goes_region ?_
    refine go3 (op_makeMap 9 (kint .i64) 24 rfl) rfl ?_
    refine go1 (op_assignA rfl plain_mp (.t (has rfl))) rfl ?_
    refine goesO_nil ?_
    refine ends_then ?_
    refine goes_seq ?_
    refine goes_seq ?_
    refine goes_region ?_
    refine go1 (op_fieldAddr rfl Try.underlying25 rfl tk22 (.t (has rfl))) rfl ?_
    refine go1 (op_load rfl fldPlan_Nodes tk22 (.t (has rfl)) (has rfl)) rfl ?_
    refine go1 (op_len rfl rfl Try.underlying22 (.t (has rfl))) rfl ?_
    refine go1 (op_move rfl (.int _ _)) rfl ?_
    refine goesO_nil ?_
    refine ends_then ?_
    obtain ⟨o9, h8, H⟩ := bind_some H
    refine goes_cutR (o := o9) (fun s7 : (GM Int) => [Ent.t 1 (VA.ptr 1 0), Ent.t 3 (VA.mp false 24), Ent.h 1 (HE.box 25 kPlan a0), Ent.h 24 (HE.map Try.prog 9 (kint .i64) s7)]) (fun r a w => bodyPost Try.prog Try.f54 (CPost w0 S0 θ [VA.k (kint .i64) r]) .ret a w) ?_ ?_ ?_
    · replace H := h8; clear h8
      refine goes_block ?_
      refine goes_loop (fun s6 : (GM Int) × Int => [Ent.t 1 (VA.ptr 1 0), Ent.t 3 (VA.mp false 24), Ent.t 26 (VA.k (kslice kNode) a0.Nodes), Ent.t 27 (VA.k (kint .i64) (a0.Nodes.length : Int)), Ent.t 28 (VA.k (kint .i64) s6.2), Ent.h 1 (HE.box 25 kPlan a0), Ent.h 24 (HE.map Try.prog 9 (kint .i64) s6.1)]) (fun k s6 => resolve_Check.l0 a0 k s6) (fun _ => rfl) H (.cons rfl (.cons rfl (.cons rfl (.cons rfl (.cons rfl (.cons rfl (.cons rfl .nil))))))) ?_
      intro k s6 H
      simp only [resolve_Check.l0] at H
      refine goes_seq ?_
      refine goes_region ?_
      refine go1 (op_icmp rfl rfl (.t (has rfl)) (.t (has rfl))) rfl ?_
      refine goesO_nil ?_
      refine ends_then ?_
      refine goes_seq ?_
      refine goes_if (.t (has rfl)) H (fun hb10 H => ?_) (fun hb10 H => ?_)
      · skip
        refine goes_skip ?_
        refine ends_then ?_
        refine goes_seq ?_
        refine goes_block ?_
        refine goes_seq ?_
        refine goes_region ?_
        obtain ⟨x11, h12, H⟩ := bind_some H
        refine go1 (op_indexAddr rfl Try.underlying22 tk48 h12 (.t (has rfl)) (.t (has rfl))) rfl ?_
        refine go1 (op_loadp rfl tk48 (.t (has rfl))) rfl ?_
        refine go3 (op_alloc 5 rfl zk48) rfl ?_
        refine go1 (op_store (Fld.whole kNode) tk48 (.t (has rfl)) (has rfl) (.t (has rfl))) rfl ?_
        refine goesO_nil ?_
        refine ends_then ?_
        refine goes_seq ?_
        refine goes_seq ?_
        refine goes_region ?_
        refine go1 (op_load rfl (Fld.whole kNode) tk48 (.t (has rfl)) (has rfl)) rfl ?_
        refine go1 (op_moveA rfl plain_mp (.t (has rfl))) rfl ?_
        obtain ⟨v13, h14, H⟩ := bind_some H
        refine go1 (op_callF' rfl enters62 (resolve_right.conF _ _ _ _ h14) rfl (.cons (ArgB.k (.t (has rfl))) (.cons (ArgB.mp (.t (has rfl)) (has rfl)) .nil))) rfl ?_
        refine go1 (op_not rfl (.t (has rfl))) rfl ?_
        refine goesO_nil ?_
        refine ends_then ?_
        refine goes_if (.t (has rfl)) H (fun hb15 H => ?_) (fun hb15 H => ?_)
        · skip
          refine goes_seq ?_
          refine goes_region ?_
          refine go1 (op_assign rfl (.int _ _)) rfl ?_
          refine goesO_nil ?_
          refine ends_then ?_
          obtain rfl := Option.some.inj H
          refine goes_ret (ends_then_ret (ends_block_ret (ends_then_ret (ends_then_ret (ends_block_ret (ends_cutR_ret rfl ?_))))))
          exact ends_ret' rfl rfl (.t rfl (.nil _))
        · skip
          refine goes_skip ?_
          refine ends_then ?_
          refine goes_region ?_
          refine go1 (op_moveA rfl plain_mp (.t (has rfl))) rfl ?_
          refine go1 (op_fieldAddr rfl Try.underlying48 rfl tk9 (.t (has rfl))) rfl ?_
          refine go1 (op_load rfl fldNode_Target tk9 (.t (has rfl)) (has rfl)) rfl ?_
          obtain ⟨x16, h17, H⟩ := bind_some H
          refine go1 (op_mapUpdate xmt64 h17 (.t (has rfl)) (has rfl) (.t (has rfl)) (.int _ _)) rfl ?_
          refine goesO_nil ?_
          refine ends_block ?_
          refine ends_then ?_
          refine goes_region ?_
          refine go1 (op_add rfl (.t (has rfl)) (.int _ _)) rfl ?_
          refine go1 (op_move rfl (.t (has rfl))) rfl ?_
          refine goesO_nil ?_
          exact loop_next _ H (.cons rfl (.cons rfl (.cons rfl (.cons rfl (.cons rfl (.cons rfl (.cons rfl .nil)))))))
      · skip
        refine goes_exit (ends_then_exit (ends_then_exit (ends_block_exit ?_)))
        obtain rfl := Option.some.inj H
        exact ends_cutR rfl (.cons rfl (.cons rfl (.cons rfl (.cons rfl .nil))))
    · rintro s7 rfl
      clear h8
      dsimp only at H
      refine ends_then ?_
      refine goes_seq ?_
      refine goes_seq ?_
      refine goes_region ?_
      refine go1 (op_fieldAddr rfl Try.underlying25 rfl tk23 (.t (has rfl))) rfl ?_
      refine go1 (op_load rfl fldPlan_Goals tk23 (.t (has rfl)) (has rfl)) rfl ?_
      refine go1 (op_len rfl rfl Try.underlying23 (.t (has rfl))) rfl ?_
      refine go1 (op_move rfl (.int _ _)) rfl ?_
      refine goesO_nil ?_
      refine ends_then ?_
      obtain ⟨o21, h20, H⟩ := bind_some H
      refine goes_cutR (o := o21) (fun s19 : Unit => []) (fun r a w => bodyPost Try.prog Try.f54 (CPost w0 S0 θ [VA.k (kint .i64) r]) .ret a w) ?_ ?_ ?_
      · replace H := h20; clear h20
        refine goes_block ?_
        refine goes_loop (fun s18 : Int => [Ent.t 1 (VA.ptr 1 0), Ent.t 3 (VA.mp false 24), Ent.t 41 (VA.k (kslice kstr) a0.Goals), Ent.t 42 (VA.k (kint .i64) (a0.Goals.length : Int)), Ent.t 43 (VA.k (kint .i64) s18), Ent.h 1 (HE.box 25 kPlan a0), Ent.h 24 (HE.map Try.prog 9 (kint .i64) s7)]) (fun k s18 => resolve_Check.l1 a0 s7 k s18) (fun _ => rfl) H (.cons rfl (.cons rfl (.cons rfl (.cons rfl (.cons rfl (.cons rfl (.cons rfl .nil))))))) ?_
        intro k s18 H
        simp only [resolve_Check.l1] at H
        refine goes_seq ?_
        refine goes_region ?_
        refine go1 (op_icmp rfl rfl (.t (has rfl)) (.t (has rfl))) rfl ?_
        refine goesO_nil ?_
        refine ends_then ?_
        refine goes_seq ?_
        refine goes_if (.t (has rfl)) H (fun hb22 H => ?_) (fun hb22 H => ?_)
        · skip
          refine goes_skip ?_
          refine ends_then ?_
          refine goes_seq ?_
          refine goes_block ?_
          refine goes_seq ?_
          refine goes_region ?_
          refine go1 (op_move rfl (.t (has rfl))) rfl ?_
          obtain ⟨x23, h24, H⟩ := bind_some H
          refine go1 (op_indexAddr rfl Try.underlying23 tk9 h24 (.t (has rfl)) (.t (has rfl))) rfl ?_
          refine go1 (op_loadp rfl tk9 (.t (has rfl))) rfl ?_
          refine go1 (op_assign rfl (.t (has rfl))) rfl ?_
          refine go1 (op_assign rfl (.t (has rfl))) rfl ?_
          refine goesO_nil ?_
          refine ends_then ?_
          refine goes_seq ?_
          obtain ⟨s25, h26, H⟩ := bind_some H
          refine goes_cut [Ent.t 1 (VA.ptr 1 0), Ent.t 3 (VA.mp false 24), Ent.t 41 (VA.k (kslice kstr) a0.Goals), Ent.t 42 (VA.k (kint .i64) (a0.Goals.length : Int)), Ent.t 43 (VA.k (kint .i64) s18), Ent.t 59 (VA.k kbool s25), Ent.h 1 (HE.box 25 kPlan a0), Ent.h 24 (HE.map Try.prog 9 (kint .i64) s7)] ?_ ?_
          · replace H := h26; clear h26
            refine goes_region ?_
            refine go1 (op_moveA rfl plain_mp (.t (has rfl))) rfl ?_
            refine go1 (op_move rfl (.t (has rfl))) rfl ?_
            obtain ⟨x27, h28, H⟩ := bind_some H
            refine go1 (op_lookup rfl xmt64 h28 (.t (has rfl)) (has rfl) (.t (has rfl))) rfl ?_
            refine go1 (op_icmp rfl rfl (.t (has rfl)) (.int _ _)) rfl ?_
            refine go1 (op_move rfl (.t (has rfl))) rfl ?_
            refine goesO_split H (fun hb29 H => ?_) (fun hb29 H => ?_)
            · skip
              refine goS rfl rfl rfl rfl rfl rfl hb29 ?_
              refine goS rfl rfl rfl rfl rfl rfl hb29 ?_
              refine goS rfl rfl rfl rfl rfl rfl hb29 ?_
              refine goS rfl rfl rfl rfl rfl rfl hb29 ?_
              refine goS rfl rfl rfl rfl rfl rfl hb29 ?_
              refine goS rfl rfl rfl rfl rfl rfl hb29 ?_
              refine go1 (op_pick_t rfl hb29 (.t (has rfl)) (.bool _)) rfl ?_
              refine goesO_nil ?_
              obtain rfl := Option.some.inj H
              exact ends_cut (.cons rfl (.cons rfl (.cons rfl (.cons rfl (.cons rfl (.cons rfl (.cons rfl (.cons rfl .nil))))))))
            · skip
              refine goG (op_fieldAddr rfl Try.underlying25 rfl tk23 (.t (has rfl))) rfl rfl rfl rfl hb29 ?_
              refine goG (op_load rfl fldPlan_Goals tk23 (.t (has rfl)) (has rfl)) rfl rfl rfl rfl hb29 ?_
              refine goG (op_move rfl (.t (has rfl))) rfl rfl rfl rfl hb29 ?_
              obtain ⟨x30, h31, H⟩ := bind_some H
              refine goG (op_slice (l := none) (h := some _) rfl Try.underlying23 tk9 h31 (.t (has rfl)) trivial (.t (has rfl))) rfl rfl rfl rfl hb29 ?_
              refine goG (op_move rfl (.t (has rfl))) rfl rfl rfl rfl hb29 ?_
              obtain ⟨v32, h33, H⟩ := bind_some H
              refine goG (op_call' rfl enters63 (slices_Contains_string_string.con _ _ _ _ h33) rfl (.cons (ArgP.k (.t (has rfl))) (.cons (ArgP.k (.t (has rfl))) .nil))) rfl rfl rfl rfl hb29 ?_
              refine go1 (op_pick_f rfl hb29 (.t (has rfl)) (.t (has rfl))) rfl ?_
              refine goesO_nil ?_
              obtain rfl := Option.some.inj H
              exact ends_cut (.cons rfl (.cons rfl (.cons rfl (.cons rfl (.cons rfl (.cons rfl (.cons rfl (.cons rfl .nil))))))))
          refine ends_then ?_
          refine goes_if (.t (has rfl)) H (fun hb34 H => ?_) (fun hb34 H => ?_)
          · skip
            refine goes_seq ?_
            refine goes_region ?_
            refine go1 (op_assign rfl (.int _ _)) rfl ?_
            refine goesO_nil ?_
            refine ends_then ?_
            obtain rfl := Option.some.inj H
            refine goes_ret (ends_block_ret (ends_then_ret (ends_then_ret (ends_block_ret (ends_cutR_ret rfl ?_)))))
            exact ends_ret' rfl rfl (.t rfl (.nil _))
          · skip
            refine goes_skip ?_
            refine ends_block ?_
            refine ends_then ?_
            refine goes_region ?_
            refine go1 (op_add rfl (.t (has rfl)) (.int _ _)) rfl ?_
            refine go1 (op_move rfl (.t (has rfl))) rfl ?_
            refine goesO_nil ?_
            exact loop_next _ H (.cons rfl (.cons rfl (.cons rfl (.cons rfl (.cons rfl (.cons rfl (.cons rfl .nil)))))))
        · skip
          refine goes_exit (ends_then_exit (ends_then_exit (ends_block_exit ?_)))
          obtain rfl := Option.some.inj H
          exact ends_cutR rfl .nil
      · rintro s19 rfl
        clear h20
        dsimp only at H
        refine ends_then ?_
        refine goes_seq ?_
        refine goes_region ?_
        refine go1 (op_assign rfl (.int _ _)) rfl ?_
        refine goesO_nil ?_
        refine ends_then ?_
        obtain rfl := Option.some.inj H
        exact goes_ret (ends_ret' rfl rfl (.t rfl (.nil _)))
      · rintro r' rfl a w hr
        obtain rfl := Option.some.inj H
        exact hr
    · rintro r' rfl a w hr
      obtain rfl := Option.some.inj H
      exact hr
/-! smithy/walk.targets -/
def walk_targets.l0 (a0 : Plan) : Nat → ((List ByteArray) × Int) → Option (List ByteArray)
  | 0, _ => none
  | k + 1, s1 => bif icmp .lss s1.2 (a0.Nodes.length : Int) then ((idx a0.Nodes s1.2).bind fun x5 => (app 16 s1.1 ([x5.Target])).bind fun x7 => walk_targets.l0 a0 k (x7, IntKind.i64.wrap (s1.2 + (1 : Int)))) else (some s1.1)
def walk_targets.f (k : Nat) (a0 : Plan) : Option (List ByteArray) := (walk_targets.l0 a0 k (([] : List ByteArray), (0 : Int))).bind fun s2 => some s2
set_option maxRecDepth 100000 in
set_option maxHeartbeats 4000000 in
theorem walk_targets.con (k : Nat) (a0 : Plan) (r : List ByteArray) (H : walk_targets.f k a0 = some r) : Con Try.prog 46 [VA.k kPlan a0] [VA.own 9 kstr r] := by
  unfold walk_targets.f at H
  refine con_enter Try.func46 rfl rfl rfl (fun w0 S0 θ => ?_)
  refine goes_seq ?_
  refine goes_region ?_
  refine go3 (op_box 1 rfl (fun h => by first | rfl | cases h) (.t (has rfl))) rfl ?_
  refine go1 (op_assign_nil 9 kstr (.inr rfl) rfl) rfl ?_
  refine goesO_nil ?_
  refine ends_then ?_
  refine goes_seq ?_
  refine goes_region ?_
  refine go1 (op_assign_nil 9 kstr (.inr rfl) rfl) rfl ?_
  refine goesO_nil ?_
  refine ends_then ?_
  refine goes_seq ?_
  refine goes_seq ?_
  refine goes_region ?_
  refine go1 (op_fieldAddr rfl Try.underlying25 rfl tk22 (.t (has rfl))) rfl ?_
  refine go1 (op_load rfl fldPlan_Nodes tk22 (.t (has rfl)) (has rfl)) rfl ?_
  refine go1 (op_len rfl rfl Try.underlying22 (.t (has rfl))) rfl ?_
  refine go1 (op_move rfl (.int _ _)) rfl ?_
  refine goesO_nil ?_
  refine ends_then ?_
  obtain ⟨s2, h3, H⟩ := bind_some H
  refine goes_cut [Ent.t 3 (VA.own 9 kstr s2)] ?_ ?_
  · replace H := h3; clear h3
    refine goes_block ?_
    refine goes_loop (fun s1 : (List ByteArray) × Int => [Ent.t 3 (VA.own 9 kstr s1.1), Ent.t 7 (VA.k (kslice kNode) a0.Nodes), Ent.t 8 (VA.k (kint .i64) (a0.Nodes.length : Int)), Ent.t 9 (VA.k (kint .i64) s1.2)]) (fun k s1 => walk_targets.l0 a0 k s1) (fun _ => rfl) H (.cons rfl (.cons rfl (.cons rfl (.cons rfl .nil)))) ?_
    intro k s1 H
    simp only [walk_targets.l0] at H
    refine goes_seq ?_
    refine goes_region ?_
    refine go1 (op_icmp rfl rfl (.t (has rfl)) (.t (has rfl))) rfl ?_
    refine goesO_nil ?_
    refine ends_then ?_
    refine goes_seq ?_
    refine goes_if (.t (has rfl)) H (fun hb4 H => ?_) (fun hb4 H => ?_)
    · skip
      refine goes_skip ?_
      refine ends_then ?_
      refine goes_seq ?_
      refine goes_block ?_
      refine goes_seq ?_
      refine goes_region ?_
      obtain ⟨x5, h6, H⟩ := bind_some H
      refine go1 (op_indexAddr rfl Try.underlying22 tk48 h6 (.t (has rfl)) (.t (has rfl))) rfl ?_
      refine go1 (op_loadp rfl tk48 (.t (has rfl))) rfl ?_
      refine go3 (op_alloc 5 rfl zk48) rfl ?_
      refine go1 (op_store (Fld.whole kNode) tk48 (.t (has rfl)) (has rfl) (.t (has rfl))) rfl ?_
      refine goesO_nil ?_
      refine ends_then ?_
      refine goes_region ?_
      refine go2 (op_mv (.inl rfl) rfl rfl (has rfl)) rfl ?_
      refine go1 (op_fieldAddr rfl Try.underlying48 rfl tk9 (.t (has rfl))) rfl ?_
      refine go1 (op_load rfl fldNode_Target tk9 (.t (has rfl)) (has rfl)) rfl ?_
      refine go1 (op_buildSlice rfl at23 (fun h => by first | rfl | cases h) rfl rfl rfl (.cons (.t (has rfl)) (.nil _))) rfl ?_
      obtain ⟨x7, h8, H⟩ := bind_some H
      refine go2 (op_append rfl rfl at23 h8 (has rfl) (ReadsArg.own (.t (has rfl)))) rfl ?_
      refine go2 (op_mv (.inr rfl) rfl rfl (has rfl)) rfl ?_
      refine goesO_nil ?_
      refine ends_block ?_
      refine ends_then ?_
      refine goes_region ?_
      refine go1 (op_add rfl (.t (has rfl)) (.int _ _)) rfl ?_
      refine go1 (op_move rfl (.t (has rfl))) rfl ?_
      refine goesO_nil ?_
      exact loop_next _ H (.cons rfl (.cons rfl (.cons rfl (.cons rfl .nil))))
    · skip
      refine goes_exit (ends_then_exit (ends_then_exit (ends_block_exit ?_)))
      obtain rfl := Option.some.inj H
      exact ends_cut (.cons rfl .nil)
  refine ends_then ?_
  refine goes_seq ?_
  refine goes_region ?_
  refine go2 (op_mv (.inl rfl) rfl rfl (has rfl)) rfl ?_
  refine go2 (op_mv (.inr rfl) rfl rfl (has rfl)) rfl ?_
  refine goesO_nil ?_
  refine ends_then ?_
  obtain rfl := Option.some.inj H
  exact goes_ret (ends_ret' rfl rfl (.t rfl (.nil _)))
/-! smithy/walk.setOf[string] -/
def walk_setOf_string.l0 (a0 : List ByteArray) : Nat → ((GM Int) × Int) → Option (GM Int)
  | 0, _ => none
  | k + 1, s1 => bif icmp .lss s1.2 (a0.length : Int) then ((idx a0 s1.2).bind fun x5 => (gput s1.1 x5 (1 : Int)).bind fun x7 => walk_setOf_string.l0 a0 k (x7, IntKind.i64.wrap (s1.2 + (1 : Int)))) else (some s1.1)
def walk_setOf_string.f (k : Nat) (a0 : List ByteArray) : Option (GM Int) := (walk_setOf_string.l0 a0 k ((gempty : GM Int), (0 : Int))).bind fun s2 => some s2
set_option maxRecDepth 100000 in
set_option maxHeartbeats 4000000 in
theorem walk_setOf_string.con (k : Nat) (a0 : List ByteArray) (r : GM Int) (H : walk_setOf_string.f k a0 = some r) : Con Try.prog 35 [VA.k (kslice kstr) a0] [VA.om Try.prog 9 (kint .i64) true r] := by
  unfold walk_setOf_string.f at H
  refine con_enter Try.func35 rfl rfl rfl (fun w0 S0 θ => ?_)
  refine goes_seq ?_
  refine goes_region ?_
  refine go3 (op_alloc_raw 2 rfl xaz66 rfl) rfl ?_
  refine goesO_nil ?_
  refine ends_then ?_
  refine goes_seq ?_
  refine goes_region ?_
  refine go3 (op_makeMap 9 (kint .i64) 6 rfl) rfl ?_
  refine go1 (op_build_mp rfl xbm66 (.t (has rfl))) rfl ?_
  refine go3 (op_alloc_raw 3 rfl xaz66 rfl) rfl ?_
  refine go1 (op_store_mp xmz66 (.inl rfl) (.t (has rfl)) (has rfl) (.t (has rfl))) rfl ?_
  refine goesO_nil ?_
  refine ends_then ?_
  refine goes_seq ?_
  refine goes_seq ?_
  refine goes_region ?_
  refine go1 (op_move rfl (.t (has rfl))) rfl ?_
  refine go1 (op_len rfl rfl Try.underlying23 (.t (has rfl))) rfl ?_
  refine go1 (op_move rfl (.int _ _)) rfl ?_
  refine goesO_nil ?_
  refine ends_then ?_
  obtain ⟨s2, h3, H⟩ := bind_some H
  refine goes_cut [Ent.t 2 (VA.ptr 2 0), Ent.t 3 (VA.ptr 3 0), Ent.h 2 (HE.raw 66 1), Ent.h 3 (HE.boxm 66 6), Ent.h 6 (HE.map Try.prog 9 (kint .i64) s2)] ?_ ?_
  · replace H := h3; clear h3
    refine goes_block ?_
    refine goes_loop (fun s1 : (GM Int) × Int => [Ent.t 2 (VA.ptr 2 0), Ent.t 3 (VA.ptr 3 0), Ent.t 8 (VA.k (kslice kstr) a0), Ent.t 9 (VA.k (kint .i64) (a0.length : Int)), Ent.t 10 (VA.k (kint .i64) s1.2), Ent.h 2 (HE.raw 66 1), Ent.h 3 (HE.boxm 66 6), Ent.h 6 (HE.map Try.prog 9 (kint .i64) s1.1)]) (fun k s1 => walk_setOf_string.l0 a0 k s1) (fun _ => rfl) H (.cons rfl (.cons rfl (.cons rfl (.cons rfl (.cons rfl (.cons rfl (.cons rfl (.cons rfl .nil)))))))) ?_
    intro k s1 H
    simp only [walk_setOf_string.l0] at H
    refine goes_seq ?_
    refine goes_region ?_
    refine go1 (op_icmp rfl rfl (.t (has rfl)) (.t (has rfl))) rfl ?_
    refine goesO_nil ?_
    refine ends_then ?_
    refine goes_seq ?_
    refine goes_if (.t (has rfl)) H (fun hb4 H => ?_) (fun hb4 H => ?_)
    · skip
      refine goes_skip ?_
      refine ends_then ?_
      refine goes_seq ?_
      refine goes_block ?_
      refine goes_seq ?_
      refine goes_region ?_
      obtain ⟨x5, h6, H⟩ := bind_some H
      refine go1 (op_indexAddr rfl Try.underlying23 tk9 h6 (.t (has rfl)) (.t (has rfl))) rfl ?_
      refine go1 (op_loadp rfl tk9 (.t (has rfl))) rfl ?_
      refine go1 (op_assign rfl (.t (has rfl))) rfl ?_
      refine goesO_nil ?_
      refine ends_then ?_
      refine goes_region ?_
      refine go1 (op_fieldAddrM rfl Try.underlying66 rfl xmz64 (.t (has rfl))) rfl ?_
      refine go1 (op_load_mp rfl xmz64 (.t (has rfl)) (has rfl)) rfl ?_
      refine go1 (op_move rfl (.t (has rfl))) rfl ?_
      obtain ⟨x7, h8, H⟩ := bind_some H
      refine go1 (op_mapUpdate xmt64 h8 (.t (has rfl)) (has rfl) (.t (has rfl)) (.int _ _)) rfl ?_
      refine goesO_nil ?_
      refine ends_block ?_
      refine ends_then ?_
      refine goes_region ?_
      refine go1 (op_add rfl (.t (has rfl)) (.int _ _)) rfl ?_
      refine go1 (op_move rfl (.t (has rfl))) rfl ?_
      refine goesO_nil ?_
      exact loop_next _ H (.cons rfl (.cons rfl (.cons rfl (.cons rfl (.cons rfl (.cons rfl (.cons rfl (.cons rfl .nil))))))))
    · skip
      refine goes_exit (ends_then_exit (ends_then_exit (ends_block_exit ?_)))
      obtain rfl := Option.some.inj H
      exact ends_cut (.cons rfl (.cons rfl (.cons rfl (.cons rfl (.cons rfl .nil)))))
  refine ends_then ?_
  refine goes_seq ?_
  refine goes_region ?_
  refine go1 (op_load_mp rfl xmz66 (.t (has rfl)) (has rfl)) rfl ?_
  refine go1 (op_store_mp xmz66 (.inl rfl) (.t (has rfl)) (has rfl) (.t (has rfl))) rfl ?_
  refine goesO_nil ?_
  refine ends_then ?_
  obtain rfl := Option.some.inj H
  exact goes_ret (ends_ret' rfl rfl (.cm rfl rfl rfl xmz66 (.nil _)))
/-! (smithy/walk.set[string]).has -/
def walk_set_string_has.f (a0 : WalkSet_string_) (a1 : ByteArray) : Option Bool := (gget a0.l (0 : Int) a1).bind fun x1 => some (icmp .eql x1 (1 : Int))
set_option maxRecDepth 100000 in
set_option maxHeartbeats 4000000 in
theorem walk_set_string_has.con (a0 : WalkSet_string_) (a1 : ByteArray) (r : Bool) (H : walk_set_string_has.f a0 a1 = some r) : Con Try.prog 36 [VA.k kWalkSet_string_ a0, VA.k kstr a1] [VA.k kbool r] := by
  unfold walk_set_string_has.f at H
  refine con_enter Try.func36 rfl rfl rfl (fun w0 S0 θ => ?_)
  refine goes_seq ?_
  refine goes_region ?_
  refine go3 (op_box 2 rfl (fun h => by first | rfl | cases h) (.t (has rfl))) rfl ?_
  refine go1 (op_assign rfl (.bool _)) rfl ?_
  refine goesO_nil ?_
  refine ends_then ?_
  refine goes_seq ?_
  refine goes_region ?_
  refine go1 (op_fieldAddrM rfl Try.underlying66 rfl xmz64 (.t (has rfl))) rfl ?_
  refine go1 (op_load rfl fldWalkSet_string__l tk64 (.t (has rfl)) (has rfl)) rfl ?_
  refine go1 (op_move rfl (.t (has rfl))) rfl ?_
  obtain ⟨x1, h2, H⟩ := bind_some H
  refine go1 (op_lookup_k rfl xmt64 h2 (.t (has rfl)) (.t (has rfl))) rfl ?_
  refine go1 (op_icmp rfl rfl (.t (has rfl)) (.int _ _)) rfl ?_
  refine go1 (op_assign rfl (.t (has rfl))) rfl ?_
  refine goesO_nil ?_
  refine ends_then ?_
  obtain rfl := Option.some.inj H
  exact goes_ret (ends_ret' rfl rfl (.t rfl (.nil _)))
theorem walk_set_string_has.conF (a0 : WalkSet_string_) (a1 : ByteArray) (r : Bool) (H : walk_set_string_has.f a0 a1 = some r) : ConF Try.prog 36 [VA.k kWalkSet_string_ a0, VA.k kstr a1] [VA.k kbool r] := (walk_set_string_has.con a0 a1 r H).freeL (.cons (KFree.k KFree.bool _) .nil)
/-! smithy/walk.asked$1 -/
def walk_asked_1.f (a0 : ByteArray) (c0 : WalkSet_string_) : Option Bool := (walk_set_string_has.f c0 a0).bind fun v1 => some (!v1)
set_option maxRecDepth 100000 in
set_option maxHeartbeats 4000000 in
theorem walk_asked_1.con (a0 : ByteArray) (c0 : WalkSet_string_) (r : Bool) (H : walk_asked_1.f a0 c0 = some r) : Con Try.prog 56 [VA.k kstr a0, VA.pt kWalkSet_string_ c0] [VA.k kbool r] := by
  unfold walk_asked_1.f at H
  refine con_enter Try.func56 rfl rfl rfl (fun w0 S0 θ => ?_)
  refine goes_seq ?_
  refine goes_region ?_
  refine go1 (op_assign rfl (.bool _)) rfl ?_
  refine goesO_nil ?_
  refine ends_then ?_
  refine goes_seq ?_
  refine goes_region ?_
  refine go1 (op_loadp rfl tk66 (.t (has rfl))) rfl ?_
  refine go1 (op_move rfl (.t (has rfl))) rfl ?_
  obtain ⟨v1, h2, H⟩ := bind_some H
  refine go1 (op_call' rfl enters36 (walk_set_string_has.con _ _ _ h2) rfl (.cons (ArgP.k (.t (has rfl))) (.cons (ArgP.k (.t (has rfl))) .nil))) rfl ?_
  refine go1 (op_not rfl (.t (has rfl))) rfl ?_
  refine go1 (op_assign rfl (.t (has rfl))) rfl ?_
  refine goesO_nil ?_
  refine ends_then ?_
  obtain rfl := Option.some.inj H
  exact goes_ret (ends_ret' rfl rfl (.t rfl (.nil _)))
/-! smithy/walk.asked -/
def walk_asked.l0 (a1 : List ByteArray) : Nat → Int → Option (Except Int Unit)
  | 0, _ => none
  | k + 1, s5 => bif icmp .lss s5 (a1.length : Int) then ((idx a1 s5).bind fun x10 => (names_Check.f k x10).bind fun v12 => bif icmp .neq v12 (0 : Int) then (some (Except.error v12)) else (walk_asked.l0 a1 k (IntKind.i64.wrap (s5 + (1 : Int))))) else (some (Except.ok ()))
def walk_asked.f (k : Nat) (a0 : Plan) (a1 : List ByteArray) : Option Int := (resolve_Check.f k a0).bind fun v1 => bif icmp .neq v1 (0 : Int) then (some v1) else (bif icmp .gtr (a1.length : Int) (512 : Int) then (some (2 : Int)) else ((walk_asked.l0 a1 k (0 : Int)).bind fun o8 => match o8 with | .error r' => some r' | .ok s6 => ((walk_targets.f k a0).bind fun v15 => (walk_setOf_string.f k v15).bind fun v17 => (slices_ContainsFunc_string_string.f k a1 (fun (z0 : ByteArray) => walk_asked_1.f z0 (⟨v17⟩ : WalkSet_string_))).bind fun v19 => bif v19 then (some (9 : Int)) else (some (0 : Int)))))
set_option maxRecDepth 100000 in
set_option maxHeartbeats 4000000 in
theorem walk_asked.con (k : Nat) (a0 : Plan) (a1 : List ByteArray) (r : Int) (H : walk_asked.f k a0 a1 = some r) : Con Try.prog 34 [VA.k kPlan a0, VA.k (kslice kstr) a1] [VA.k (kint .i64) r] := by
  unfold walk_asked.f at H
  refine con_enter Try.func34 rfl rfl rfl (fun w0 S0 θ => ?_)
  refine goes_seq ?_
  refine goes_region ?_
  refine go3 (op_box 2 rfl (fun h => by first | rfl | cases h) (.t (has rfl))) rfl ?_
  refine go1 (op_assign rfl (.int _ _)) rfl ?_
  refine goesO_nil ?_
  refine ends_then ?_
  refine goes_seq ?_
  refine goes_seq ?_
  refine goes_region ?_
  refine go1 (op_load rfl (Fld.whole kPlan) tk25 (.t (has rfl)) (has rfl)) rfl ?_
  obtain ⟨v1, h2, H⟩ := bind_some H
  refine go1 (op_call' rfl enters54 (resolve_Check.con _ _ _ h2) rfl (.cons (ArgP.k (.t (has rfl))) .nil)) rfl ?_
  refine go1 (op_assign rfl (.t (has rfl))) rfl ?_
  refine goesO_nil ?_
  refine ends_then ?_
  refine goes_seq ?_
  refine goes_region ?_
  refine go1 (op_move rfl (.t (has rfl))) rfl ?_
  refine go1 (op_icmp rfl rfl (.t (has rfl)) (.int _ _)) rfl ?_
  refine goesO_nil ?_
  refine ends_then ?_
  refine goes_if (.t (has rfl)) H (fun hb3 H => ?_) (fun hb3 H => ?_)
  · skip
    refine goes_seq ?_
    refine goes_region ?_
    refine go1 (op_move rfl (.t (has rfl))) rfl ?_
    refine go1 (op_assign rfl (.t (has rfl))) rfl ?_
    refine goesO_nil ?_
    refine ends_then ?_
    obtain rfl := Option.some.inj H
    exact goes_ret (ends_then_ret (ends_ret' rfl rfl (.t rfl (.nil _))))
  · skip
    refine goes_skip ?_
    refine ends_then ?_
    refine goes_seq ?_
    refine goes_seq ?_
    refine goes_region ?_
    refine go1 (op_move rfl (.t (has rfl))) rfl ?_
    refine go1 (op_len rfl rfl Try.underlying23 (.t (has rfl))) rfl ?_
    refine go1 (op_icmp rfl rfl (.t (has rfl)) (.int _ _)) rfl ?_
    refine goesO_nil ?_
    refine ends_then ?_
    refine goes_if (.t (has rfl)) H (fun hb4 H => ?_) (fun hb4 H => ?_)
    · skip
      refine goes_seq ?_
      refine goes_region ?_
      refine go1 (op_assign rfl (.int _ _)) rfl ?_
      refine goesO_nil ?_
      refine ends_then ?_
      obtain rfl := Option.some.inj H
      exact goes_ret (ends_then_ret (ends_ret' rfl rfl (.t rfl (.nil _))))
    · skip
      refine goes_skip ?_
      refine ends_then ?_
      refine goes_seq ?_
      refine goes_seq ?_
      refine goes_region ?_
      refine go1 (op_move rfl (.t (has rfl))) rfl ?_
      refine go1 (op_len rfl rfl Try.underlying23 (.t (has rfl))) rfl ?_
      refine go1 (op_move rfl (.int _ _)) rfl ?_
      refine goesO_nil ?_
      refine ends_then ?_
      obtain ⟨o8, h7, H⟩ := bind_some H
      refine goes_cutR (o := o8) (fun s6 : Unit => [Ent.t 1 (VA.k (kslice kstr) a1), Ent.t 2 (VA.ptr 2 0), Ent.h 2 (HE.box 25 kPlan a0)]) (fun r a w => bodyPost Try.prog Try.f34 (CPost w0 S0 θ [VA.k (kint .i64) r]) .ret a w) ?_ ?_ ?_
      · replace H := h7; clear h7
        refine goes_block ?_
        refine goes_loop (fun s5 : Int => [Ent.t 1 (VA.k (kslice kstr) a1), Ent.t 2 (VA.ptr 2 0), Ent.t 18 (VA.k (kslice kstr) a1), Ent.t 19 (VA.k (kint .i64) (a1.length : Int)), Ent.t 20 (VA.k (kint .i64) s5), Ent.h 2 (HE.box 25 kPlan a0)]) (fun k s5 => walk_asked.l0 a1 k s5) (fun _ => rfl) H (.cons rfl (.cons rfl (.cons rfl (.cons rfl (.cons rfl (.cons rfl .nil)))))) ?_
        intro k s5 H
        simp only [walk_asked.l0] at H
        refine goes_seq ?_
        refine goes_region ?_
        refine go1 (op_icmp rfl rfl (.t (has rfl)) (.t (has rfl))) rfl ?_
        refine goesO_nil ?_
        refine ends_then ?_
        refine goes_seq ?_
        refine goes_if (.t (has rfl)) H (fun hb9 H => ?_) (fun hb9 H => ?_)
        · skip
          refine goes_skip ?_
          refine ends_then ?_
          refine goes_seq ?_
          refine goes_block ?_
          refine goes_seq ?_
          refine goes_region ?_
          obtain ⟨x10, h11, H⟩ := bind_some H
          refine go1 (op_indexAddr rfl Try.underlying23 tk9 h11 (.t (has rfl)) (.t (has rfl))) rfl ?_
          refine go1 (op_loadp rfl tk9 (.t (has rfl))) rfl ?_
          refine go1 (op_assign rfl (.t (has rfl))) rfl ?_
          refine goesO_nil ?_
          refine ends_then ?_
          refine goes_seq ?_
          refine goes_region ?_
          refine go1 (op_move rfl (.t (has rfl))) rfl ?_
          obtain ⟨v12, h13, H⟩ := bind_some H
          refine go1 (op_call' rfl enters55 (names_Check.con _ _ _ h13) rfl (.cons (ArgP.k (.t (has rfl))) .nil)) rfl ?_
          refine go1 (op_assign rfl (.t (has rfl))) rfl ?_
          refine goesO_nil ?_
          refine ends_then ?_
          refine goes_seq ?_
          refine goes_region ?_
          refine go1 (op_move rfl (.t (has rfl))) rfl ?_
          refine go1 (op_icmp rfl rfl (.t (has rfl)) (.int _ _)) rfl ?_
          refine goesO_nil ?_
          refine ends_then ?_
          refine goes_if (.t (has rfl)) H (fun hb14 H => ?_) (fun hb14 H => ?_)
          · skip
            refine goes_seq ?_
            refine goes_region ?_
            refine go1 (op_move rfl (.t (has rfl))) rfl ?_
            refine go1 (op_assign rfl (.t (has rfl))) rfl ?_
            refine goesO_nil ?_
            refine ends_then ?_
            obtain rfl := Option.some.inj H
            refine goes_ret (ends_block_ret (ends_then_ret (ends_then_ret (ends_block_ret (ends_cutR_ret rfl ?_)))))
            exact ends_ret' rfl rfl (.t rfl (.nil _))
          · skip
            refine goes_skip ?_
            refine ends_block ?_
            refine ends_then ?_
            refine goes_region ?_
            refine go1 (op_add rfl (.t (has rfl)) (.int _ _)) rfl ?_
            refine go1 (op_move rfl (.t (has rfl))) rfl ?_
            refine goesO_nil ?_
            exact loop_next _ H (.cons rfl (.cons rfl (.cons rfl (.cons rfl (.cons rfl (.cons rfl .nil))))))
        · skip
          refine goes_exit (ends_then_exit (ends_then_exit (ends_block_exit ?_)))
          obtain rfl := Option.some.inj H
          exact ends_cutR rfl (.cons rfl (.cons rfl (.cons rfl .nil)))
      · rintro s6 rfl
        clear h7
        dsimp only at H
        refine ends_then ?_
        refine goes_seq ?_
        refine goes_region ?_
        refine go1 (op_load rfl (Fld.whole kPlan) tk25 (.t (has rfl)) (has rfl)) rfl ?_
        obtain ⟨v15, h16, H⟩ := bind_some H
        refine go1 (op_call' rfl enters46 (walk_targets.con _ _ _ h16) rfl (.cons (ArgP.k (.t (has rfl))) .nil)) rfl ?_
        refine goesO_settle 31 rfl rfl ?_
        obtain ⟨v17, h18, H⟩ := bind_some H
        refine go1 (op_call' rfl enters35 (walk_setOf_string.con _ _ _ h18) rfl (.cons (ArgP.k (.t (has rfl))) .nil)) rfl ?_
        refine goesO_adopt 32 32 rfl rfl ?_
        refine go3 (op_alloc_raw 9 rfl xaz66 rfl) rfl ?_
        refine go1 (op_store_mp xmz66 (.inl rfl) (.t (has rfl)) (has rfl) (.t (has rfl))) rfl ?_
        refine goesO_nil ?_
        refine ends_then ?_
        refine goes_seq ?_
        refine goes_seq ?_
        refine goes_region ?_
        refine go1 (op_move rfl (.t (has rfl))) rfl ?_
        refine go1 (op_makeFunc (ys := []) (xs := [9]) rfl rfl rfl rfl) rfl ?_
        obtain ⟨v19, h20, H⟩ := bind_some H
        refine go1 (op_callF' rfl enters37 (slices_ContainsFunc_string_string.conF 56 ([]) ([VA.pt kWalkSet_string_ (⟨v17⟩ : WalkSet_string_)]) _ _ (fun (z0 : ByteArray) => walk_asked_1.f z0 (⟨v17⟩ : WalkSet_string_)) enters56 (fun z0 r h => walk_asked_1.con z0 (⟨v17⟩ : WalkSet_string_) r h) _ h20) rfl (.cons (ArgB.k (.t (has rfl))) (.cons (ArgB.mf rfl rfl (has rfl) .nil (.cons (ArgB.ptm (.t (has rfl)) (has rfl) (has rfl) rfl) .nil)) .nil))) rfl ?_
        refine goesO_nil ?_
        refine ends_then ?_
        refine goes_if (.t (has rfl)) H (fun hb21 H => ?_) (fun hb21 H => ?_)
        · skip
          refine goes_seq ?_
          refine goes_region ?_
          refine go1 (op_assign rfl (.int _ _)) rfl ?_
          refine goesO_nil ?_
          refine ends_then ?_
          obtain rfl := Option.some.inj H
          exact goes_ret (ends_then_ret (ends_ret' rfl rfl (.t rfl (.nil _))))
        · skip
          refine goes_skip ?_
          refine ends_then ?_
          refine goes_seq ?_
          refine goes_region ?_
          refine go1 (op_assign rfl (.int _ _)) rfl ?_
          refine goesO_nil ?_
          refine ends_then ?_
          obtain rfl := Option.some.inj H
          exact goes_ret (ends_ret' rfl rfl (.t rfl (.nil _)))
      · rintro r' rfl a w hr
        obtain rfl := Option.some.inj H
        exact hr
theorem walk_asked.conF (k : Nat) (a0 : Plan) (a1 : List ByteArray) (r : Int) (H : walk_asked.f k a0 a1 = some r) : ConF Try.prog 34 [VA.k kPlan a0, VA.k (kslice kstr) a1] [VA.k (kint .i64) r] := (walk_asked.con k a0 a1 r H).freeL (.cons (KFree.k (KFree.int .i64) _) .nil)
/-! smithy/walk.next$1 -/
def walk_next_1.f (a0 : ByteArray) (c0 : WalkSet_string_) : Option Bool := (walk_set_string_has.f c0 a0).bind fun v1 => some (!v1)
set_option maxRecDepth 100000 in
set_option maxHeartbeats 4000000 in
theorem walk_next_1.con (a0 : ByteArray) (c0 : WalkSet_string_) (r : Bool) (H : walk_next_1.f a0 c0 = some r) : Con Try.prog 58 [VA.k kstr a0, VA.pt kWalkSet_string_ c0] [VA.k kbool r] := by
  unfold walk_next_1.f at H
  refine con_enter Try.func58 rfl rfl rfl (fun w0 S0 θ => ?_)
  refine goes_seq ?_
  refine goes_region ?_
  refine go1 (op_assign rfl (.bool _)) rfl ?_
  refine goesO_nil ?_
  refine ends_then ?_
  refine goes_seq ?_
  refine goes_region ?_
  refine go1 (op_loadp rfl tk66 (.t (has rfl))) rfl ?_
  refine go1 (op_move rfl (.t (has rfl))) rfl ?_
  obtain ⟨v1, h2, H⟩ := bind_some H
  refine go1 (op_call' rfl enters36 (walk_set_string_has.con _ _ _ h2) rfl (.cons (ArgP.k (.t (has rfl))) (.cons (ArgP.k (.t (has rfl))) .nil))) rfl ?_
  refine go1 (op_not rfl (.t (has rfl))) rfl ?_
  refine go1 (op_assign rfl (.t (has rfl))) rfl ?_
  refine goesO_nil ?_
  refine ends_then ?_
  obtain rfl := Option.some.inj H
  exact goes_ret (ends_ret' rfl rfl (.t rfl (.nil _)))
/-! smithy/walk.next -/
def walk_next.l0 (a0 : Plan) (a1 : WalkSet_string_) : Nat → ((List ByteArray) × Int) → Option (List ByteArray)
  | 0, _ => none
  | k + 1, s1 => bif icmp .lss s1.2 (a0.Nodes.length : Int) then (((idx a0.Nodes s1.2).bind fun x7 => ((walk_set_string_has.f a1 x7.Target).bind fun v11 => bif !v11 then ((slices_ContainsFunc_string_string.f k x7.Needs (fun (z0 : ByteArray) => walk_next_1.f z0 a1)).bind fun v14 => some (!v14)) else (some false)).bind fun s9 => bif s9 then ((app 16 s1.1 ([x7.Target])).bind fun x17 => some x17) else (some s1.1)).bind fun s5 => walk_next.l0 a0 a1 k (s5, IntKind.i64.wrap (s1.2 + (1 : Int)))) else (some s1.1)
def walk_next.f (k : Nat) (a0 : Plan) (a1 : WalkSet_string_) : Option (List ByteArray) := (walk_next.l0 a0 a1 k (([] : List ByteArray), (0 : Int))).bind fun s2 => some s2
set_option maxRecDepth 100000 in
set_option maxHeartbeats 4000000 in
theorem walk_next.con (k : Nat) (a0 : Plan) (a1 : WalkSet_string_) (r : List ByteArray) (H : walk_next.f k a0 a1 = some r) : Con Try.prog 40 [VA.k kPlan a0, VA.k kWalkSet_string_ a1] [VA.own 9 kstr r] := by
  unfold walk_next.f at H
  refine con_enter Try.func40 rfl rfl rfl (fun w0 S0 θ => ?_)
  refine goes_seq ?_
  refine goes_region ?_
  refine go3 (op_box 2 rfl (fun h => by first | rfl | cases h) (.t (has rfl))) rfl ?_
  refine go3 (op_box 3 rfl (fun h => by first | rfl | cases h) (.t (has rfl))) rfl ?_
  refine go1 (op_assign_nil 9 kstr (.inr rfl) rfl) rfl ?_
  refine goesO_nil ?_
  refine ends_then ?_
  refine goes_seq ?_
  refine goes_region ?_
  refine go1 (op_assign_nil 9 kstr (.inr rfl) rfl) rfl ?_
  refine goesO_nil ?_
  refine ends_then ?_
  refine goes_seq ?_
  refine goes_seq ?_
  refine goes_region ?_
  refine go1 (op_fieldAddr rfl Try.underlying25 rfl tk22 (.t (has rfl))) rfl ?_
  refine go1 (op_load rfl fldPlan_Nodes tk22 (.t (has rfl)) (has rfl)) rfl ?_
  refine go1 (op_len rfl rfl Try.underlying22 (.t (has rfl))) rfl ?_
  refine go1 (op_move rfl (.int _ _)) rfl ?_
  refine goesO_nil ?_
  refine ends_then ?_
  obtain ⟨s2, h3, H⟩ := bind_some H
  refine goes_cut [Ent.t 5 (VA.own 9 kstr s2)] ?_ ?_
  · replace H := h3; clear h3
    refine goes_block ?_
    refine goes_loop (fun s1 : (List ByteArray) × Int => [Ent.t 3 (VA.ptr 3 0), Ent.t 5 (VA.own 9 kstr s1.1), Ent.t 9 (VA.k (kslice kNode) a0.Nodes), Ent.t 10 (VA.k (kint .i64) (a0.Nodes.length : Int)), Ent.t 11 (VA.k (kint .i64) s1.2), Ent.h 3 (HE.box 66 kWalkSet_string_ a1)]) (fun k s1 => walk_next.l0 a0 a1 k s1) (fun _ => rfl) H (.cons rfl (.cons rfl (.cons rfl (.cons rfl (.cons rfl (.cons rfl .nil)))))) ?_
    intro k s1 H
    simp only [walk_next.l0] at H
    refine goes_seq ?_
    refine goes_region ?_
    refine go1 (op_icmp rfl rfl (.t (has rfl)) (.t (has rfl))) rfl ?_
    refine goesO_nil ?_
    refine ends_then ?_
    refine goes_seq ?_
    refine goes_if (.t (has rfl)) H (fun hb4 H => ?_) (fun hb4 H => ?_)
    · skip
      refine goes_skip ?_
      refine ends_then ?_
      refine goes_seq ?_
      obtain ⟨s5, h6, H⟩ := bind_some H
      refine goes_cut [Ent.t 3 (VA.ptr 3 0), Ent.t 5 (VA.own 9 kstr s5), Ent.t 9 (VA.k (kslice kNode) a0.Nodes), Ent.t 10 (VA.k (kint .i64) (a0.Nodes.length : Int)), Ent.t 11 (VA.k (kint .i64) s1.2), Ent.h 3 (HE.box 66 kWalkSet_string_ a1)] ?_ ?_
      · replace H := h6; clear h6
        refine goes_block ?_
        refine goes_seq ?_
        refine goes_region ?_
        obtain ⟨x7, h8, H⟩ := bind_some H
        refine go1 (op_indexAddr rfl Try.underlying22 tk48 h8 (.t (has rfl)) (.t (has rfl))) rfl ?_
        refine go1 (op_loadp rfl tk48 (.t (has rfl))) rfl ?_
        refine go3 (op_alloc 7 rfl zk48) rfl ?_
        refine go1 (op_store (Fld.whole kNode) tk48 (.t (has rfl)) (has rfl) (.t (has rfl))) rfl ?_
        refine goesO_nil ?_
        refine ends_then ?_
        refine goes_seq ?_
        obtain ⟨s9, h10, H⟩ := bind_some H
        refine goes_cut [Ent.t 3 (VA.ptr 3 0), Ent.t 5 (VA.own 9 kstr s1.1), Ent.t 7 (VA.ptr 7 0), Ent.t 9 (VA.k (kslice kNode) a0.Nodes), Ent.t 10 (VA.k (kint .i64) (a0.Nodes.length : Int)), Ent.t 11 (VA.k (kint .i64) s1.2), Ent.t 26 (VA.k kbool s9), Ent.h 3 (HE.box 66 kWalkSet_string_ a1), Ent.h 7 (HE.box 48 kNode x7)] ?_ ?_
        · replace H := h10; clear h10
          refine goes_region ?_
          refine go1 (op_load rfl (Fld.whole kWalkSet_string_) tk66 (.t (has rfl)) (has rfl)) rfl ?_
          refine go1 (op_fieldAddr rfl Try.underlying48 rfl tk9 (.t (has rfl))) rfl ?_
          refine go1 (op_load rfl fldNode_Target tk9 (.t (has rfl)) (has rfl)) rfl ?_
          obtain ⟨v11, h12, H⟩ := bind_some H
          refine go1 (op_call' rfl enters36 (walk_set_string_has.con _ _ _ h12) rfl (.cons (ArgP.k (.t (has rfl))) (.cons (ArgP.k (.t (has rfl))) .nil))) rfl ?_
          refine go1 (op_not rfl (.t (has rfl))) rfl ?_
          refine go1 (op_move rfl (.t (has rfl))) rfl ?_
          refine goesO_split H (fun hb13 H => ?_) (fun hb13 H => ?_)
          · skip
            refine goG (op_fieldAddr rfl Try.underlying48 rfl tk23 (.t (has rfl))) rfl rfl rfl rfl hb13 ?_
            refine goG (op_load rfl fldNode_Needs tk23 (.t (has rfl)) (has rfl)) rfl rfl rfl rfl hb13 ?_
            refine goG (op_makeFunc (ys := []) (xs := [3]) rfl rfl rfl rfl) rfl rfl rfl rfl hb13 ?_
            obtain ⟨v14, h15, H⟩ := bind_some H
            refine goG (op_callF' rfl enters37 (slices_ContainsFunc_string_string.conF 58 ([]) ([VA.pt kWalkSet_string_ a1]) _ _ (fun (z0 : ByteArray) => walk_next_1.f z0 a1) enters58 (fun z0 r h => walk_next_1.con z0 a1 r h) _ h15) rfl (.cons (ArgB.k (.t (has rfl))) (.cons (ArgB.mf rfl rfl (has rfl) .nil (.cons (ArgB.ptk (get := fun x => x) (y := a1) (Fld.whole kWalkSet_string_) (.t (has rfl)) (has rfl)) .nil)) .nil))) rfl rfl rfl rfl hb13 ?_
            refine goG (op_not rfl (.t (has rfl))) rfl rfl rfl rfl hb13 ?_
            refine go1 (op_pick_t rfl hb13 (.t (has rfl)) (.t (has rfl))) rfl ?_
            refine goesO_nil ?_
            obtain rfl := Option.some.inj H
            exact ends_cut (.cons rfl (.cons rfl (.cons rfl (.cons rfl (.cons rfl (.cons rfl (.cons rfl (.cons rfl (.cons rfl .nil)))))))))
          · skip
            refine goS rfl rfl rfl rfl rfl rfl hb13 ?_
            refine goS rfl rfl rfl rfl rfl rfl hb13 ?_
            refine goS rfl rfl rfl rfl rfl rfl hb13 ?_
            refine goS rfl rfl rfl rfl rfl rfl hb13 ?_
            refine goS rfl rfl rfl rfl rfl rfl hb13 ?_
            refine go1 (op_pick_f rfl hb13 (.t (has rfl)) (.bool _)) rfl ?_
            refine goesO_nil ?_
            obtain rfl := Option.some.inj H
            exact ends_cut (.cons rfl (.cons rfl (.cons rfl (.cons rfl (.cons rfl (.cons rfl (.cons rfl (.cons rfl (.cons rfl .nil)))))))))
        refine ends_then ?_
        refine goes_if (.t (has rfl)) H (fun hb16 H => ?_) (fun hb16 H => ?_)
        · skip
          refine goes_region ?_
          refine go2 (op_mv (.inl rfl) rfl rfl (has rfl)) rfl ?_
          refine go1 (op_fieldAddr rfl Try.underlying48 rfl tk9 (.t (has rfl))) rfl ?_
          refine go1 (op_load rfl fldNode_Target tk9 (.t (has rfl)) (has rfl)) rfl ?_
          refine go1 (op_buildSlice rfl at23 (fun h => by first | rfl | cases h) rfl rfl rfl (.cons (.t (has rfl)) (.nil _))) rfl ?_
          obtain ⟨x17, h18, H⟩ := bind_some H
          refine go2 (op_append rfl rfl at23 h18 (has rfl) (ReadsArg.own (.t (has rfl)))) rfl ?_
          refine go2 (op_mv (.inr rfl) rfl rfl (has rfl)) rfl ?_
          refine goesO_nil ?_
          refine ends_block ?_
          obtain rfl := Option.some.inj H
          exact ends_cut (.cons rfl (.cons rfl (.cons rfl (.cons rfl (.cons rfl (.cons rfl .nil))))))
        · skip
          refine goes_skip ?_
          refine ends_block ?_
          obtain rfl := Option.some.inj H
          exact ends_cut (.cons rfl (.cons rfl (.cons rfl (.cons rfl (.cons rfl (.cons rfl .nil))))))
      refine ends_then ?_
      refine goes_region ?_
      refine go1 (op_add rfl (.t (has rfl)) (.int _ _)) rfl ?_
      refine go1 (op_move rfl (.t (has rfl))) rfl ?_
      refine goesO_nil ?_
      exact loop_next _ H (.cons rfl (.cons rfl (.cons rfl (.cons rfl (.cons rfl (.cons rfl .nil))))))
    · skip
      refine goes_exit (ends_then_exit (ends_then_exit (ends_block_exit ?_)))
      obtain rfl := Option.some.inj H
      exact ends_cut (.cons rfl .nil)
  refine ends_then ?_
  refine goes_seq ?_
  refine goes_region ?_
  refine go2 (op_mv (.inl rfl) rfl rfl (has rfl)) rfl ?_
  refine go2 (op_mv (.inr rfl) rfl rfl (has rfl)) rfl ?_
  refine goesO_nil ?_
  refine ends_then ?_
  obtain rfl := Option.some.inj H
  exact goes_ret (ends_ret' rfl rfl (.t rfl (.nil _)))
theorem walk_next.conF (k : Nat) (a0 : Plan) (a1 : WalkSet_string_) (r : List ByteArray) (H : walk_next.f k a0 a1 = some r) : ConF Try.prog 40 [VA.k kPlan a0, VA.k kWalkSet_string_ a1] [VA.own 9 kstr r] := (walk_next.con k a0 a1 r H).freeL (.cons (KFree.own KFree.str _ _) .nil)
/-! (smithy/walk.set[string]).put -/
def walk_set_string_put.f (a0 : GM Int) (a1 : ByteArray) : Option (GM Int) := (gput a0 a1 (1 : Int)).bind fun x1 => some x1
set_option maxRecDepth 100000 in
set_option maxHeartbeats 4000000 in
theorem walk_set_string_put.con (a0 : GM Int) (a1 : ByteArray) (r : GM Int) (H : walk_set_string_put.f a0 a1 = some r) : ConIO Try.prog 39 9 (kint .i64) true a0 r [VA.k kstr a1] := by
  unfold walk_set_string_put.f at H
  refine con_enterIO Try.func39 rfl rfl rfl rfl (fun w0 S0 b => ?_)
  refine goes_seq ?_
  refine goes_region ?_
  refine go3 (op_box_mp 2 rfl rfl (.t (has rfl))) rfl ?_
  refine goesO_nil ?_
  refine ends_then ?_
  refine goes_region ?_
  refine go1 (op_fieldAddrM rfl Try.underlying66 rfl xmz64 (.t (has rfl))) rfl ?_
  refine go1 (op_load_mp rfl xmz64 (.t (has rfl)) (has rfl)) rfl ?_
  refine go1 (op_move rfl (.t (has rfl))) rfl ?_
  obtain ⟨x1, h2, H⟩ := bind_some H
  refine go1 (op_mapUpdate xmt64 h2 (.t (has rfl)) (has rfl) (.t (has rfl)) (.int _ _)) rfl ?_
  refine goesO_nil ?_
  obtain rfl := Option.some.inj H
  exact ends_fall (n := 0) (ends_io rfl rfl rfl)
/-! smithy/walk.Count$1 -/
def walk_Count_1.l0 (most : Int) (self : Int → Int → GM Int → Option (Int × GM Int)) (a0 : Int) (v2 : (List ByteArray)) : Nat → (Int × (GM Int) × Int) → Option (Except (Int × GM Int) (Int × (GM Int)))
  | 0, _ => none
  | k + 1, s4 => bif icmp .lss s4.2.2 (v2.length : Int) then ((idx v2 s4.2.2).bind fun x9 => bif icmp .eql s4.1 most then (some (Except.error (s4.1, s4.2.1))) else ((walk_set_string_put.f s4.2.1 x9).bind fun x12 => (self (IntKind.i64.wrap (a0 - (1 : Int))) s4.1 x12).bind fun v14 => (gdel v14.2 x9).bind fun x16 => walk_Count_1.l0 most self a0 v2 k (v14.1, x16, IntKind.i64.wrap (s4.2.2 + (1 : Int))))) else (some (Except.ok (s4.1, s4.2.1)))
def walk_Count_1.g (self : Int → Int → GM Int → Option (Int × GM Int)) (k : Nat) (p : Plan) (most : Int) (a0 n : Int) (m : GM Int) : Option (Int × GM Int) := bif icmp .eql a0 (0 : Int) then (some (IntKind.i64.wrap (n + (1 : Int)), m)) else ((walk_next.f k p (⟨m⟩ : WalkSet_string_)).bind fun v2 => (walk_Count_1.l0 most self a0 v2 k (n, m, (0 : Int))).bind fun o7 => match o7 with | .error r' => some r' | .ok s5 => (some (s5.1, s5.2)))
set_option maxRecDepth 100000 in
set_option maxHeartbeats 4000000 in
theorem walk_Count_1.gcon (self : Int → Int → GM Int → Option (Int × GM Int)) (k : Nat) (p : Plan) (most : Int) (a0 n : Int) (m : GM Int) (hself : ∀ l n m r, self l n m = some r → ConCnt Try.prog 47 9 3 66 76 kPlan p most l n m r) (r : Int × GM Int) (H : walk_Count_1.g self k p most a0 n m = some r) : ConCnt Try.prog 47 9 3 66 76 kPlan p most a0 n m r := by
  unfold walk_Count_1.g at H
  refine con_enterCnt Try.func47 rfl rfl rfl (fun w0 S0 bn bd bm bo vP vM => ?_)
  refine goes_seq ?_
  refine goes_seq ?_
  refine goes_region ?_
  refine go1 (op_move rfl (.t (has rfl))) rfl ?_
  refine go1 (op_icmp rfl rfl (.t (has rfl)) (.int _ _)) rfl ?_
  refine goesO_nil ?_
  refine ends_then ?_
  refine goes_if (.t (has rfl)) H (fun hb1 H => ?_) (fun hb1 H => ?_)
  · skip
    refine goes_seq ?_
    refine goes_region ?_
    refine go1 (op_load rfl (Fld.whole (kint .i64)) tk3 (.t (has rfl)) (has rfl)) rfl ?_
    refine go1 (op_add rfl (.t (has rfl)) (.int _ _)) rfl ?_
    refine go1 (op_store (Fld.whole (kint .i64)) tk3 (.t (has rfl)) (has rfl) (.t (has rfl))) rfl ?_
    refine goesO_nil ?_
    refine ends_then ?_
    obtain rfl := Option.some.inj H
    exact goes_ret (ends_then_ret (ends_cnt rfl rfl rfl rfl rfl))
  · skip
    refine goes_skip ?_
    refine ends_then ?_
    refine goes_seq ?_
    refine goes_region ?_
    refine go1 (op_loadp rfl tk25 (.fx (.t (has rfl)))) rfl ?_
    refine go1 (op_load_rom (id := 999) rfl xmz66 (.t (has rfl)) (has rfl)) rfl ?_
    obtain ⟨v2, h3, H⟩ := bind_some H
    refine go1 (op_callF' rfl enters40 (walk_next.conF _ _ _ _ h3) rfl (.cons (ArgB.k (.t (has rfl))) (.cons (ArgB.mps (.t (has rfl)) (has rfl) rfl) .nil))) rfl ?_
    refine go1 (op_len_own rfl rfl Try.underlying23 (.t (has rfl))) rfl ?_
    refine go1 (op_move rfl (.int _ _)) rfl ?_
    refine goesO_nil ?_
    refine ends_then ?_
    refine goes_settle 15 rfl rfl ?_
    obtain ⟨o7, h6, H⟩ := bind_some H
    refine goes_cutR (o := o7) (fun s5 : Int × (GM Int) => [Ent.t 1 (VA.ptr 998 0), Ent.t 2 (VA.fx vP (VA.pt kPlan p)), Ent.t 3 (VA.ro 66 bd (.map (some bm))), Ent.t 4 (VA.fx vM (VA.pt (kint .i64) most)), Ent.t 5 (VA.ro 76 bo (selfv 47 bn bd bo vP vM)), Ent.h 998 (HE.box 3 (kint .i64) s5.1), Ent.h 999 (HE.map Try.prog 9 (kint .i64) s5.2), Ent.isb 998 bn, Ent.isb 999 bm]) (fun r a w => bodyPost Try.prog Try.f47 (CntPost Try.prog 9 3 w0 bn bm r) .ret a w) ?_ ?_ ?_
    · replace H := h6; clear h6
      refine goes_block ?_
      refine goes_loop (fun s4 : Int × (GM Int) × Int => [Ent.t 0 (VA.k (kint .i64) a0), Ent.t 1 (VA.ptr 998 0), Ent.t 2 (VA.fx vP (VA.pt kPlan p)), Ent.t 3 (VA.ro 66 bd (.map (some bm))), Ent.t 4 (VA.fx vM (VA.pt (kint .i64) most)), Ent.t 5 (VA.ro 76 bo (selfv 47 bn bd bo vP vM)), Ent.t 15 (VA.k (kslice kstr) v2), Ent.t 16 (VA.k (kint .i64) (v2.length : Int)), Ent.t 17 (VA.k (kint .i64) s4.2.2), Ent.h 998 (HE.box 3 (kint .i64) s4.1), Ent.h 999 (HE.map Try.prog 9 (kint .i64) s4.2.1), Ent.isb 998 bn, Ent.isb 999 bm]) (fun k s4 => walk_Count_1.l0 most self a0 v2 k s4) (fun _ => rfl) H (.cons rfl (.cons rfl (.cons rfl (.cons rfl (.cons rfl (.cons rfl (.cons rfl (.cons rfl (.cons rfl (.cons rfl (.cons rfl (.cons rfl (.cons rfl .nil))))))))))))) ?_
      intro k s4 H
      simp only [walk_Count_1.l0] at H
      refine goes_seq ?_
      refine goes_region ?_
      refine go1 (op_icmp rfl rfl (.t (has rfl)) (.t (has rfl))) rfl ?_
      refine goesO_nil ?_
      refine ends_then ?_
      refine goes_seq ?_
      refine goes_if (.t (has rfl)) H (fun hb8 H => ?_) (fun hb8 H => ?_)
      · skip
        refine goes_skip ?_
        refine ends_then ?_
        refine goes_seq ?_
        refine goes_block ?_
        refine goes_seq ?_
        refine goes_region ?_
        obtain ⟨x9, h10, H⟩ := bind_some H
        refine go1 (op_indexAddr rfl Try.underlying23 tk9 h10 (.t (has rfl)) (.t (has rfl))) rfl ?_
        refine go1 (op_loadp rfl tk9 (.t (has rfl))) rfl ?_
        refine go1 (op_assign rfl (.t (has rfl))) rfl ?_
        refine goesO_nil ?_
        refine ends_then ?_
        refine goes_seq ?_
        refine goes_seq ?_
        refine goes_region ?_
        refine go1 (op_load rfl (Fld.whole (kint .i64)) tk3 (.t (has rfl)) (has rfl)) rfl ?_
        refine go1 (op_loadp rfl tk3 (.fx (.t (has rfl)))) rfl ?_
        refine go1 (op_icmp rfl rfl (.t (has rfl)) (.t (has rfl))) rfl ?_
        refine goesO_nil ?_
        refine ends_then ?_
        refine goes_if (.t (has rfl)) H (fun hb11 H => ?_) (fun hb11 H => ?_)
        · skip
          obtain rfl := Option.some.inj H
          refine goes_ret (ends_then_ret (ends_block_ret (ends_then_ret (ends_then_ret (ends_block_ret (ends_cutR_ret rfl ?_))))))
          exact ends_cnt rfl rfl rfl rfl rfl
        · skip
          refine goes_skip ?_
          refine ends_then ?_
          refine goes_seq ?_
          refine goes_region ?_
          refine go1 (op_load_rom (id := 999) rfl xmz66 (.t (has rfl)) (has rfl)) rfl ?_
          refine go1 (op_move rfl (.t (has rfl))) rfl ?_
          obtain ⟨x12, h13, H⟩ := bind_some H
          refine go2 (op_callIO rfl enters39 (walk_set_string_put.con _ _ _ h13) (.t (has rfl)) (has rfl) (.cons (ArgP.k (.t (has rfl))) .nil)) rfl ?_
          refine goesO_nil ?_
          refine ends_then ?_
          refine goes_seq ?_
          refine goes_region ?_
          refine go1 (op_load_ro rfl (xmz76).agg (.t (has rfl))) rfl ?_
          refine go1 (op_move rfl (.t (has rfl))) rfl ?_
          refine go1 (op_sub rfl (.t (has rfl)) (.int _ _)) rfl ?_
          obtain ⟨v14, h15, H⟩ := bind_some H
          refine go3 (op_self rfl enters47 (hself _ _ _ _ h15) (has rfl) (has rfl) (has rfl) (has rfl) (has rfl) (has rfl) (has rfl) (has rfl) (has rfl) (.t (has rfl))) rfl ?_
          refine goesO_nil ?_
          refine ends_then ?_
          refine goes_region ?_
          refine go1 (op_fieldAddr_ro rfl Try.underlying66 rfl rfl xmz64 (.t (has rfl))) rfl ?_
          refine go1 (op_load_rom (id := 999) rfl xmz64 (.t (has rfl)) (has rfl)) rfl ?_
          refine go1 (op_move rfl (.t (has rfl))) rfl ?_
          obtain ⟨x16, h17, H⟩ := bind_some H
          refine go1 (op_delete xmt64 h17 (.t (has rfl)) (has rfl) (.t (has rfl))) rfl ?_
          refine goesO_nil ?_
          refine ends_block ?_
          refine ends_then ?_
          refine goes_region ?_
          refine go1 (op_add rfl (.t (has rfl)) (.int _ _)) rfl ?_
          refine go1 (op_move rfl (.t (has rfl))) rfl ?_
          refine goesO_nil ?_
          exact loop_next _ H (.cons rfl (.cons rfl (.cons rfl (.cons rfl (.cons rfl (.cons rfl (.cons rfl (.cons rfl (.cons rfl (.cons rfl (.cons rfl (.cons rfl (.cons rfl .nil)))))))))))))
      · skip
        refine goes_exit (ends_then_exit (ends_then_exit (ends_block_exit ?_)))
        obtain rfl := Option.some.inj H
        exact ends_cutR rfl (.cons rfl (.cons rfl (.cons rfl (.cons rfl (.cons rfl (.cons rfl (.cons rfl (.cons rfl (.cons rfl .nil)))))))))
    · rintro s5 rfl
      clear h6
      dsimp only at H
      obtain rfl := Option.some.inj H
      exact ends_fall (n := 0) (ends_cnt rfl rfl rfl rfl rfl)
    · rintro r' rfl a w hr
      obtain rfl := Option.some.inj H
      exact hr
def walk_Count_1.f : Nat → Plan → Int → Int → Int → GM Int → Option (Int × GM Int)
  | 0, _, _, _, _, _ => none
  | k + 1, p, most, a0, n, m => walk_Count_1.g (walk_Count_1.f k p most) k p most a0 n m
theorem walk_Count_1.con : ∀ (k : Nat) (p : Plan) (most : Int) (a0 n : Int) (m : GM Int) (r : Int × GM Int), walk_Count_1.f k p most a0 n m = some r → ConCnt Try.prog 47 9 3 66 76 kPlan p most a0 n m r
  | 0, _, _, _, _, _, _, H => by cases H
  | k + 1, p, most, a0, n, m, r, H => walk_Count_1.gcon (walk_Count_1.f k p most) k p most a0 n m (fun l n m r h => walk_Count_1.con k p most l n m r h) r H
/-! smithy/walk.Count -/
def walk_Count.f (k : Nat) (a0 : Plan) (a1 : Int) : Option (Int × Int) := (walk_asked.f k a0 ([] : List ByteArray)).bind fun v1 => bif icmp .neq v1 (0 : Int) then (some ((0 : Int), v1)) else ((bif icmp .lss a1 (1 : Int) then (some true) else (some (icmp .gtr a1 (10000 : Int)))).bind fun s4 => bif s4 then (some ((0 : Int), (1 : Int))) else ((walk_setOf_string.f k ([] : List ByteArray)).bind fun v8 => (walk_Count_1.f k a0 a1 (a0.Nodes.length : Int) (0 : Int) v8).bind fun v10 => some (v10.1, (0 : Int))))
set_option maxRecDepth 100000 in
set_option maxHeartbeats 4000000 in
theorem walk_Count.con (k : Nat) (a0 : Plan) (a1 : Int) (r : Int × Int) (H : walk_Count.f k a0 a1 = some r) : Con Try.prog 20 [VA.k kPlan a0, VA.k (kint .i64) a1] [VA.k (kint .i64) r.1, VA.k (kint .i64) r.2] := by
  unfold walk_Count.f at H
  refine con_enter Try.func20 rfl rfl rfl (fun w0 S0 θ => ?_)
  refine goes_seq ?_
  refine goes_region ?_
  refine go3 (op_box 2 rfl (fun h => by first | rfl | cases h) (.t (has rfl))) rfl ?_
  refine go3 (op_box 3 rfl (fun h => by first | rfl | cases h) (.t (has rfl))) rfl ?_
  refine go1 (op_assign rfl (.int _ _)) rfl ?_
  refine go1 (op_assign rfl (.int _ _)) rfl ?_
  refine goesO_nil ?_
  refine ends_then ?_
  refine goes_seq ?_
  refine goes_seq ?_
  refine goes_region ?_
  refine go1 (op_load rfl (Fld.whole kPlan) tk25 (.t (has rfl)) (has rfl)) rfl ?_
  obtain ⟨v1, h2, H⟩ := bind_some H
  refine go1 (op_call' rfl enters34 (walk_asked.con _ _ _ _ h2) rfl (.cons (ArgP.k (.t (has rfl))) (.cons (ArgP.k (.nil _)) .nil))) rfl ?_
  refine go1 (op_assign rfl (.t (has rfl))) rfl ?_
  refine goesO_nil ?_
  refine ends_then ?_
  refine goes_seq ?_
  refine goes_region ?_
  refine go1 (op_move rfl (.t (has rfl))) rfl ?_
  refine go1 (op_icmp rfl rfl (.t (has rfl)) (.int _ _)) rfl ?_
  refine goesO_nil ?_
  refine ends_then ?_
  refine goes_if (.t (has rfl)) H (fun hb3 H => ?_) (fun hb3 H => ?_)
  · skip
    refine goes_seq ?_
    refine goes_region ?_
    refine go1 (op_move rfl (.t (has rfl))) rfl ?_
    refine go1 (op_assign rfl (.int _ _)) rfl ?_
    refine go1 (op_assign rfl (.t (has rfl))) rfl ?_
    refine goesO_nil ?_
    refine ends_then ?_
    obtain rfl := Option.some.inj H
    exact goes_ret (ends_then_ret (ends_ret' rfl rfl (.t rfl (.t rfl (.nil _)))))
  · skip
    refine goes_skip ?_
    refine ends_then ?_
    refine goes_seq ?_
    refine goes_seq ?_
    obtain ⟨s4, h5, H⟩ := bind_some H
    refine goes_cut [Ent.t 2 (VA.ptr 2 0), Ent.t 3 (VA.ptr 3 0), Ent.t 20 (VA.k kbool s4), Ent.h 2 (HE.box 25 kPlan a0), Ent.h 3 (HE.box 3 (kint .i64) a1)] ?_ ?_
    · replace H := h5; clear h5
      refine goes_region ?_
      refine go1 (op_load rfl (Fld.whole (kint .i64)) tk3 (.t (has rfl)) (has rfl)) rfl ?_
      refine go1 (op_icmp rfl rfl (.t (has rfl)) (.int _ _)) rfl ?_
      refine go1 (op_move rfl (.t (has rfl))) rfl ?_
      refine goesO_split H (fun hb6 H => ?_) (fun hb6 H => ?_)
      · skip
        refine goS rfl rfl rfl rfl rfl rfl hb6 ?_
        refine goS rfl rfl rfl rfl rfl rfl hb6 ?_
        refine go1 (op_pick_t rfl hb6 (.t (has rfl)) (.bool _)) rfl ?_
        refine goesO_nil ?_
        obtain rfl := Option.some.inj H
        exact ends_cut (.cons rfl (.cons rfl (.cons rfl (.cons rfl (.cons rfl .nil)))))
      · skip
        refine goG (op_load rfl (Fld.whole (kint .i64)) tk3 (.t (has rfl)) (has rfl)) rfl rfl rfl rfl hb6 ?_
        refine goG (op_icmp rfl rfl (.t (has rfl)) (.int _ _)) rfl rfl rfl rfl hb6 ?_
        refine go1 (op_pick_f rfl hb6 (.t (has rfl)) (.t (has rfl))) rfl ?_
        refine goesO_nil ?_
        obtain rfl := Option.some.inj H
        exact ends_cut (.cons rfl (.cons rfl (.cons rfl (.cons rfl (.cons rfl .nil)))))
    refine ends_then ?_
    refine goes_if (.t (has rfl)) H (fun hb7 H => ?_) (fun hb7 H => ?_)
    · skip
      refine goes_seq ?_
      refine goes_region ?_
      refine go1 (op_assign rfl (.int _ _)) rfl ?_
      refine go1 (op_assign rfl (.int _ _)) rfl ?_
      refine goesO_nil ?_
      refine ends_then ?_
      obtain rfl := Option.some.inj H
      exact goes_ret (ends_then_ret (ends_ret' rfl rfl (.t rfl (.t rfl (.nil _)))))
    · skip
      refine goes_skip ?_
      refine ends_then ?_
      refine goes_seq ?_
      refine goes_region ?_
      obtain ⟨v8, h9, H⟩ := bind_some H
      refine go1 (op_call' rfl enters35 (walk_setOf_string.con _ _ _ h9) rfl (.cons (ArgP.k (.nil _)) .nil)) rfl ?_
      refine goesO_adopt 21 21 rfl rfl ?_
      refine go3 (op_alloc_raw 7 rfl xaz66 rfl) rfl ?_
      refine go1 (op_store_mp xmz66 (.inl rfl) (.t (has rfl)) (has rfl) (.t (has rfl))) rfl ?_
      refine goesO_nil ?_
      refine ends_then ?_
      refine goes_seq ?_
      refine goes_region ?_
      refine go3 (op_alloc 8 rfl zk3) rfl ?_
      refine go1 (op_store (Fld.whole (kint .i64)) tk3 (.t (has rfl)) (has rfl) (.int _ _)) rfl ?_
      refine goesO_nil ?_
      refine ends_then ?_
      refine goes_seq ?_
      refine goes_region ?_
      refine go3 (op_alloc_raw 9 rfl xaz76 rfl) rfl ?_
      refine goesO_nil ?_
      refine ends_then ?_
      refine goes_seq ?_
      refine goes_region ?_
      refine go1 (op_makeFunc (ys := []) (xs := [8, 2, 7, 3, 9]) rfl rfl rfl rfl) rfl ?_
      refine go1 (op_store_fn (xmz76).size (.t (has rfl)) (has rfl) (has rfl) (has rfl) (has rfl) (has rfl) (has rfl) (has rfl)) rfl ?_
      refine goesO_nil ?_
      refine ends_then ?_
      refine goes_seq ?_
      refine goes_region ?_
      refine go1 (op_load_fn rfl (xmz76).agg (.t (has rfl)) (has rfl)) rfl ?_
      refine go1 (op_fieldAddr rfl Try.underlying25 rfl tk22 (.t (has rfl))) rfl ?_
      refine go1 (op_load rfl fldPlan_Nodes tk22 (.t (has rfl)) (has rfl)) rfl ?_
      refine go1 (op_len rfl rfl Try.underlying22 (.t (has rfl))) rfl ?_
      obtain ⟨v10, h11, H⟩ := bind_some H
      refine go3 (op_callcnt rfl rfl (by decide) (by decide) enters47 (walk_Count_1.con _ _ _ _ _ _ _ h11) (has rfl) (has rfl) (has rfl) (has rfl) (has rfl) (has rfl) (has rfl) (.t (has rfl))) rfl ?_
      refine goesO_nil ?_
      refine ends_then ?_
      refine goes_seq ?_
      refine goes_region ?_
      refine go1 (op_load rfl (Fld.whole (kint .i64)) tk3 (.t (has rfl)) (has rfl)) rfl ?_
      refine go1 (op_assign rfl (.t (has rfl))) rfl ?_
      refine go1 (op_assign rfl (.int _ _)) rfl ?_
      refine goesO_nil ?_
      refine ends_then ?_
      obtain rfl := Option.some.inj H
      exact goes_ret (ends_ret' rfl rfl (.t rfl (.t rfl (.nil _))))
/-! smithy/walk.Next -/
def walk_Next.f (k : Nat) (a0 : Plan) (a1 : List ByteArray) : Option ((List ByteArray) × Int) := (walk_asked.f k a0 a1).bind fun v1 => bif icmp .neq v1 (0 : Int) then (some (([] : List ByteArray), v1)) else ((walk_setOf_string.f k a1).bind fun v4 => (walk_next.f k a0 (⟨v4⟩ : WalkSet_string_)).bind fun v6 => some (v6, (0 : Int)))
set_option maxRecDepth 100000 in
set_option maxHeartbeats 4000000 in
theorem walk_Next.con (k : Nat) (a0 : Plan) (a1 : List ByteArray) (r : (List ByteArray) × Int) (H : walk_Next.f k a0 a1 = some r) : Con Try.prog 11 [VA.k kPlan a0, VA.k (kslice kstr) a1] [VA.own 9 kstr r.1, VA.k (kint .i64) r.2] := by
  unfold walk_Next.f at H
  refine con_enter Try.func11 rfl rfl rfl (fun w0 S0 θ => ?_)
  refine goes_seq ?_
  refine goes_region ?_
  refine go3 (op_box 2 rfl (fun h => by first | rfl | cases h) (.t (has rfl))) rfl ?_
  refine go1 (op_assign_nil 9 kstr (.inr rfl) rfl) rfl ?_
  refine go1 (op_assign rfl (.int _ _)) rfl ?_
  refine goesO_nil ?_
  refine ends_then ?_
  refine goes_seq ?_
  refine goes_seq ?_
  refine goes_region ?_
  refine go1 (op_load rfl (Fld.whole kPlan) tk25 (.t (has rfl)) (has rfl)) rfl ?_
  refine go1 (op_move rfl (.t (has rfl))) rfl ?_
  obtain ⟨v1, h2, H⟩ := bind_some H
  refine go1 (op_call' rfl enters34 (walk_asked.con _ _ _ _ h2) rfl (.cons (ArgP.k (.t (has rfl))) (.cons (ArgP.k (.t (has rfl))) .nil))) rfl ?_
  refine go1 (op_assign rfl (.t (has rfl))) rfl ?_
  refine goesO_nil ?_
  refine ends_then ?_
  refine goes_seq ?_
  refine goes_region ?_
  refine go1 (op_move rfl (.t (has rfl))) rfl ?_
  refine go1 (op_icmp rfl rfl (.t (has rfl)) (.int _ _)) rfl ?_
  refine goesO_nil ?_
  refine ends_then ?_
  refine goes_if (.t (has rfl)) H (fun hb3 H => ?_) (fun hb3 H => ?_)
  · skip
    refine goes_seq ?_
    refine goes_region ?_
    refine go1 (op_move rfl (.t (has rfl))) rfl ?_
    refine go1 (op_assign_nil 9 kstr (.inr rfl) rfl) rfl ?_
    refine go1 (op_assign rfl (.t (has rfl))) rfl ?_
    refine goesO_nil ?_
    refine ends_then ?_
    obtain rfl := Option.some.inj H
    exact goes_ret (ends_then_ret (ends_ret' rfl rfl (.t rfl (.t rfl (.nil _)))))
  · skip
    refine goes_skip ?_
    refine ends_then ?_
    refine goes_seq ?_
    obtain ⟨v4, h5, H⟩ := bind_some H
    obtain ⟨v6, h7, H⟩ := bind_some H
    refine goes_drawn [[Ent.t 13 (VA.k kPlan a0)], [Ent.t 14 (VA.k (kslice kstr) a1)], [Ent.t 15 (VA.om Try.prog 9 (kint .i64) true v4)], [Ent.t 16 (VA.own 9 kstr v6)], [Ent.t 4 (VA.own 9 kstr v6), Ent.t 16 (VA.any)], [Ent.t 5 (VA.k (kint .i64) (0 : Int))]] mixed (by kernel_rfl) (by kernel_rfl) (.cons [(none, Ent.t 2 (VA.ptr 2 0)), (none, Ent.h 2 (HE.box 25 kPlan a0))] (OpSpec.run rfl rfl (op_load rfl (Fld.whole kPlan) tk25 (.t NL.h0) (NL.hs NL.h0)) rfl) (.cons (has rfl) (.cons (has rfl) .nil)) (by kernel_rfl) (.cons [(none, Ent.t 1 (VA.k (kslice kstr) a1))] (OpSpec.run rfl rfl (op_move rfl (.t NL.h0)) rfl) (.cons (has rfl) .nil) (by kernel_rfl) (.cons [(some 1, Ent.t 14 (VA.k (kslice kstr) a1))] (OpSpec.run rfl rfl (op_call' rfl enters35 (walk_setOf_string.con _ _ _ h5) rfl (.cons (ArgP.k (.t NL.h0)) .nil)) rfl) (.cons (has rfl) .nil) (by kernel_rfl) (.cons [(some 0, Ent.t 13 (VA.k kPlan a0)), (some 2, Ent.t 15 (VA.om Try.prog 9 (kint .i64) true v4))] (OpSpec.run rfl rfl (op_callF' rfl enters40 (walk_next.conF _ _ _ _ h7) rfl (.cons (ArgB.k (.t NL.h0)) (.cons (ArgB.oms (NL.hs NL.h0) rfl) .nil))) rfl) (.cons (has rfl) (.cons (has rfl) .nil)) (by kernel_rfl) (.cons [(some 3, Ent.t 16 (VA.own 9 kstr v6))] (OpSpec.run rfl rfl (op_mv (.inr rfl) rfl rfl NL.h0) rfl) (.cons (has rfl) .nil) (by kernel_rfl) (.cons [] (OpSpec.run rfl rfl (op_assign rfl (.int _ _)) rfl) .nil (by kernel_rfl) (.nil _))))))) ?_
    refine ends_sub [Ent.t 4 (VA.own 9 kstr v6), Ent.t 5 (VA.k (kint .i64) (0 : Int))] (.cons rfl (.cons rfl .nil)) ?_
    refine ends_then ?_
    obtain rfl := Option.some.inj H
    exact goes_ret (ends_ret' rfl rfl (.t rfl (.t rfl (.nil _))))
theorem walk_Next.conF (k : Nat) (a0 : Plan) (a1 : List ByteArray) (r : (List ByteArray) × Int) (H : walk_Next.f k a0 a1 = some r) : ConF Try.prog 11 [VA.k kPlan a0, VA.k (kslice kstr) a1] [VA.own 9 kstr r.1, VA.k (kint .i64) r.2] := (walk_Next.con k a0 a1 r H).freeL (.cons (KFree.own KFree.str _ _) (.cons (KFree.k (KFree.int .i64) _) .nil))
end Go.Proofs.Ytedgkcdofiildaa.F
