import Derived.Test.YtedgkcdofiildaaFPx3
set_option linter.unusedVariables false
set_option linter.unusedSimpArgs false
set_option linter.unnecessarySimpa false
set_option linter.deprecated false
namespace Go.Proofs.Ytedgkcdofiildaa.F
open Go Go.RowKit Go.Proofs.Ytedgkcdofiildaa.Sl
/-! smithy/smithylaw14.speaks -/
def smithylaw14_speaks.f (k : Nat) : Option Bool := (smithylaw14_four.f).bind fun v1 => (walk_Count.f k v1 (100 : Int)).bind fun v3 => (smithylaw14_four.f).bind fun v5 => (walk_Next.f k v5 ([(⟨#[100]⟩ : ByteArray)])).bind fun v7 => (smithylaw14_four.f).bind fun v9 => (walk_Choose.f k v9 ([(0 : Int), (1 : Int)])).bind fun v11 => (bif icmp .eql v3.1 (2 : Int) then (bif icmp .eql v3.2 (0 : Int) then ((smithyplain_Texts.f k v7.1 ([(⟨#[98]⟩ : ByteArray), (⟨#[99]⟩ : ByteArray)])).bind fun v17 => bif v17 then (bif icmp .eql v7.2 (0 : Int) then ((smithyplain_Texts.f k v11.1 ([(⟨#[100]⟩ : ByteArray), (⟨#[99]⟩ : ByteArray)])).bind fun v21 => bif v21 then (some (icmp .eql v11.2 (0 : Int))) else (some false)) else (some false)) else (some false)) else (some false)) else (some false)).bind fun s13 => some s13
set_option maxRecDepth 100000 in
set_option maxHeartbeats 4000000 in
theorem smithylaw14_speaks.con (k : Nat) (r : Bool) (H : smithylaw14_speaks.f k = some r) : Con Try.prog 13 [] [VA.k kbool r] := by
  unfold smithylaw14_speaks.f at H
  refine con_enter Try.func13 rfl rfl rfl (fun w0 S0 θ => ?_)
  refine goes_seq ?_
  refine goes_region ?_
  refine go1 (op_assign rfl (.bool _)) rfl ?_
  refine goesO_nil ?_
  refine ends_then ?_
  refine goes_seq ?_
  refine goes_region ?_
  obtain ⟨v1, h2, H⟩ := bind_some H
  refine go1 (op_call' rfl enters43 (smithylaw14_four.con  _ h2) rfl .nil) rfl ?_
  obtain ⟨v3, h4, H⟩ := bind_some H
  refine goN (op_calls' rfl enters20 (walk_Count.con _ _ _ _ h4) rfl rfl (.cons (ArgP.k (.t (has rfl))) (.cons (ArgP.k (.int _ _)) .nil))) rfl ?_
  refine go1 (op_same (.inl rfl) rfl rfl) rfl ?_
  refine go1 (op_extract_same rfl plain_k (has rfl) (has rfl)) rfl ?_
  refine go1 (op_extract_same rfl plain_k (has rfl) (has rfl)) rfl ?_
  refine go1 (op_assign rfl (.t (has rfl))) rfl ?_
  refine go1 (op_assign rfl (.t (has rfl))) rfl ?_
  refine goesO_nil ?_
  refine ends_then ?_
  refine goes_seq ?_
  refine goes_region ?_
  obtain ⟨v5, h6, H⟩ := bind_some H
  refine go1 (op_call' rfl enters43 (smithylaw14_four.con  _ h6) rfl .nil) rfl ?_
  refine go1 (op_buildSlice rfl at23 (fun h => by first | rfl | cases h) rfl rfl rfl (.cons (.str _) (.nil _))) rfl ?_
  obtain ⟨v7, h8, H⟩ := bind_some H
  refine goN (op_callsF' rfl enters11 (walk_Next.conF _ _ _ _ h8) rfl rfl (.cons (ArgB.k (.t (has rfl))) (.cons (ArgB.own rfl (has rfl)) .nil))) rfl ?_
  refine go1 (op_same (.inl rfl) rfl rfl) rfl ?_
  refine go2 (op_extract_own_same rfl rfl rfl (has rfl) (has rfl)) rfl ?_
  refine go1 (op_extract_same rfl plain_k (has rfl) (has rfl)) rfl ?_
  refine go2 (op_mv (.inr rfl) rfl rfl (has rfl)) rfl ?_
  refine go1 (op_assign rfl (.t (has rfl))) rfl ?_
  refine goesO_nil ?_
  refine ends_then ?_
  refine goes_seq ?_
  refine goes_region ?_
  obtain ⟨v9, h10, H⟩ := bind_some H
  refine go1 (op_call' rfl enters43 (smithylaw14_four.con  _ h10) rfl .nil) rfl ?_
  refine go1 (op_buildSlice rfl at38 (fun h => by first | rfl | cases h) rfl rfl rfl (.cons (.int _ _) (.cons (.int _ _) (.nil _)))) rfl ?_
  obtain ⟨v11, h12, H⟩ := bind_some H
  refine goN (op_callsF' rfl enters19 (walk_Choose.conF _ _ _ _ h12) rfl rfl (.cons (ArgB.k (.t (has rfl))) (.cons (ArgB.own rfl (has rfl)) .nil))) rfl ?_
  refine go1 (op_same (.inl rfl) rfl rfl) rfl ?_
  refine go2 (op_extract_own_same rfl rfl rfl (has rfl) (has rfl)) rfl ?_
  refine go1 (op_extract_same rfl plain_k (has rfl) (has rfl)) rfl ?_
  refine go2 (op_mv (.inr rfl) rfl rfl (has rfl)) rfl ?_
  refine go1 (op_assign rfl (.t (has rfl))) rfl ?_
  refine goesO_nil ?_
  refine ends_then ?_
  refine goes_seq ?_
  obtain ⟨s13, h14, H⟩ := bind_some H
  refine goes_cut [Ent.t 0 (VA.k kbool s13)] ?_ ?_
  · replace H := h14; clear h14
    refine goes_region ?_
    refine go1 (op_move rfl (.t (has rfl))) rfl ?_
    refine go1 (op_icmp rfl rfl (.t (has rfl)) (.int _ _)) rfl ?_
    refine go1 (op_move rfl (.t (has rfl))) rfl ?_
    refine goesO_split H (fun hb15 H => ?_) (fun hb15 H => ?_)
    · skip
      refine goG (op_move rfl (.t (has rfl))) rfl rfl rfl rfl hb15 ?_
      refine goG (op_icmp rfl rfl (.t (has rfl)) (.int _ _)) rfl rfl rfl rfl hb15 ?_
      refine go1 (op_pick_t rfl hb15 (.t (has rfl)) (.t (has rfl))) rfl ?_
      refine go1 (op_move rfl (.t (has rfl))) rfl ?_
      refine goesO_split H (fun hb16 H => ?_) (fun hb16 H => ?_)
      · skip
        refine goesO_settle 3 rfl rfl ?_
        refine goG (op_move rfl (.t (has rfl))) rfl rfl rfl rfl hb16 ?_
        refine goG (op_buildSlice rfl at23 (fun h => by first | rfl | cases h) rfl rfl rfl (.cons (.str _) (.cons (.str _) (.nil _)))) rfl rfl rfl rfl hb16 ?_
        obtain ⟨v17, h18, H⟩ := bind_some H
        refine goG (op_callF' rfl enters15 (smithyplain_Texts.conF _ _ _ _ h18) rfl (.cons (ArgB.k (.t (has rfl))) (.cons (ArgB.own rfl (has rfl)) .nil))) rfl rfl rfl rfl hb16 ?_
        refine go1 (op_pick_t rfl hb16 (.t (has rfl)) (.t (has rfl))) rfl ?_
        refine go1 (op_move rfl (.t (has rfl))) rfl ?_
        refine goesO_split H (fun hb19 H => ?_) (fun hb19 H => ?_)
        · skip
          refine goG (op_move rfl (.t (has rfl))) rfl rfl rfl rfl hb19 ?_
          refine goG (op_icmp rfl rfl (.t (has rfl)) (.int _ _)) rfl rfl rfl rfl hb19 ?_
          refine go1 (op_pick_t rfl hb19 (.t (has rfl)) (.t (has rfl))) rfl ?_
          refine go1 (op_move rfl (.t (has rfl))) rfl ?_
          refine goesO_split H (fun hb20 H => ?_) (fun hb20 H => ?_)
          · skip
            refine goesO_settle 5 rfl rfl ?_
            refine goG (op_move rfl (.t (has rfl))) rfl rfl rfl rfl hb20 ?_
            refine goG (op_buildSlice rfl at23 (fun h => by first | rfl | cases h) rfl rfl rfl (.cons (.str _) (.cons (.str _) (.nil _)))) rfl rfl rfl rfl hb20 ?_
            obtain ⟨v21, h22, H⟩ := bind_some H
            refine goG (op_callF' rfl enters15 (smithyplain_Texts.conF _ _ _ _ h22) rfl (.cons (ArgB.k (.t (has rfl))) (.cons (ArgB.own rfl (has rfl)) .nil))) rfl rfl rfl rfl hb20 ?_
            refine go1 (op_pick_t rfl hb20 (.t (has rfl)) (.t (has rfl))) rfl ?_
            refine go1 (op_move rfl (.t (has rfl))) rfl ?_
            refine goesO_split H (fun hb23 H => ?_) (fun hb23 H => ?_)
            · skip
              refine goG (op_move rfl (.t (has rfl))) rfl rfl rfl rfl hb23 ?_
              refine goG (op_icmp rfl rfl (.t (has rfl)) (.int _ _)) rfl rfl rfl rfl hb23 ?_
              refine go1 (op_pick_t rfl hb23 (.t (has rfl)) (.t (has rfl))) rfl ?_
              refine go1 (op_assign rfl (.t (has rfl))) rfl ?_
              refine goesO_nil ?_
              obtain rfl := Option.some.inj H
              exact ends_cut (.cons rfl .nil)
            · skip
              refine goS rfl rfl rfl rfl rfl rfl hb23 ?_
              refine goS rfl rfl rfl rfl rfl rfl hb23 ?_
              refine go1 (op_pick_f rfl hb23 (.t (has rfl)) (.bool _)) rfl ?_
              refine go1 (op_assign rfl (.t (has rfl))) rfl ?_
              refine goesO_nil ?_
              obtain rfl := Option.some.inj H
              exact ends_cut (.cons rfl .nil)
          · skip
            refine goS rfl rfl rfl rfl rfl rfl hb20 ?_
            refine goS rfl rfl rfl rfl rfl rfl hb20 ?_
            refine goS rfl rfl rfl rfl rfl rfl hb20 ?_
            refine go1 (op_pick_f rfl hb20 (.t (has rfl)) (.bool _)) rfl ?_
            refine go1 (op_move rfl (.t (has rfl))) rfl ?_
            refine goS rfl rfl rfl rfl rfl rfl rfl ?_
            refine goS rfl rfl rfl rfl rfl rfl rfl ?_
            refine go1 (op_pick_f rfl rfl (.t (has rfl)) (.bool _)) rfl ?_
            refine go1 (op_assign rfl (.t (has rfl))) rfl ?_
            refine goesO_nil ?_
            obtain rfl := Option.some.inj H
            exact ends_cut (.cons rfl .nil)
        · skip
          refine goS rfl rfl rfl rfl rfl rfl hb19 ?_
          refine goS rfl rfl rfl rfl rfl rfl hb19 ?_
          refine go1 (op_pick_f rfl hb19 (.t (has rfl)) (.bool _)) rfl ?_
          refine go1 (op_move rfl (.t (has rfl))) rfl ?_
          refine goS rfl rfl rfl rfl rfl rfl rfl ?_
          refine goS rfl rfl rfl rfl rfl rfl rfl ?_
          refine goS rfl rfl rfl rfl rfl rfl rfl ?_
          refine go1 (op_pick_f rfl rfl (.t (has rfl)) (.bool _)) rfl ?_
          refine go1 (op_move rfl (.t (has rfl))) rfl ?_
          refine goS rfl rfl rfl rfl rfl rfl rfl ?_
          refine goS rfl rfl rfl rfl rfl rfl rfl ?_
          refine go1 (op_pick_f rfl rfl (.t (has rfl)) (.bool _)) rfl ?_
          refine go1 (op_assign rfl (.t (has rfl))) rfl ?_
          refine goesO_nil ?_
          obtain rfl := Option.some.inj H
          exact ends_cut (.cons rfl .nil)
      · skip
        refine goS rfl rfl rfl rfl rfl rfl hb16 ?_
        refine goS rfl rfl rfl rfl rfl rfl hb16 ?_
        refine goS rfl rfl rfl rfl rfl rfl hb16 ?_
        refine go1 (op_pick_f rfl hb16 (.t (has rfl)) (.bool _)) rfl ?_
        refine go1 (op_move rfl (.t (has rfl))) rfl ?_
        refine goS rfl rfl rfl rfl rfl rfl rfl ?_
        refine goS rfl rfl rfl rfl rfl rfl rfl ?_
        refine go1 (op_pick_f rfl rfl (.t (has rfl)) (.bool _)) rfl ?_
        refine go1 (op_move rfl (.t (has rfl))) rfl ?_
        refine goS rfl rfl rfl rfl rfl rfl rfl ?_
        refine goS rfl rfl rfl rfl rfl rfl rfl ?_
        refine goS rfl rfl rfl rfl rfl rfl rfl ?_
        refine go1 (op_pick_f rfl rfl (.t (has rfl)) (.bool _)) rfl ?_
        refine go1 (op_move rfl (.t (has rfl))) rfl ?_
        refine goS rfl rfl rfl rfl rfl rfl rfl ?_
        refine goS rfl rfl rfl rfl rfl rfl rfl ?_
        refine go1 (op_pick_f rfl rfl (.t (has rfl)) (.bool _)) rfl ?_
        refine go1 (op_assign rfl (.t (has rfl))) rfl ?_
        refine goesO_nil ?_
        obtain rfl := Option.some.inj H
        exact ends_cut (.cons rfl .nil)
    · skip
      refine goS rfl rfl rfl rfl rfl rfl hb15 ?_
      refine goS rfl rfl rfl rfl rfl rfl hb15 ?_
      refine go1 (op_pick_f rfl hb15 (.t (has rfl)) (.bool _)) rfl ?_
      refine go1 (op_move rfl (.t (has rfl))) rfl ?_
      refine goS rfl rfl rfl rfl rfl rfl rfl ?_
      refine goS rfl rfl rfl rfl rfl rfl rfl ?_
      refine goS rfl rfl rfl rfl rfl rfl rfl ?_
      refine go1 (op_pick_f rfl rfl (.t (has rfl)) (.bool _)) rfl ?_
      refine go1 (op_move rfl (.t (has rfl))) rfl ?_
      refine goS rfl rfl rfl rfl rfl rfl rfl ?_
      refine goS rfl rfl rfl rfl rfl rfl rfl ?_
      refine go1 (op_pick_f rfl rfl (.t (has rfl)) (.bool _)) rfl ?_
      refine go1 (op_move rfl (.t (has rfl))) rfl ?_
      refine goS rfl rfl rfl rfl rfl rfl rfl ?_
      refine goS rfl rfl rfl rfl rfl rfl rfl ?_
      refine goS rfl rfl rfl rfl rfl rfl rfl ?_
      refine go1 (op_pick_f rfl rfl (.t (has rfl)) (.bool _)) rfl ?_
      refine go1 (op_move rfl (.t (has rfl))) rfl ?_
      refine goS rfl rfl rfl rfl rfl rfl rfl ?_
      refine goS rfl rfl rfl rfl rfl rfl rfl ?_
      refine go1 (op_pick_f rfl rfl (.t (has rfl)) (.bool _)) rfl ?_
      refine go1 (op_assign rfl (.t (has rfl))) rfl ?_
      refine goesO_nil ?_
      obtain rfl := Option.some.inj H
      exact ends_cut (.cons rfl .nil)
  refine ends_then ?_
  obtain rfl := Option.some.inj H
  exact goes_ret (ends_ret' rfl rfl (.t rfl (.nil _)))
theorem smithylaw14_speaks.conF (k : Nat) (r : Bool) (H : smithylaw14_speaks.f k = some r) : ConF Try.prog 13 [] [VA.k kbool r] := (smithylaw14_speaks.con k r H).freeL (.cons (KFree.k KFree.bool _) .nil)
/-! smithy/smithyref14.set -/
def smithyref14_set.l1 (a0 : Plan) (s3 : (List Bool) × Int) : Nat → ((List Bool) × Int) → Option (List Bool)
  | 0, _ => none
  | k + 1, s15 => bif icmp .lss s15.2 s3.2 then (((idx s15.1 s15.2).bind fun x21 => bif x21 then ((idx s15.1 s15.2).bind fun x24 => some (s15.1.set s15.2.toNat true)) else ((idx a0.Nodes s3.2).bind fun x26 => (idx a0.Nodes s15.2).bind fun x28 => (smithyref03_Has.f k x26.Needs x28.Target).bind fun v30 => (idx s15.1 s15.2).bind fun x32 => some (s15.1.set s15.2.toNat v30))).bind fun s19 => smithyref14_set.l1 a0 s3 k (s19, IntKind.i64.wrap (s15.2 + (1 : Int)))) else (some s15.1)
def smithyref14_set.l0 (a0 : Plan) (a1 : Int) : Nat → ((List Bool) × Int) → Option (List Bool)
  | 0, _ => none
  | k + 1, s3 => bif icmp .geq s3.2 (0 : Int) then (((bif icmp .neq s3.2 a1 then ((idx s3.1 s3.2).bind fun x12 => some (!x12)) else (some false)).bind fun s9 => bif s9 then (some s3.1) else ((smithyref14_set.l1 a0 s3 k (s3.1, (0 : Int))).bind fun s16 => some s16)).bind fun s7 => smithyref14_set.l0 a0 a1 k (s7, IntKind.i64.wrap (s3.2 - (1 : Int)))) else (some s3.1)
def smithyref14_set.f (k : Nat) (a0 : Plan) (a1 : Int) : Option (List Bool) := (mkrow 1 false (a0.Nodes.length : Int)).bind fun x1 => (smithyref14_set.l0 a0 a1 k (x1, a1)).bind fun s4 => some s4
set_option maxRecDepth 100000 in
set_option maxHeartbeats 4000000 in
theorem smithyref14_set.con (k : Nat) (a0 : Plan) (a1 : Int) (r : List Bool) (H : smithyref14_set.f k a0 a1 = some r) : Con Try.prog 53 [VA.k kPlan a0, VA.k (kint .i64) a1] [VA.own 4 kbool r] := by
  unfold smithyref14_set.f at H
  refine con_enter Try.func53 rfl rfl rfl (fun w0 S0 θ => ?_)
  refine goes_seq ?_
  refine goes_region ?_
  refine go3 (op_box 2 rfl (fun h => by first | rfl | cases h) (.t (has rfl))) rfl ?_
  refine go1 (op_assign_nil 4 kbool (.inr rfl) rfl) rfl ?_
  refine goesO_nil ?_
  refine ends_then ?_
  refine goes_seq ?_
  refine goes_region ?_
  refine go1 (op_fieldAddr rfl Try.underlying25 rfl tk22 (.t (has rfl))) rfl ?_
  refine go1 (op_load rfl fldPlan_Nodes tk22 (.t (has rfl)) (has rfl)) rfl ?_
  refine go1 (op_len rfl rfl Try.underlying22 (.t (has rfl))) rfl ?_
  obtain ⟨x1, h2, H⟩ := bind_some H
  refine go1 (op_makeSlice rfl at81 zk4 h2 (.t (has rfl)) (.t (has rfl))) rfl ?_
  refine go2 (op_mv (.inr rfl) rfl rfl (has rfl)) rfl ?_
  refine goesO_nil ?_
  refine ends_then ?_
  refine goes_seq ?_
  refine goes_seq ?_
  refine goes_region ?_
  refine go1 (op_move rfl (.t (has rfl))) rfl ?_
  refine go1 (op_assign rfl (.t (has rfl))) rfl ?_
  refine goesO_nil ?_
  refine ends_then ?_
  obtain ⟨s4, h5, H⟩ := bind_some H
  refine goes_cut [Ent.t 5 (VA.own 4 kbool s4)] ?_ ?_
  · replace H := h5; clear h5
    refine goes_block ?_
    refine goes_loop (fun s3 : (List Bool) × Int => [Ent.t 1 (VA.k (kint .i64) a1), Ent.t 2 (VA.ptr 2 0), Ent.t 5 (VA.own 4 kbool s3.1), Ent.t 6 (VA.k (kint .i64) s3.2), Ent.h 2 (HE.box 25 kPlan a0)]) (fun k s3 => smithyref14_set.l0 a0 a1 k s3) (fun _ => rfl) H (.cons rfl (.cons rfl (.cons rfl (.cons rfl (.cons rfl .nil))))) ?_
    intro k s3 H
    simp only [smithyref14_set.l0] at H
    refine goes_seq ?_
    refine goes_seq ?_
    refine goes_region ?_
    refine go1 (op_move rfl (.t (has rfl))) rfl ?_
    refine go1 (op_icmp rfl rfl (.t (has rfl)) (.int _ _)) rfl ?_
    refine goesO_nil ?_
    refine ends_then ?_
    refine goes_if (.t (has rfl)) H (fun hb6 H => ?_) (fun hb6 H => ?_)
    · skip
      refine goes_skip ?_
      refine ends_then ?_
      refine goes_seq ?_
      obtain ⟨s7, h8, H⟩ := bind_some H
      refine goes_cut [Ent.t 1 (VA.k (kint .i64) a1), Ent.t 2 (VA.ptr 2 0), Ent.t 5 (VA.own 4 kbool s7), Ent.t 6 (VA.k (kint .i64) s3.2), Ent.h 2 (HE.box 25 kPlan a0)] ?_ ?_
      · replace H := h8; clear h8
        refine goes_block ?_
        refine goes_seq ?_
        refine goes_seq ?_
        obtain ⟨s9, h10, H⟩ := bind_some H
        refine goes_cut [Ent.t 1 (VA.k (kint .i64) a1), Ent.t 2 (VA.ptr 2 0), Ent.t 5 (VA.own 4 kbool s3.1), Ent.t 6 (VA.k (kint .i64) s3.2), Ent.t 26 (VA.k kbool s9), Ent.h 2 (HE.box 25 kPlan a0)] ?_ ?_
        · replace H := h10; clear h10
          refine goes_region ?_
          refine go1 (op_move rfl (.t (has rfl))) rfl ?_
          refine go1 (op_move rfl (.t (has rfl))) rfl ?_
          refine go1 (op_icmp rfl rfl (.t (has rfl)) (.t (has rfl))) rfl ?_
          refine go1 (op_move rfl (.t (has rfl))) rfl ?_
          refine goesO_split H (fun hb11 H => ?_) (fun hb11 H => ?_)
          · skip
            refine goG (op_same (.inl rfl) rfl rfl) rfl rfl rfl rfl hb11 ?_
            refine goG (op_move rfl (.t (has rfl))) rfl rfl rfl rfl hb11 ?_
            obtain ⟨x12, h13, H⟩ := bind_some H
            refine goG (op_indexAddr_own rfl rfl Try.underlying81 tk4 h13 (.same (has rfl)) (has rfl) (.t (has rfl))) rfl rfl rfl rfl hb11 ?_
            refine goG (op_load_oe (off := 0) rfl (Fld.whole kbool) tk4 h13 (has rfl) (has rfl)) rfl rfl rfl rfl hb11 ?_
            refine goG (op_not rfl (.t (has rfl))) rfl rfl rfl rfl hb11 ?_
            refine go1 (op_pick_t rfl hb11 (.t (has rfl)) (.t (has rfl))) rfl ?_
            refine goesO_nil ?_
            obtain rfl := Option.some.inj H
            exact ends_cut (.cons rfl (.cons rfl (.cons rfl (.cons rfl (.cons rfl (.cons rfl .nil))))))
          · skip
            refine goS rfl rfl rfl rfl rfl rfl hb11 ?_
            refine goS rfl rfl rfl rfl rfl rfl hb11 ?_
            refine goS rfl rfl rfl rfl rfl rfl hb11 ?_
            refine goS rfl rfl rfl rfl rfl rfl hb11 ?_
            refine goS rfl rfl rfl rfl rfl rfl hb11 ?_
            refine go1 (op_pick_f rfl hb11 (.t (has rfl)) (.bool _)) rfl ?_
            refine goesO_nil ?_
            obtain rfl := Option.some.inj H
            exact ends_cut (.cons rfl (.cons rfl (.cons rfl (.cons rfl (.cons rfl (.cons rfl .nil))))))
        refine ends_then ?_
        refine goes_if (.t (has rfl)) H (fun hb14 H => ?_) (fun hb14 H => ?_)
        · skip
          refine goes_exit (ends_then_exit (ends_block_exit ?_))
          obtain rfl := Option.some.inj H
          exact ends_cut (.cons rfl (.cons rfl (.cons rfl (.cons rfl (.cons rfl .nil)))))
        · skip
          refine goes_skip ?_
          refine ends_then ?_
          refine goes_seq ?_
          refine goes_region ?_
          refine go1 (op_assign rfl (.int _ _)) rfl ?_
          refine goesO_nil ?_
          refine ends_then ?_
          obtain ⟨s16, h17, H⟩ := bind_some H
          refine goes_cut [Ent.t 1 (VA.k (kint .i64) a1), Ent.t 2 (VA.ptr 2 0), Ent.t 5 (VA.own 4 kbool s16), Ent.t 6 (VA.k (kint .i64) s3.2), Ent.h 2 (HE.box 25 kPlan a0)] ?_ ?_
          · replace H := h17; clear h17
            refine goes_block ?_
            refine goes_loop (fun s15 : (List Bool) × Int => [Ent.t 1 (VA.k (kint .i64) a1), Ent.t 2 (VA.ptr 2 0), Ent.t 5 (VA.own 4 kbool s15.1), Ent.t 6 (VA.k (kint .i64) s3.2), Ent.t 7 (VA.k (kint .i64) s15.2), Ent.h 2 (HE.box 25 kPlan a0)]) (fun k s15 => smithyref14_set.l1 a0 s3 k s15) (fun _ => rfl) H (.cons rfl (.cons rfl (.cons rfl (.cons rfl (.cons rfl (.cons rfl .nil)))))) ?_
            intro k s15 H
            simp only [smithyref14_set.l1] at H
            refine goes_seq ?_
            refine goes_seq ?_
            refine goes_region ?_
            refine go1 (op_move rfl (.t (has rfl))) rfl ?_
            refine go1 (op_move rfl (.t (has rfl))) rfl ?_
            refine go1 (op_icmp rfl rfl (.t (has rfl)) (.t (has rfl))) rfl ?_
            refine goesO_nil ?_
            refine ends_then ?_
            refine goes_if (.t (has rfl)) H (fun hb18 H => ?_) (fun hb18 H => ?_)
            · skip
              refine goes_skip ?_
              refine ends_then ?_
              refine goes_seq ?_
              refine goes_block ?_
              obtain ⟨s19, h20, H⟩ := bind_some H
              refine goes_cut [Ent.t 1 (VA.k (kint .i64) a1), Ent.t 2 (VA.ptr 2 0), Ent.t 5 (VA.own 4 kbool s19), Ent.t 6 (VA.k (kint .i64) s3.2), Ent.t 7 (VA.k (kint .i64) s15.2), Ent.h 2 (HE.box 25 kPlan a0)] ?_ ?_
              · replace H := h20; clear h20
                obtain ⟨x21, h22, H⟩ := bind_some H
                refine goes_split H (fun hb23 H => ?_) (fun hb23 H => ?_)
                · skip
                  obtain ⟨x24, h25, H⟩ := bind_some H
                  refine goes_drawn [[Ent.same 32 5], [Ent.t 33 (VA.k (kint .i64) s15.2)], [Ent.same 34 5], [Ent.t 35 (VA.k (kint .i64) s15.2)], [Ent.oe 36 5 (s15.2.toNat * kbool.sz)], [Ent.t 37 (VA.k kbool x21)], [Ent.t 38 (VA.k kbool x21)], [Ent.t 39 (VA.v undef)], [Ent.t 40 (VA.v undef)], [Ent.t 41 (VA.v undef)], [Ent.t 42 (VA.v undef)], [Ent.t 43 (VA.v undef)], [Ent.t 44 (VA.v undef)], [Ent.t 45 (VA.v undef)], [Ent.t 46 (VA.v undef)], [Ent.t 47 (VA.v undef)], [Ent.t 48 (VA.v undef)], [Ent.t 49 (VA.v undef)], [Ent.t 50 (VA.v undef)], [Ent.t 51 (VA.v undef)], [Ent.t 52 (VA.k kbool true)], [Ent.oe 53 5 (s15.2.toNat * kbool.sz)], [Ent.t 5 (VA.own 4 kbool (s15.1.set s15.2.toNat true))]] mixed (by kernel_rfl) (by kernel_rfl) (.cons [] (OpSpec.run rfl rfl (op_same (.inl rfl) rfl rfl) rfl) .nil (by kernel_rfl) (.cons [(none, Ent.t 7 (VA.k (kint .i64) s15.2))] (OpSpec.run rfl rfl (op_move rfl (.t NL.h0)) rfl) (.cons (has rfl) .nil) (by kernel_rfl) (.cons [] (OpSpec.run rfl rfl (op_same (.inl rfl) rfl rfl) rfl) .nil (by kernel_rfl) (.cons [(none, Ent.t 7 (VA.k (kint .i64) s15.2))] (OpSpec.run rfl rfl (op_move rfl (.t NL.h0)) rfl) (.cons (has rfl) .nil) (by kernel_rfl) (.cons [(some 3, Ent.t 35 (VA.k (kint .i64) s15.2)), (some 2, Ent.same 34 5), (none, Ent.t 5 (VA.own 4 kbool s15.1))] (OpSpec.run rfl rfl (op_indexAddr_own rfl rfl Try.underlying81 tk4 h22 (.same (NL.hs NL.h0)) (NL.hs (NL.hs NL.h0)) (.t NL.h0)) rfl) (.cons (has rfl) (.cons (has rfl) (.cons (has rfl) .nil))) (by kernel_rfl) (.cons [(none, Ent.t 5 (VA.own 4 kbool s15.1)), (some 4, Ent.oe 36 5 (s15.2.toNat * kbool.sz))] (OpSpec.run rfl rfl (op_load_oe (off := 0) rfl (Fld.whole kbool) tk4 h22 NL.h0 (NL.hs NL.h0)) rfl) (.cons (has rfl) (.cons (has rfl) .nil)) (by kernel_rfl) (.cons [(some 5, Ent.t 37 (VA.k kbool x21))] (OpSpec.run rfl rfl (op_move rfl (.t NL.h0)) rfl) (.cons (has rfl) .nil) (by kernel_rfl) (.cons [(some 6, Ent.t 38 (VA.k kbool x21))] (run_skip rfl rfl rfl rfl rfl rfl NL.h0 hb23) (.cons (has rfl) .nil) (by kernel_rfl) (.cons [(some 6, Ent.t 38 (VA.k kbool x21))] (run_skip rfl rfl rfl rfl rfl rfl NL.h0 hb23) (.cons (has rfl) .nil) (by kernel_rfl) (.cons [(some 6, Ent.t 38 (VA.k kbool x21))] (run_skip rfl rfl rfl rfl rfl rfl NL.h0 hb23) (.cons (has rfl) .nil) (by kernel_rfl) (.cons [(some 6, Ent.t 38 (VA.k kbool x21))] (run_skip rfl rfl rfl rfl rfl rfl NL.h0 hb23) (.cons (has rfl) .nil) (by kernel_rfl) (.cons [(some 6, Ent.t 38 (VA.k kbool x21))] (run_skip rfl rfl rfl rfl rfl rfl NL.h0 hb23) (.cons (has rfl) .nil) (by kernel_rfl) (.cons [(some 6, Ent.t 38 (VA.k kbool x21))] (run_skip rfl rfl rfl rfl rfl rfl NL.h0 hb23) (.cons (has rfl) .nil) (by kernel_rfl) (.cons [(some 6, Ent.t 38 (VA.k kbool x21))] (run_skip rfl rfl rfl rfl rfl rfl NL.h0 hb23) (.cons (has rfl) .nil) (by kernel_rfl) (.cons [(some 6, Ent.t 38 (VA.k kbool x21))] (run_skip rfl rfl rfl rfl rfl rfl NL.h0 hb23) (.cons (has rfl) .nil) (by kernel_rfl) (.cons [(some 6, Ent.t 38 (VA.k kbool x21))] (run_skip rfl rfl rfl rfl rfl rfl NL.h0 hb23) (.cons (has rfl) .nil) (by kernel_rfl) (.cons [(some 6, Ent.t 38 (VA.k kbool x21))] (run_skip rfl rfl rfl rfl rfl rfl NL.h0 hb23) (.cons (has rfl) .nil) (by kernel_rfl) (.cons [(some 6, Ent.t 38 (VA.k kbool x21))] (run_skip rfl rfl rfl rfl rfl rfl NL.h0 hb23) (.cons (has rfl) .nil) (by kernel_rfl) (.cons [(some 6, Ent.t 38 (VA.k kbool x21))] (run_skip rfl rfl rfl rfl rfl rfl NL.h0 hb23) (.cons (has rfl) .nil) (by kernel_rfl) (.cons [(some 6, Ent.t 38 (VA.k kbool x21))] (run_skip rfl rfl rfl rfl rfl rfl NL.h0 hb23) (.cons (has rfl) .nil) (by kernel_rfl) (.cons [(some 6, Ent.t 38 (VA.k kbool x21))] (OpSpec.run rfl rfl (op_pick_t rfl hb23 (.t NL.h0) (.bool _)) rfl) (.cons (has rfl) .nil) (by kernel_rfl) (.cons [(some 1, Ent.t 33 (VA.k (kint .i64) s15.2)), (some 0, Ent.same 32 5), (none, Ent.t 5 (VA.own 4 kbool s15.1))] (OpSpec.run rfl rfl (op_indexAddr_own rfl rfl Try.underlying81 tk4 h25 (.same (NL.hs NL.h0)) (NL.hs (NL.hs NL.h0)) (.t NL.h0)) rfl) (.cons (has rfl) (.cons (has rfl) (.cons (has rfl) .nil))) (by kernel_rfl) (.cons [(some 20, Ent.t 52 (VA.k kbool true)), (none, Ent.t 5 (VA.own 4 kbool s15.1)), (some 21, Ent.oe 53 5 (s15.2.toNat * kbool.sz))] (OpSpec.run rfl rfl (op_store_oe (off := 0) (Fld.whole kbool) tk4 h25 (NL.hs NL.h0) (NL.hs (NL.hs NL.h0)) (.t NL.h0)) rfl) (.cons (has rfl) (.cons (has rfl) (.cons (has rfl) .nil))) (by kernel_rfl) (.nil _)))))))))))))))))))))))) ?_
                  refine ends_sub [Ent.t 1 (VA.k (kint .i64) a1), Ent.t 2 (VA.ptr 2 0), Ent.t 5 (VA.own 4 kbool (s15.1.set s15.2.toNat true)), Ent.t 6 (VA.k (kint .i64) s3.2), Ent.t 7 (VA.k (kint .i64) s15.2), Ent.h 2 (HE.box 25 kPlan a0)] (.cons rfl (.cons rfl (.cons rfl (.cons rfl (.cons rfl (.cons rfl .nil)))))) ?_
                  obtain rfl := Option.some.inj H
                  exact ends_cut (.cons rfl (.cons rfl (.cons rfl (.cons rfl (.cons rfl (.cons rfl .nil))))))
                · skip
                  obtain ⟨x26, h27, H⟩ := bind_some H
                  obtain ⟨x28, h29, H⟩ := bind_some H
                  obtain ⟨v30, h31, H⟩ := bind_some H
                  obtain ⟨x32, h33, H⟩ := bind_some H
                  refine goes_drawn [[Ent.same 32 5], [Ent.t 33 (VA.k (kint .i64) s15.2)], [Ent.same 34 5], [Ent.t 35 (VA.k (kint .i64) s15.2)], [Ent.oe 36 5 (s15.2.toNat * kbool.sz)], [Ent.t 37 (VA.k kbool x21)], [Ent.t 38 (VA.k kbool x21)], [Ent.t 39 (VA.ptr 2 0)], [Ent.t 40 (VA.k (kslice kNode) a0.Nodes)], [Ent.t 41 (VA.k (kint .i64) s3.2)], [Ent.t 42 (VA.pt kNode x26)], [Ent.t 43 (VA.pt (kslice kstr) x26.Needs)], [Ent.t 44 (VA.k (kslice kstr) x26.Needs)], [Ent.t 45 (VA.ptr 2 0)], [Ent.t 46 (VA.k (kslice kNode) a0.Nodes)], [Ent.t 47 (VA.k (kint .i64) s15.2)], [Ent.t 48 (VA.pt kNode x28)], [Ent.t 49 (VA.pt kstr x28.Target)], [Ent.t 50 (VA.k kstr x28.Target)], [Ent.t 51 (VA.k kbool v30)], [Ent.t 52 (VA.k kbool v30)], [Ent.oe 53 5 (s15.2.toNat * kbool.sz)], [Ent.t 5 (VA.own 4 kbool (s15.1.set s15.2.toNat v30))]] mixed (by kernel_rfl) (by kernel_rfl) (.cons [] (OpSpec.run rfl rfl (op_same (.inl rfl) rfl rfl) rfl) .nil (by kernel_rfl) (.cons [(none, Ent.t 7 (VA.k (kint .i64) s15.2))] (OpSpec.run rfl rfl (op_move rfl (.t NL.h0)) rfl) (.cons (has rfl) .nil) (by kernel_rfl) (.cons [] (OpSpec.run rfl rfl (op_same (.inl rfl) rfl rfl) rfl) .nil (by kernel_rfl) (.cons [(none, Ent.t 7 (VA.k (kint .i64) s15.2))] (OpSpec.run rfl rfl (op_move rfl (.t NL.h0)) rfl) (.cons (has rfl) .nil) (by kernel_rfl) (.cons [(some 3, Ent.t 35 (VA.k (kint .i64) s15.2)), (some 2, Ent.same 34 5), (none, Ent.t 5 (VA.own 4 kbool s15.1))] (OpSpec.run rfl rfl (op_indexAddr_own rfl rfl Try.underlying81 tk4 h22 (.same (NL.hs NL.h0)) (NL.hs (NL.hs NL.h0)) (.t NL.h0)) rfl) (.cons (has rfl) (.cons (has rfl) (.cons (has rfl) .nil))) (by kernel_rfl) (.cons [(none, Ent.t 5 (VA.own 4 kbool s15.1)), (some 4, Ent.oe 36 5 (s15.2.toNat * kbool.sz))] (OpSpec.run rfl rfl (op_load_oe (off := 0) rfl (Fld.whole kbool) tk4 h22 NL.h0 (NL.hs NL.h0)) rfl) (.cons (has rfl) (.cons (has rfl) .nil)) (by kernel_rfl) (.cons [(some 5, Ent.t 37 (VA.k kbool x21))] (OpSpec.run rfl rfl (op_move rfl (.t NL.h0)) rfl) (.cons (has rfl) .nil) (by kernel_rfl) (.cons [(some 6, Ent.t 38 (VA.k kbool x21)), (none, Ent.t 2 (VA.ptr 2 0))] (OpSpec.runG rfl rfl rfl rfl NL.h0 hb23 (op_fieldAddr rfl Try.underlying25 rfl tk22 (.t (NL.hs NL.h0))) rfl) (.cons (has rfl) (.cons (has rfl) .nil)) (by kernel_rfl) (.cons [(some 6, Ent.t 38 (VA.k kbool x21)), (some 7, Ent.t 39 (VA.ptr 2 0)), (none, Ent.h 2 (HE.box 25 kPlan a0))] (OpSpec.runG rfl rfl rfl rfl NL.h0 hb23 (op_load rfl fldPlan_Nodes tk22 (.t (NL.hs NL.h0)) (NL.hs (NL.hs NL.h0))) rfl) (.cons (has rfl) (.cons (has rfl) (.cons (has rfl) .nil))) (by kernel_rfl) (.cons [(some 6, Ent.t 38 (VA.k kbool x21)), (none, Ent.t 6 (VA.k (kint .i64) s3.2))] (OpSpec.runG rfl rfl rfl rfl NL.h0 hb23 (op_move rfl (.t (NL.hs NL.h0))) rfl) (.cons (has rfl) (.cons (has rfl) .nil)) (by kernel_rfl) (.cons [(some 6, Ent.t 38 (VA.k kbool x21)), (some 8, Ent.t 40 (VA.k (kslice kNode) a0.Nodes)), (some 9, Ent.t 41 (VA.k (kint .i64) s3.2))] (OpSpec.runG rfl rfl rfl rfl NL.h0 hb23 (op_indexAddr rfl Try.underlying22 tk48 h27 (.t (NL.hs NL.h0)) (.t (NL.hs (NL.hs NL.h0)))) rfl) (.cons (has rfl) (.cons (has rfl) (.cons (has rfl) .nil))) (by kernel_rfl) (.cons [(some 6, Ent.t 38 (VA.k kbool x21)), (some 10, Ent.t 42 (VA.pt kNode x26))] (OpSpec.runG rfl rfl rfl rfl NL.h0 hb23 (op_fieldAddrp rfl fldNode_Needs Try.underlying48 rfl tk23 (.t (NL.hs NL.h0))) rfl) (.cons (has rfl) (.cons (has rfl) .nil)) (by kernel_rfl) (.cons [(some 6, Ent.t 38 (VA.k kbool x21)), (some 11, Ent.t 43 (VA.pt (kslice kstr) x26.Needs))] (OpSpec.runG rfl rfl rfl rfl NL.h0 hb23 (op_loadp rfl tk23 (.t (NL.hs NL.h0))) rfl) (.cons (has rfl) (.cons (has rfl) .nil)) (by kernel_rfl) (.cons [(some 6, Ent.t 38 (VA.k kbool x21)), (none, Ent.t 2 (VA.ptr 2 0))] (OpSpec.runG rfl rfl rfl rfl NL.h0 hb23 (op_fieldAddr rfl Try.underlying25 rfl tk22 (.t (NL.hs NL.h0))) rfl) (.cons (has rfl) (.cons (has rfl) .nil)) (by kernel_rfl) (.cons [(some 6, Ent.t 38 (VA.k kbool x21)), (some 13, Ent.t 45 (VA.ptr 2 0)), (none, Ent.h 2 (HE.box 25 kPlan a0))] (OpSpec.runG rfl rfl rfl rfl NL.h0 hb23 (op_load rfl fldPlan_Nodes tk22 (.t (NL.hs NL.h0)) (NL.hs (NL.hs NL.h0))) rfl) (.cons (has rfl) (.cons (has rfl) (.cons (has rfl) .nil))) (by kernel_rfl) (.cons [(some 6, Ent.t 38 (VA.k kbool x21)), (none, Ent.t 7 (VA.k (kint .i64) s15.2))] (OpSpec.runG rfl rfl rfl rfl NL.h0 hb23 (op_move rfl (.t (NL.hs NL.h0))) rfl) (.cons (has rfl) (.cons (has rfl) .nil)) (by kernel_rfl) (.cons [(some 6, Ent.t 38 (VA.k kbool x21)), (some 14, Ent.t 46 (VA.k (kslice kNode) a0.Nodes)), (some 15, Ent.t 47 (VA.k (kint .i64) s15.2))] (OpSpec.runG rfl rfl rfl rfl NL.h0 hb23 (op_indexAddr rfl Try.underlying22 tk48 h29 (.t (NL.hs NL.h0)) (.t (NL.hs (NL.hs NL.h0)))) rfl) (.cons (has rfl) (.cons (has rfl) (.cons (has rfl) .nil))) (by kernel_rfl) (.cons [(some 6, Ent.t 38 (VA.k kbool x21)), (some 16, Ent.t 48 (VA.pt kNode x28))] (OpSpec.runG rfl rfl rfl rfl NL.h0 hb23 (op_fieldAddrp rfl fldNode_Target Try.underlying48 rfl tk9 (.t (NL.hs NL.h0))) rfl) (.cons (has rfl) (.cons (has rfl) .nil)) (by kernel_rfl) (.cons [(some 6, Ent.t 38 (VA.k kbool x21)), (some 17, Ent.t 49 (VA.pt kstr x28.Target))] (OpSpec.runG rfl rfl rfl rfl NL.h0 hb23 (op_loadp rfl tk9 (.t (NL.hs NL.h0))) rfl) (.cons (has rfl) (.cons (has rfl) .nil)) (by kernel_rfl) (.cons [(some 6, Ent.t 38 (VA.k kbool x21)), (some 12, Ent.t 44 (VA.k (kslice kstr) x26.Needs)), (some 18, Ent.t 50 (VA.k kstr x28.Target))] (OpSpec.runG rfl rfl rfl rfl NL.h0 hb23 (op_call' rfl enters33 (smithyref03_Has.con _ _ _ _ h31) rfl (.cons (ArgP.k (.t (NL.hs NL.h0))) (.cons (ArgP.k (.t (NL.hs (NL.hs NL.h0)))) .nil))) rfl) (.cons (has rfl) (.cons (has rfl) (.cons (has rfl) .nil))) (by kernel_rfl) (.cons [(some 6, Ent.t 38 (VA.k kbool x21)), (some 19, Ent.t 51 (VA.k kbool v30))] (OpSpec.run rfl rfl (op_pick_f rfl hb23 (.t NL.h0) (.t (NL.hs NL.h0))) rfl) (.cons (has rfl) (.cons (has rfl) .nil)) (by kernel_rfl) (.cons [(some 1, Ent.t 33 (VA.k (kint .i64) s15.2)), (some 0, Ent.same 32 5), (none, Ent.t 5 (VA.own 4 kbool s15.1))] (OpSpec.run rfl rfl (op_indexAddr_own rfl rfl Try.underlying81 tk4 h33 (.same (NL.hs NL.h0)) (NL.hs (NL.hs NL.h0)) (.t NL.h0)) rfl) (.cons (has rfl) (.cons (has rfl) (.cons (has rfl) .nil))) (by kernel_rfl) (.cons [(some 20, Ent.t 52 (VA.k kbool v30)), (none, Ent.t 5 (VA.own 4 kbool s15.1)), (some 21, Ent.oe 53 5 (s15.2.toNat * kbool.sz))] (OpSpec.run rfl rfl (op_store_oe (off := 0) (Fld.whole kbool) tk4 h33 (NL.hs NL.h0) (NL.hs (NL.hs NL.h0)) (.t NL.h0)) rfl) (.cons (has rfl) (.cons (has rfl) (.cons (has rfl) .nil))) (by kernel_rfl) (.nil _)))))))))))))))))))))))) ?_
                  refine ends_sub [Ent.t 1 (VA.k (kint .i64) a1), Ent.t 2 (VA.ptr 2 0), Ent.t 5 (VA.own 4 kbool (s15.1.set s15.2.toNat v30)), Ent.t 6 (VA.k (kint .i64) s3.2), Ent.t 7 (VA.k (kint .i64) s15.2), Ent.t 39 (VA.ptr 2 0), Ent.t 40 (VA.k (kslice kNode) a0.Nodes), Ent.t 41 (VA.k (kint .i64) s3.2), Ent.t 42 (VA.pt kNode x26), Ent.t 43 (VA.pt (kslice kstr) x26.Needs), Ent.t 44 (VA.k (kslice kstr) x26.Needs), Ent.t 45 (VA.ptr 2 0), Ent.t 46 (VA.k (kslice kNode) a0.Nodes), Ent.t 47 (VA.k (kint .i64) s15.2), Ent.t 48 (VA.pt kNode x28), Ent.t 49 (VA.pt kstr x28.Target), Ent.t 50 (VA.k kstr x28.Target), Ent.t 51 (VA.k kbool v30), Ent.h 2 (HE.box 25 kPlan a0)] (.cons rfl (.cons rfl (.cons rfl (.cons rfl (.cons rfl (.cons rfl (.cons rfl (.cons rfl (.cons rfl (.cons rfl (.cons rfl (.cons rfl (.cons rfl (.cons rfl (.cons rfl (.cons rfl (.cons rfl (.cons rfl (.cons rfl .nil))))))))))))))))))) ?_
                  obtain rfl := Option.some.inj H
                  exact ends_cut (.cons rfl (.cons rfl (.cons rfl (.cons rfl (.cons rfl (.cons rfl .nil))))))
              refine ends_block ?_
              refine ends_then ?_
              refine goes_region ?_
              refine go1 (op_move rfl (.t (has rfl))) rfl ?_
              refine go1 (op_add rfl (.t (has rfl)) (.int _ _)) rfl ?_
              refine go1 (op_assign rfl (.t (has rfl))) rfl ?_
              refine goesO_nil ?_
              exact loop_next _ H (.cons rfl (.cons rfl (.cons rfl (.cons rfl (.cons rfl (.cons rfl .nil))))))
            · skip
              refine goes_exit (ends_then_exit (ends_then_exit (ends_block_exit ?_)))
              obtain rfl := Option.some.inj H
              exact ends_cut (.cons rfl (.cons rfl (.cons rfl (.cons rfl (.cons rfl .nil)))))
          refine ends_block ?_
          obtain rfl := Option.some.inj H
          exact ends_cut (.cons rfl (.cons rfl (.cons rfl (.cons rfl (.cons rfl .nil)))))
      refine ends_then ?_
      refine goes_region ?_
      refine go1 (op_move rfl (.t (has rfl))) rfl ?_
      refine go1 (op_sub rfl (.t (has rfl)) (.int _ _)) rfl ?_
      refine go1 (op_assign rfl (.t (has rfl))) rfl ?_
      refine goesO_nil ?_
      exact loop_next _ H (.cons rfl (.cons rfl (.cons rfl (.cons rfl (.cons rfl .nil)))))
    · skip
      refine goes_exit (ends_then_exit (ends_then_exit (ends_block_exit ?_)))
      obtain rfl := Option.some.inj H
      exact ends_cut (.cons rfl .nil)
  refine ends_then ?_
  refine goes_seq ?_
  refine goes_region ?_
  refine go2 (op_mv (.inl rfl) rfl rfl (has rfl)) rfl ?_
  refine go2 (op_mv (.inr rfl) rfl rfl (has rfl)) rfl ?_
  refine goesO_nil ?_
  refine ends_then ?_
  obtain rfl := Option.some.inj H
  exact goes_ret (ends_ret' rfl rfl (.t rfl (.nil _)))
theorem smithyref14_set.conF (k : Nat) (a0 : Plan) (a1 : Int) (r : List Bool) (H : smithyref14_set.f k a0 a1 = some r) : ConF Try.prog 53 [VA.k kPlan a0, VA.k (kint .i64) a1] [VA.own 4 kbool r] := (smithyref14_set.con k a0 a1 r H).freeL (.cons (KFree.own KFree.bool _ _) .nil)
/-! smithy/smithyref14.Below -/
def smithyref14_Below.l0 (a0 : Plan) (v3 : (List Bool)) : Nat → ((List ByteArray) × Int) → Option (List ByteArray)
  | 0, _ => none
  | k + 1, s5 => bif icmp .lss s5.2 (v3.length : Int) then (((idx v3 s5.2).bind fun x11 => bif x11 then ((idx a0.Nodes s5.2).bind fun x14 => (app 16 s5.1 ([x14.Target])).bind fun x16 => some x16) else (some s5.1)).bind fun s9 => smithyref14_Below.l0 a0 v3 k (s9, IntKind.i64.wrap (s5.2 + (1 : Int)))) else (some s5.1)
def smithyref14_Below.f (k : Nat) (a0 : Plan) (a1 : ByteArray) : Option (List ByteArray) := (smithyref12_Place.f k a0 a1).bind fun v1 => (smithyref14_set.f k a0 v1).bind fun v3 => (smithyref14_Below.l0 a0 v3 k (([] : List ByteArray), (0 : Int))).bind fun s6 => some s6
set_option maxRecDepth 100000 in
set_option maxHeartbeats 4000000 in
theorem smithyref14_Below.con (k : Nat) (a0 : Plan) (a1 : ByteArray) (r : List ByteArray) (H : smithyref14_Below.f k a0 a1 = some r) : Con Try.prog 30 [VA.k kPlan a0, VA.k kstr a1] [VA.own 9 kstr r] := by
  unfold smithyref14_Below.f at H
  refine con_enter Try.func30 rfl rfl rfl (fun w0 S0 θ => ?_)
  refine goes_seq ?_
  refine goes_region ?_
  refine go3 (op_box 2 rfl (fun h => by first | rfl | cases h) (.t (has rfl))) rfl ?_
  refine go1 (op_assign_nil 9 kstr (.inr rfl) rfl) rfl ?_
  refine goesO_nil ?_
  refine ends_then ?_
  refine goes_seq ?_
  obtain ⟨v1, h2, H⟩ := bind_some H
  obtain ⟨v3, h4, H⟩ := bind_some H
  refine goes_drawn [[Ent.t 8 (VA.k kPlan a0)], [Ent.t 9 (VA.k kPlan a0)], [Ent.t 10 (VA.k kstr a1)], [Ent.t 11 (VA.k (kint .i64) v1)], [Ent.t 12 (VA.own 4 kbool v3)], [Ent.t 5 (VA.own 4 kbool v3), Ent.t 12 (VA.any)]] mixed (by kernel_rfl) (by kernel_rfl) (.cons [(none, Ent.t 2 (VA.ptr 2 0)), (none, Ent.h 2 (HE.box 25 kPlan a0))] (OpSpec.run rfl rfl (op_load rfl (Fld.whole kPlan) tk25 (.t NL.h0) (NL.hs NL.h0)) rfl) (.cons (has rfl) (.cons (has rfl) .nil)) (by kernel_rfl) (.cons [(none, Ent.t 2 (VA.ptr 2 0)), (none, Ent.h 2 (HE.box 25 kPlan a0))] (OpSpec.run rfl rfl (op_load rfl (Fld.whole kPlan) tk25 (.t NL.h0) (NL.hs NL.h0)) rfl) (.cons (has rfl) (.cons (has rfl) .nil)) (by kernel_rfl) (.cons [(none, Ent.t 1 (VA.k kstr a1))] (OpSpec.run rfl rfl (op_move rfl (.t NL.h0)) rfl) (.cons (has rfl) .nil) (by kernel_rfl) (.cons [(some 1, Ent.t 9 (VA.k kPlan a0)), (some 2, Ent.t 10 (VA.k kstr a1))] (OpSpec.run rfl rfl (op_call' rfl enters42 (smithyref12_Place.con _ _ _ _ h2) rfl (.cons (ArgP.k (.t NL.h0)) (.cons (ArgP.k (.t (NL.hs NL.h0))) .nil))) rfl) (.cons (has rfl) (.cons (has rfl) .nil)) (by kernel_rfl) (.cons [(some 0, Ent.t 8 (VA.k kPlan a0)), (some 3, Ent.t 11 (VA.k (kint .i64) v1))] (OpSpec.run rfl rfl (op_call' rfl enters53 (smithyref14_set.con _ _ _ _ h4) rfl (.cons (ArgP.k (.t NL.h0)) (.cons (ArgP.k (.t (NL.hs NL.h0))) .nil))) rfl) (.cons (has rfl) (.cons (has rfl) .nil)) (by kernel_rfl) (.cons [(some 4, Ent.t 12 (VA.own 4 kbool v3))] (OpSpec.run rfl rfl (op_mv (.inr rfl) rfl rfl NL.h0) rfl) (.cons (has rfl) .nil) (by kernel_rfl) (.nil _))))))) ?_
  refine ends_sub [Ent.t 2 (VA.ptr 2 0), Ent.t 5 (VA.own 4 kbool v3), Ent.h 2 (HE.box 25 kPlan a0)] (.cons rfl (.cons rfl (.cons rfl .nil))) ?_
  refine ends_then ?_
  refine goes_seq ?_
  refine goes_region ?_
  refine go1 (op_assign_nil 9 kstr (.inr rfl) rfl) rfl ?_
  refine goesO_nil ?_
  refine ends_then ?_
  refine goes_seq ?_
  refine goes_seq ?_
  refine goes_region ?_
  refine go1 (op_assign rfl (.int _ _)) rfl ?_
  refine goesO_nil ?_
  refine ends_then ?_
  refine goes_settle 5 rfl rfl ?_
  obtain ⟨s6, h7, H⟩ := bind_some H
  refine goes_cut [Ent.t 6 (VA.own 9 kstr s6)] ?_ ?_
  · replace H := h7; clear h7
    refine goes_block ?_
    refine goes_loop (fun s5 : (List ByteArray) × Int => [Ent.t 2 (VA.ptr 2 0), Ent.t 5 (VA.k (kslice kbool) v3), Ent.t 6 (VA.own 9 kstr s5.1), Ent.t 7 (VA.k (kint .i64) s5.2), Ent.h 2 (HE.box 25 kPlan a0)]) (fun k s5 => smithyref14_Below.l0 a0 v3 k s5) (fun _ => rfl) H (.cons rfl (.cons rfl (.cons rfl (.cons rfl (.cons rfl .nil))))) ?_
    intro k s5 H
    simp only [smithyref14_Below.l0] at H
    refine goes_seq ?_
    refine goes_seq ?_
    refine goes_region ?_
    refine go1 (op_move rfl (.t (has rfl))) rfl ?_
    refine go1 (op_move rfl (.t (has rfl))) rfl ?_
    refine go1 (op_len rfl rfl Try.underlying81 (.t (has rfl))) rfl ?_
    refine go1 (op_icmp rfl rfl (.t (has rfl)) (.t (has rfl))) rfl ?_
    refine goesO_nil ?_
    refine ends_then ?_
    refine goes_if (.t (has rfl)) H (fun hb8 H => ?_) (fun hb8 H => ?_)
    · skip
      refine goes_skip ?_
      refine ends_then ?_
      refine goes_seq ?_
      obtain ⟨s9, h10, H⟩ := bind_some H
      refine goes_cut [Ent.t 2 (VA.ptr 2 0), Ent.t 5 (VA.k (kslice kbool) v3), Ent.t 6 (VA.own 9 kstr s9), Ent.t 7 (VA.k (kint .i64) s5.2), Ent.h 2 (HE.box 25 kPlan a0)] ?_ ?_
      · replace H := h10; clear h10
        refine goes_block ?_
        refine goes_seq ?_
        refine goes_region ?_
        refine go1 (op_move rfl (.t (has rfl))) rfl ?_
        refine go1 (op_move rfl (.t (has rfl))) rfl ?_
        obtain ⟨x11, h12, H⟩ := bind_some H
        refine go1 (op_indexAddr rfl Try.underlying81 tk4 h12 (.t (has rfl)) (.t (has rfl))) rfl ?_
        refine go1 (op_loadp rfl tk4 (.t (has rfl))) rfl ?_
        refine goesO_nil ?_
        refine ends_then ?_
        refine goes_if (.t (has rfl)) H (fun hb13 H => ?_) (fun hb13 H => ?_)
        · skip
          refine goes_region ?_
          refine go2 (op_mv (.inl rfl) rfl rfl (has rfl)) rfl ?_
          refine go1 (op_fieldAddr rfl Try.underlying25 rfl tk22 (.t (has rfl))) rfl ?_
          refine go1 (op_load rfl fldPlan_Nodes tk22 (.t (has rfl)) (has rfl)) rfl ?_
          refine go1 (op_move rfl (.t (has rfl))) rfl ?_
          obtain ⟨x14, h15, H⟩ := bind_some H
          refine go1 (op_indexAddr rfl Try.underlying22 tk48 h15 (.t (has rfl)) (.t (has rfl))) rfl ?_
          refine go1 (op_fieldAddrp rfl fldNode_Target Try.underlying48 rfl tk9 (.t (has rfl))) rfl ?_
          refine go1 (op_loadp rfl tk9 (.t (has rfl))) rfl ?_
          refine go1 (op_buildSlice rfl at23 (fun h => by first | rfl | cases h) rfl rfl rfl (.cons (.t (has rfl)) (.nil _))) rfl ?_
          obtain ⟨x16, h17, H⟩ := bind_some H
          refine go2 (op_append rfl rfl at23 h17 (has rfl) (ReadsArg.own (.t (has rfl)))) rfl ?_
          refine go2 (op_mv (.inr rfl) rfl rfl (has rfl)) rfl ?_
          refine goesO_nil ?_
          refine ends_block ?_
          obtain rfl := Option.some.inj H
          exact ends_cut (.cons rfl (.cons rfl (.cons rfl (.cons rfl (.cons rfl .nil)))))
        · skip
          refine goes_skip ?_
          refine ends_block ?_
          obtain rfl := Option.some.inj H
          exact ends_cut (.cons rfl (.cons rfl (.cons rfl (.cons rfl (.cons rfl .nil)))))
      refine ends_then ?_
      refine goes_region ?_
      refine go1 (op_move rfl (.t (has rfl))) rfl ?_
      refine go1 (op_add rfl (.t (has rfl)) (.int _ _)) rfl ?_
      refine go1 (op_assign rfl (.t (has rfl))) rfl ?_
      refine goesO_nil ?_
      exact loop_next _ H (.cons rfl (.cons rfl (.cons rfl (.cons rfl (.cons rfl .nil)))))
    · skip
      refine goes_exit (ends_then_exit (ends_then_exit (ends_block_exit ?_)))
      obtain rfl := Option.some.inj H
      exact ends_cut (.cons rfl .nil)
  refine ends_then ?_
  refine goes_seq ?_
  refine goes_region ?_
  refine go2 (op_mv (.inl rfl) rfl rfl (has rfl)) rfl ?_
  refine go2 (op_mv (.inr rfl) rfl rfl (has rfl)) rfl ?_
  refine goesO_nil ?_
  refine ends_then ?_
  obtain rfl := Option.some.inj H
  exact goes_ret (ends_ret' rfl rfl (.t rfl (.nil _)))
theorem smithyref14_Below.conF (k : Nat) (a0 : Plan) (a1 : ByteArray) (r : List ByteArray) (H : smithyref14_Below.f k a0 a1 = some r) : ConF Try.prog 30 [VA.k kPlan a0, VA.k kstr a1] [VA.own 9 kstr r] := (smithyref14_Below.con k a0 a1 r H).freeL (.cons (KFree.own KFree.str _ _) .nil)
/-! smithy/smithyref14.Above -/
def smithyref14_Above.l0 (a0 : Plan) (a1 : ByteArray) : Nat → ((List ByteArray) × Int) → Option (List ByteArray)
  | 0, _ => none
  | k + 1, s1 => bif icmp .lss s1.2 (a0.Nodes.length : Int) then (((smithyref14_set.f k a0 s1.2).bind fun v7 => (smithyref12_Place.f k a0 a1).bind fun v9 => (idx v7 v9).bind fun x11 => bif x11 then ((idx a0.Nodes s1.2).bind fun x14 => (app 16 s1.1 ([x14.Target])).bind fun x16 => some x16) else (some s1.1)).bind fun s5 => smithyref14_Above.l0 a0 a1 k (s5, IntKind.i64.wrap (s1.2 + (1 : Int)))) else (some s1.1)
def smithyref14_Above.f (k : Nat) (a0 : Plan) (a1 : ByteArray) : Option (List ByteArray) := (smithyref14_Above.l0 a0 a1 k (([] : List ByteArray), (0 : Int))).bind fun s2 => some s2
set_option maxRecDepth 100000 in
set_option maxHeartbeats 4000000 in
theorem smithyref14_Above.con (k : Nat) (a0 : Plan) (a1 : ByteArray) (r : List ByteArray) (H : smithyref14_Above.f k a0 a1 = some r) : Con Try.prog 31 [VA.k kPlan a0, VA.k kstr a1] [VA.own 9 kstr r] := by
  unfold smithyref14_Above.f at H
  refine con_enter Try.func31 rfl rfl rfl (fun w0 S0 θ => ?_)
  refine goes_seq ?_
  refine goes_region ?_
  refine go3 (op_box 2 rfl (fun h => by first | rfl | cases h) (.t (has rfl))) rfl ?_
  refine go1 (op_assign_nil 9 kstr (.inr rfl) rfl) rfl ?_
  refine goesO_nil ?_
  refine ends_then ?_
  refine goes_seq ?_
  refine goes_region ?_
  refine go1 (op_assign_nil 9 kstr (.inr rfl) rfl) rfl ?_
  refine goesO_nil ?_
  refine ends_then ?_
  refine goes_seq ?_
  refine goes_seq ?_
  refine goes_region ?_
  refine go1 (op_assign rfl (.int _ _)) rfl ?_
  refine goesO_nil ?_
  refine ends_then ?_
  obtain ⟨s2, h3, H⟩ := bind_some H
  refine goes_cut [Ent.t 5 (VA.own 9 kstr s2)] ?_ ?_
  · replace H := h3; clear h3
    refine goes_block ?_
    refine goes_loop (fun s1 : (List ByteArray) × Int => [Ent.t 1 (VA.k kstr a1), Ent.t 2 (VA.ptr 2 0), Ent.t 5 (VA.own 9 kstr s1.1), Ent.t 6 (VA.k (kint .i64) s1.2), Ent.h 2 (HE.box 25 kPlan a0)]) (fun k s1 => smithyref14_Above.l0 a0 a1 k s1) (fun _ => rfl) H (.cons rfl (.cons rfl (.cons rfl (.cons rfl (.cons rfl .nil))))) ?_
    intro k s1 H
    simp only [smithyref14_Above.l0] at H
    refine goes_seq ?_
    refine goes_seq ?_
    refine goes_region ?_
    refine go1 (op_move rfl (.t (has rfl))) rfl ?_
    refine go1 (op_fieldAddr rfl Try.underlying25 rfl tk22 (.t (has rfl))) rfl ?_
    refine go1 (op_load rfl fldPlan_Nodes tk22 (.t (has rfl)) (has rfl)) rfl ?_
    refine go1 (op_len rfl rfl Try.underlying22 (.t (has rfl))) rfl ?_
    refine go1 (op_icmp rfl rfl (.t (has rfl)) (.t (has rfl))) rfl ?_
    refine goesO_nil ?_
    refine ends_then ?_
    refine goes_if (.t (has rfl)) H (fun hb4 H => ?_) (fun hb4 H => ?_)
    · skip
      refine goes_skip ?_
      refine ends_then ?_
      refine goes_seq ?_
      obtain ⟨s5, h6, H⟩ := bind_some H
      refine goes_cut [Ent.t 1 (VA.k kstr a1), Ent.t 2 (VA.ptr 2 0), Ent.t 5 (VA.own 9 kstr s5), Ent.t 6 (VA.k (kint .i64) s1.2), Ent.h 2 (HE.box 25 kPlan a0)] ?_ ?_
      · replace H := h6; clear h6
        refine goes_block ?_
        refine goes_seq ?_
        obtain ⟨v7, h8, H⟩ := bind_some H
        obtain ⟨v9, h10, H⟩ := bind_some H
        obtain ⟨x11, h12, H⟩ := bind_some H
        refine goes_drawn [[Ent.t 14 (VA.k kPlan a0)], [Ent.t 15 (VA.k (kint .i64) s1.2)], [Ent.t 16 (VA.own 4 kbool v7)], [Ent.t 17 (VA.k kPlan a0)], [Ent.t 18 (VA.k kstr a1)], [Ent.t 19 (VA.k (kint .i64) v9)], [Ent.oe 20 16 (v9.toNat * kbool.sz)], [Ent.t 21 (VA.k kbool x11)]] mixed (by kernel_rfl) (by kernel_rfl) (.cons [(none, Ent.t 2 (VA.ptr 2 0)), (none, Ent.h 2 (HE.box 25 kPlan a0))] (OpSpec.run rfl rfl (op_load rfl (Fld.whole kPlan) tk25 (.t NL.h0) (NL.hs NL.h0)) rfl) (.cons (has rfl) (.cons (has rfl) .nil)) (by kernel_rfl) (.cons [(none, Ent.t 6 (VA.k (kint .i64) s1.2))] (OpSpec.run rfl rfl (op_move rfl (.t NL.h0)) rfl) (.cons (has rfl) .nil) (by kernel_rfl) (.cons [(some 0, Ent.t 14 (VA.k kPlan a0)), (some 1, Ent.t 15 (VA.k (kint .i64) s1.2))] (OpSpec.run rfl rfl (op_call' rfl enters53 (smithyref14_set.con _ _ _ _ h8) rfl (.cons (ArgP.k (.t NL.h0)) (.cons (ArgP.k (.t (NL.hs NL.h0))) .nil))) rfl) (.cons (has rfl) (.cons (has rfl) .nil)) (by kernel_rfl) (.cons [(none, Ent.t 2 (VA.ptr 2 0)), (none, Ent.h 2 (HE.box 25 kPlan a0))] (OpSpec.run rfl rfl (op_load rfl (Fld.whole kPlan) tk25 (.t NL.h0) (NL.hs NL.h0)) rfl) (.cons (has rfl) (.cons (has rfl) .nil)) (by kernel_rfl) (.cons [(none, Ent.t 1 (VA.k kstr a1))] (OpSpec.run rfl rfl (op_move rfl (.t NL.h0)) rfl) (.cons (has rfl) .nil) (by kernel_rfl) (.cons [(some 3, Ent.t 17 (VA.k kPlan a0)), (some 4, Ent.t 18 (VA.k kstr a1))] (OpSpec.run rfl rfl (op_call' rfl enters42 (smithyref12_Place.con _ _ _ _ h10) rfl (.cons (ArgP.k (.t NL.h0)) (.cons (ArgP.k (.t (NL.hs NL.h0))) .nil))) rfl) (.cons (has rfl) (.cons (has rfl) .nil)) (by kernel_rfl) (.cons [(some 5, Ent.t 19 (VA.k (kint .i64) v9)), (some 2, Ent.t 16 (VA.own 4 kbool v7))] (OpSpec.run rfl rfl (op_indexAddr_own rfl rfl Try.underlying81 tk4 h12 .of (NL.hs NL.h0) (.t NL.h0)) rfl) (.cons (has rfl) (.cons (has rfl) .nil)) (by kernel_rfl) (.cons [(some 2, Ent.t 16 (VA.own 4 kbool v7)), (some 6, Ent.oe 20 16 (v9.toNat * kbool.sz))] (OpSpec.run rfl rfl (op_load_oe (off := 0) rfl (Fld.whole kbool) tk4 h12 NL.h0 (NL.hs NL.h0)) rfl) (.cons (has rfl) (.cons (has rfl) .nil)) (by kernel_rfl) (.nil _))))))))) ?_
        refine ends_sub [Ent.t 1 (VA.k kstr a1), Ent.t 2 (VA.ptr 2 0), Ent.t 5 (VA.own 9 kstr s1.1), Ent.t 6 (VA.k (kint .i64) s1.2), Ent.t 21 (VA.k kbool x11), Ent.h 2 (HE.box 25 kPlan a0)] (.cons rfl (.cons rfl (.cons rfl (.cons rfl (.cons rfl (.cons rfl .nil)))))) ?_
        refine ends_then ?_
        refine goes_if (.t (has rfl)) H (fun hb13 H => ?_) (fun hb13 H => ?_)
        · skip
          refine goes_region ?_
          refine go2 (op_mv (.inl rfl) rfl rfl (has rfl)) rfl ?_
          refine go1 (op_fieldAddr rfl Try.underlying25 rfl tk22 (.t (has rfl))) rfl ?_
          refine go1 (op_load rfl fldPlan_Nodes tk22 (.t (has rfl)) (has rfl)) rfl ?_
          refine go1 (op_move rfl (.t (has rfl))) rfl ?_
          obtain ⟨x14, h15, H⟩ := bind_some H
          refine go1 (op_indexAddr rfl Try.underlying22 tk48 h15 (.t (has rfl)) (.t (has rfl))) rfl ?_
          refine go1 (op_fieldAddrp rfl fldNode_Target Try.underlying48 rfl tk9 (.t (has rfl))) rfl ?_
          refine go1 (op_loadp rfl tk9 (.t (has rfl))) rfl ?_
          refine go1 (op_buildSlice rfl at23 (fun h => by first | rfl | cases h) rfl rfl rfl (.cons (.t (has rfl)) (.nil _))) rfl ?_
          obtain ⟨x16, h17, H⟩ := bind_some H
          refine go2 (op_append rfl rfl at23 h17 (has rfl) (ReadsArg.own (.t (has rfl)))) rfl ?_
          refine go2 (op_mv (.inr rfl) rfl rfl (has rfl)) rfl ?_
          refine goesO_nil ?_
          refine ends_block ?_
          obtain rfl := Option.some.inj H
          exact ends_cut (.cons rfl (.cons rfl (.cons rfl (.cons rfl (.cons rfl .nil)))))
        · skip
          refine goes_skip ?_
          refine ends_block ?_
          obtain rfl := Option.some.inj H
          exact ends_cut (.cons rfl (.cons rfl (.cons rfl (.cons rfl (.cons rfl .nil)))))
      refine ends_then ?_
      refine goes_region ?_
      refine go1 (op_move rfl (.t (has rfl))) rfl ?_
      refine go1 (op_add rfl (.t (has rfl)) (.int _ _)) rfl ?_
      refine go1 (op_assign rfl (.t (has rfl))) rfl ?_
      refine goesO_nil ?_
      exact loop_next _ H (.cons rfl (.cons rfl (.cons rfl (.cons rfl (.cons rfl .nil)))))
    · skip
      refine goes_exit (ends_then_exit (ends_then_exit (ends_block_exit ?_)))
      obtain rfl := Option.some.inj H
      exact ends_cut (.cons rfl .nil)
  refine ends_then ?_
  refine goes_seq ?_
  refine goes_region ?_
  refine go2 (op_mv (.inl rfl) rfl rfl (has rfl)) rfl ?_
  refine go2 (op_mv (.inr rfl) rfl rfl (has rfl)) rfl ?_
  refine goesO_nil ?_
  refine ends_then ?_
  obtain rfl := Option.some.inj H
  exact goes_ret (ends_ret' rfl rfl (.t rfl (.nil _)))
theorem smithyref14_Above.conF (k : Nat) (a0 : Plan) (a1 : ByteArray) (r : List ByteArray) (H : smithyref14_Above.f k a0 a1 = some r) : ConF Try.prog 31 [VA.k kPlan a0, VA.k kstr a1] [VA.own 9 kstr r] := (smithyref14_Above.con k a0 a1 r H).freeL (.cons (KFree.own KFree.str _ _) .nil)
/-! smithy/smithyref14.Apart -/
def smithyref14_Apart.f (k : Nat) (a0 : Plan) (a1 : ByteArray) (a2 : ByteArray) : Option Bool := (smithyref12_Place.f k a0 a1).bind fun v1 => (smithyref12_Place.f k a0 a2).bind fun v3 => (bif scmp .neq a1 a2 then ((smithyref14_set.f k a0 v1).bind fun v8 => (idx v8 v3).bind fun x10 => bif !x10 then ((smithyref14_set.f k a0 v3).bind fun v13 => (idx v13 v1).bind fun x15 => some (!x15)) else (some false)) else (some false)).bind fun s5 => some s5
set_option maxRecDepth 100000 in
set_option maxHeartbeats 4000000 in
theorem smithyref14_Apart.con (k : Nat) (a0 : Plan) (a1 : ByteArray) (a2 : ByteArray) (r : Bool) (H : smithyref14_Apart.f k a0 a1 a2 = some r) : Con Try.prog 32 [VA.k kPlan a0, VA.k kstr a1, VA.k kstr a2] [VA.k kbool r] := by
  unfold smithyref14_Apart.f at H
  refine con_enter Try.func32 rfl rfl rfl (fun w0 S0 θ => ?_)
  refine goes_seq ?_
  refine goes_region ?_
  refine go3 (op_box 3 rfl (fun h => by first | rfl | cases h) (.t (has rfl))) rfl ?_
  refine go1 (op_assign rfl (.bool _)) rfl ?_
  refine goesO_nil ?_
  refine ends_then ?_
  refine goes_seq ?_
  obtain ⟨v1, h2, H⟩ := bind_some H
  obtain ⟨v3, h4, H⟩ := bind_some H
  refine goes_drawn [[Ent.t 9 (VA.k kPlan a0)], [Ent.t 10 (VA.k kstr a1)], [Ent.t 11 (VA.k (kint .i64) v1)], [Ent.t 12 (VA.k kPlan a0)], [Ent.t 13 (VA.k kstr a2)], [Ent.t 14 (VA.k (kint .i64) v3)], [Ent.t 7 (VA.k (kint .i64) v1)], [Ent.t 8 (VA.k (kint .i64) v3)]] mixed (by kernel_rfl) (by kernel_rfl) (.cons [(none, Ent.t 3 (VA.ptr 3 0)), (none, Ent.h 3 (HE.box 25 kPlan a0))] (OpSpec.run rfl rfl (op_load rfl (Fld.whole kPlan) tk25 (.t NL.h0) (NL.hs NL.h0)) rfl) (.cons (has rfl) (.cons (has rfl) .nil)) (by kernel_rfl) (.cons [(none, Ent.t 1 (VA.k kstr a1))] (OpSpec.run rfl rfl (op_move rfl (.t NL.h0)) rfl) (.cons (has rfl) .nil) (by kernel_rfl) (.cons [(some 0, Ent.t 9 (VA.k kPlan a0)), (some 1, Ent.t 10 (VA.k kstr a1))] (OpSpec.run rfl rfl (op_call' rfl enters42 (smithyref12_Place.con _ _ _ _ h2) rfl (.cons (ArgP.k (.t NL.h0)) (.cons (ArgP.k (.t (NL.hs NL.h0))) .nil))) rfl) (.cons (has rfl) (.cons (has rfl) .nil)) (by kernel_rfl) (.cons [(none, Ent.t 3 (VA.ptr 3 0)), (none, Ent.h 3 (HE.box 25 kPlan a0))] (OpSpec.run rfl rfl (op_load rfl (Fld.whole kPlan) tk25 (.t NL.h0) (NL.hs NL.h0)) rfl) (.cons (has rfl) (.cons (has rfl) .nil)) (by kernel_rfl) (.cons [(none, Ent.t 2 (VA.k kstr a2))] (OpSpec.run rfl rfl (op_move rfl (.t NL.h0)) rfl) (.cons (has rfl) .nil) (by kernel_rfl) (.cons [(some 3, Ent.t 12 (VA.k kPlan a0)), (some 4, Ent.t 13 (VA.k kstr a2))] (OpSpec.run rfl rfl (op_call' rfl enters42 (smithyref12_Place.con _ _ _ _ h4) rfl (.cons (ArgP.k (.t NL.h0)) (.cons (ArgP.k (.t (NL.hs NL.h0))) .nil))) rfl) (.cons (has rfl) (.cons (has rfl) .nil)) (by kernel_rfl) (.cons [(some 2, Ent.t 11 (VA.k (kint .i64) v1))] (OpSpec.run rfl rfl (op_assign rfl (.t NL.h0)) rfl) (.cons (has rfl) .nil) (by kernel_rfl) (.cons [(some 5, Ent.t 14 (VA.k (kint .i64) v3))] (OpSpec.run rfl rfl (op_assign rfl (.t NL.h0)) rfl) (.cons (has rfl) .nil) (by kernel_rfl) (.nil _))))))))) ?_
  refine ends_sub [Ent.t 1 (VA.k kstr a1), Ent.t 2 (VA.k kstr a2), Ent.t 3 (VA.ptr 3 0), Ent.t 7 (VA.k (kint .i64) v1), Ent.t 8 (VA.k (kint .i64) v3), Ent.h 3 (HE.box 25 kPlan a0)] (.cons rfl (.cons rfl (.cons rfl (.cons rfl (.cons rfl (.cons rfl .nil)))))) ?_
  refine ends_then ?_
  refine goes_seq ?_
  obtain ⟨s5, h6, H⟩ := bind_some H
  refine goes_cut [Ent.t 6 (VA.k kbool s5)] ?_ ?_
  · replace H := h6; clear h6
    refine goes_region ?_
    refine go1 (op_move rfl (.t (has rfl))) rfl ?_
    refine go1 (op_move rfl (.t (has rfl))) rfl ?_
    refine go1 (op_scmp rfl rfl (.t (has rfl)) (.t (has rfl))) rfl ?_
    refine go1 (op_move rfl (.t (has rfl))) rfl ?_
    refine goesO_split H (fun hb7 H => ?_) (fun hb7 H => ?_)
    · skip
      refine goG (op_load rfl (Fld.whole kPlan) tk25 (.t (has rfl)) (has rfl)) rfl rfl rfl rfl hb7 ?_
      refine goG (op_move rfl (.t (has rfl))) rfl rfl rfl rfl hb7 ?_
      obtain ⟨v8, h9, H⟩ := bind_some H
      refine goG (op_call' rfl enters53 (smithyref14_set.con _ _ _ _ h9) rfl (.cons (ArgP.k (.t (has rfl))) (.cons (ArgP.k (.t (has rfl))) .nil))) rfl rfl rfl rfl hb7 ?_
      refine goG (op_move rfl (.t (has rfl))) rfl rfl rfl rfl hb7 ?_
      refine goesO_settle 21 rfl rfl ?_
      obtain ⟨x10, h11, H⟩ := bind_some H
      refine goG (op_indexAddr rfl Try.underlying81 tk4 h11 (.t (has rfl)) (.t (has rfl))) rfl rfl rfl rfl hb7 ?_
      refine goG (op_loadp rfl tk4 (.t (has rfl))) rfl rfl rfl rfl hb7 ?_
      refine goG (op_not rfl (.t (has rfl))) rfl rfl rfl rfl hb7 ?_
      refine go1 (op_pick_t rfl hb7 (.t (has rfl)) (.t (has rfl))) rfl ?_
      refine go1 (op_move rfl (.t (has rfl))) rfl ?_
      refine goesO_split H (fun hb12 H => ?_) (fun hb12 H => ?_)
      · skip
        refine goG (op_load rfl (Fld.whole kPlan) tk25 (.t (has rfl)) (has rfl)) rfl rfl rfl rfl hb12 ?_
        refine goG (op_move rfl (.t (has rfl))) rfl rfl rfl rfl hb12 ?_
        obtain ⟨v13, h14, H⟩ := bind_some H
        refine goG (op_call' rfl enters53 (smithyref14_set.con _ _ _ _ h14) rfl (.cons (ArgP.k (.t (has rfl))) (.cons (ArgP.k (.t (has rfl))) .nil))) rfl rfl rfl rfl hb12 ?_
        refine goG (op_move rfl (.t (has rfl))) rfl rfl rfl rfl hb12 ?_
        refine goesO_settle 30 rfl rfl ?_
        obtain ⟨x15, h16, H⟩ := bind_some H
        refine goG (op_indexAddr rfl Try.underlying81 tk4 h16 (.t (has rfl)) (.t (has rfl))) rfl rfl rfl rfl hb12 ?_
        refine goG (op_loadp rfl tk4 (.t (has rfl))) rfl rfl rfl rfl hb12 ?_
        refine goG (op_not rfl (.t (has rfl))) rfl rfl rfl rfl hb12 ?_
        refine go1 (op_pick_t rfl hb12 (.t (has rfl)) (.t (has rfl))) rfl ?_
        refine go1 (op_assign rfl (.t (has rfl))) rfl ?_
        refine goesO_nil ?_
        obtain rfl := Option.some.inj H
        exact ends_cut (.cons rfl .nil)
      · skip
        refine goS rfl rfl rfl rfl rfl rfl hb12 ?_
        refine goS rfl rfl rfl rfl rfl rfl hb12 ?_
        refine goS rfl rfl rfl rfl rfl rfl hb12 ?_
        refine goS rfl rfl rfl rfl rfl rfl hb12 ?_
        refine goS rfl rfl rfl rfl rfl rfl hb12 ?_
        refine goS rfl rfl rfl rfl rfl rfl hb12 ?_
        refine goS rfl rfl rfl rfl rfl rfl hb12 ?_
        refine go1 (op_pick_f rfl hb12 (.t (has rfl)) (.bool _)) rfl ?_
        refine go1 (op_assign rfl (.t (has rfl))) rfl ?_
        refine goesO_nil ?_
        obtain rfl := Option.some.inj H
        exact ends_cut (.cons rfl .nil)
    · skip
      refine goS rfl rfl rfl rfl rfl rfl hb7 ?_
      refine goS rfl rfl rfl rfl rfl rfl hb7 ?_
      refine goS rfl rfl rfl rfl rfl rfl hb7 ?_
      refine goS rfl rfl rfl rfl rfl rfl hb7 ?_
      refine goS rfl rfl rfl rfl rfl rfl hb7 ?_
      refine goS rfl rfl rfl rfl rfl rfl hb7 ?_
      refine goS rfl rfl rfl rfl rfl rfl hb7 ?_
      refine go1 (op_pick_f rfl hb7 (.t (has rfl)) (.bool _)) rfl ?_
      refine go1 (op_move rfl (.t (has rfl))) rfl ?_
      refine goS rfl rfl rfl rfl rfl rfl rfl ?_
      refine goS rfl rfl rfl rfl rfl rfl rfl ?_
      refine goS rfl rfl rfl rfl rfl rfl rfl ?_
      refine goS rfl rfl rfl rfl rfl rfl rfl ?_
      refine goS rfl rfl rfl rfl rfl rfl rfl ?_
      refine goS rfl rfl rfl rfl rfl rfl rfl ?_
      refine goS rfl rfl rfl rfl rfl rfl rfl ?_
      refine go1 (op_pick_f rfl rfl (.t (has rfl)) (.bool _)) rfl ?_
      refine go1 (op_assign rfl (.t (has rfl))) rfl ?_
      refine goesO_nil ?_
      obtain rfl := Option.some.inj H
      exact ends_cut (.cons rfl .nil)
  refine ends_then ?_
  obtain rfl := Option.some.inj H
  exact goes_ret (ends_ret' rfl rfl (.t rfl (.nil _)))
theorem smithyref14_Apart.conF (k : Nat) (a0 : Plan) (a1 : ByteArray) (a2 : ByteArray) (r : Bool) (H : smithyref14_Apart.f k a0 a1 a2 = some r) : ConF Try.prog 32 [VA.k kPlan a0, VA.k kstr a1, VA.k kstr a2] [VA.k kbool r] := (smithyref14_Apart.con k a0 a1 a2 r H).freeL (.cons (KFree.k KFree.bool _) .nil)
/-! smithy/smithylaw14.WalkPairs -/
def smithylaw14_WalkPairs.f (k : Nat) (a0 : Plan) (a1 : ByteArray) (a2 : ByteArray) : Option Bool := (walk_Below.f k a0 a1).bind fun v1 => (walk_Above.f k a0 a1).bind fun v3 => (walk_Apart.f k a0 a1 a2).bind fun v5 => (smithyref14_Fit.f k a0 ([a1])).bind fun v7 => (smithyref12_Check.f k a0).bind fun v9 => (bif icmp .eql v9 (0 : Int) then (((smithyref02_Name.f k a1).bind fun v16 => bif v16 then ((smithyref02_Name.f k a2).bind fun v19 => some (!v19)) else (some false)).bind fun s14 => bif s14 then (some (3 : Int)) else (bif icmp .eql v7 (0 : Int) then ((smithyref14_Fit.f k a0 ([a2])).bind fun v23 => some v23) else (some v7))) else (some v7)).bind fun s11 => (bif icmp .neq v1.2 v7 then (some true) else (bif icmp .neq v3.2 v7 then (some true) else (bif icmp .neq v5.2 s11 then (some true) else ((smithylaw14_speaks.f k).bind fun v30 => some (!v30))))).bind fun s25 => bif s25 then (some false) else (bif icmp .neq v7 (0 : Int) then ((bif icmp .eql (v1.1.length : Int) (0 : Int) then (bif icmp .eql (v3.1.length : Int) (0 : Int) then (some (!v5.1)) else (some false)) else (some false)).bind fun s34 => some s34) else (((smithyref14_Below.f k a0 a1).bind fun v40 => (smithyplain_Texts.f k v1.1 v40).bind fun v42 => bif !v42 then (some true) else ((smithyref14_Above.f k a0 a1).bind fun v45 => (smithyplain_Texts.f k v3.1 v45).bind fun v47 => some (!v47))).bind fun s38 => bif s38 then (some false) else (bif icmp .neq s11 (0 : Int) then (some (!v5.1)) else ((smithyref14_Apart.f k a0 a1 a2).bind fun v51 => some (v5.1 == v51)))))
set_option maxRecDepth 100000 in
set_option maxHeartbeats 4000000 in
theorem smithylaw14_WalkPairs.con (k : Nat) (a0 : Plan) (a1 : ByteArray) (a2 : ByteArray) (r : Bool) (H : smithylaw14_WalkPairs.f k a0 a1 a2 = some r) : Con Try.prog 7 [VA.k kPlan a0, VA.k kstr a1, VA.k kstr a2] [VA.k kbool r] := by
  unfold smithylaw14_WalkPairs.f at H
  refine con_enter Try.func7 rfl rfl rfl (fun w0 S0 θ => ?_)
  refine goes_seq ?_
  refine goes_region ?_
  refine go3 (op_box 3 rfl (fun h => by first | rfl | cases h) (.t (has rfl))) rfl ?_
  refine go1 (op_assign rfl (.bool _)) rfl ?_
  refine goesO_nil ?_
  refine ends_then ?_
  refine goes_seq ?_
  refine goes_region ?_
  refine go1 (op_load rfl (Fld.whole kPlan) tk25 (.t (has rfl)) (has rfl)) rfl ?_
  refine go1 (op_move rfl (.t (has rfl))) rfl ?_
  obtain ⟨v1, h2, H⟩ := bind_some H
  refine goN (op_calls' rfl enters27 (walk_Below.con _ _ _ _ h2) rfl rfl (.cons (ArgP.k (.t (has rfl))) (.cons (ArgP.k (.t (has rfl))) .nil))) rfl ?_
  refine go1 (op_same (.inl rfl) rfl rfl) rfl ?_
  refine go2 (op_extract_own_same rfl rfl rfl (has rfl) (has rfl)) rfl ?_
  refine go1 (op_extract_same rfl plain_k (has rfl) (has rfl)) rfl ?_
  refine go2 (op_mv (.inr rfl) rfl rfl (has rfl)) rfl ?_
  refine go1 (op_assign rfl (.t (has rfl))) rfl ?_
  refine goesO_nil ?_
  refine ends_then ?_
  refine goes_seq ?_
  refine goes_region ?_
  refine go1 (op_load rfl (Fld.whole kPlan) tk25 (.t (has rfl)) (has rfl)) rfl ?_
  refine go1 (op_move rfl (.t (has rfl))) rfl ?_
  obtain ⟨v3, h4, H⟩ := bind_some H
  refine goN (op_calls' rfl enters28 (walk_Above.con _ _ _ _ h4) rfl rfl (.cons (ArgP.k (.t (has rfl))) (.cons (ArgP.k (.t (has rfl))) .nil))) rfl ?_
  refine go1 (op_same (.inl rfl) rfl rfl) rfl ?_
  refine go2 (op_extract_own_same rfl rfl rfl (has rfl) (has rfl)) rfl ?_
  refine go1 (op_extract_same rfl plain_k (has rfl) (has rfl)) rfl ?_
  refine go2 (op_mv (.inr rfl) rfl rfl (has rfl)) rfl ?_
  refine go1 (op_assign rfl (.t (has rfl))) rfl ?_
  refine goesO_nil ?_
  refine ends_then ?_
  refine goes_seq ?_
  refine goes_region ?_
  refine go1 (op_load rfl (Fld.whole kPlan) tk25 (.t (has rfl)) (has rfl)) rfl ?_
  refine go1 (op_move rfl (.t (has rfl))) rfl ?_
  refine go1 (op_move rfl (.t (has rfl))) rfl ?_
  obtain ⟨v5, h6, H⟩ := bind_some H
  refine goN (op_calls' rfl enters21 (walk_Apart.con _ _ _ _ _ h6) rfl rfl (.cons (ArgP.k (.t (has rfl))) (.cons (ArgP.k (.t (has rfl))) (.cons (ArgP.k (.t (has rfl))) .nil)))) rfl ?_
  refine go1 (op_same (.inl rfl) rfl rfl) rfl ?_
  refine go1 (op_extract_same rfl plain_k (has rfl) (has rfl)) rfl ?_
  refine go1 (op_extract_same rfl plain_k (has rfl) (has rfl)) rfl ?_
  refine go1 (op_assign rfl (.t (has rfl))) rfl ?_
  refine go1 (op_assign rfl (.t (has rfl))) rfl ?_
  refine goesO_nil ?_
  refine ends_then ?_
  refine goes_seq ?_
  refine goes_region ?_
  refine go1 (op_load rfl (Fld.whole kPlan) tk25 (.t (has rfl)) (has rfl)) rfl ?_
  refine go1 (op_move rfl (.t (has rfl))) rfl ?_
  refine go1 (op_buildSlice rfl at23 (fun h => by first | rfl | cases h) rfl rfl rfl (.cons (.t (has rfl)) (.nil _))) rfl ?_
  obtain ⟨v7, h8, H⟩ := bind_some H
  refine go1 (op_callF' rfl enters12 (smithyref14_Fit.conF _ _ _ _ h8) rfl (.cons (ArgB.k (.t (has rfl))) (.cons (ArgB.own rfl (has rfl)) .nil))) rfl ?_
  refine go1 (op_assign rfl (.t (has rfl))) rfl ?_
  refine goesO_nil ?_
  refine ends_then ?_
  refine goes_seq ?_
  refine goes_region ?_
  refine go1 (op_move rfl (.t (has rfl))) rfl ?_
  refine go1 (op_assign rfl (.t (has rfl))) rfl ?_
  refine goesO_nil ?_
  refine ends_then ?_
  refine goes_seq ?_
  refine goes_seq ?_
  refine goes_region ?_
  refine go1 (op_load rfl (Fld.whole kPlan) tk25 (.t (has rfl)) (has rfl)) rfl ?_
  obtain ⟨v9, h10, H⟩ := bind_some H
  refine go1 (op_call' rfl enters17 (smithyref12_Check.con _ _ _ h10) rfl (.cons (ArgP.k (.t (has rfl))) .nil)) rfl ?_
  refine go1 (op_icmp rfl rfl (.t (has rfl)) (.int _ _)) rfl ?_
  refine goesO_nil ?_
  refine ends_then ?_
  obtain ⟨s11, h12, H⟩ := bind_some H
  refine goes_cut [Ent.t 1 (VA.k kstr a1), Ent.t 2 (VA.k kstr a2), Ent.t 3 (VA.ptr 3 0), Ent.t 7 (VA.own 9 kstr v1.1), Ent.t 8 (VA.k (kint .i64) v1.2), Ent.t 9 (VA.own 9 kstr v3.1), Ent.t 10 (VA.k (kint .i64) v3.2), Ent.t 11 (VA.k kbool v5.1), Ent.t 12 (VA.k (kint .i64) v5.2), Ent.t 13 (VA.k (kint .i64) v7), Ent.t 14 (VA.k (kint .i64) s11), Ent.h 3 (HE.box 25 kPlan a0)] ?_ ?_
  · replace H := h12; clear h12
    refine goes_if (.t (has rfl)) H (fun hb13 H => ?_) (fun hb13 H => ?_)
    · skip
      refine goes_seq ?_
      obtain ⟨s14, h15, H⟩ := bind_some H
      refine goes_cut [Ent.t 1 (VA.k kstr a1), Ent.t 2 (VA.k kstr a2), Ent.t 3 (VA.ptr 3 0), Ent.t 7 (VA.own 9 kstr v1.1), Ent.t 8 (VA.k (kint .i64) v1.2), Ent.t 9 (VA.own 9 kstr v3.1), Ent.t 10 (VA.k (kint .i64) v3.2), Ent.t 11 (VA.k kbool v5.1), Ent.t 12 (VA.k (kint .i64) v5.2), Ent.t 13 (VA.k (kint .i64) v7), Ent.t 14 (VA.k (kint .i64) v7), Ent.t 48 (VA.k kbool s14), Ent.h 3 (HE.box 25 kPlan a0)] ?_ ?_
      · replace H := h15; clear h15
        refine goes_region ?_
        refine go1 (op_move rfl (.t (has rfl))) rfl ?_
        obtain ⟨v16, h17, H⟩ := bind_some H
        refine go1 (op_call' rfl enters29 (smithyref02_Name.con _ _ _ h17) rfl (.cons (ArgP.k (.t (has rfl))) .nil)) rfl ?_
        refine go1 (op_move rfl (.t (has rfl))) rfl ?_
        refine goesO_split H (fun hb18 H => ?_) (fun hb18 H => ?_)
        · skip
          refine goG (op_move rfl (.t (has rfl))) rfl rfl rfl rfl hb18 ?_
          obtain ⟨v19, h20, H⟩ := bind_some H
          refine goG (op_call' rfl enters29 (smithyref02_Name.con _ _ _ h20) rfl (.cons (ArgP.k (.t (has rfl))) .nil)) rfl rfl rfl rfl hb18 ?_
          refine goG (op_not rfl (.t (has rfl))) rfl rfl rfl rfl hb18 ?_
          refine go1 (op_pick_t rfl hb18 (.t (has rfl)) (.t (has rfl))) rfl ?_
          refine goesO_nil ?_
          obtain rfl := Option.some.inj H
          exact ends_cut (.cons rfl (.cons rfl (.cons rfl (.cons rfl (.cons rfl (.cons rfl (.cons rfl (.cons rfl (.cons rfl (.cons rfl (.cons rfl (.cons rfl (.cons rfl .nil)))))))))))))
        · skip
          refine goS rfl rfl rfl rfl rfl rfl hb18 ?_
          refine goS rfl rfl rfl rfl rfl rfl hb18 ?_
          refine goS rfl rfl rfl rfl rfl rfl hb18 ?_
          refine go1 (op_pick_f rfl hb18 (.t (has rfl)) (.bool _)) rfl ?_
          refine goesO_nil ?_
          obtain rfl := Option.some.inj H
          exact ends_cut (.cons rfl (.cons rfl (.cons rfl (.cons rfl (.cons rfl (.cons rfl (.cons rfl (.cons rfl (.cons rfl (.cons rfl (.cons rfl (.cons rfl (.cons rfl .nil)))))))))))))
      refine ends_then ?_
      refine goes_if (.t (has rfl)) H (fun hb21 H => ?_) (fun hb21 H => ?_)
      · skip
        refine goes_region ?_
        refine go1 (op_assign rfl (.int _ _)) rfl ?_
        refine goesO_nil ?_
        obtain rfl := Option.some.inj H
        exact ends_cut (.cons rfl (.cons rfl (.cons rfl (.cons rfl (.cons rfl (.cons rfl (.cons rfl (.cons rfl (.cons rfl (.cons rfl (.cons rfl (.cons rfl .nil))))))))))))
      · skip
        refine goes_seq ?_
        refine goes_region ?_
        refine go1 (op_move rfl (.t (has rfl))) rfl ?_
        refine go1 (op_icmp rfl rfl (.t (has rfl)) (.int _ _)) rfl ?_
        refine goesO_nil ?_
        refine ends_then ?_
        refine goes_if (.t (has rfl)) H (fun hb22 H => ?_) (fun hb22 H => ?_)
        · skip
          refine goes_region ?_
          refine go1 (op_load rfl (Fld.whole kPlan) tk25 (.t (has rfl)) (has rfl)) rfl ?_
          refine go1 (op_move rfl (.t (has rfl))) rfl ?_
          refine go1 (op_buildSlice rfl at23 (fun h => by first | rfl | cases h) rfl rfl rfl (.cons (.t (has rfl)) (.nil _))) rfl ?_
          obtain ⟨v23, h24, H⟩ := bind_some H
          refine go1 (op_callF' rfl enters12 (smithyref14_Fit.conF _ _ _ _ h24) rfl (.cons (ArgB.k (.t (has rfl))) (.cons (ArgB.own rfl (has rfl)) .nil))) rfl ?_
          refine go1 (op_assign rfl (.t (has rfl))) rfl ?_
          refine goesO_nil ?_
          obtain rfl := Option.some.inj H
          exact ends_cut (.cons rfl (.cons rfl (.cons rfl (.cons rfl (.cons rfl (.cons rfl (.cons rfl (.cons rfl (.cons rfl (.cons rfl (.cons rfl (.cons rfl .nil))))))))))))
        · skip
          refine goes_skip ?_
          obtain rfl := Option.some.inj H
          exact ends_cut (.cons rfl (.cons rfl (.cons rfl (.cons rfl (.cons rfl (.cons rfl (.cons rfl (.cons rfl (.cons rfl (.cons rfl (.cons rfl (.cons rfl .nil))))))))))))
    · skip
      refine goes_skip ?_
      obtain rfl := Option.some.inj H
      exact ends_cut (.cons rfl (.cons rfl (.cons rfl (.cons rfl (.cons rfl (.cons rfl (.cons rfl (.cons rfl (.cons rfl (.cons rfl (.cons rfl (.cons rfl .nil))))))))))))
  refine ends_then ?_
  refine goes_seq ?_
  refine goes_seq ?_
  obtain ⟨s25, h26, H⟩ := bind_some H
  refine goes_cut [Ent.t 1 (VA.k kstr a1), Ent.t 2 (VA.k kstr a2), Ent.t 3 (VA.ptr 3 0), Ent.t 7 (VA.own 9 kstr v1.1), Ent.t 9 (VA.own 9 kstr v3.1), Ent.t 11 (VA.k kbool v5.1), Ent.t 13 (VA.k (kint .i64) v7), Ent.t 14 (VA.k (kint .i64) s11), Ent.t 71 (VA.k kbool s25), Ent.h 3 (HE.box 25 kPlan a0)] ?_ ?_
  · replace H := h26; clear h26
    refine goes_region ?_
    refine go1 (op_move rfl (.t (has rfl))) rfl ?_
    refine go1 (op_move rfl (.t (has rfl))) rfl ?_
    refine go1 (op_icmp rfl rfl (.t (has rfl)) (.t (has rfl))) rfl ?_
    refine go1 (op_move rfl (.t (has rfl))) rfl ?_
    refine goesO_split H (fun hb27 H => ?_) (fun hb27 H => ?_)
    · skip
      refine goS rfl rfl rfl rfl rfl rfl hb27 ?_
      refine goS rfl rfl rfl rfl rfl rfl hb27 ?_
      refine goS rfl rfl rfl rfl rfl rfl hb27 ?_
      refine go1 (op_pick_t rfl hb27 (.t (has rfl)) (.bool _)) rfl ?_
      refine go1 (op_move rfl (.t (has rfl))) rfl ?_
      refine goS rfl rfl rfl rfl rfl rfl rfl ?_
      refine goS rfl rfl rfl rfl rfl rfl rfl ?_
      refine goS rfl rfl rfl rfl rfl rfl rfl ?_
      refine go1 (op_pick_t rfl rfl (.t (has rfl)) (.bool _)) rfl ?_
      refine go1 (op_move rfl (.t (has rfl))) rfl ?_
      refine goS rfl rfl rfl rfl rfl rfl rfl ?_
      refine goS rfl rfl rfl rfl rfl rfl rfl ?_
      refine go1 (op_pick_t rfl rfl (.t (has rfl)) (.bool _)) rfl ?_
      refine goesO_nil ?_
      obtain rfl := Option.some.inj H
      exact ends_cut (.cons rfl (.cons rfl (.cons rfl (.cons rfl (.cons rfl (.cons rfl (.cons rfl (.cons rfl (.cons rfl (.cons rfl .nil))))))))))
    · skip
      refine goG (op_move rfl (.t (has rfl))) rfl rfl rfl rfl hb27 ?_
      refine goG (op_move rfl (.t (has rfl))) rfl rfl rfl rfl hb27 ?_
      refine goG (op_icmp rfl rfl (.t (has rfl)) (.t (has rfl))) rfl rfl rfl rfl hb27 ?_
      refine go1 (op_pick_f rfl hb27 (.t (has rfl)) (.t (has rfl))) rfl ?_
      refine go1 (op_move rfl (.t (has rfl))) rfl ?_
      refine goesO_split H (fun hb28 H => ?_) (fun hb28 H => ?_)
      · skip
        refine goS rfl rfl rfl rfl rfl rfl hb28 ?_
        refine goS rfl rfl rfl rfl rfl rfl hb28 ?_
        refine goS rfl rfl rfl rfl rfl rfl hb28 ?_
        refine go1 (op_pick_t rfl hb28 (.t (has rfl)) (.bool _)) rfl ?_
        refine go1 (op_move rfl (.t (has rfl))) rfl ?_
        refine goS rfl rfl rfl rfl rfl rfl rfl ?_
        refine goS rfl rfl rfl rfl rfl rfl rfl ?_
        refine go1 (op_pick_t rfl rfl (.t (has rfl)) (.bool _)) rfl ?_
        refine goesO_nil ?_
        obtain rfl := Option.some.inj H
        exact ends_cut (.cons rfl (.cons rfl (.cons rfl (.cons rfl (.cons rfl (.cons rfl (.cons rfl (.cons rfl (.cons rfl (.cons rfl .nil))))))))))
      · skip
        refine goG (op_move rfl (.t (has rfl))) rfl rfl rfl rfl hb28 ?_
        refine goG (op_move rfl (.t (has rfl))) rfl rfl rfl rfl hb28 ?_
        refine goG (op_icmp rfl rfl (.t (has rfl)) (.t (has rfl))) rfl rfl rfl rfl hb28 ?_
        refine go1 (op_pick_f rfl hb28 (.t (has rfl)) (.t (has rfl))) rfl ?_
        refine go1 (op_move rfl (.t (has rfl))) rfl ?_
        refine goesO_split H (fun hb29 H => ?_) (fun hb29 H => ?_)
        · skip
          refine goS rfl rfl rfl rfl rfl rfl hb29 ?_
          refine goS rfl rfl rfl rfl rfl rfl hb29 ?_
          refine go1 (op_pick_t rfl hb29 (.t (has rfl)) (.bool _)) rfl ?_
          refine goesO_nil ?_
          obtain rfl := Option.some.inj H
          exact ends_cut (.cons rfl (.cons rfl (.cons rfl (.cons rfl (.cons rfl (.cons rfl (.cons rfl (.cons rfl (.cons rfl (.cons rfl .nil))))))))))
        · skip
          obtain ⟨v30, h31, H⟩ := bind_some H
          refine goG (op_call' rfl enters13 (smithylaw14_speaks.con _  _ h31) rfl .nil) rfl rfl rfl rfl hb29 ?_
          refine goG (op_not rfl (.t (has rfl))) rfl rfl rfl rfl hb29 ?_
          refine go1 (op_pick_f rfl hb29 (.t (has rfl)) (.t (has rfl))) rfl ?_
          refine goesO_nil ?_
          obtain rfl := Option.some.inj H
          exact ends_cut (.cons rfl (.cons rfl (.cons rfl (.cons rfl (.cons rfl (.cons rfl (.cons rfl (.cons rfl (.cons rfl (.cons rfl .nil))))))))))
  refine ends_then ?_
  refine goes_if (.t (has rfl)) H (fun hb32 H => ?_) (fun hb32 H => ?_)
  · skip
    refine goes_seq ?_
    refine goes_region ?_
    refine go1 (op_assign rfl (.bool _)) rfl ?_
    refine goesO_nil ?_
    refine ends_then ?_
    obtain rfl := Option.some.inj H
    exact goes_ret (ends_then_ret (ends_ret' rfl rfl (.t rfl (.nil _))))
  · skip
    refine goes_skip ?_
    refine ends_then ?_
    refine goes_seq ?_
    refine goes_seq ?_
    refine goes_region ?_
    refine go1 (op_move rfl (.t (has rfl))) rfl ?_
    refine go1 (op_icmp rfl rfl (.t (has rfl)) (.int _ _)) rfl ?_
    refine goesO_nil ?_
    refine ends_then ?_
    refine goes_if (.t (has rfl)) H (fun hb33 H => ?_) (fun hb33 H => ?_)
    · skip
      refine goes_seq ?_
      obtain ⟨s34, h35, H⟩ := bind_some H
      refine goes_cut [Ent.t 6 (VA.k kbool s34)] ?_ ?_
      · replace H := h35; clear h35
        refine goes_region ?_
        refine goesO_settle 7 rfl rfl ?_
        refine go1 (op_move rfl (.t (has rfl))) rfl ?_
        refine go1 (op_len rfl rfl Try.underlying23 (.t (has rfl))) rfl ?_
        refine go1 (op_icmp rfl rfl (.t (has rfl)) (.int _ _)) rfl ?_
        refine go1 (op_move rfl (.t (has rfl))) rfl ?_
        refine goesO_split H (fun hb36 H => ?_) (fun hb36 H => ?_)
        · skip
          refine goesO_settle 9 rfl rfl ?_
          refine goG (op_move rfl (.t (has rfl))) rfl rfl rfl rfl hb36 ?_
          refine goG (op_len rfl rfl Try.underlying23 (.t (has rfl))) rfl rfl rfl rfl hb36 ?_
          refine goG (op_icmp rfl rfl (.t (has rfl)) (.int _ _)) rfl rfl rfl rfl hb36 ?_
          refine go1 (op_pick_t rfl hb36 (.t (has rfl)) (.t (has rfl))) rfl ?_
          refine go1 (op_move rfl (.t (has rfl))) rfl ?_
          refine goesO_split H (fun hb37 H => ?_) (fun hb37 H => ?_)
          · skip
            refine goG (op_move rfl (.t (has rfl))) rfl rfl rfl rfl hb37 ?_
            refine goG (op_not rfl (.t (has rfl))) rfl rfl rfl rfl hb37 ?_
            refine go1 (op_pick_t rfl hb37 (.t (has rfl)) (.t (has rfl))) rfl ?_
            refine go1 (op_assign rfl (.t (has rfl))) rfl ?_
            refine goesO_nil ?_
            obtain rfl := Option.some.inj H
            exact ends_cut (.cons rfl .nil)
          · skip
            refine goS rfl rfl rfl rfl rfl rfl hb37 ?_
            refine goS rfl rfl rfl rfl rfl rfl hb37 ?_
            refine go1 (op_pick_f rfl hb37 (.t (has rfl)) (.bool _)) rfl ?_
            refine go1 (op_assign rfl (.t (has rfl))) rfl ?_
            refine goesO_nil ?_
            obtain rfl := Option.some.inj H
            exact ends_cut (.cons rfl .nil)
        · skip
          refine goS rfl rfl rfl rfl rfl rfl hb36 ?_
          refine goS rfl rfl rfl rfl rfl rfl hb36 ?_
          refine goS rfl rfl rfl rfl rfl rfl hb36 ?_
          refine go1 (op_pick_f rfl hb36 (.t (has rfl)) (.bool _)) rfl ?_
          refine go1 (op_move rfl (.t (has rfl))) rfl ?_
          refine goS rfl rfl rfl rfl rfl rfl rfl ?_
          refine goS rfl rfl rfl rfl rfl rfl rfl ?_
          refine go1 (op_pick_f rfl rfl (.t (has rfl)) (.bool _)) rfl ?_
          refine go1 (op_assign rfl (.t (has rfl))) rfl ?_
          refine goesO_nil ?_
          obtain rfl := Option.some.inj H
          exact ends_cut (.cons rfl .nil)
      refine ends_then ?_
      obtain rfl := Option.some.inj H
      exact goes_ret (ends_then_ret (ends_ret' rfl rfl (.t rfl (.nil _))))
    · skip
      refine goes_skip ?_
      refine ends_then ?_
      refine goes_seq ?_
      refine goes_seq ?_
      obtain ⟨s38, h39, H⟩ := bind_some H
      refine goes_cut [Ent.t 1 (VA.k kstr a1), Ent.t 2 (VA.k kstr a2), Ent.t 3 (VA.ptr 3 0), Ent.t 11 (VA.k kbool v5.1), Ent.t 14 (VA.k (kint .i64) s11), Ent.t 99 (VA.k kbool s38), Ent.h 3 (HE.box 25 kPlan a0)] ?_ ?_
      · replace H := h39; clear h39
        refine goes_region ?_
        refine goesO_settle 7 rfl rfl ?_
        refine go1 (op_move rfl (.t (has rfl))) rfl ?_
        refine go1 (op_load rfl (Fld.whole kPlan) tk25 (.t (has rfl)) (has rfl)) rfl ?_
        refine go1 (op_move rfl (.t (has rfl))) rfl ?_
        obtain ⟨v40, h41, H⟩ := bind_some H
        refine go1 (op_call' rfl enters30 (smithyref14_Below.con _ _ _ _ h41) rfl (.cons (ArgP.k (.t (has rfl))) (.cons (ArgP.k (.t (has rfl))) .nil))) rfl ?_
        obtain ⟨v42, h43, H⟩ := bind_some H
        refine go1 (op_callF' rfl enters15 (smithyplain_Texts.conF _ _ _ _ h43) rfl (.cons (ArgB.k (.t (has rfl))) (.cons (ArgB.own rfl (has rfl)) .nil))) rfl ?_
        refine go1 (op_not rfl (.t (has rfl))) rfl ?_
        refine go1 (op_move rfl (.t (has rfl))) rfl ?_
        refine goesO_split H (fun hb44 H => ?_) (fun hb44 H => ?_)
        · skip
          refine goS rfl rfl rfl rfl rfl rfl hb44 ?_
          refine goS rfl rfl rfl rfl rfl rfl hb44 ?_
          refine goS rfl rfl rfl rfl rfl rfl hb44 ?_
          refine goS rfl rfl rfl rfl rfl rfl hb44 ?_
          refine goS rfl rfl rfl rfl rfl rfl hb44 ?_
          refine goS rfl rfl rfl rfl rfl rfl hb44 ?_
          refine go1 (op_pick_t rfl hb44 (.t (has rfl)) (.bool _)) rfl ?_
          refine goesO_nil ?_
          obtain rfl := Option.some.inj H
          exact ends_cut (.cons rfl (.cons rfl (.cons rfl (.cons rfl (.cons rfl (.cons rfl (.cons rfl .nil)))))))
        · skip
          refine goesO_settle 9 rfl rfl ?_
          refine goG (op_move rfl (.t (has rfl))) rfl rfl rfl rfl hb44 ?_
          refine goG (op_load rfl (Fld.whole kPlan) tk25 (.t (has rfl)) (has rfl)) rfl rfl rfl rfl hb44 ?_
          refine goG (op_move rfl (.t (has rfl))) rfl rfl rfl rfl hb44 ?_
          obtain ⟨v45, h46, H⟩ := bind_some H
          refine goG (op_call' rfl enters31 (smithyref14_Above.con _ _ _ _ h46) rfl (.cons (ArgP.k (.t (has rfl))) (.cons (ArgP.k (.t (has rfl))) .nil))) rfl rfl rfl rfl hb44 ?_
          obtain ⟨v47, h48, H⟩ := bind_some H
          refine goG (op_callF' rfl enters15 (smithyplain_Texts.conF _ _ _ _ h48) rfl (.cons (ArgB.k (.t (has rfl))) (.cons (ArgB.own rfl (has rfl)) .nil))) rfl rfl rfl rfl hb44 ?_
          refine goG (op_not rfl (.t (has rfl))) rfl rfl rfl rfl hb44 ?_
          refine go1 (op_pick_f rfl hb44 (.t (has rfl)) (.t (has rfl))) rfl ?_
          refine goesO_nil ?_
          obtain rfl := Option.some.inj H
          exact ends_cut (.cons rfl (.cons rfl (.cons rfl (.cons rfl (.cons rfl (.cons rfl (.cons rfl .nil)))))))
      refine ends_then ?_
      refine goes_if (.t (has rfl)) H (fun hb49 H => ?_) (fun hb49 H => ?_)
      · skip
        refine goes_seq ?_
        refine goes_region ?_
        refine go1 (op_assign rfl (.bool _)) rfl ?_
        refine goesO_nil ?_
        refine ends_then ?_
        obtain rfl := Option.some.inj H
        exact goes_ret (ends_then_ret (ends_ret' rfl rfl (.t rfl (.nil _))))
      · skip
        refine goes_skip ?_
        refine ends_then ?_
        refine goes_seq ?_
        refine goes_seq ?_
        refine goes_region ?_
        refine go1 (op_move rfl (.t (has rfl))) rfl ?_
        refine go1 (op_icmp rfl rfl (.t (has rfl)) (.int _ _)) rfl ?_
        refine goesO_nil ?_
        refine ends_then ?_
        refine goes_if (.t (has rfl)) H (fun hb50 H => ?_) (fun hb50 H => ?_)
        · skip
          refine goes_seq ?_
          refine goes_region ?_
          refine go1 (op_move rfl (.t (has rfl))) rfl ?_
          refine go1 (op_not rfl (.t (has rfl))) rfl ?_
          refine go1 (op_assign rfl (.t (has rfl))) rfl ?_
          refine goesO_nil ?_
          refine ends_then ?_
          obtain rfl := Option.some.inj H
          exact goes_ret (ends_then_ret (ends_ret' rfl rfl (.t rfl (.nil _))))
        · skip
          refine goes_skip ?_
          refine ends_then ?_
          refine goes_seq ?_
          refine goes_region ?_
          refine go1 (op_move rfl (.t (has rfl))) rfl ?_
          refine go1 (op_load rfl (Fld.whole kPlan) tk25 (.t (has rfl)) (has rfl)) rfl ?_
          refine go1 (op_move rfl (.t (has rfl))) rfl ?_
          refine go1 (op_move rfl (.t (has rfl))) rfl ?_
          obtain ⟨v51, h52, H⟩ := bind_some H
          refine go1 (op_call' rfl enters32 (smithyref14_Apart.con _ _ _ _ _ h52) rfl (.cons (ArgP.k (.t (has rfl))) (.cons (ArgP.k (.t (has rfl))) (.cons (ArgP.k (.t (has rfl))) .nil)))) rfl ?_
          refine go1 (op_beq rfl Try.underlying4 (.t (has rfl)) (.t (has rfl))) rfl ?_
          refine go1 (op_assign rfl (.t (has rfl))) rfl ?_
          refine goesO_nil ?_
          refine ends_then ?_
          obtain rfl := Option.some.inj H
          exact goes_ret (ends_ret' rfl rfl (.t rfl (.nil _)))
theorem smithylaw14_WalkPairs.conF (k : Nat) (a0 : Plan) (a1 : ByteArray) (a2 : ByteArray) (r : Bool) (H : smithylaw14_WalkPairs.f k a0 a1 a2 = some r) : ConF Try.prog 7 [VA.k kPlan a0, VA.k kstr a1, VA.k kstr a2] [VA.k kbool r] := (smithylaw14_WalkPairs.con k a0 a1 a2 r H).freeL (.cons (KFree.k KFree.bool _) .nil)
/-! smithy/smithylaw14.WalkBelow -/
def smithylaw14_WalkBelow.f (k : Nat) (a0 : Plan) (a1 : ByteArray) (a2 : ByteArray) : Option Bool := (smithyref14_Fit.f k a0 ([a1, a2])).bind fun v1 => bif icmp .neq v1 (0 : Int) then ((smithylaw14_speaks.f k).bind fun v4 => some v4) else ((walk_Below.f k a0 a1).bind fun v6 => (walk_Above.f k a0 a2).bind fun v8 => (walk_Below.f k a0 a2).bind fun v10 => (walk_Apart.f k a0 a1 a2).bind fun v12 => (bif icmp .neq v6.2 (0 : Int) then (some true) else (bif icmp .neq v8.2 (0 : Int) then (some true) else (bif icmp .neq v10.2 (0 : Int) then (some true) else (bif icmp .neq v12.2 (0 : Int) then (some true) else ((smithyref03_Has.f k v6.1 a1).bind fun v20 => some v20))))).bind fun s14 => bif s14 then (some false) else (((smithyref03_Has.f k v6.1 a2).bind fun v25 => (smithyref03_Has.f k v8.1 a1).bind fun v27 => bif !(v25 == v27) then (some true) else ((smithyref03_Has.f k v6.1 a2).bind fun v30 => bif v30 then ((smithyref03_Has.f k v10.1 a1).bind fun v33 => some v33) else (some false))).bind fun s23 => bif s23 then (some false) else ((bif scmp .neq a1 a2 then ((smithyref03_Has.f k v6.1 a2).bind fun v39 => bif !v39 then ((smithyref03_Has.f k v10.1 a1).bind fun v42 => bif (v12.1 == !v42) then ((smithylaw14_speaks.f k).bind fun v45 => some v45) else (some false)) else (bif (v12.1 == false) then ((smithylaw14_speaks.f k).bind fun v48 => some v48) else (some false))) else (bif (v12.1 == false) then ((smithylaw14_speaks.f k).bind fun v51 => some v51) else (some false))).bind fun s36 => some s36)))
set_option maxRecDepth 100000 in
set_option maxHeartbeats 4000000 in
theorem smithylaw14_WalkBelow.con (k : Nat) (a0 : Plan) (a1 : ByteArray) (a2 : ByteArray) (r : Bool) (H : smithylaw14_WalkBelow.f k a0 a1 a2 = some r) : Con Try.prog 8 [VA.k kPlan a0, VA.k kstr a1, VA.k kstr a2] [VA.k kbool r] := by
  unfold smithylaw14_WalkBelow.f at H
  refine con_enter Try.func8 rfl rfl rfl (fun w0 S0 θ => ?_)
  refine goes_seq ?_
  refine goes_region ?_
  refine go3 (op_box 3 rfl (fun h => by first | rfl | cases h) (.t (has rfl))) rfl ?_
  refine go1 (op_assign rfl (.bool _)) rfl ?_
  refine goesO_nil ?_
  refine ends_then ?_
  refine goes_seq ?_
  refine goes_seq ?_
  refine goes_region ?_
  refine go1 (op_load rfl (Fld.whole kPlan) tk25 (.t (has rfl)) (has rfl)) rfl ?_
  refine go1 (op_move rfl (.t (has rfl))) rfl ?_
  refine go1 (op_move rfl (.t (has rfl))) rfl ?_
  refine go1 (op_buildSlice rfl at23 (fun h => by first | rfl | cases h) rfl rfl rfl (.cons (.t (has rfl)) (.cons (.t (has rfl)) (.nil _)))) rfl ?_
  obtain ⟨v1, h2, H⟩ := bind_some H
  refine go1 (op_callF' rfl enters12 (smithyref14_Fit.conF _ _ _ _ h2) rfl (.cons (ArgB.k (.t (has rfl))) (.cons (ArgB.own rfl (has rfl)) .nil))) rfl ?_
  refine go1 (op_icmp rfl rfl (.t (has rfl)) (.int _ _)) rfl ?_
  refine goesO_nil ?_
  refine ends_then ?_
  refine goes_if (.t (has rfl)) H (fun hb3 H => ?_) (fun hb3 H => ?_)
  · skip
    refine goes_seq ?_
    refine goes_region ?_
    obtain ⟨v4, h5, H⟩ := bind_some H
    refine go1 (op_call' rfl enters13 (smithylaw14_speaks.con _  _ h5) rfl .nil) rfl ?_
    refine go1 (op_assign rfl (.t (has rfl))) rfl ?_
    refine goesO_nil ?_
    refine ends_then ?_
    obtain rfl := Option.some.inj H
    exact goes_ret (ends_then_ret (ends_ret' rfl rfl (.t rfl (.nil _))))
  · skip
    refine goes_skip ?_
    refine ends_then ?_
    refine goes_seq ?_
    refine goes_region ?_
    refine go1 (op_load rfl (Fld.whole kPlan) tk25 (.t (has rfl)) (has rfl)) rfl ?_
    refine go1 (op_move rfl (.t (has rfl))) rfl ?_
    obtain ⟨v6, h7, H⟩ := bind_some H
    refine goN (op_calls' rfl enters27 (walk_Below.con _ _ _ _ h7) rfl rfl (.cons (ArgP.k (.t (has rfl))) (.cons (ArgP.k (.t (has rfl))) .nil))) rfl ?_
    refine go1 (op_same (.inl rfl) rfl rfl) rfl ?_
    refine go2 (op_extract_own_same rfl rfl rfl (has rfl) (has rfl)) rfl ?_
    refine go1 (op_extract_same rfl plain_k (has rfl) (has rfl)) rfl ?_
    refine go2 (op_mv (.inr rfl) rfl rfl (has rfl)) rfl ?_
    refine go1 (op_assign rfl (.t (has rfl))) rfl ?_
    refine goesO_nil ?_
    refine ends_then ?_
    refine goes_seq ?_
    refine goes_region ?_
    refine go1 (op_load rfl (Fld.whole kPlan) tk25 (.t (has rfl)) (has rfl)) rfl ?_
    refine go1 (op_move rfl (.t (has rfl))) rfl ?_
    obtain ⟨v8, h9, H⟩ := bind_some H
    refine goN (op_calls' rfl enters28 (walk_Above.con _ _ _ _ h9) rfl rfl (.cons (ArgP.k (.t (has rfl))) (.cons (ArgP.k (.t (has rfl))) .nil))) rfl ?_
    refine go1 (op_same (.inl rfl) rfl rfl) rfl ?_
    refine go2 (op_extract_own_same rfl rfl rfl (has rfl) (has rfl)) rfl ?_
    refine go1 (op_extract_same rfl plain_k (has rfl) (has rfl)) rfl ?_
    refine go2 (op_mv (.inr rfl) rfl rfl (has rfl)) rfl ?_
    refine go1 (op_assign rfl (.t (has rfl))) rfl ?_
    refine goesO_nil ?_
    refine ends_then ?_
    refine goes_seq ?_
    refine goes_region ?_
    refine go1 (op_load rfl (Fld.whole kPlan) tk25 (.t (has rfl)) (has rfl)) rfl ?_
    refine go1 (op_move rfl (.t (has rfl))) rfl ?_
    obtain ⟨v10, h11, H⟩ := bind_some H
    refine goN (op_calls' rfl enters27 (walk_Below.con _ _ _ _ h11) rfl rfl (.cons (ArgP.k (.t (has rfl))) (.cons (ArgP.k (.t (has rfl))) .nil))) rfl ?_
    refine go1 (op_same (.inl rfl) rfl rfl) rfl ?_
    refine go2 (op_extract_own_same rfl rfl rfl (has rfl) (has rfl)) rfl ?_
    refine go1 (op_extract_same rfl plain_k (has rfl) (has rfl)) rfl ?_
    refine go2 (op_mv (.inr rfl) rfl rfl (has rfl)) rfl ?_
    refine go1 (op_assign rfl (.t (has rfl))) rfl ?_
    refine goesO_nil ?_
    refine ends_then ?_
    refine goes_seq ?_
    refine goes_region ?_
    refine go1 (op_load rfl (Fld.whole kPlan) tk25 (.t (has rfl)) (has rfl)) rfl ?_
    refine go1 (op_move rfl (.t (has rfl))) rfl ?_
    refine go1 (op_move rfl (.t (has rfl))) rfl ?_
    obtain ⟨v12, h13, H⟩ := bind_some H
    refine goN (op_calls' rfl enters21 (walk_Apart.con _ _ _ _ _ h13) rfl rfl (.cons (ArgP.k (.t (has rfl))) (.cons (ArgP.k (.t (has rfl))) (.cons (ArgP.k (.t (has rfl))) .nil)))) rfl ?_
    refine go1 (op_same (.inl rfl) rfl rfl) rfl ?_
    refine go1 (op_extract_same rfl plain_k (has rfl) (has rfl)) rfl ?_
    refine go1 (op_extract_same rfl plain_k (has rfl) (has rfl)) rfl ?_
    refine go1 (op_assign rfl (.t (has rfl))) rfl ?_
    refine go1 (op_assign rfl (.t (has rfl))) rfl ?_
    refine goesO_nil ?_
    refine ends_then ?_
    refine goes_seq ?_
    refine goes_seq ?_
    obtain ⟨s14, h15, H⟩ := bind_some H
    refine goes_cut [Ent.t 1 (VA.k kstr a1), Ent.t 2 (VA.k kstr a2), Ent.t 7 (VA.k (kslice kstr) v6.1), Ent.t 9 (VA.own 9 kstr v8.1), Ent.t 11 (VA.own 9 kstr v10.1), Ent.t 13 (VA.k kbool v12.1), Ent.t 65 (VA.k kbool s14)] ?_ ?_
    · replace H := h15; clear h15
      refine goes_region ?_
      refine go1 (op_move rfl (.t (has rfl))) rfl ?_
      refine go1 (op_icmp rfl rfl (.t (has rfl)) (.int _ _)) rfl ?_
      refine go1 (op_move rfl (.t (has rfl))) rfl ?_
      refine goesO_split H (fun hb16 H => ?_) (fun hb16 H => ?_)
      · skip
        refine goS rfl rfl rfl rfl rfl rfl hb16 ?_
        refine goS rfl rfl rfl rfl rfl rfl hb16 ?_
        refine go1 (op_pick_t rfl hb16 (.t (has rfl)) (.bool _)) rfl ?_
        refine go1 (op_move rfl (.t (has rfl))) rfl ?_
        refine goS rfl rfl rfl rfl rfl rfl rfl ?_
        refine goS rfl rfl rfl rfl rfl rfl rfl ?_
        refine go1 (op_pick_t rfl rfl (.t (has rfl)) (.bool _)) rfl ?_
        refine go1 (op_move rfl (.t (has rfl))) rfl ?_
        refine goS rfl rfl rfl rfl rfl rfl rfl ?_
        refine goS rfl rfl rfl rfl rfl rfl rfl ?_
        refine go1 (op_pick_t rfl rfl (.t (has rfl)) (.bool _)) rfl ?_
        refine go1 (op_move rfl (.t (has rfl))) rfl ?_
        refine goS rfl rfl rfl rfl rfl rfl rfl ?_
        refine goS rfl rfl rfl rfl rfl rfl rfl ?_
        refine goS rfl rfl rfl rfl rfl rfl rfl ?_
        refine go1 (op_pick_t rfl rfl (.t (has rfl)) (.bool _)) rfl ?_
        refine goesO_nil ?_
        refine ends_settle 7 rfl rfl ?_
        obtain rfl := Option.some.inj H
        exact ends_cut (.cons rfl (.cons rfl (.cons rfl (.cons rfl (.cons rfl (.cons rfl (.cons rfl .nil)))))))
      · skip
        refine goG (op_move rfl (.t (has rfl))) rfl rfl rfl rfl hb16 ?_
        refine goG (op_icmp rfl rfl (.t (has rfl)) (.int _ _)) rfl rfl rfl rfl hb16 ?_
        refine go1 (op_pick_f rfl hb16 (.t (has rfl)) (.t (has rfl))) rfl ?_
        refine go1 (op_move rfl (.t (has rfl))) rfl ?_
        refine goesO_split H (fun hb17 H => ?_) (fun hb17 H => ?_)
        · skip
          refine goS rfl rfl rfl rfl rfl rfl hb17 ?_
          refine goS rfl rfl rfl rfl rfl rfl hb17 ?_
          refine go1 (op_pick_t rfl hb17 (.t (has rfl)) (.bool _)) rfl ?_
          refine go1 (op_move rfl (.t (has rfl))) rfl ?_
          refine goS rfl rfl rfl rfl rfl rfl rfl ?_
          refine goS rfl rfl rfl rfl rfl rfl rfl ?_
          refine go1 (op_pick_t rfl rfl (.t (has rfl)) (.bool _)) rfl ?_
          refine go1 (op_move rfl (.t (has rfl))) rfl ?_
          refine goS rfl rfl rfl rfl rfl rfl rfl ?_
          refine goS rfl rfl rfl rfl rfl rfl rfl ?_
          refine goS rfl rfl rfl rfl rfl rfl rfl ?_
          refine go1 (op_pick_t rfl rfl (.t (has rfl)) (.bool _)) rfl ?_
          refine goesO_nil ?_
          refine ends_settle 7 rfl rfl ?_
          obtain rfl := Option.some.inj H
          exact ends_cut (.cons rfl (.cons rfl (.cons rfl (.cons rfl (.cons rfl (.cons rfl (.cons rfl .nil)))))))
        · skip
          refine goG (op_move rfl (.t (has rfl))) rfl rfl rfl rfl hb17 ?_
          refine goG (op_icmp rfl rfl (.t (has rfl)) (.int _ _)) rfl rfl rfl rfl hb17 ?_
          refine go1 (op_pick_f rfl hb17 (.t (has rfl)) (.t (has rfl))) rfl ?_
          refine go1 (op_move rfl (.t (has rfl))) rfl ?_
          refine goesO_split H (fun hb18 H => ?_) (fun hb18 H => ?_)
          · skip
            refine goS rfl rfl rfl rfl rfl rfl hb18 ?_
            refine goS rfl rfl rfl rfl rfl rfl hb18 ?_
            refine go1 (op_pick_t rfl hb18 (.t (has rfl)) (.bool _)) rfl ?_
            refine go1 (op_move rfl (.t (has rfl))) rfl ?_
            refine goS rfl rfl rfl rfl rfl rfl rfl ?_
            refine goS rfl rfl rfl rfl rfl rfl rfl ?_
            refine goS rfl rfl rfl rfl rfl rfl rfl ?_
            refine go1 (op_pick_t rfl rfl (.t (has rfl)) (.bool _)) rfl ?_
            refine goesO_nil ?_
            refine ends_settle 7 rfl rfl ?_
            obtain rfl := Option.some.inj H
            exact ends_cut (.cons rfl (.cons rfl (.cons rfl (.cons rfl (.cons rfl (.cons rfl (.cons rfl .nil)))))))
          · skip
            refine goG (op_move rfl (.t (has rfl))) rfl rfl rfl rfl hb18 ?_
            refine goG (op_icmp rfl rfl (.t (has rfl)) (.int _ _)) rfl rfl rfl rfl hb18 ?_
            refine go1 (op_pick_f rfl hb18 (.t (has rfl)) (.t (has rfl))) rfl ?_
            refine go1 (op_move rfl (.t (has rfl))) rfl ?_
            refine goesO_split H (fun hb19 H => ?_) (fun hb19 H => ?_)
            · skip
              refine goS rfl rfl rfl rfl rfl rfl hb19 ?_
              refine goS rfl rfl rfl rfl rfl rfl hb19 ?_
              refine goS rfl rfl rfl rfl rfl rfl hb19 ?_
              refine go1 (op_pick_t rfl hb19 (.t (has rfl)) (.bool _)) rfl ?_
              refine goesO_nil ?_
              refine ends_settle 7 rfl rfl ?_
              obtain rfl := Option.some.inj H
              exact ends_cut (.cons rfl (.cons rfl (.cons rfl (.cons rfl (.cons rfl (.cons rfl (.cons rfl .nil)))))))
            · skip
              refine goesO_settle 7 rfl rfl ?_
              refine goG (op_move rfl (.t (has rfl))) rfl rfl rfl rfl hb19 ?_
              refine goG (op_move rfl (.t (has rfl))) rfl rfl rfl rfl hb19 ?_
              obtain ⟨v20, h21, H⟩ := bind_some H
              refine goG (op_call' rfl enters33 (smithyref03_Has.con _ _ _ _ h21) rfl (.cons (ArgP.k (.t (has rfl))) (.cons (ArgP.k (.t (has rfl))) .nil))) rfl rfl rfl rfl hb19 ?_
              refine go1 (op_pick_f rfl hb19 (.t (has rfl)) (.t (has rfl))) rfl ?_
              refine goesO_nil ?_
              obtain rfl := Option.some.inj H
              exact ends_cut (.cons rfl (.cons rfl (.cons rfl (.cons rfl (.cons rfl (.cons rfl (.cons rfl .nil)))))))
    refine ends_then ?_
    refine goes_if (.t (has rfl)) H (fun hb22 H => ?_) (fun hb22 H => ?_)
    · skip
      refine goes_seq ?_
      refine goes_region ?_
      refine go1 (op_assign rfl (.bool _)) rfl ?_
      refine goesO_nil ?_
      refine ends_then ?_
      obtain rfl := Option.some.inj H
      exact goes_ret (ends_then_ret (ends_ret' rfl rfl (.t rfl (.nil _))))
    · skip
      refine goes_skip ?_
      refine ends_then ?_
      refine goes_seq ?_
      refine goes_seq ?_
      obtain ⟨s23, h24, H⟩ := bind_some H
      refine goes_cut [Ent.t 1 (VA.k kstr a1), Ent.t 2 (VA.k kstr a2), Ent.t 7 (VA.k (kslice kstr) v6.1), Ent.t 11 (VA.k (kslice kstr) v10.1), Ent.t 13 (VA.k kbool v12.1), Ent.t 82 (VA.k kbool s23)] ?_ ?_
      · replace H := h24; clear h24
        refine goes_region ?_
        refine go1 (op_move rfl (.t (has rfl))) rfl ?_
        refine go1 (op_move rfl (.t (has rfl))) rfl ?_
        obtain ⟨v25, h26, H⟩ := bind_some H
        refine go1 (op_call' rfl enters33 (smithyref03_Has.con _ _ _ _ h26) rfl (.cons (ArgP.k (.t (has rfl))) (.cons (ArgP.k (.t (has rfl))) .nil))) rfl ?_
        refine goesO_settle 9 rfl rfl ?_
        refine go1 (op_move rfl (.t (has rfl))) rfl ?_
        refine go1 (op_move rfl (.t (has rfl))) rfl ?_
        obtain ⟨v27, h28, H⟩ := bind_some H
        refine go1 (op_call' rfl enters33 (smithyref03_Has.con _ _ _ _ h28) rfl (.cons (ArgP.k (.t (has rfl))) (.cons (ArgP.k (.t (has rfl))) .nil))) rfl ?_
        refine go1 (op_bne rfl Try.underlying4 (.t (has rfl)) (.t (has rfl))) rfl ?_
        refine go1 (op_move rfl (.t (has rfl))) rfl ?_
        refine goesO_split H (fun hb29 H => ?_) (fun hb29 H => ?_)
        · skip
          refine goS rfl rfl rfl rfl rfl rfl hb29 ?_
          refine goS rfl rfl rfl rfl rfl rfl hb29 ?_
          refine goS rfl rfl rfl rfl rfl rfl hb29 ?_
          refine goS rfl rfl rfl rfl rfl rfl hb29 ?_
          refine goSU rfl rfl rfl rfl rfl rfl ?_
          refine goSU rfl rfl rfl rfl rfl rfl ?_
          refine goSU rfl rfl rfl rfl rfl rfl ?_
          refine goS rfl rfl rfl rfl rfl rfl hb29 ?_
          refine go1 (op_pick_t rfl hb29 (.t (has rfl)) (.bool _)) rfl ?_
          refine goesO_nil ?_
          refine ends_settle 11 rfl rfl ?_
          obtain rfl := Option.some.inj H
          exact ends_cut (.cons rfl (.cons rfl (.cons rfl (.cons rfl (.cons rfl (.cons rfl .nil))))))
        · skip
          refine goG (op_move rfl (.t (has rfl))) rfl rfl rfl rfl hb29 ?_
          refine goG (op_move rfl (.t (has rfl))) rfl rfl rfl rfl hb29 ?_
          obtain ⟨v30, h31, H⟩ := bind_some H
          refine goG (op_call' rfl enters33 (smithyref03_Has.con _ _ _ _ h31) rfl (.cons (ArgP.k (.t (has rfl))) (.cons (ArgP.k (.t (has rfl))) .nil))) rfl rfl rfl rfl hb29 ?_
          refine goG (op_move rfl (.t (has rfl))) rfl rfl rfl rfl hb29 ?_
          refine goesO_split H (fun hb32 H => ?_) (fun hb32 H => ?_)
          · skip
            refine goesO_settle 11 rfl rfl ?_
            refine goG (op_move rfl (.t (has rfl))) rfl rfl rfl rfl hb32 ?_
            refine goG (op_move rfl (.t (has rfl))) rfl rfl rfl rfl hb32 ?_
            obtain ⟨v33, h34, H⟩ := bind_some H
            refine goG (op_call' rfl enters33 (smithyref03_Has.con _ _ _ _ h34) rfl (.cons (ArgP.k (.t (has rfl))) (.cons (ArgP.k (.t (has rfl))) .nil))) rfl rfl rfl rfl hb32 ?_
            refine goG (op_pick_t rfl hb32 (.t (has rfl)) (.t (has rfl))) rfl rfl rfl rfl hb29 ?_
            refine go1 (op_pick_f rfl hb29 (.t (has rfl)) (.t (has rfl))) rfl ?_
            refine goesO_nil ?_
            obtain rfl := Option.some.inj H
            exact ends_cut (.cons rfl (.cons rfl (.cons rfl (.cons rfl (.cons rfl (.cons rfl .nil))))))
          · skip
            refine goS rfl rfl rfl rfl rfl rfl hb32 ?_
            refine goS rfl rfl rfl rfl rfl rfl hb32 ?_
            refine goS rfl rfl rfl rfl rfl rfl hb32 ?_
            refine goG (op_pick_f rfl hb32 (.t (has rfl)) (.bool _)) rfl rfl rfl rfl hb29 ?_
            refine go1 (op_pick_f rfl hb29 (.t (has rfl)) (.t (has rfl))) rfl ?_
            refine goesO_nil ?_
            refine ends_settle 11 rfl rfl ?_
            obtain rfl := Option.some.inj H
            exact ends_cut (.cons rfl (.cons rfl (.cons rfl (.cons rfl (.cons rfl (.cons rfl .nil))))))
      refine ends_then ?_
      refine goes_if (.t (has rfl)) H (fun hb35 H => ?_) (fun hb35 H => ?_)
      · skip
        refine goes_seq ?_
        refine goes_region ?_
        refine go1 (op_assign rfl (.bool _)) rfl ?_
        refine goesO_nil ?_
        refine ends_then ?_
        obtain rfl := Option.some.inj H
        exact goes_ret (ends_then_ret (ends_ret' rfl rfl (.t rfl (.nil _))))
      · skip
        refine goes_skip ?_
        refine ends_then ?_
        refine goes_seq ?_
        obtain ⟨s36, h37, H⟩ := bind_some H
        refine goes_cut [Ent.t 6 (VA.k kbool s36)] ?_ ?_
        · replace H := h37; clear h37
          refine goes_region ?_
          refine go1 (op_move rfl (.t (has rfl))) rfl ?_
          refine go1 (op_move rfl (.t (has rfl))) rfl ?_
          refine go1 (op_move rfl (.t (has rfl))) rfl ?_
          refine go1 (op_scmp rfl rfl (.t (has rfl)) (.t (has rfl))) rfl ?_
          refine go1 (op_move rfl (.t (has rfl))) rfl ?_
          refine goesO_split H (fun hb38 H => ?_) (fun hb38 H => ?_)
          · skip
            refine goG (op_move rfl (.t (has rfl))) rfl rfl rfl rfl hb38 ?_
            refine goG (op_move rfl (.t (has rfl))) rfl rfl rfl rfl hb38 ?_
            obtain ⟨v39, h40, H⟩ := bind_some H
            refine goG (op_call' rfl enters33 (smithyref03_Has.con _ _ _ _ h40) rfl (.cons (ArgP.k (.t (has rfl))) (.cons (ArgP.k (.t (has rfl))) .nil))) rfl rfl rfl rfl hb38 ?_
            refine goG (op_not rfl (.t (has rfl))) rfl rfl rfl rfl hb38 ?_
            refine go1 (op_pick_t rfl hb38 (.t (has rfl)) (.t (has rfl))) rfl ?_
            refine go1 (op_move rfl (.t (has rfl))) rfl ?_
            refine goesO_split H (fun hb41 H => ?_) (fun hb41 H => ?_)
            · skip
              refine goG (op_move rfl (.t (has rfl))) rfl rfl rfl rfl hb41 ?_
              refine goG (op_move rfl (.t (has rfl))) rfl rfl rfl rfl hb41 ?_
              obtain ⟨v42, h43, H⟩ := bind_some H
              refine goG (op_call' rfl enters33 (smithyref03_Has.con _ _ _ _ h43) rfl (.cons (ArgP.k (.t (has rfl))) (.cons (ArgP.k (.t (has rfl))) .nil))) rfl rfl rfl rfl hb41 ?_
              refine goG (op_not rfl (.t (has rfl))) rfl rfl rfl rfl hb41 ?_
              refine go1 (op_pick_t rfl hb41 (.t (has rfl)) (.t (has rfl))) rfl ?_
              refine go1 (op_beq rfl Try.underlying4 (.t (has rfl)) (.t (has rfl))) rfl ?_
              refine go1 (op_move rfl (.t (has rfl))) rfl ?_
              refine goesO_split H (fun hb44 H => ?_) (fun hb44 H => ?_)
              · skip
                obtain ⟨v45, h46, H⟩ := bind_some H
                refine goG (op_call' rfl enters13 (smithylaw14_speaks.con _  _ h46) rfl .nil) rfl rfl rfl rfl hb44 ?_
                refine go1 (op_pick_t rfl hb44 (.t (has rfl)) (.t (has rfl))) rfl ?_
                refine go1 (op_assign rfl (.t (has rfl))) rfl ?_
                refine goesO_nil ?_
                obtain rfl := Option.some.inj H
                exact ends_cut (.cons rfl .nil)
              · skip
                refine goS rfl rfl rfl rfl rfl rfl hb44 ?_
                refine go1 (op_pick_f rfl hb44 (.t (has rfl)) (.bool _)) rfl ?_
                refine go1 (op_assign rfl (.t (has rfl))) rfl ?_
                refine goesO_nil ?_
                obtain rfl := Option.some.inj H
                exact ends_cut (.cons rfl .nil)
            · skip
              refine goS rfl rfl rfl rfl rfl rfl hb41 ?_
              refine goS rfl rfl rfl rfl rfl rfl hb41 ?_
              refine goS rfl rfl rfl rfl rfl rfl hb41 ?_
              refine goS rfl rfl rfl rfl rfl rfl hb41 ?_
              refine go1 (op_pick_f rfl hb41 (.t (has rfl)) (.bool _)) rfl ?_
              refine go1 (op_beq rfl Try.underlying4 (.t (has rfl)) (.t (has rfl))) rfl ?_
              refine go1 (op_move rfl (.t (has rfl))) rfl ?_
              refine goesO_split H (fun hb47 H => ?_) (fun hb47 H => ?_)
              · skip
                obtain ⟨v48, h49, H⟩ := bind_some H
                refine goG (op_call' rfl enters13 (smithylaw14_speaks.con _  _ h49) rfl .nil) rfl rfl rfl rfl hb47 ?_
                refine go1 (op_pick_t rfl hb47 (.t (has rfl)) (.t (has rfl))) rfl ?_
                refine go1 (op_assign rfl (.t (has rfl))) rfl ?_
                refine goesO_nil ?_
                obtain rfl := Option.some.inj H
                exact ends_cut (.cons rfl .nil)
              · skip
                refine goS rfl rfl rfl rfl rfl rfl hb47 ?_
                refine go1 (op_pick_f rfl hb47 (.t (has rfl)) (.bool _)) rfl ?_
                refine go1 (op_assign rfl (.t (has rfl))) rfl ?_
                refine goesO_nil ?_
                obtain rfl := Option.some.inj H
                exact ends_cut (.cons rfl .nil)
          · skip
            refine goS rfl rfl rfl rfl rfl rfl hb38 ?_
            refine goS rfl rfl rfl rfl rfl rfl hb38 ?_
            refine goS rfl rfl rfl rfl rfl rfl hb38 ?_
            refine goS rfl rfl rfl rfl rfl rfl hb38 ?_
            refine go1 (op_pick_f rfl hb38 (.t (has rfl)) (.bool _)) rfl ?_
            refine go1 (op_move rfl (.t (has rfl))) rfl ?_
            refine goS rfl rfl rfl rfl rfl rfl rfl ?_
            refine goS rfl rfl rfl rfl rfl rfl rfl ?_
            refine goS rfl rfl rfl rfl rfl rfl rfl ?_
            refine goS rfl rfl rfl rfl rfl rfl rfl ?_
            refine go1 (op_pick_f rfl rfl (.t (has rfl)) (.bool _)) rfl ?_
            refine go1 (op_beq rfl Try.underlying4 (.t (has rfl)) (.t (has rfl))) rfl ?_
            refine go1 (op_move rfl (.t (has rfl))) rfl ?_
            refine goesO_split H (fun hb50 H => ?_) (fun hb50 H => ?_)
            · skip
              obtain ⟨v51, h52, H⟩ := bind_some H
              refine goG (op_call' rfl enters13 (smithylaw14_speaks.con _  _ h52) rfl .nil) rfl rfl rfl rfl hb50 ?_
              refine go1 (op_pick_t rfl hb50 (.t (has rfl)) (.t (has rfl))) rfl ?_
              refine go1 (op_assign rfl (.t (has rfl))) rfl ?_
              refine goesO_nil ?_
              obtain rfl := Option.some.inj H
              exact ends_cut (.cons rfl .nil)
            · skip
              refine goS rfl rfl rfl rfl rfl rfl hb50 ?_
              refine go1 (op_pick_f rfl hb50 (.t (has rfl)) (.bool _)) rfl ?_
              refine go1 (op_assign rfl (.t (has rfl))) rfl ?_
              refine goesO_nil ?_
              obtain rfl := Option.some.inj H
              exact ends_cut (.cons rfl .nil)
        refine ends_then ?_
        obtain rfl := Option.some.inj H
        exact goes_ret (ends_ret' rfl rfl (.t rfl (.nil _)))
theorem smithylaw14_WalkBelow.conF (k : Nat) (a0 : Plan) (a1 : ByteArray) (a2 : ByteArray) (r : Bool) (H : smithylaw14_WalkBelow.f k a0 a1 a2 = some r) : ConF Try.prog 8 [VA.k kPlan a0, VA.k kstr a1, VA.k kstr a2] [VA.k kbool r] := (smithylaw14_WalkBelow.con k a0 a1 a2 r H).freeL (.cons (KFree.k KFree.bool _) .nil)
end Go.Proofs.Ytedgkcdofiildaa.F
