import Derived.Test.YtodogppelokapaaFKx3
set_option linter.unusedVariables false
set_option linter.unusedSimpArgs false
set_option linter.unnecessarySimpa false
set_option linter.deprecated false
namespace Go.Proofs.Ytodogppelokapaa.F
open Go Go.RowKit Go.Proofs.Ytodogppelokapaa.Sl
/-! smithy/macro.Look -/
def macro_Look.f (k : Nat) (a0 : List Macro) (a1 : ByteArray) : Option (Macro × Bool × Int) := (macro_Check.f k a0).bind fun v1 => bif icmp .neq v1 (0 : Int) then (some ((⟨ByteArray.empty, ByteArray.empty, (0 : Int)⟩ : Macro), false, v1)) else ((macro_Name.f k a1).bind fun v4 => bif !v4 then (some ((⟨ByteArray.empty, ByteArray.empty, (0 : Int)⟩ : Macro), false, (50 : Int))) else ((macro_find.f k a0 a1).bind fun v7 => bif !v7.2 then (some ((⟨ByteArray.empty, ByteArray.empty, (0 : Int)⟩ : Macro), false, (0 : Int))) else ((idx a0 v7.1).bind fun x10 => some (x10, true, (0 : Int)))))
set_option maxRecDepth 100000 in
set_option maxHeartbeats 4000000 in
theorem macro_Look.con (k : Nat) (a0 : List Macro) (a1 : ByteArray) (r : Macro × Bool × Int) (H : macro_Look.f k a0 a1 = some r) : Con Try.prog 21 [VA.k (kslice kMacro) a0, VA.k kstr a1] [VA.k kMacro r.1, VA.k kbool r.2.1, VA.k (kint .i64) r.2.2] := by
  unfold macro_Look.f at H
  refine con_enter Try.func21 rfl rfl rfl (fun w0 S0 θ => ?_)
  refine goes_seq ?_
  refine goes_region ?_
  refine go3 (op_alloc 4 rfl zk30) rfl ?_
  refine go1 (op_assign rfl (.bool _)) rfl ?_
  refine go1 (op_assign rfl (.int _ _)) rfl ?_
  refine goesO_nil ?_
  refine ends_then ?_
  refine goes_seq ?_
  refine goes_seq ?_
  refine goes_region ?_
  refine go1 (op_move rfl (.t (has rfl))) rfl ?_
  obtain ⟨v1, h2, H⟩ := bind_some H
  refine go1 (op_call' rfl enters10 (macro_Check.con _ _ _ h2) rfl (.cons (ArgP.k (.t (has rfl))) .nil)) rfl ?_
  refine go1 (op_assign rfl (.t (has rfl))) rfl ?_
  refine goesO_nil ?_
  refine ends_then ?_
  refine goes_seq ?_
  refine goes_region ?_
  refine go1 (op_move rfl (.t (has rfl))) rfl ?_
  refine go1 (op_icmp rfl rfl (.t (has rfl)) (.int _ _)) rfl ?_
  refine goesO_nil ?_
  refine ends_then ?_
  refine goes_if (.t (has rfl)) H (fun hb3 H => ?_) (fun hb3 H => ?_)
  · skip
    refine goes_seq ?_
    refine goes_region ?_
    refine go1 (op_build (pl := [(0, 1), (1, 1), (2, 1)]) rfl rfl Try.underlying30 (by kernel_rfl) zk30 (.nil _)) rfl ?_
    refine go1 (op_move rfl (.t (has rfl))) rfl ?_
    refine go1 (op_store (Fld.whole kMacro) tk30 (.t (has rfl)) (has rfl) (.t (has rfl))) rfl ?_
    refine go1 (op_assign rfl (.bool _)) rfl ?_
    refine go1 (op_assign rfl (.t (has rfl))) rfl ?_
    refine goesO_nil ?_
    refine ends_then ?_
    obtain rfl := Option.some.inj H
    exact goes_ret (ends_then_ret (ends_ret' rfl rfl (.c rfl rfl tk30 (.t rfl (.t rfl (.nil _))))))
  · skip
    refine goes_skip ?_
    refine ends_then ?_
    refine goes_seq ?_
    refine goes_seq ?_
    refine goes_region ?_
    refine go1 (op_move rfl (.t (has rfl))) rfl ?_
    obtain ⟨v4, h5, H⟩ := bind_some H
    refine go1 (op_call' rfl enters12 (macro_Name.con _ _ _ h5) rfl (.cons (ArgP.k (.t (has rfl))) .nil)) rfl ?_
    refine go1 (op_not rfl (.t (has rfl))) rfl ?_
    refine goesO_nil ?_
    refine ends_then ?_
    refine goes_if (.t (has rfl)) H (fun hb6 H => ?_) (fun hb6 H => ?_)
    · skip
      refine goes_seq ?_
      refine goes_region ?_
      refine go1 (op_build (pl := [(0, 1), (1, 1), (2, 1)]) rfl rfl Try.underlying30 (by kernel_rfl) zk30 (.nil _)) rfl ?_
      refine go1 (op_store (Fld.whole kMacro) tk30 (.t (has rfl)) (has rfl) (.t (has rfl))) rfl ?_
      refine go1 (op_assign rfl (.bool _)) rfl ?_
      refine go1 (op_assign rfl (.int _ _)) rfl ?_
      refine goesO_nil ?_
      refine ends_then ?_
      obtain rfl := Option.some.inj H
      exact goes_ret (ends_then_ret (ends_ret' rfl rfl (.c rfl rfl tk30 (.t rfl (.t rfl (.nil _))))))
    · skip
      refine goes_skip ?_
      refine ends_then ?_
      refine goes_seq ?_
      refine goes_region ?_
      refine go1 (op_move rfl (.t (has rfl))) rfl ?_
      refine go1 (op_move rfl (.t (has rfl))) rfl ?_
      obtain ⟨v7, h8, H⟩ := bind_some H
      refine goN (op_calls' rfl enters34 (macro_find.con _ _ _ _ h8) rfl rfl (.cons (ArgP.k (.t (has rfl))) (.cons (ArgP.k (.t (has rfl))) .nil))) rfl ?_
      refine go1 (op_same (.inl rfl) rfl rfl) rfl ?_
      refine go1 (op_extract_same rfl plain_k (has rfl) (has rfl)) rfl ?_
      refine go1 (op_extract_same rfl plain_k (has rfl) (has rfl)) rfl ?_
      refine go1 (op_assign rfl (.t (has rfl))) rfl ?_
      refine go1 (op_assign rfl (.t (has rfl))) rfl ?_
      refine goesO_nil ?_
      refine ends_then ?_
      refine goes_seq ?_
      refine goes_seq ?_
      refine goes_region ?_
      refine go1 (op_move rfl (.t (has rfl))) rfl ?_
      refine go1 (op_not rfl (.t (has rfl))) rfl ?_
      refine goesO_nil ?_
      refine ends_then ?_
      refine goes_if (.t (has rfl)) H (fun hb9 H => ?_) (fun hb9 H => ?_)
      · skip
        refine goes_seq ?_
        refine goes_region ?_
        refine go1 (op_build (pl := [(0, 1), (1, 1), (2, 1)]) rfl rfl Try.underlying30 (by kernel_rfl) zk30 (.nil _)) rfl ?_
        refine go1 (op_store (Fld.whole kMacro) tk30 (.t (has rfl)) (has rfl) (.t (has rfl))) rfl ?_
        refine go1 (op_assign rfl (.bool _)) rfl ?_
        refine go1 (op_assign rfl (.int _ _)) rfl ?_
        refine goesO_nil ?_
        refine ends_then ?_
        obtain rfl := Option.some.inj H
        exact goes_ret (ends_then_ret (ends_ret' rfl rfl (.c rfl rfl tk30 (.t rfl (.t rfl (.nil _))))))
      · skip
        refine goes_skip ?_
        refine ends_then ?_
        refine goes_seq ?_
        refine goes_region ?_
        refine go1 (op_move rfl (.t (has rfl))) rfl ?_
        refine go1 (op_move rfl (.t (has rfl))) rfl ?_
        obtain ⟨x10, h11, H⟩ := bind_some H
        refine go1 (op_indexAddr rfl Try.underlying22 tk30 h11 (.t (has rfl)) (.t (has rfl))) rfl ?_
        refine go1 (op_loadp rfl tk30 (.t (has rfl))) rfl ?_
        refine go1 (op_store (Fld.whole kMacro) tk30 (.t (has rfl)) (has rfl) (.t (has rfl))) rfl ?_
        refine go1 (op_assign rfl (.bool _)) rfl ?_
        refine go1 (op_assign rfl (.int _ _)) rfl ?_
        refine goesO_nil ?_
        refine ends_then ?_
        obtain rfl := Option.some.inj H
        exact goes_ret (ends_ret' rfl rfl (.c rfl rfl tk30 (.t rfl (.t rfl (.nil _)))))
theorem macro_Look.conF (k : Nat) (a0 : List Macro) (a1 : ByteArray) (r : Macro × Bool × Int) (H : macro_Look.f k a0 a1 = some r) : ConF Try.prog 21 [VA.k (kslice kMacro) a0, VA.k kstr a1] [VA.k kMacro r.1, VA.k kbool r.2.1, VA.k (kint .i64) r.2.2] := (macro_Look.con k a0 a1 r H).freeL (.cons (KFree.k kfreeMacro _) (.cons (KFree.k KFree.bool _) (.cons (KFree.k (KFree.int .i64) _) .nil)))
/-! smithy/smithylaw05.small -/
def smithylaw05_small.f (k : Nat) : Option Bool := (macro_Define.f k ([] : List Macro) (⟨(⟨#[65]⟩ : ByteArray), (⟨#[120]⟩ : ByteArray), (2 : Int)⟩ : Macro)).bind fun v1 => (macro_Define.f k v1.1 (⟨(⟨#[65]⟩ : ByteArray), (⟨#[121]⟩ : ByteArray), (1 : Int)⟩ : Macro)).bind fun v3 => (macro_Look.f k v3.1 (⟨#[65]⟩ : ByteArray)).bind fun v5 => (bif icmp .eql v1.2 (0 : Int) then (bif icmp .eql v3.2 (0 : Int) then (bif icmp .eql v5.2.2 (0 : Int) then (bif v5.2.1 then (bif scmp .eql v5.1.Value (⟨#[120]⟩ : ByteArray) then ((macro_Name.f k (⟨#[65, 46, 98, 95, 57]⟩ : ByteArray)).bind fun v14 => bif v14 then ((macro_Name.f k (⟨#[97, 45, 98]⟩ : ByteArray)).bind fun v17 => some (!v17)) else (some false)) else (some false)) else (some false)) else (some false)) else (some false)) else (some false)).bind fun s7 => some s7
set_option maxRecDepth 100000 in
set_option maxHeartbeats 4000000 in
theorem smithylaw05_small.con (k : Nat) (r : Bool) (H : smithylaw05_small.f k = some r) : Con Try.prog 14 [] [VA.k kbool r] := by
  unfold smithylaw05_small.f at H
  refine con_enter Try.func14 rfl rfl rfl (fun w0 S0 θ => ?_)
  refine goes_seq ?_
  refine goes_region ?_
  refine go1 (op_assign rfl (.bool _)) rfl ?_
  refine goesO_nil ?_
  refine ends_then ?_
  refine goes_seq ?_
  refine goes_region ?_
  refine go1 (op_build (pl := [(0, 1), (1, 1), (2, 1)]) rfl rfl Try.underlying30 (by kernel_rfl) zk30 (.cons rfl tk9 fldMacro_Name (.str _) (.cons rfl tk9 fldMacro_Value (.str _) (.cons rfl tk3 fldMacro_Level (.int _ _) (.nil _))))) rfl ?_
  obtain ⟨v1, h2, H⟩ := bind_some H
  refine goN (op_calls' rfl enters16 (macro_Define.con _ _ _ _ h2) rfl rfl (.cons (ArgP.k (.nil _)) (.cons (ArgP.k (.t (has rfl))) .nil))) rfl ?_
  refine go1 (op_same (.inl rfl) rfl rfl) rfl ?_
  refine go2 (op_extract_own_same rfl rfl rfl (has rfl) (has rfl)) rfl ?_
  refine go1 (op_extract_same rfl plain_k (has rfl) (has rfl)) rfl ?_
  refine go2 (op_mv (.inr rfl) rfl rfl (has rfl)) rfl ?_
  refine go1 (op_assign rfl (.t (has rfl))) rfl ?_
  refine goesO_nil ?_
  refine ends_then ?_
  refine goes_seq ?_
  refine goes_region ?_
  refine goesO_settle 1 rfl rfl ?_
  refine go1 (op_move rfl (.t (has rfl))) rfl ?_
  refine go1 (op_build (pl := [(0, 1), (1, 1), (2, 1)]) rfl rfl Try.underlying30 (by kernel_rfl) zk30 (.cons rfl tk9 fldMacro_Name (.str _) (.cons rfl tk9 fldMacro_Value (.str _) (.cons rfl tk3 fldMacro_Level (.int _ _) (.nil _))))) rfl ?_
  obtain ⟨v3, h4, H⟩ := bind_some H
  refine goN (op_calls' rfl enters16 (macro_Define.con _ _ _ _ h4) rfl rfl (.cons (ArgP.k (.t (has rfl))) (.cons (ArgP.k (.t (has rfl))) .nil))) rfl ?_
  refine go1 (op_same (.inl rfl) rfl rfl) rfl ?_
  refine go2 (op_extract_own_same rfl rfl rfl (has rfl) (has rfl)) rfl ?_
  refine go1 (op_extract_same rfl plain_k (has rfl) (has rfl)) rfl ?_
  refine go2 (op_mv (.inr rfl) rfl rfl (has rfl)) rfl ?_
  refine go1 (op_assign rfl (.t (has rfl))) rfl ?_
  refine goesO_nil ?_
  refine ends_then ?_
  refine goes_seq ?_
  refine goes_region ?_
  refine goesO_settle 1 rfl rfl ?_
  refine go1 (op_move rfl (.t (has rfl))) rfl ?_
  obtain ⟨v5, h6, H⟩ := bind_some H
  refine goN (op_calls' rfl enters21 (macro_Look.con _ _ _ _ h6) rfl rfl (.cons (ArgP.k (.t (has rfl))) (.cons (ArgP.k (.str _)) .nil))) rfl ?_
  refine go1 (op_same (.inl rfl) rfl rfl) rfl ?_
  refine go1 (op_extract_same rfl plain_k (has rfl) (has rfl)) rfl ?_
  refine go1 (op_extract_same rfl plain_k (has rfl) (has rfl)) rfl ?_
  refine go1 (op_extract_same rfl plain_k (has rfl) (has rfl)) rfl ?_
  refine go3 (op_alloc 4 rfl zk30) rfl ?_
  refine go1 (op_store (Fld.whole kMacro) tk30 (.t (has rfl)) (has rfl) (.t (has rfl))) rfl ?_
  refine go1 (op_assign rfl (.t (has rfl))) rfl ?_
  refine go1 (op_assign rfl (.t (has rfl))) rfl ?_
  refine goesO_nil ?_
  refine ends_then ?_
  refine goes_seq ?_
  obtain ⟨s7, h8, H⟩ := bind_some H
  refine goes_cut [Ent.t 0 (VA.k kbool s7)] ?_ ?_
  · replace H := h8; clear h8
    refine goes_region ?_
    refine go1 (op_move rfl (.t (has rfl))) rfl ?_
    refine go1 (op_icmp rfl rfl (.t (has rfl)) (.int _ _)) rfl ?_
    refine go1 (op_move rfl (.t (has rfl))) rfl ?_
    refine goesO_split H (fun hb9 H => ?_) (fun hb9 H => ?_)
    · skip
      refine goG (op_move rfl (.t (has rfl))) rfl rfl rfl rfl hb9 ?_
      refine goG (op_icmp rfl rfl (.t (has rfl)) (.int _ _)) rfl rfl rfl rfl hb9 ?_
      refine go1 (op_pick_t rfl hb9 (.t (has rfl)) (.t (has rfl))) rfl ?_
      refine go1 (op_move rfl (.t (has rfl))) rfl ?_
      refine goesO_split H (fun hb10 H => ?_) (fun hb10 H => ?_)
      · skip
        refine goG (op_move rfl (.t (has rfl))) rfl rfl rfl rfl hb10 ?_
        refine goG (op_icmp rfl rfl (.t (has rfl)) (.int _ _)) rfl rfl rfl rfl hb10 ?_
        refine go1 (op_pick_t rfl hb10 (.t (has rfl)) (.t (has rfl))) rfl ?_
        refine go1 (op_move rfl (.t (has rfl))) rfl ?_
        refine goesO_split H (fun hb11 H => ?_) (fun hb11 H => ?_)
        · skip
          refine goG (op_move rfl (.t (has rfl))) rfl rfl rfl rfl hb11 ?_
          refine go1 (op_pick_t rfl hb11 (.t (has rfl)) (.t (has rfl))) rfl ?_
          refine go1 (op_move rfl (.t (has rfl))) rfl ?_
          refine goesO_split H (fun hb12 H => ?_) (fun hb12 H => ?_)
          · skip
            refine goG (op_fieldAddr rfl Try.underlying30 rfl tk9 (.t (has rfl))) rfl rfl rfl rfl hb12 ?_
            refine goG (op_load rfl fldMacro_Value tk9 (.t (has rfl)) (has rfl)) rfl rfl rfl rfl hb12 ?_
            refine goG (op_scmp rfl rfl (.t (has rfl)) (.str _)) rfl rfl rfl rfl hb12 ?_
            refine go1 (op_pick_t rfl hb12 (.t (has rfl)) (.t (has rfl))) rfl ?_
            refine go1 (op_move rfl (.t (has rfl))) rfl ?_
            refine goesO_split H (fun hb13 H => ?_) (fun hb13 H => ?_)
            · skip
              obtain ⟨v14, h15, H⟩ := bind_some H
              refine goG (op_call' rfl enters12 (macro_Name.con _ _ _ h15) rfl (.cons (ArgP.k (.str _)) .nil)) rfl rfl rfl rfl hb13 ?_
              refine go1 (op_pick_t rfl hb13 (.t (has rfl)) (.t (has rfl))) rfl ?_
              refine go1 (op_move rfl (.t (has rfl))) rfl ?_
              refine goesO_split H (fun hb16 H => ?_) (fun hb16 H => ?_)
              · skip
                obtain ⟨v17, h18, H⟩ := bind_some H
                refine goG (op_call' rfl enters12 (macro_Name.con _ _ _ h18) rfl (.cons (ArgP.k (.str _)) .nil)) rfl rfl rfl rfl hb16 ?_
                refine goG (op_not rfl (.t (has rfl))) rfl rfl rfl rfl hb16 ?_
                refine go1 (op_pick_t rfl hb16 (.t (has rfl)) (.t (has rfl))) rfl ?_
                refine go1 (op_assign rfl (.t (has rfl))) rfl ?_
                refine goesO_nil ?_
                obtain rfl := Option.some.inj H
                exact ends_cut (.cons rfl .nil)
              · skip
                refine goS rfl rfl rfl rfl rfl rfl hb16 ?_
                refine goS rfl rfl rfl rfl rfl rfl hb16 ?_
                refine go1 (op_pick_f rfl hb16 (.t (has rfl)) (.bool _)) rfl ?_
                refine go1 (op_assign rfl (.t (has rfl))) rfl ?_
                refine goesO_nil ?_
                obtain rfl := Option.some.inj H
                exact ends_cut (.cons rfl .nil)
            · skip
              refine goS rfl rfl rfl rfl rfl rfl hb13 ?_
              refine go1 (op_pick_f rfl hb13 (.t (has rfl)) (.bool _)) rfl ?_
              refine go1 (op_move rfl (.t (has rfl))) rfl ?_
              refine goS rfl rfl rfl rfl rfl rfl rfl ?_
              refine goS rfl rfl rfl rfl rfl rfl rfl ?_
              refine go1 (op_pick_f rfl rfl (.t (has rfl)) (.bool _)) rfl ?_
              refine go1 (op_assign rfl (.t (has rfl))) rfl ?_
              refine goesO_nil ?_
              obtain rfl := Option.some.inj H
              exact ends_cut (.cons rfl .nil)
          · skip
            refine goS rfl rfl rfl rfl rfl rfl hb12 ?_
            refine goS rfl rfl rfl rfl rfl rfl hb12 ?_
            refine goS rfl rfl rfl rfl rfl rfl hb12 ?_
            refine go1 (op_pick_f rfl hb12 (.t (has rfl)) (.bool _)) rfl ?_
            refine go1 (op_move rfl (.t (has rfl))) rfl ?_
            refine goS rfl rfl rfl rfl rfl rfl rfl ?_
            refine go1 (op_pick_f rfl rfl (.t (has rfl)) (.bool _)) rfl ?_
            refine go1 (op_move rfl (.t (has rfl))) rfl ?_
            refine goS rfl rfl rfl rfl rfl rfl rfl ?_
            refine goS rfl rfl rfl rfl rfl rfl rfl ?_
            refine go1 (op_pick_f rfl rfl (.t (has rfl)) (.bool _)) rfl ?_
            refine go1 (op_assign rfl (.t (has rfl))) rfl ?_
            refine goesO_nil ?_
            obtain rfl := Option.some.inj H
            exact ends_cut (.cons rfl .nil)
        · skip
          refine goS rfl rfl rfl rfl rfl rfl hb11 ?_
          refine go1 (op_pick_f rfl hb11 (.t (has rfl)) (.bool _)) rfl ?_
          refine go1 (op_move rfl (.t (has rfl))) rfl ?_
          refine goS rfl rfl rfl rfl rfl rfl rfl ?_
          refine goS rfl rfl rfl rfl rfl rfl rfl ?_
          refine goS rfl rfl rfl rfl rfl rfl rfl ?_
          refine go1 (op_pick_f rfl rfl (.t (has rfl)) (.bool _)) rfl ?_
          refine go1 (op_move rfl (.t (has rfl))) rfl ?_
          refine goS rfl rfl rfl rfl rfl rfl rfl ?_
          refine go1 (op_pick_f rfl rfl (.t (has rfl)) (.bool _)) rfl ?_
          refine go1 (op_move rfl (.t (has rfl))) rfl ?_
          refine goS rfl rfl rfl rfl rfl rfl rfl ?_
          refine goS rfl rfl rfl rfl rfl rfl rfl ?_
          refine go1 (op_pick_f rfl rfl (.t (has rfl)) (.bool _)) rfl ?_
          refine go1 (op_assign rfl (.t (has rfl))) rfl ?_
          refine goesO_nil ?_
          obtain rfl := Option.some.inj H
          exact ends_cut (.cons rfl .nil)
      · skip
        refine goS rfl rfl rfl rfl rfl rfl hb10 ?_
        refine goS rfl rfl rfl rfl rfl rfl hb10 ?_
        refine go1 (op_pick_f rfl hb10 (.t (has rfl)) (.bool _)) rfl ?_
        refine go1 (op_move rfl (.t (has rfl))) rfl ?_
        refine goS rfl rfl rfl rfl rfl rfl rfl ?_
        refine go1 (op_pick_f rfl rfl (.t (has rfl)) (.bool _)) rfl ?_
        refine go1 (op_move rfl (.t (has rfl))) rfl ?_
        refine goS rfl rfl rfl rfl rfl rfl rfl ?_
        refine goS rfl rfl rfl rfl rfl rfl rfl ?_
        refine goS rfl rfl rfl rfl rfl rfl rfl ?_
        refine go1 (op_pick_f rfl rfl (.t (has rfl)) (.bool _)) rfl ?_
        refine go1 (op_move rfl (.t (has rfl))) rfl ?_
        refine goS rfl rfl rfl rfl rfl rfl rfl ?_
        refine go1 (op_pick_f rfl rfl (.t (has rfl)) (.bool _)) rfl ?_
        refine go1 (op_move rfl (.t (has rfl))) rfl ?_
        refine goS rfl rfl rfl rfl rfl rfl rfl ?_
        refine goS rfl rfl rfl rfl rfl rfl rfl ?_
        refine go1 (op_pick_f rfl rfl (.t (has rfl)) (.bool _)) rfl ?_
        refine go1 (op_assign rfl (.t (has rfl))) rfl ?_
        refine goesO_nil ?_
        obtain rfl := Option.some.inj H
        exact ends_cut (.cons rfl .nil)
    · skip
      refine goS rfl rfl rfl rfl rfl rfl hb9 ?_
      refine goS rfl rfl rfl rfl rfl rfl hb9 ?_
      refine go1 (op_pick_f rfl hb9 (.t (has rfl)) (.bool _)) rfl ?_
      refine go1 (op_move rfl (.t (has rfl))) rfl ?_
      refine goS rfl rfl rfl rfl rfl rfl rfl ?_
      refine goS rfl rfl rfl rfl rfl rfl rfl ?_
      refine go1 (op_pick_f rfl rfl (.t (has rfl)) (.bool _)) rfl ?_
      refine go1 (op_move rfl (.t (has rfl))) rfl ?_
      refine goS rfl rfl rfl rfl rfl rfl rfl ?_
      refine go1 (op_pick_f rfl rfl (.t (has rfl)) (.bool _)) rfl ?_
      refine go1 (op_move rfl (.t (has rfl))) rfl ?_
      refine goS rfl rfl rfl rfl rfl rfl rfl ?_
      refine goS rfl rfl rfl rfl rfl rfl rfl ?_
      refine goS rfl rfl rfl rfl rfl rfl rfl ?_
      refine go1 (op_pick_f rfl rfl (.t (has rfl)) (.bool _)) rfl ?_
      refine go1 (op_move rfl (.t (has rfl))) rfl ?_
      refine goS rfl rfl rfl rfl rfl rfl rfl ?_
      refine go1 (op_pick_f rfl rfl (.t (has rfl)) (.bool _)) rfl ?_
      refine go1 (op_move rfl (.t (has rfl))) rfl ?_
      refine goS rfl rfl rfl rfl rfl rfl rfl ?_
      refine goS rfl rfl rfl rfl rfl rfl rfl ?_
      refine go1 (op_pick_f rfl rfl (.t (has rfl)) (.bool _)) rfl ?_
      refine go1 (op_assign rfl (.t (has rfl))) rfl ?_
      refine goesO_nil ?_
      obtain rfl := Option.some.inj H
      exact ends_cut (.cons rfl .nil)
  refine ends_then ?_
  obtain rfl := Option.some.inj H
  exact goes_ret (ends_ret' rfl rfl (.t rfl (.nil _)))
theorem smithylaw05_small.conF (k : Nat) (r : Bool) (H : smithylaw05_small.f k = some r) : ConF Try.prog 14 [] [VA.k kbool r] := (smithylaw05_small.con k r H).freeL (.cons (KFree.k KFree.bool _) .nil)
/-! smithy/smithylaw05.MacroRefs -/
def smithylaw05_MacroRefs.f (k : Nat) (a0 : ByteArray) : Option Bool := (macro_Refs.f k a0).bind fun v1 => (smithyref05_Refs.f k a0).bind fun v3 => ((smithyplain_Texts.f k v1.1 v3.1).bind fun v7 => bif v7 then (bif icmp .eql v1.2 v3.2 then ((smithylaw05_small.f k).bind fun v11 => some v11) else (some false)) else (some false)).bind fun s5 => some s5
set_option maxRecDepth 100000 in
set_option maxHeartbeats 4000000 in
theorem smithylaw05_MacroRefs.con (k : Nat) (a0 : ByteArray) (r : Bool) (H : smithylaw05_MacroRefs.f k a0 = some r) : Con Try.prog 9 [VA.k kstr a0] [VA.k kbool r] := by
  unfold smithylaw05_MacroRefs.f at H
  refine con_enter Try.func9 rfl rfl rfl (fun w0 S0 θ => ?_)
  refine goes_seq ?_
  refine goes_region ?_
  refine go1 (op_assign rfl (.bool _)) rfl ?_
  refine goesO_nil ?_
  refine ends_then ?_
  refine goes_seq ?_
  refine goes_region ?_
  refine go1 (op_move rfl (.t (has rfl))) rfl ?_
  obtain ⟨v1, h2, H⟩ := bind_some H
  refine goN (op_calls' rfl enters25 (macro_Refs.con _ _ _ h2) rfl rfl (.cons (ArgP.k (.t (has rfl))) .nil)) rfl ?_
  refine go1 (op_same (.inl rfl) rfl rfl) rfl ?_
  refine go2 (op_extract_own_same rfl rfl rfl (has rfl) (has rfl)) rfl ?_
  refine go1 (op_extract_same rfl plain_k (has rfl) (has rfl)) rfl ?_
  refine go2 (op_mv (.inr rfl) rfl rfl (has rfl)) rfl ?_
  refine go1 (op_assign rfl (.t (has rfl))) rfl ?_
  refine goesO_nil ?_
  refine ends_then ?_
  refine goes_seq ?_
  refine goes_region ?_
  refine go1 (op_move rfl (.t (has rfl))) rfl ?_
  obtain ⟨v3, h4, H⟩ := bind_some H
  refine goN (op_calls' rfl enters26 (smithyref05_Refs.con _ _ _ h4) rfl rfl (.cons (ArgP.k (.t (has rfl))) .nil)) rfl ?_
  refine go1 (op_same (.inl rfl) rfl rfl) rfl ?_
  refine go1 (op_extract_same rfl plain_k (has rfl) (has rfl)) rfl ?_
  refine go1 (op_extract_same rfl plain_k (has rfl) (has rfl)) rfl ?_
  refine go1 (op_assign rfl (.t (has rfl))) rfl ?_
  refine go1 (op_assign rfl (.t (has rfl))) rfl ?_
  refine goesO_nil ?_
  refine ends_then ?_
  refine goes_seq ?_
  obtain ⟨s5, h6, H⟩ := bind_some H
  refine goes_cut [Ent.t 2 (VA.k kbool s5)] ?_ ?_
  · replace H := h6; clear h6
    refine goes_region ?_
    refine goesO_settle 3 rfl rfl ?_
    refine go1 (op_move rfl (.t (has rfl))) rfl ?_
    refine go1 (op_move rfl (.t (has rfl))) rfl ?_
    obtain ⟨v7, h8, H⟩ := bind_some H
    refine go1 (op_call' rfl enters27 (smithyplain_Texts.con _ _ _ _ h8) rfl (.cons (ArgP.k (.t (has rfl))) (.cons (ArgP.k (.t (has rfl))) .nil))) rfl ?_
    refine go1 (op_move rfl (.t (has rfl))) rfl ?_
    refine goesO_split H (fun hb9 H => ?_) (fun hb9 H => ?_)
    · skip
      refine goG (op_move rfl (.t (has rfl))) rfl rfl rfl rfl hb9 ?_
      refine goG (op_move rfl (.t (has rfl))) rfl rfl rfl rfl hb9 ?_
      refine goG (op_icmp rfl rfl (.t (has rfl)) (.t (has rfl))) rfl rfl rfl rfl hb9 ?_
      refine go1 (op_pick_t rfl hb9 (.t (has rfl)) (.t (has rfl))) rfl ?_
      refine go1 (op_move rfl (.t (has rfl))) rfl ?_
      refine goesO_split H (fun hb10 H => ?_) (fun hb10 H => ?_)
      · skip
        obtain ⟨v11, h12, H⟩ := bind_some H
        refine goG (op_call' rfl enters14 (smithylaw05_small.con _  _ h12) rfl .nil) rfl rfl rfl rfl hb10 ?_
        refine go1 (op_pick_t rfl hb10 (.t (has rfl)) (.t (has rfl))) rfl ?_
        refine go1 (op_assign rfl (.t (has rfl))) rfl ?_
        refine goesO_nil ?_
        obtain rfl := Option.some.inj H
        exact ends_cut (.cons rfl .nil)
      · skip
        refine goS rfl rfl rfl rfl rfl rfl hb10 ?_
        refine go1 (op_pick_f rfl hb10 (.t (has rfl)) (.bool _)) rfl ?_
        refine go1 (op_assign rfl (.t (has rfl))) rfl ?_
        refine goesO_nil ?_
        obtain rfl := Option.some.inj H
        exact ends_cut (.cons rfl .nil)
    · skip
      refine goS rfl rfl rfl rfl rfl rfl hb9 ?_
      refine goS rfl rfl rfl rfl rfl rfl hb9 ?_
      refine goS rfl rfl rfl rfl rfl rfl hb9 ?_
      refine go1 (op_pick_f rfl hb9 (.t (has rfl)) (.bool _)) rfl ?_
      refine go1 (op_move rfl (.t (has rfl))) rfl ?_
      refine goS rfl rfl rfl rfl rfl rfl rfl ?_
      refine go1 (op_pick_f rfl rfl (.t (has rfl)) (.bool _)) rfl ?_
      refine go1 (op_assign rfl (.t (has rfl))) rfl ?_
      refine goesO_nil ?_
      obtain rfl := Option.some.inj H
      exact ends_cut (.cons rfl .nil)
  refine ends_then ?_
  obtain rfl := Option.some.inj H
  exact goes_ret (ends_ret' rfl rfl (.t rfl (.nil _)))
theorem smithylaw05_MacroRefs.conF (k : Nat) (a0 : ByteArray) (r : Bool) (H : smithylaw05_MacroRefs.f k a0 = some r) : ConF Try.prog 9 [VA.k kstr a0] [VA.k kbool r] := (smithylaw05_MacroRefs.con k a0 r H).freeL (.cons (KFree.k KFree.bool _) .nil)
end Go.Proofs.Ytodogppelokapaa.F
