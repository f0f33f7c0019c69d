import Derived.Test.YtoemgemfgaooeaaFIx1
set_option linter.unusedVariables false
set_option linter.unusedSimpArgs false
set_option linter.unnecessarySimpa false
set_option linter.deprecated false
namespace Go.Proofs.Ytoemgemfgaooeaa.F
open Go Go.RowKit Go.Proofs.Ytoemgemfgaooeaa.Sl
/-! smithy/stale.why -/
def stale_why.l0 (a0 : Node) (a1 : Disk) (a2 : List ByteArray) (v2 : File × Bool) : Nat → (ByteArray × Int) → Option (Except (Int × ByteArray) ByteArray)
  | 0, _ => none
  | k + 1, s5 => bif icmp .lss s5.2 (a0.Needs.length : Int) then (((idx a0.Needs s5.2).bind fun x13 => (stale_file.f k a1 x13).bind fun v15 => (bif !v15.2 then (some true) else ((slices_Contains_string_string.f k a2 x13).bind fun v20 => some v20)).bind fun s17 => bif s17 then (some (Except.error ((3 : Int), x13))) else ((bif icmp .gtr v15.1.Stamp v2.1.Stamp then (some (scmp .eql s5.1 (⟨#[]⟩ : ByteArray))) else (some false)).bind fun s23 => bif s23 then (some (Except.ok x13)) else (some (Except.ok s5.1)))).bind fun o12 => match o12 with | .error r' => some (Except.error r') | .ok s10 => (stale_why.l0 a0 a1 a2 v2 k (s10, IntKind.i64.wrap (s5.2 + (1 : Int))))) else (some (Except.ok s5.1))
def stale_why.f (k : Nat) (a0 : Node) (a1 : Disk) (a2 : List ByteArray) : Option (Int × ByteArray) := bif a0.Phony then (some ((1 : Int), (⟨#[]⟩ : ByteArray))) else ((stale_file.f k a1 a0.Target).bind fun v2 => bif !v2.2 then (some ((2 : Int), (⟨#[]⟩ : ByteArray))) else ((stale_why.l0 a0 a1 a2 v2 k ((⟨#[]⟩ : ByteArray), (0 : Int))).bind fun o8 => match o8 with | .error r' => some r' | .ok s6 => (bif scmp .neq s6 (⟨#[]⟩ : ByteArray) then (some ((4 : Int), s6)) else (some ((0 : Int), (⟨#[]⟩ : ByteArray))))))
set_option maxRecDepth 100000 in
set_option maxHeartbeats 4000000 in
theorem stale_why.con (k : Nat) (a0 : Node) (a1 : Disk) (a2 : List ByteArray) (r : Int × ByteArray) (H : stale_why.f k a0 a1 a2 = some r) : Con Try.prog 27 [VA.k kNode a0, VA.k kDisk a1, VA.k (kslice kstr) a2] [VA.k (kint .i64) r.1, VA.k kstr r.2] := by
  unfold stale_why.f at H
  refine con_enter Try.func27 rfl rfl rfl (fun w0 S0 θ => ?_)
  refine goes_seq ?_
  refine goes_region ?_
  refine go3 (op_box 3 rfl (fun h => by first | rfl | cases h) (.t (has rfl))) rfl ?_
  refine go3 (op_box 4 rfl (fun h => by first | rfl | cases h) (.t (has rfl))) rfl ?_
  refine go1 (op_assign rfl (.int _ _)) rfl ?_
  refine go1 (op_assign rfl (.str _)) rfl ?_
  refine goesO_nil ?_
  refine ends_then ?_
  refine goes_seq ?_
  refine goes_seq ?_
  refine goes_region ?_
  refine go1 (op_fieldAddr rfl Try.underlying24 rfl tk4 (.t (has rfl))) rfl ?_
  refine go1 (op_load rfl fldNode_Phony tk4 (.t (has rfl)) (has rfl)) rfl ?_
  refine goesO_nil ?_
  refine ends_then ?_
  refine goes_if (.t (has rfl)) H (fun hb1 H => ?_) (fun hb1 H => ?_)
  · skip
    refine goes_seq ?_
    refine goes_region ?_
    refine go1 (op_assign rfl (.int _ _)) rfl ?_
    refine go1 (op_assign rfl (.str _)) rfl ?_
    refine goesO_nil ?_
    refine ends_then ?_
    obtain rfl := Option.some.inj H
    exact goes_ret (ends_then_ret (ends_ret' rfl rfl (.t rfl (.t rfl (.nil _)))))
  · skip
    refine goes_skip ?_
    refine ends_then ?_
    refine goes_seq ?_
    refine goes_region ?_
    refine go1 (op_load rfl (Fld.whole kDisk) tk27 (.t (has rfl)) (has rfl)) rfl ?_
    refine go1 (op_fieldAddr rfl Try.underlying24 rfl tk9 (.t (has rfl))) rfl ?_
    refine go1 (op_load rfl fldNode_Target tk9 (.t (has rfl)) (has rfl)) rfl ?_
    obtain ⟨v2, h3, H⟩ := bind_some H
    refine goN (op_calls' rfl enters40 (stale_file.con _ _ _ _ h3) rfl rfl (.cons (ArgP.k (.t (has rfl))) (.cons (ArgP.k (.t (has rfl))) .nil))) rfl ?_
    refine go1 (op_same (.inl rfl) rfl rfl) rfl ?_
    refine go1 (op_extract_same rfl plain_k (has rfl) (has rfl)) rfl ?_
    refine go1 (op_extract_same rfl plain_k (has rfl) (has rfl)) rfl ?_
    refine go3 (op_alloc 8 rfl zk47) rfl ?_
    refine go1 (op_store (Fld.whole kFile) tk47 (.t (has rfl)) (has rfl) (.t (has rfl))) rfl ?_
    refine go1 (op_assign rfl (.t (has rfl))) rfl ?_
    refine goesO_nil ?_
    refine ends_then ?_
    refine goes_seq ?_
    refine goes_seq ?_
    refine goes_region ?_
    refine go1 (op_move rfl (.t (has rfl))) rfl ?_
    refine go1 (op_not rfl (.t (has rfl))) rfl ?_
    refine goesO_nil ?_
    refine ends_then ?_
    refine goes_if (.t (has rfl)) H (fun hb4 H => ?_) (fun hb4 H => ?_)
    · skip
      refine goes_seq ?_
      refine goes_region ?_
      refine go1 (op_assign rfl (.int _ _)) rfl ?_
      refine go1 (op_assign rfl (.str _)) rfl ?_
      refine goesO_nil ?_
      refine ends_then ?_
      obtain rfl := Option.some.inj H
      exact goes_ret (ends_then_ret (ends_ret' rfl rfl (.t rfl (.t rfl (.nil _)))))
    · skip
      refine goes_skip ?_
      refine ends_then ?_
      refine goes_seq ?_
      refine goes_region ?_
      refine go1 (op_assign rfl (.str _)) rfl ?_
      refine goesO_nil ?_
      refine ends_then ?_
      refine goes_seq ?_
      refine goes_seq ?_
      refine goes_region ?_
      refine go1 (op_fieldAddr rfl Try.underlying24 rfl tk22 (.t (has rfl))) rfl ?_
      refine go1 (op_load rfl fldNode_Needs tk22 (.t (has rfl)) (has rfl)) rfl ?_
      refine go1 (op_len rfl rfl Try.underlying22 (.t (has rfl))) rfl ?_
      refine go1 (op_move rfl (.int _ _)) rfl ?_
      refine goesO_nil ?_
      refine ends_then ?_
      obtain ⟨o8, h7, H⟩ := bind_some H
      refine goes_cutR (o := o8) (fun s6 : ByteArray => [Ent.t 10 (VA.k kstr s6)]) (fun r a w => bodyPost Try.prog Try.f27 (CPost w0 S0 θ [VA.k (kint .i64) r.1, VA.k kstr r.2]) .ret a w) ?_ ?_ ?_
      · replace H := h7; clear h7
        refine goes_block ?_
        refine goes_loop (fun s5 : ByteArray × Int => [Ent.t 2 (VA.k (kslice kstr) a2), Ent.t 4 (VA.ptr 4 0), Ent.t 8 (VA.ptr 8 0), Ent.t 10 (VA.k kstr s5.1), Ent.t 27 (VA.k (kslice kstr) a0.Needs), Ent.t 28 (VA.k (kint .i64) (a0.Needs.length : Int)), Ent.t 29 (VA.k (kint .i64) s5.2), Ent.h 4 (HE.box 27 kDisk a1), Ent.h 8 (HE.box 47 kFile v2.1)]) (fun k s5 => stale_why.l0 a0 a1 a2 v2 k s5) (fun _ => rfl) H (.cons rfl (.cons rfl (.cons rfl (.cons rfl (.cons rfl (.cons rfl (.cons rfl (.cons rfl (.cons rfl .nil))))))))) ?_
        intro k s5 H
        simp only [stale_why.l0] at H
        refine goes_seq ?_
        refine goes_region ?_
        refine go1 (op_icmp rfl rfl (.t (has rfl)) (.t (has rfl))) rfl ?_
        refine goesO_nil ?_
        refine ends_then ?_
        refine goes_seq ?_
        refine goes_if (.t (has rfl)) H (fun hb9 H => ?_) (fun hb9 H => ?_)
        · skip
          refine goes_skip ?_
          refine ends_then ?_
          refine goes_seq ?_
          obtain ⟨o12, h11, H⟩ := bind_some H
          refine goes_cutR (o := o12) (fun s10 : ByteArray => [Ent.t 2 (VA.k (kslice kstr) a2), Ent.t 4 (VA.ptr 4 0), Ent.t 8 (VA.ptr 8 0), Ent.t 10 (VA.k kstr s10), Ent.t 27 (VA.k (kslice kstr) a0.Needs), Ent.t 28 (VA.k (kint .i64) (a0.Needs.length : Int)), Ent.t 29 (VA.k (kint .i64) s5.2), Ent.h 4 (HE.box 27 kDisk a1), Ent.h 8 (HE.box 47 kFile v2.1)]) (fun r a w => bodyPost Try.prog Try.f27 (CPost w0 S0 θ [VA.k (kint .i64) r.1, VA.k kstr r.2]) .ret a w) ?_ ?_ ?_
          · replace H := h11; clear h11
            refine goes_block ?_
            refine goes_seq ?_
            refine goes_region ?_
            obtain ⟨x13, h14, H⟩ := bind_some H
            refine go1 (op_indexAddr rfl Try.underlying22 tk9 h14 (.t (has rfl)) (.t (has rfl))) rfl ?_
            refine go1 (op_loadp rfl tk9 (.t (has rfl))) rfl ?_
            refine go1 (op_assign rfl (.t (has rfl))) rfl ?_
            refine goesO_nil ?_
            refine ends_then ?_
            refine goes_seq ?_
            refine goes_region ?_
            refine go1 (op_load rfl (Fld.whole kDisk) tk27 (.t (has rfl)) (has rfl)) rfl ?_
            refine go1 (op_move rfl (.t (has rfl))) rfl ?_
            obtain ⟨v15, h16, H⟩ := bind_some H
            refine goN (op_calls' rfl enters40 (stale_file.con _ _ _ _ h16) rfl rfl (.cons (ArgP.k (.t (has rfl))) (.cons (ArgP.k (.t (has rfl))) .nil))) rfl ?_
            refine go1 (op_same (.inl rfl) rfl rfl) rfl ?_
            refine go1 (op_extract_same rfl plain_k (has rfl) (has rfl)) rfl ?_
            refine go1 (op_extract_same rfl plain_k (has rfl) (has rfl)) rfl ?_
            refine go3 (op_alloc 13 rfl zk47) rfl ?_
            refine go1 (op_store (Fld.whole kFile) tk47 (.t (has rfl)) (has rfl) (.t (has rfl))) rfl ?_
            refine go1 (op_assign rfl (.t (has rfl))) rfl ?_
            refine goesO_nil ?_
            refine ends_then ?_
            refine goes_seq ?_
            refine goes_seq ?_
            obtain ⟨s17, h18, H⟩ := bind_some H
            refine goes_cut [Ent.t 2 (VA.k (kslice kstr) a2), Ent.t 4 (VA.ptr 4 0), Ent.t 8 (VA.ptr 8 0), Ent.t 10 (VA.k kstr s5.1), Ent.t 12 (VA.k kstr x13), Ent.t 13 (VA.ptr 13 0), Ent.t 27 (VA.k (kslice kstr) a0.Needs), Ent.t 28 (VA.k (kint .i64) (a0.Needs.length : Int)), Ent.t 29 (VA.k (kint .i64) s5.2), Ent.t 45 (VA.k kbool s17), Ent.h 4 (HE.box 27 kDisk a1), Ent.h 8 (HE.box 47 kFile v2.1), Ent.h 13 (HE.box 47 kFile v15.1)] ?_ ?_
            · replace H := h18; clear h18
              refine goes_region ?_
              refine go1 (op_move rfl (.t (has rfl))) rfl ?_
              refine go1 (op_not rfl (.t (has rfl))) rfl ?_
              refine go1 (op_move rfl (.t (has rfl))) rfl ?_
              refine goesO_split H (fun hb19 H => ?_) (fun hb19 H => ?_)
              · skip
                refine goS rfl rfl rfl rfl rfl rfl hb19 ?_
                refine goS rfl rfl rfl rfl rfl rfl hb19 ?_
                refine goS rfl rfl rfl rfl rfl rfl hb19 ?_
                refine go1 (op_pick_t rfl hb19 (.t (has rfl)) (.bool _)) rfl ?_
                refine goesO_nil ?_
                obtain rfl := Option.some.inj H
                exact ends_cut (.cons rfl (.cons rfl (.cons rfl (.cons rfl (.cons rfl (.cons rfl (.cons rfl (.cons rfl (.cons rfl (.cons rfl (.cons rfl (.cons rfl (.cons rfl .nil)))))))))))))
              · skip
                refine goG (op_move rfl (.t (has rfl))) rfl rfl rfl rfl hb19 ?_
                refine goG (op_move rfl (.t (has rfl))) rfl rfl rfl rfl hb19 ?_
                obtain ⟨v20, h21, H⟩ := bind_some H
                refine goG (op_call' rfl enters42 (slices_Contains_string_string.con _ _ _ _ h21) rfl (.cons (ArgP.k (.t (has rfl))) (.cons (ArgP.k (.t (has rfl))) .nil))) rfl rfl rfl rfl hb19 ?_
                refine go1 (op_pick_f rfl hb19 (.t (has rfl)) (.t (has rfl))) rfl ?_
                refine goesO_nil ?_
                obtain rfl := Option.some.inj H
                exact ends_cut (.cons rfl (.cons rfl (.cons rfl (.cons rfl (.cons rfl (.cons rfl (.cons rfl (.cons rfl (.cons rfl (.cons rfl (.cons rfl (.cons rfl (.cons rfl .nil)))))))))))))
            refine ends_then ?_
            refine goes_if (.t (has rfl)) H (fun hb22 H => ?_) (fun hb22 H => ?_)
            · skip
              refine goes_seq ?_
              refine goes_region ?_
              refine go1 (op_move rfl (.t (has rfl))) rfl ?_
              refine go1 (op_assign rfl (.int _ _)) rfl ?_
              refine go1 (op_assign rfl (.t (has rfl))) rfl ?_
              refine goesO_nil ?_
              refine ends_then ?_
              obtain rfl := Option.some.inj H
              refine goes_ret (ends_then_ret (ends_block_ret (ends_cutR_ret rfl ?_)))
              exact ends_ret' rfl rfl (.t rfl (.t rfl (.nil _)))
            · skip
              refine goes_skip ?_
              refine ends_then ?_
              refine goes_seq ?_
              obtain ⟨s23, h24, H⟩ := bind_some H
              refine goes_cut [Ent.t 2 (VA.k (kslice kstr) a2), Ent.t 4 (VA.ptr 4 0), Ent.t 8 (VA.ptr 8 0), Ent.t 10 (VA.k kstr s5.1), Ent.t 12 (VA.k kstr x13), Ent.t 27 (VA.k (kslice kstr) a0.Needs), Ent.t 28 (VA.k (kint .i64) (a0.Needs.length : Int)), Ent.t 29 (VA.k (kint .i64) s5.2), Ent.t 55 (VA.k kbool s23), Ent.h 4 (HE.box 27 kDisk a1), Ent.h 8 (HE.box 47 kFile v2.1)] ?_ ?_
              · replace H := h24; clear h24
                refine goes_region ?_
                refine go1 (op_fieldAddr rfl Try.underlying47 rfl tk3 (.t (has rfl))) rfl ?_
                refine go1 (op_load rfl fldFile_Stamp tk3 (.t (has rfl)) (has rfl)) rfl ?_
                refine go1 (op_fieldAddr rfl Try.underlying47 rfl tk3 (.t (has rfl))) rfl ?_
                refine go1 (op_load rfl fldFile_Stamp tk3 (.t (has rfl)) (has rfl)) rfl ?_
                refine go1 (op_icmp rfl rfl (.t (has rfl)) (.t (has rfl))) rfl ?_
                refine go1 (op_move rfl (.t (has rfl))) rfl ?_
                refine goesO_split H (fun hb25 H => ?_) (fun hb25 H => ?_)
                · skip
                  refine goG (op_move rfl (.t (has rfl))) rfl rfl rfl rfl hb25 ?_
                  refine goG (op_scmp rfl rfl (.t (has rfl)) (.str _)) rfl rfl rfl rfl hb25 ?_
                  refine go1 (op_pick_t rfl hb25 (.t (has rfl)) (.t (has rfl))) rfl ?_
                  refine goesO_nil ?_
                  obtain rfl := Option.some.inj H
                  exact ends_cut (.cons rfl (.cons rfl (.cons rfl (.cons rfl (.cons rfl (.cons rfl (.cons rfl (.cons rfl (.cons rfl (.cons rfl (.cons rfl .nil)))))))))))
                · skip
                  refine goS rfl rfl rfl rfl rfl rfl hb25 ?_
                  refine goS rfl rfl rfl rfl rfl rfl hb25 ?_
                  refine go1 (op_pick_f rfl hb25 (.t (has rfl)) (.bool _)) rfl ?_
                  refine goesO_nil ?_
                  obtain rfl := Option.some.inj H
                  exact ends_cut (.cons rfl (.cons rfl (.cons rfl (.cons rfl (.cons rfl (.cons rfl (.cons rfl (.cons rfl (.cons rfl (.cons rfl (.cons rfl .nil)))))))))))
              refine ends_then ?_
              refine goes_if (.t (has rfl)) H (fun hb26 H => ?_) (fun hb26 H => ?_)
              · skip
                refine goes_region ?_
                refine go1 (op_move rfl (.t (has rfl))) rfl ?_
                refine go1 (op_assign rfl (.t (has rfl))) rfl ?_
                refine goesO_nil ?_
                refine ends_block ?_
                obtain rfl := Option.some.inj H
                exact ends_cutR rfl (.cons rfl (.cons rfl (.cons rfl (.cons rfl (.cons rfl (.cons rfl (.cons rfl (.cons rfl (.cons rfl .nil)))))))))
              · skip
                refine goes_skip ?_
                refine ends_block ?_
                obtain rfl := Option.some.inj H
                exact ends_cutR rfl (.cons rfl (.cons rfl (.cons rfl (.cons rfl (.cons rfl (.cons rfl (.cons rfl (.cons rfl (.cons rfl .nil)))))))))
          · rintro s10 rfl
            clear h11
            dsimp only at H
            refine ends_then ?_
            refine goes_region ?_
            refine go1 (op_add rfl (.t (has rfl)) (.int _ _)) rfl ?_
            refine go1 (op_move rfl (.t (has rfl))) rfl ?_
            refine goesO_nil ?_
            exact loop_next _ H (.cons rfl (.cons rfl (.cons rfl (.cons rfl (.cons rfl (.cons rfl (.cons rfl (.cons rfl (.cons rfl .nil)))))))))
          · rintro r' rfl a w hr
            obtain rfl := Option.some.inj H
            exact ⟨_, rfl, hr⟩
        · skip
          refine goes_exit (ends_then_exit (ends_then_exit (ends_block_exit ?_)))
          obtain rfl := Option.some.inj H
          exact ends_cutR rfl (.cons rfl .nil)
      · rintro s6 rfl
        clear h7
        dsimp only at H
        refine ends_then ?_
        refine goes_seq ?_
        refine goes_seq ?_
        refine goes_region ?_
        refine go1 (op_move rfl (.t (has rfl))) rfl ?_
        refine go1 (op_scmp rfl rfl (.t (has rfl)) (.str _)) rfl ?_
        refine goesO_nil ?_
        refine ends_then ?_
        refine goes_if (.t (has rfl)) H (fun hb27 H => ?_) (fun hb27 H => ?_)
        · skip
          refine goes_seq ?_
          refine goes_region ?_
          refine go1 (op_move rfl (.t (has rfl))) rfl ?_
          refine go1 (op_assign rfl (.int _ _)) rfl ?_
          refine go1 (op_assign rfl (.t (has rfl))) rfl ?_
          refine goesO_nil ?_
          refine ends_then ?_
          obtain rfl := Option.some.inj H
          exact goes_ret (ends_then_ret (ends_ret' rfl rfl (.t rfl (.t rfl (.nil _)))))
        · skip
          refine goes_skip ?_
          refine ends_then ?_
          refine goes_seq ?_
          refine goes_region ?_
          refine go1 (op_assign rfl (.int _ _)) rfl ?_
          refine go1 (op_assign rfl (.str _)) rfl ?_
          refine goesO_nil ?_
          refine ends_then ?_
          obtain rfl := Option.some.inj H
          exact goes_ret (ends_ret' rfl rfl (.t rfl (.t rfl (.nil _))))
      · rintro r' rfl a w hr
        obtain rfl := Option.some.inj H
        exact hr
theorem stale_why.conF (k : Nat) (a0 : Node) (a1 : Disk) (a2 : List ByteArray) (r : Int × ByteArray) (H : stale_why.f k a0 a1 a2 = some r) : ConF Try.prog 27 [VA.k kNode a0, VA.k kDisk a1, VA.k (kslice kstr) a2] [VA.k (kint .i64) r.1, VA.k kstr r.2] := (stale_why.con k a0 a1 a2 r H).freeL (.cons (KFree.k (KFree.int .i64) _) (.cons (KFree.k KFree.str _) .nil))
/-! smithy/stale.Why -/
def stale_Why.f (k : Nat) (a0 : Node) (a1 : Disk) (a2 : List ByteArray) : Option (Int × ByteArray × Int) := (stale_fit.f k a0 a1 a2).bind fun v1 => bif icmp .neq v1 (0 : Int) then (some ((0 : Int), (⟨#[]⟩ : ByteArray), v1)) else ((stale_why.f k a0 a1 a2).bind fun v4 => some (v4.1, v4.2, (0 : Int)))
set_option maxRecDepth 100000 in
set_option maxHeartbeats 4000000 in
theorem stale_Why.con (k : Nat) (a0 : Node) (a1 : Disk) (a2 : List ByteArray) (r : Int × ByteArray × Int) (H : stale_Why.f k a0 a1 a2 = some r) : Con Try.prog 12 [VA.k kNode a0, VA.k kDisk a1, VA.k (kslice kstr) a2] [VA.k (kint .i64) r.1, VA.k kstr r.2.1, VA.k (kint .i64) r.2.2] := by
  unfold stale_Why.f at H
  refine con_enter Try.func12 rfl rfl rfl (fun w0 S0 θ => ?_)
  refine goes_seq ?_
  refine goes_region ?_
  refine go3 (op_box 3 rfl (fun h => by first | rfl | cases h) (.t (has rfl))) rfl ?_
  refine go3 (op_box 4 rfl (fun h => by first | rfl | cases h) (.t (has rfl))) rfl ?_
  refine go1 (op_assign rfl (.int _ _)) rfl ?_
  refine go1 (op_assign rfl (.str _)) rfl ?_
  refine go1 (op_assign rfl (.int _ _)) rfl ?_
  refine goesO_nil ?_
  refine ends_then ?_
  refine goes_seq ?_
  refine goes_seq ?_
  refine goes_region ?_
  refine go1 (op_load rfl (Fld.whole kNode) tk24 (.t (has rfl)) (has rfl)) rfl ?_
  refine go1 (op_load rfl (Fld.whole kDisk) tk27 (.t (has rfl)) (has rfl)) rfl ?_
  refine go1 (op_move rfl (.t (has rfl))) rfl ?_
  obtain ⟨v1, h2, H⟩ := bind_some H
  refine go1 (op_call' rfl enters22 (stale_fit.con _ _ _ _ _ h2) rfl (.cons (ArgP.k (.t (has rfl))) (.cons (ArgP.k (.t (has rfl))) (.cons (ArgP.k (.t (has rfl))) .nil)))) rfl ?_
  refine go1 (op_assign rfl (.t (has rfl))) rfl ?_
  refine goesO_nil ?_
  refine ends_then ?_
  refine goes_seq ?_
  refine goes_region ?_
  refine go1 (op_move rfl (.t (has rfl))) rfl ?_
  refine go1 (op_icmp rfl rfl (.t (has rfl)) (.int _ _)) rfl ?_
  refine goesO_nil ?_
  refine ends_then ?_
  refine goes_if (.t (has rfl)) H (fun hb3 H => ?_) (fun hb3 H => ?_)
  · skip
    refine goes_seq ?_
    refine goes_region ?_
    refine go1 (op_move rfl (.t (has rfl))) rfl ?_
    refine go1 (op_assign rfl (.int _ _)) rfl ?_
    refine go1 (op_assign rfl (.str _)) rfl ?_
    refine go1 (op_assign rfl (.t (has rfl))) rfl ?_
    refine goesO_nil ?_
    refine ends_then ?_
    obtain rfl := Option.some.inj H
    exact goes_ret (ends_then_ret (ends_ret' rfl rfl (.t rfl (.t rfl (.t rfl (.nil _))))))
  · skip
    refine goes_skip ?_
    refine ends_then ?_
    refine goes_seq ?_
    refine goes_region ?_
    refine go1 (op_load rfl (Fld.whole kNode) tk24 (.t (has rfl)) (has rfl)) rfl ?_
    refine go1 (op_load rfl (Fld.whole kDisk) tk27 (.t (has rfl)) (has rfl)) rfl ?_
    refine go1 (op_move rfl (.t (has rfl))) rfl ?_
    obtain ⟨v4, h5, H⟩ := bind_some H
    refine goN (op_calls' rfl enters27 (stale_why.con _ _ _ _ _ h5) rfl rfl (.cons (ArgP.k (.t (has rfl))) (.cons (ArgP.k (.t (has rfl))) (.cons (ArgP.k (.t (has rfl))) .nil)))) rfl ?_
    refine go1 (op_same (.inl rfl) rfl rfl) rfl ?_
    refine go1 (op_extract_same rfl plain_k (has rfl) (has rfl)) rfl ?_
    refine go1 (op_extract_same rfl plain_k (has rfl) (has rfl)) rfl ?_
    refine go1 (op_assign rfl (.t (has rfl))) rfl ?_
    refine go1 (op_assign rfl (.t (has rfl))) rfl ?_
    refine goesO_nil ?_
    refine ends_then ?_
    refine goes_seq ?_
    refine goes_region ?_
    refine go1 (op_move rfl (.t (has rfl))) rfl ?_
    refine go1 (op_move rfl (.t (has rfl))) rfl ?_
    refine go1 (op_assign rfl (.t (has rfl))) rfl ?_
    refine go1 (op_assign rfl (.t (has rfl))) rfl ?_
    refine go1 (op_assign rfl (.int _ _)) rfl ?_
    refine goesO_nil ?_
    refine ends_then ?_
    obtain rfl := Option.some.inj H
    exact goes_ret (ends_ret' rfl rfl (.t rfl (.t rfl (.t rfl (.nil _)))))
theorem stale_Why.conF (k : Nat) (a0 : Node) (a1 : Disk) (a2 : List ByteArray) (r : Int × ByteArray × Int) (H : stale_Why.f k a0 a1 a2 = some r) : ConF Try.prog 12 [VA.k kNode a0, VA.k kDisk a1, VA.k (kslice kstr) a2] [VA.k (kint .i64) r.1, VA.k kstr r.2.1, VA.k (kint .i64) r.2.2] := (stale_Why.con k a0 a1 a2 r H).freeL (.cons (KFree.k (KFree.int .i64) _) (.cons (KFree.k KFree.str _) (.cons (KFree.k (KFree.int .i64) _) .nil)))
/-! smithy/stale.Is -/
def stale_Is.f (k : Nat) (a0 : Node) (a1 : Disk) (a2 : List ByteArray) : Option (Bool × Int) := (stale_Why.f k a0 a1 a2).bind fun v1 => some (icmp .neq v1.1 (0 : Int), v1.2.2)
set_option maxRecDepth 100000 in
set_option maxHeartbeats 4000000 in
theorem stale_Is.con (k : Nat) (a0 : Node) (a1 : Disk) (a2 : List ByteArray) (r : Bool × Int) (H : stale_Is.f k a0 a1 a2 = some r) : Con Try.prog 10 [VA.k kNode a0, VA.k kDisk a1, VA.k (kslice kstr) a2] [VA.k kbool r.1, VA.k (kint .i64) r.2] := by
  unfold stale_Is.f at H
  refine con_enter Try.func10 rfl rfl rfl (fun w0 S0 θ => ?_)
  refine goes_seq ?_
  refine goes_region ?_
  refine go3 (op_box 3 rfl (fun h => by first | rfl | cases h) (.t (has rfl))) rfl ?_
  refine go3 (op_box 4 rfl (fun h => by first | rfl | cases h) (.t (has rfl))) rfl ?_
  refine go1 (op_assign rfl (.bool _)) rfl ?_
  refine go1 (op_assign rfl (.int _ _)) rfl ?_
  refine goesO_nil ?_
  refine ends_then ?_
  refine goes_seq ?_
  refine goes_region ?_
  refine go1 (op_load rfl (Fld.whole kNode) tk24 (.t (has rfl)) (has rfl)) rfl ?_
  refine go1 (op_load rfl (Fld.whole kDisk) tk27 (.t (has rfl)) (has rfl)) rfl ?_
  refine go1 (op_move rfl (.t (has rfl))) rfl ?_
  obtain ⟨v1, h2, H⟩ := bind_some H
  refine goN (op_calls' rfl enters12 (stale_Why.con _ _ _ _ _ h2) rfl rfl (.cons (ArgP.k (.t (has rfl))) (.cons (ArgP.k (.t (has rfl))) (.cons (ArgP.k (.t (has rfl))) .nil)))) rfl ?_
  refine go1 (op_same (.inl rfl) rfl rfl) rfl ?_
  refine go1 (op_extract_same rfl plain_k (has rfl) (has rfl)) rfl ?_
  refine go1 (op_extract_same rfl plain_k (has rfl) (has rfl)) rfl ?_
  refine go1 (op_extract_same rfl plain_k (has rfl) (has rfl)) rfl ?_
  refine go1 (op_assign rfl (.t (has rfl))) rfl ?_
  refine go1 (op_assign rfl (.t (has rfl))) rfl ?_
  refine go1 (op_assign rfl (.t (has rfl))) rfl ?_
  refine goesO_nil ?_
  refine ends_then ?_
  refine goes_seq ?_
  refine goes_region ?_
  refine go1 (op_move rfl (.t (has rfl))) rfl ?_
  refine go1 (op_icmp rfl rfl (.t (has rfl)) (.int _ _)) rfl ?_
  refine go1 (op_move rfl (.t (has rfl))) rfl ?_
  refine go1 (op_assign rfl (.t (has rfl))) rfl ?_
  refine go1 (op_assign rfl (.t (has rfl))) rfl ?_
  refine goesO_nil ?_
  refine ends_then ?_
  obtain rfl := Option.some.inj H
  exact goes_ret (ends_ret' rfl rfl (.t rfl (.t rfl (.nil _))))
theorem stale_Is.conF (k : Nat) (a0 : Node) (a1 : Disk) (a2 : List ByteArray) (r : Bool × Int) (H : stale_Is.f k a0 a1 a2 = some r) : ConF Try.prog 10 [VA.k kNode a0, VA.k kDisk a1, VA.k (kslice kstr) a2] [VA.k kbool r.1, VA.k (kint .i64) r.2] := (stale_Is.con k a0 a1 a2 r H).freeL (.cons (KFree.k KFree.bool _) (.cons (KFree.k (KFree.int .i64) _) .nil))
/-! slices.Clone[[]string,string] -/
def slices_Clone_string_string.f (a0 : List ByteArray) : Option (List ByteArray) := (app 16 ([] : List ByteArray) a0).bind fun x1 => some x1
set_option maxRecDepth 100000 in
set_option maxHeartbeats 4000000 in
theorem slices_Clone_string_string.con (a0 : List ByteArray) (r : List ByteArray) (H : slices_Clone_string_string.f a0 = some r) : Con Try.prog 34 [VA.k (kslice kstr) a0] [VA.own 9 kstr r] := by
  unfold slices_Clone_string_string.f at H
  refine con_enter Try.func34 rfl rfl rfl (fun w0 S0 θ => ?_)
  refine goes_seq ?_
  refine goes_region ?_
  refine go1 (op_assign_nil 9 kstr (.inr rfl) rfl) rfl ?_
  refine goesO_nil ?_
  refine ends_then ?_
  refine goes_seq ?_
  refine goes_seq ?_
  refine goes_region ?_
  refine go1 (op_move rfl (.t (has rfl))) rfl ?_
  refine go1 (op_isnil rfl Try.underlying22 (.t (has rfl))) rfl ?_
  refine goesO_nil ?_
  refine ends_then ?_
  refine goes_ifnil (.t (has rfl)) (fun hnil => ?_) ?_
  · skip
    replace H : (some ([] : List ByteArray)) = some r := by subst hnil; simpa [app, room] using H
    refine goes_seq ?_
    refine goes_region ?_
    refine go1 (op_assign_nil 9 kstr (.inr rfl) rfl) rfl ?_
    refine goesO_nil ?_
    refine ends_then ?_
    obtain rfl := Option.some.inj H
    exact goes_ret (ends_then_ret (ends_ret' rfl rfl (.t rfl (.nil _))))
  · skip
    refine goes_skip ?_
    refine ends_then ?_
    refine goes_seq ?_
    refine goes_region ?_
    refine go1 (op_buildSlice0 rfl at22) rfl ?_
    refine go1 (op_move rfl (.t (has rfl))) rfl ?_
    obtain ⟨x1, h2, H⟩ := bind_some H
    refine go2 (op_append rfl rfl at22 h2 (has rfl) (ReadsArg.k (.t (has rfl)))) rfl ?_
    refine go2 (op_mv (.inr rfl) rfl rfl (has rfl)) rfl ?_
    refine goesO_nil ?_
    refine ends_then ?_
    obtain rfl := Option.some.inj H
    exact goes_ret (ends_ret' rfl rfl (.t rfl (.nil _)))
theorem slices_Clone_string_string.conF (a0 : List ByteArray) (r : List ByteArray) (H : slices_Clone_string_string.f a0 = some r) : ConF Try.prog 34 [VA.k (kslice kstr) a0] [VA.own 9 kstr r] := (slices_Clone_string_string.con a0 r H).freeL (.cons (KFree.own KFree.str _ _) .nil)
/-! smithy/stale.newer$1 -/
def stale_newer_1.f (k : Nat) (a0 : ByteArray) (c0 : Disk) (c1 : Bool) (c2 : File) (c3 : List ByteArray) : Option Bool := (stale_file.f k c0 a0).bind fun v1 => (bif c1 then (bif v1.2 then (bif icmp .leq v1.1.Stamp c2.Stamp then ((slices_Contains_string_string.f k c3 a0).bind fun v8 => some (!v8)) else (some false)) else (some false)) else (some false)).bind fun s3 => some s3
set_option maxRecDepth 100000 in
set_option maxHeartbeats 4000000 in
theorem stale_newer_1.con (k : Nat) (a0 : ByteArray) (c0 : Disk) (c1 : Bool) (c2 : File) (c3 : List ByteArray) (r : Bool) (H : stale_newer_1.f k a0 c0 c1 c2 c3 = some r) : Con Try.prog 41 [VA.k kstr a0, VA.pt kDisk c0, VA.pt kbool c1, VA.pt kFile c2, VA.pt (kslice kstr) c3] [VA.k kbool r] := by
  unfold stale_newer_1.f at H
  refine con_enter Try.func41 rfl rfl rfl (fun w0 S0 θ => ?_)
  refine goes_seq ?_
  refine goes_region ?_
  refine go1 (op_assign rfl (.bool _)) rfl ?_
  refine goesO_nil ?_
  refine ends_then ?_
  refine goes_seq ?_
  refine goes_region ?_
  refine go1 (op_loadp rfl tk27 (.t (has rfl))) rfl ?_
  refine go1 (op_move rfl (.t (has rfl))) rfl ?_
  obtain ⟨v1, h2, H⟩ := bind_some H
  refine goN (op_calls' rfl enters40 (stale_file.con _ _ _ _ h2) rfl rfl (.cons (ArgP.k (.t (has rfl))) (.cons (ArgP.k (.t (has rfl))) .nil))) rfl ?_
  refine go1 (op_same (.inl rfl) rfl rfl) rfl ?_
  refine go1 (op_extract_same rfl plain_k (has rfl) (has rfl)) rfl ?_
  refine go1 (op_extract_same rfl plain_k (has rfl) (has rfl)) rfl ?_
  refine go3 (op_alloc 7 rfl zk47) rfl ?_
  refine go1 (op_store (Fld.whole kFile) tk47 (.t (has rfl)) (has rfl) (.t (has rfl))) rfl ?_
  refine go1 (op_assign rfl (.t (has rfl))) rfl ?_
  refine goesO_nil ?_
  refine ends_then ?_
  refine goes_seq ?_
  obtain ⟨s3, h4, H⟩ := bind_some H
  refine goes_cut [Ent.t 6 (VA.k kbool s3)] ?_ ?_
  · replace H := h4; clear h4
    refine goes_region ?_
    refine go1 (op_loadp rfl tk4 (.t (has rfl))) rfl ?_
    refine go1 (op_move rfl (.t (has rfl))) rfl ?_
    refine goesO_split H (fun hb5 H => ?_) (fun hb5 H => ?_)
    · skip
      refine goG (op_move rfl (.t (has rfl))) rfl rfl rfl rfl hb5 ?_
      refine go1 (op_pick_t rfl hb5 (.t (has rfl)) (.t (has rfl))) rfl ?_
      refine go1 (op_move rfl (.t (has rfl))) rfl ?_
      refine goesO_split H (fun hb6 H => ?_) (fun hb6 H => ?_)
      · skip
        refine goG (op_fieldAddr rfl Try.underlying47 rfl tk3 (.t (has rfl))) rfl rfl rfl rfl hb6 ?_
        refine goG (op_load rfl fldFile_Stamp tk3 (.t (has rfl)) (has rfl)) rfl rfl rfl rfl hb6 ?_
        refine goG (op_fieldAddrp rfl fldFile_Stamp Try.underlying47 rfl tk3 (.t (has rfl))) rfl rfl rfl rfl hb6 ?_
        refine goG (op_loadp rfl tk3 (.t (has rfl))) rfl rfl rfl rfl hb6 ?_
        refine goG (op_icmp rfl rfl (.t (has rfl)) (.t (has rfl))) rfl rfl rfl rfl hb6 ?_
        refine go1 (op_pick_t rfl hb6 (.t (has rfl)) (.t (has rfl))) rfl ?_
        refine go1 (op_move rfl (.t (has rfl))) rfl ?_
        refine goesO_split H (fun hb7 H => ?_) (fun hb7 H => ?_)
        · skip
          refine goG (op_loadp rfl tk22 (.t (has rfl))) rfl rfl rfl rfl hb7 ?_
          refine goG (op_move rfl (.t (has rfl))) rfl rfl rfl rfl hb7 ?_
          obtain ⟨v8, h9, H⟩ := bind_some H
          refine goG (op_call' rfl enters42 (slices_Contains_string_string.con _ _ _ _ h9) rfl (.cons (ArgP.k (.t (has rfl))) (.cons (ArgP.k (.t (has rfl))) .nil))) rfl rfl rfl rfl hb7 ?_
          refine goG (op_not rfl (.t (has rfl))) rfl rfl rfl rfl hb7 ?_
          refine go1 (op_pick_t rfl hb7 (.t (has rfl)) (.t (has rfl))) rfl ?_
          refine go1 (op_assign rfl (.t (has rfl))) rfl ?_
          refine goesO_nil ?_
          obtain rfl := Option.some.inj H
          exact ends_cut (.cons rfl .nil)
        · skip
          refine goS rfl rfl rfl rfl rfl rfl hb7 ?_
          refine goS rfl rfl rfl rfl rfl rfl hb7 ?_
          refine goS rfl rfl rfl rfl rfl rfl hb7 ?_
          refine goS rfl rfl rfl rfl rfl rfl hb7 ?_
          refine go1 (op_pick_f rfl hb7 (.t (has rfl)) (.bool _)) rfl ?_
          refine go1 (op_assign rfl (.t (has rfl))) rfl ?_
          refine goesO_nil ?_
          obtain rfl := Option.some.inj H
          exact ends_cut (.cons rfl .nil)
      · skip
        refine goS rfl rfl rfl rfl rfl rfl hb6 ?_
        refine goS rfl rfl rfl rfl rfl rfl hb6 ?_
        refine goS rfl rfl rfl rfl rfl rfl hb6 ?_
        refine goS rfl rfl rfl rfl rfl rfl hb6 ?_
        refine goS rfl rfl rfl rfl rfl rfl hb6 ?_
        refine go1 (op_pick_f rfl hb6 (.t (has rfl)) (.bool _)) rfl ?_
        refine go1 (op_move rfl (.t (has rfl))) rfl ?_
        refine goS rfl rfl rfl rfl rfl rfl rfl ?_
        refine goS rfl rfl rfl rfl rfl rfl rfl ?_
        refine goS rfl rfl rfl rfl rfl rfl rfl ?_
        refine goS rfl rfl rfl rfl rfl rfl rfl ?_
        refine go1 (op_pick_f rfl rfl (.t (has rfl)) (.bool _)) rfl ?_
        refine go1 (op_assign rfl (.t (has rfl))) rfl ?_
        refine goesO_nil ?_
        obtain rfl := Option.some.inj H
        exact ends_cut (.cons rfl .nil)
    · skip
      refine goS rfl rfl rfl rfl rfl rfl hb5 ?_
      refine go1 (op_pick_f rfl hb5 (.t (has rfl)) (.bool _)) rfl ?_
      refine go1 (op_move rfl (.t (has rfl))) rfl ?_
      refine goS rfl rfl rfl rfl rfl rfl rfl ?_
      refine goS rfl rfl rfl rfl rfl rfl rfl ?_
      refine goS rfl rfl rfl rfl rfl rfl rfl ?_
      refine goS rfl rfl rfl rfl rfl rfl rfl ?_
      refine goS rfl rfl rfl rfl rfl rfl rfl ?_
      refine go1 (op_pick_f rfl rfl (.t (has rfl)) (.bool _)) rfl ?_
      refine go1 (op_move rfl (.t (has rfl))) rfl ?_
      refine goS rfl rfl rfl rfl rfl rfl rfl ?_
      refine goS rfl rfl rfl rfl rfl rfl rfl ?_
      refine goS rfl rfl rfl rfl rfl rfl rfl ?_
      refine goS rfl rfl rfl rfl rfl rfl rfl ?_
      refine go1 (op_pick_f rfl rfl (.t (has rfl)) (.bool _)) rfl ?_
      refine go1 (op_assign rfl (.t (has rfl))) rfl ?_
      refine goesO_nil ?_
      obtain rfl := Option.some.inj H
      exact ends_cut (.cons rfl .nil)
  refine ends_then ?_
  obtain rfl := Option.some.inj H
  exact goes_ret (ends_ret' rfl rfl (.t rfl (.nil _)))
theorem stale_newer_1.conF (k : Nat) (a0 : ByteArray) (c0 : Disk) (c1 : Bool) (c2 : File) (c3 : List ByteArray) (r : Bool) (H : stale_newer_1.f k a0 c0 c1 c2 c3 = some r) : ConF Try.prog 41 [VA.k kstr a0, VA.pt kDisk c0, VA.pt kbool c1, VA.pt kFile c2, VA.pt (kslice kstr) c3] [VA.k kbool r] := (stale_newer_1.con k a0 c0 c1 c2 c3 r H).freeL (.cons (KFree.k KFree.bool _) .nil)
/-! slices.DeleteFunc[[]string,string] -/
def slices_DeleteFunc_string_string.l0 (a1 : ByteArray → Option Bool) : Nat → ((List ByteArray) × Int × Int) → Option ((List ByteArray) × Int)
  | 0, _ => none
  | k + 1, s4 => bif icmp .lss s4.2.2 (s4.1.length : Int) then (((idx s4.1 s4.2.2).bind fun x10 => (a1 x10).bind fun v12 => bif !v12 then ((idx s4.1 s4.2.1).bind fun x15 => some (s4.1.set s4.2.1.toNat x10, IntKind.i64.wrap (s4.2.1 + (1 : Int)))) else (some (s4.1, s4.2.1))).bind fun s8 => slices_DeleteFunc_string_string.l0 a1 k (s8.1, s8.2, IntKind.i64.wrap (s4.2.2 + (1 : Int)))) else (some (s4.1, s4.2.1))
def slices_DeleteFunc_string_string.f (k : Nat) (a0 : List ByteArray) (a1 : ByteArray → Option Bool) : Option (List ByteArray) := (slices_IndexFunc_string_string.f k a0 a1).bind fun v1 => bif icmp .eql v1 (-1 : Int) then (some a0) else ((slices_DeleteFunc_string_string.l0 a1 k (a0, v1, IntKind.i64.wrap (v1 + (1 : Int)))).bind fun s5 => (inrow s5.1 s5.2).bind fun z17 => (inrow (s5.1.take (Int.toNat s5.2) ++ List.replicate (s5.1.length - Int.toNat s5.2) ByteArray.empty) s5.2).bind fun z19 => some ((s5.1.take (Int.toNat s5.2) ++ List.replicate (s5.1.length - Int.toNat s5.2) ByteArray.empty).take s5.2.toNat))
set_option maxRecDepth 100000 in
set_option maxHeartbeats 4000000 in
theorem slices_DeleteFunc_string_string.con (F1 : FuncId) (pre1 caps1 : List VA) (k : Nat) (a0 : List ByteArray) (a1 : ByteArray → Option Bool) (hE1 : Enters Try.prog F1) (hp1 : ∀ (z0 : ByteArray) r, a1 z0 = some r → Con Try.prog F1 (pre1 ++ ([VA.k kstr z0] ++ caps1)) [VA.k kbool r]) (r : List ByteArray) (H : slices_DeleteFunc_string_string.f k a0 a1 = some r) : ConE Try.prog 33 [] [Ent.r 900 9 kstr a0] [VA.rw 900 (a0).length, VA.clo F1 pre1 caps1] [VA.own 9 kstr r] [] := by
  unfold slices_DeleteFunc_string_string.f at H
  refine con_enterE Try.func33 rfl rfl rfl rfl rfl (fun w0 S0 X β => ?_)
  refine goes_release 0 900 rfl rfl rfl ?_
  refine goes_seq ?_
  refine goes_region ?_
  refine go1 (op_assign_nil 9 kstr (.inr rfl) rfl) rfl ?_
  refine goesO_nil ?_
  refine ends_then ?_
  refine goes_seq ?_
  refine goes_region ?_
  refine go1 (op_same (.inl rfl) rfl rfl) rfl ?_
  refine go1 (op_moveA rfl plain_clo (.t (has rfl))) rfl ?_
  obtain ⟨v1, h2, H⟩ := bind_some H
  refine go1 (op_callF' rfl enters49 (slices_IndexFunc_string_string.conF F1 pre1 caps1 _ _ a1 hE1 hp1 _ h2) rfl (.cons (ArgB.owns rfl (has rfl) (has rfl)) (.cons (ArgB.clo (.t (has rfl))) .nil))) rfl ?_
  refine go1 (op_assign rfl (.t (has rfl))) rfl ?_
  refine goesO_nil ?_
  refine ends_then ?_
  refine goes_seq ?_
  refine goes_seq ?_
  refine goes_region ?_
  refine go1 (op_move rfl (.t (has rfl))) rfl ?_
  refine go1 (op_icmp rfl rfl (.t (has rfl)) (.int _ _)) rfl ?_
  refine goesO_nil ?_
  refine ends_then ?_
  refine goes_if (.t (has rfl)) H (fun hb3 H => ?_) (fun hb3 H => ?_)
  · skip
    refine goes_seq ?_
    refine goes_region ?_
    refine go2 (op_mv (.inl rfl) rfl rfl (has rfl)) rfl ?_
    refine go2 (op_mv (.inr rfl) rfl rfl (has rfl)) rfl ?_
    refine goesO_nil ?_
    refine ends_then ?_
    obtain rfl := Option.some.inj H
    exact goes_ret (ends_then_ret (ends_retE rfl .nil (.t rfl (.post .nil rfl))))
  · skip
    refine goes_skip ?_
    refine ends_then ?_
    refine goes_seq ?_
    refine goes_seq ?_
    refine goes_region ?_
    refine go1 (op_move rfl (.t (has rfl))) rfl ?_
    refine go1 (op_add rfl (.t (has rfl)) (.int _ _)) rfl ?_
    refine go1 (op_assign rfl (.t (has rfl))) rfl ?_
    refine goesO_nil ?_
    refine ends_then ?_
    obtain ⟨s5, h6, H⟩ := bind_some H
    refine goes_cut [Ent.t 0 (VA.own 9 kstr s5.1), Ent.t 5 (VA.k (kint .i64) s5.2)] ?_ ?_
    · replace H := h6; clear h6
      refine goes_block ?_
      refine goes_loop (fun s4 : (List ByteArray) × Int × Int => [Ent.t 0 (VA.own 9 kstr s4.1), Ent.t 1 (VA.clo F1 pre1 caps1), Ent.t 5 (VA.k (kint .i64) s4.2.1), Ent.t 6 (VA.k (kint .i64) s4.2.2)]) (fun k s4 => slices_DeleteFunc_string_string.l0 a1 k s4) (fun _ => rfl) H (.cons rfl (.cons rfl (.cons rfl (.cons rfl .nil)))) ?_
      intro k s4 H
      simp only [slices_DeleteFunc_string_string.l0] at H
      refine goes_seq ?_
      refine goes_seq ?_
      refine goes_region ?_
      refine go1 (op_move rfl (.t (has rfl))) rfl ?_
      refine go1 (op_same (.inl rfl) rfl rfl) rfl ?_
      refine go1 (op_len_own rfl rfl Try.underlying22 (.same (has rfl) (has rfl))) rfl ?_
      refine go1 (op_icmp rfl rfl (.t (has rfl)) (.t (has rfl))) rfl ?_
      refine goesO_nil ?_
      refine ends_then ?_
      refine goes_if (.t (has rfl)) H (fun hb7 H => ?_) (fun hb7 H => ?_)
      · skip
        refine goes_skip ?_
        refine ends_then ?_
        refine goes_seq ?_
        obtain ⟨s8, h9, H⟩ := bind_some H
        refine goes_cut [Ent.t 0 (VA.own 9 kstr s8.1), Ent.t 1 (VA.clo F1 pre1 caps1), Ent.t 5 (VA.k (kint .i64) s8.2), Ent.t 6 (VA.k (kint .i64) s4.2.2)] ?_ ?_
        · replace H := h9; clear h9
          refine goes_block ?_
          refine goes_seq ?_
          refine goes_region ?_
          refine go1 (op_same (.inl rfl) rfl rfl) rfl ?_
          refine go1 (op_move rfl (.t (has rfl))) rfl ?_
          obtain ⟨x10, h11, H⟩ := bind_some H
          refine go1 (op_indexAddr_own rfl rfl Try.underlying22 tk9 h11 (.same (has rfl)) (has rfl) (.t (has rfl))) rfl ?_
          refine go1 (op_load_oe (off := 0) rfl (Fld.whole kstr) tk9 h11 (has rfl) (has rfl)) rfl ?_
          refine go1 (op_assign rfl (.t (has rfl))) rfl ?_
          refine goesO_nil ?_
          refine ends_then ?_
          refine goes_seq ?_
          refine goes_region ?_
          refine go1 (op_moveA rfl plain_clo (.t (has rfl))) rfl ?_
          refine go1 (op_move rfl (.t (has rfl))) rfl ?_
          obtain ⟨v12, h13, H⟩ := bind_some H
          refine go1 (op_callv rfl (.t (has rfl)) hE1 (hp1 _ _ h13) rfl (.cons (ArgP.k (.t (has rfl))) .nil)) rfl ?_
          refine go1 (op_not rfl (.t (has rfl))) rfl ?_
          refine goesO_nil ?_
          refine ends_then ?_
          refine goes_if (.t (has rfl)) H (fun hb14 H => ?_) (fun hb14 H => ?_)
          · skip
            refine goes_seq ?_
            refine goes_region ?_
            refine go1 (op_same (.inl rfl) rfl rfl) rfl ?_
            refine go1 (op_move rfl (.t (has rfl))) rfl ?_
            refine go1 (op_move rfl (.t (has rfl))) rfl ?_
            obtain ⟨x15, h16, H⟩ := bind_some H
            refine go1 (op_indexAddr_own rfl rfl Try.underlying22 tk9 h16 (.same (has rfl)) (has rfl) (.t (has rfl))) rfl ?_
            refine go1 (op_store_oe (off := 0) (Fld.whole kstr) tk9 h16 (has rfl) (has rfl) (.t (has rfl))) rfl ?_
            refine goesO_nil ?_
            refine ends_then ?_
            refine goes_region ?_
            refine go1 (op_move rfl (.t (has rfl))) rfl ?_
            refine go1 (op_add rfl (.t (has rfl)) (.int _ _)) rfl ?_
            refine go1 (op_assign rfl (.t (has rfl))) rfl ?_
            refine goesO_nil ?_
            refine ends_block ?_
            obtain rfl := Option.some.inj H
            exact ends_cut (.cons rfl (.cons rfl (.cons rfl (.cons rfl .nil))))
          · skip
            refine goes_skip ?_
            refine ends_block ?_
            obtain rfl := Option.some.inj H
            exact ends_cut (.cons rfl (.cons rfl (.cons rfl (.cons rfl .nil))))
        refine ends_then ?_
        refine goes_region ?_
        refine go1 (op_move rfl (.t (has rfl))) rfl ?_
        refine go1 (op_add rfl (.t (has rfl)) (.int _ _)) rfl ?_
        refine go1 (op_assign rfl (.t (has rfl))) rfl ?_
        refine goesO_nil ?_
        exact loop_next _ H (.cons rfl (.cons rfl (.cons rfl (.cons rfl .nil))))
      · skip
        refine goes_exit (ends_then_exit (ends_then_exit (ends_block_exit ?_)))
        obtain rfl := Option.some.inj H
        exact ends_cut (.cons rfl (.cons rfl .nil))
    refine ends_then ?_
    refine goes_seq ?_
    refine goes_region ?_
    refine go1 (op_same (.inl rfl) rfl rfl) rfl ?_
    refine go1 (op_move rfl (.t (has rfl))) rfl ?_
    obtain ⟨z17, h18, H⟩ := bind_some H
    refine go1 (op_slice_tail rfl rfl Try.underlying22 tk9 (inrow_spec h18).1 (inrow_spec h18).2 (.same (has rfl)) (has rfl) (.t (has rfl))) rfl ?_
    refine go1 (op_clear_tail rfl ⟨_, at22⟩ zk9 (has rfl) (has rfl) tk9) rfl ?_
    refine goesO_nil ?_
    refine ends_then ?_
    refine goes_seq ?_
    refine goes_region ?_
    refine go1 (op_same (.inl rfl) rfl rfl) rfl ?_
    refine go1 (op_move rfl (.t (has rfl))) rfl ?_
    obtain ⟨z19, h20, H⟩ := bind_some H
    refine go2 (op_slice_own rfl rfl Try.underlying22 tk9 (inrow_spec h20).1 (inrow_spec h20).2 (.same (has rfl)) (has rfl) (.t (has rfl))) rfl ?_
    refine go2 (op_mv (.inr rfl) rfl rfl (has rfl)) rfl ?_
    refine goesO_nil ?_
    refine ends_then ?_
    obtain rfl := Option.some.inj H
    exact goes_ret (ends_retE rfl .nil (.t rfl (.post .nil rfl)))
theorem slices_DeleteFunc_string_string.conF (F1 : FuncId) (pre1 caps1 : List VA) (k : Nat) (a0 : List ByteArray) (a1 : ByteArray → Option Bool) (hE1 : Enters Try.prog F1) (hp1 : ∀ (z0 : ByteArray) r, a1 z0 = some r → Con Try.prog F1 (pre1 ++ ([VA.k kstr z0] ++ caps1)) [VA.k kbool r]) (r : List ByteArray) (H : slices_DeleteFunc_string_string.f k a0 a1 = some r) : ConEF Try.prog 33 [] [Ent.r 900 9 kstr a0] [VA.rw 900 (a0).length, VA.clo F1 pre1 caps1] [VA.own 9 kstr r] [] := (slices_DeleteFunc_string_string.con F1 pre1 caps1 k a0 a1 hE1 hp1 r H).freeL (.cons (KFree.own KFree.str _ _) .nil) (fun e he => by cases he)
/-! smithy/stale.newer -/
def stale_newer.f (k : Nat) (a0 : Node) (a1 : Disk) (a2 : List ByteArray) : Option (List ByteArray) := (stale_file.f k a1 a0.Target).bind fun v1 => (slices_Clone_string_string.f a0.Needs).bind fun v3 => (slices_DeleteFunc_string_string.f k v3 (fun (z0 : ByteArray) => stale_newer_1.f k z0 a1 v1.2 v1.1 a2)).bind fun v5 => some v5
set_option maxRecDepth 100000 in
set_option maxHeartbeats 4000000 in
theorem stale_newer.con (k : Nat) (a0 : Node) (a1 : Disk) (a2 : List ByteArray) (r : List ByteArray) (H : stale_newer.f k a0 a1 a2 = some r) : Con Try.prog 23 [VA.k kNode a0, VA.k kDisk a1, VA.k (kslice kstr) a2] [VA.own 9 kstr r] := by
  unfold stale_newer.f at H
  refine con_enter Try.func23 rfl rfl rfl (fun w0 S0 θ => ?_)
  refine goes_seq ?_
  refine goes_region ?_
  refine go3 (op_box 3 rfl (fun h => by first | rfl | cases h) (.t (has rfl))) rfl ?_
  refine go3 (op_box 4 rfl (fun h => by first | rfl | cases h) (.t (has rfl))) rfl ?_
  refine go3 (op_box 5 rfl (fun h => by first | rfl | cases h) (.t (has rfl))) rfl ?_
  refine go1 (op_assign_nil 9 kstr (.inr rfl) rfl) rfl ?_
  refine goesO_nil ?_
  refine ends_then ?_
  refine goes_seq ?_
  refine goes_region ?_
  refine go1 (op_load rfl (Fld.whole kDisk) tk27 (.t (has rfl)) (has rfl)) rfl ?_
  refine go1 (op_fieldAddr rfl Try.underlying24 rfl tk9 (.t (has rfl))) rfl ?_
  refine go1 (op_load rfl fldNode_Target tk9 (.t (has rfl)) (has rfl)) rfl ?_
  obtain ⟨v1, h2, H⟩ := bind_some H
  refine goN (op_calls' rfl enters40 (stale_file.con _ _ _ _ h2) rfl rfl (.cons (ArgP.k (.t (has rfl))) (.cons (ArgP.k (.t (has rfl))) .nil))) rfl ?_
  refine go1 (op_same (.inl rfl) rfl rfl) rfl ?_
  refine go1 (op_extract_same rfl plain_k (has rfl) (has rfl)) rfl ?_
  refine go1 (op_extract_same rfl plain_k (has rfl) (has rfl)) rfl ?_
  refine go3 (op_alloc 7 rfl zk47) rfl ?_
  refine go3 (op_alloc 8 rfl zk4) rfl ?_
  refine go1 (op_store (Fld.whole kFile) tk47 (.t (has rfl)) (has rfl) (.t (has rfl))) rfl ?_
  refine go1 (op_store (Fld.whole kbool) tk4 (.t (has rfl)) (has rfl) (.t (has rfl))) rfl ?_
  refine goesO_nil ?_
  refine ends_then ?_
  refine goes_seq ?_
  refine goes_region ?_
  refine go1 (op_fieldAddr rfl Try.underlying24 rfl tk22 (.t (has rfl))) rfl ?_
  refine go1 (op_load rfl fldNode_Needs tk22 (.t (has rfl)) (has rfl)) rfl ?_
  obtain ⟨v3, h4, H⟩ := bind_some H
  refine go1 (op_call' rfl enters34 (slices_Clone_string_string.con _ _ h4) rfl (.cons (ArgP.k (.t (has rfl))) .nil)) rfl ?_
  refine go1 (op_makeFunc (ys := []) (xs := [4, 8, 7, 5]) rfl rfl rfl rfl) rfl ?_
  refine goesO_number 18 900 rfl rfl rfl ?_
  obtain ⟨v5, h6, H⟩ := bind_some H
  refine goN (op_callEF [5000900] [] rfl enters33 (slices_DeleteFunc_string_string.conF 41 ([]) ([VA.pt kDisk a1, VA.pt kbool v1.2, VA.pt kFile v1.1, VA.pt (kslice kstr) a2]) _ _ (fun (z0 : ByteArray) => stale_newer_1.f k z0 a1 v1.2 v1.1 a2) enters41 (fun z0 r h => stale_newer_1.con _ z0 a1 v1.2 v1.1 a2 r h) _ h6) rfl (.cons (has rfl) .nil) (.cons (ArgR.a plain_rw (.t (NR.mk (has rfl) rfl))) (.cons (ArgR.mf rfl rfl (NR.mk (has rfl) rfl) .nil (.cons (ArgR.ptk (get := fun x => x) (y := a1) (Fld.whole kDisk) (.t (NR.mk (has rfl) rfl)) (NR.mk (has rfl) rfl)) (.cons (ArgR.ptk (get := fun x => x) (y := v1.2) (Fld.whole kbool) (.t (NR.mk (has rfl) rfl)) (NR.mk (has rfl) rfl)) (.cons (ArgR.ptk (get := fun x => x) (y := v1.1) (Fld.whole kFile) (.t (NR.mk (has rfl) rfl)) (NR.mk (has rfl) rfl)) (.cons (ArgR.ptk (get := fun x => x) (y := a2) (Fld.whole (kslice kstr)) (.t (NR.mk (has rfl) rfl)) (NR.mk (has rfl) rfl)) .nil))))) .nil))) rfl ?_
  refine go2 (op_mv (.inr rfl) rfl rfl (has rfl)) rfl ?_
  refine goesO_nil ?_
  refine ends_then ?_
  obtain rfl := Option.some.inj H
  exact goes_ret (ends_ret' rfl rfl (.t rfl (.nil _)))
theorem stale_newer.conF (k : Nat) (a0 : Node) (a1 : Disk) (a2 : List ByteArray) (r : List ByteArray) (H : stale_newer.f k a0 a1 a2 = some r) : ConF Try.prog 23 [VA.k kNode a0, VA.k kDisk a1, VA.k (kslice kstr) a2] [VA.own 9 kstr r] := (stale_newer.con k a0 a1 a2 r H).freeL (.cons (KFree.own KFree.str _ _) .nil)
/-! smithy/stale.Newer -/
def stale_Newer.f (k : Nat) (a0 : Node) (a1 : Disk) (a2 : List ByteArray) : Option ((List ByteArray) × Int) := (stale_fit.f k a0 a1 a2).bind fun v1 => bif icmp .neq v1 (0 : Int) then (some (([] : List ByteArray), v1)) else ((stale_newer.f k a0 a1 a2).bind fun v4 => some (v4, (0 : Int)))
set_option maxRecDepth 100000 in
set_option maxHeartbeats 4000000 in
theorem stale_Newer.con (k : Nat) (a0 : Node) (a1 : Disk) (a2 : List ByteArray) (r : (List ByteArray) × Int) (H : stale_Newer.f k a0 a1 a2 = some r) : Con Try.prog 8 [VA.k kNode a0, VA.k kDisk a1, VA.k (kslice kstr) a2] [VA.own 9 kstr r.1, VA.k (kint .i64) r.2] := by
  unfold stale_Newer.f at H
  refine con_enter Try.func8 rfl rfl rfl (fun w0 S0 θ => ?_)
  refine goes_seq ?_
  refine goes_region ?_
  refine go3 (op_box 3 rfl (fun h => by first | rfl | cases h) (.t (has rfl))) rfl ?_
  refine go3 (op_box 4 rfl (fun h => by first | rfl | cases h) (.t (has rfl))) rfl ?_
  refine go1 (op_assign_nil 9 kstr (.inr rfl) rfl) rfl ?_
  refine go1 (op_assign rfl (.int _ _)) rfl ?_
  refine goesO_nil ?_
  refine ends_then ?_
  refine goes_seq ?_
  refine goes_seq ?_
  refine goes_region ?_
  refine go1 (op_load rfl (Fld.whole kNode) tk24 (.t (has rfl)) (has rfl)) rfl ?_
  refine go1 (op_load rfl (Fld.whole kDisk) tk27 (.t (has rfl)) (has rfl)) rfl ?_
  refine go1 (op_move rfl (.t (has rfl))) rfl ?_
  obtain ⟨v1, h2, H⟩ := bind_some H
  refine go1 (op_call' rfl enters22 (stale_fit.con _ _ _ _ _ h2) rfl (.cons (ArgP.k (.t (has rfl))) (.cons (ArgP.k (.t (has rfl))) (.cons (ArgP.k (.t (has rfl))) .nil)))) rfl ?_
  refine go1 (op_assign rfl (.t (has rfl))) rfl ?_
  refine goesO_nil ?_
  refine ends_then ?_
  refine goes_seq ?_
  refine goes_region ?_
  refine go1 (op_move rfl (.t (has rfl))) rfl ?_
  refine go1 (op_icmp rfl rfl (.t (has rfl)) (.int _ _)) rfl ?_
  refine goesO_nil ?_
  refine ends_then ?_
  refine goes_if (.t (has rfl)) H (fun hb3 H => ?_) (fun hb3 H => ?_)
  · skip
    refine goes_seq ?_
    refine goes_region ?_
    refine go1 (op_move rfl (.t (has rfl))) rfl ?_
    refine go1 (op_assign_nil 9 kstr (.inr rfl) rfl) rfl ?_
    refine go1 (op_assign rfl (.t (has rfl))) rfl ?_
    refine goesO_nil ?_
    refine ends_then ?_
    obtain rfl := Option.some.inj H
    exact goes_ret (ends_then_ret (ends_ret' rfl rfl (.t rfl (.t rfl (.nil _)))))
  · skip
    refine goes_skip ?_
    refine ends_then ?_
    refine goes_seq ?_
    refine goes_region ?_
    refine go1 (op_load rfl (Fld.whole kNode) tk24 (.t (has rfl)) (has rfl)) rfl ?_
    refine go1 (op_load rfl (Fld.whole kDisk) tk27 (.t (has rfl)) (has rfl)) rfl ?_
    refine go1 (op_move rfl (.t (has rfl))) rfl ?_
    obtain ⟨v4, h5, H⟩ := bind_some H
    refine go1 (op_call' rfl enters23 (stale_newer.con _ _ _ _ _ h5) rfl (.cons (ArgP.k (.t (has rfl))) (.cons (ArgP.k (.t (has rfl))) (.cons (ArgP.k (.t (has rfl))) .nil)))) rfl ?_
    refine go2 (op_mv (.inr rfl) rfl rfl (has rfl)) rfl ?_
    refine go1 (op_assign rfl (.int _ _)) rfl ?_
    refine goesO_nil ?_
    refine ends_then ?_
    obtain rfl := Option.some.inj H
    exact goes_ret (ends_ret' rfl rfl (.t rfl (.t rfl (.nil _))))
theorem stale_Newer.conF (k : Nat) (a0 : Node) (a1 : Disk) (a2 : List ByteArray) (r : (List ByteArray) × Int) (H : stale_Newer.f k a0 a1 a2 = some r) : ConF Try.prog 8 [VA.k kNode a0, VA.k kDisk a1, VA.k (kslice kstr) a2] [VA.own 9 kstr r.1, VA.k (kint .i64) r.2] := (stale_Newer.con k a0 a1 a2 r H).freeL (.cons (KFree.own KFree.str _ _) (.cons (KFree.k (KFree.int .i64) _) .nil))
/-! smithy/smithyplain.Texts -/
def smithyplain_Texts.l0 (a0 : List ByteArray) (a1 : List ByteArray) : Nat → Int → Option (Except Bool Unit)
  | 0, _ => none
  | k + 1, s2 => bif icmp .lss s2 (a0.length : Int) then ((idx a0 s2).bind fun x7 => (idx a1 s2).bind fun x9 => bif scmp .neq x7 x9 then (some (Except.error false)) else (smithyplain_Texts.l0 a0 a1 k (IntKind.i64.wrap (s2 + (1 : Int))))) else (some (Except.ok ()))
def smithyplain_Texts.f (k : Nat) (a0 : List ByteArray) (a1 : List ByteArray) : Option Bool := bif icmp .neq (a0.length : Int) (a1.length : Int) then (some false) else ((smithyplain_Texts.l0 a0 a1 k (0 : Int)).bind fun o5 => match o5 with | .error r' => some r' | .ok s3 => (some true))
set_option maxRecDepth 100000 in
set_option maxHeartbeats 4000000 in
theorem smithyplain_Texts.con (k : Nat) (a0 : List ByteArray) (a1 : List ByteArray) (r : Bool) (H : smithyplain_Texts.f k a0 a1 = some r) : Con Try.prog 14 [VA.k (kslice kstr) a0, VA.k (kslice kstr) a1] [VA.k kbool r] := by
  unfold smithyplain_Texts.f at H
  refine con_enter Try.func14 rfl rfl rfl (fun w0 S0 θ => ?_)
  refine goes_seq ?_
  refine goes_region ?_
  refine go1 (op_assign rfl (.bool _)) rfl ?_
  refine goesO_nil ?_
  refine ends_then ?_
  refine goes_seq ?_
  refine goes_seq ?_
  refine goes_region ?_
  refine go1 (op_move rfl (.t (has rfl))) rfl ?_
  refine go1 (op_len rfl rfl Try.underlying22 (.t (has rfl))) rfl ?_
  refine go1 (op_move rfl (.t (has rfl))) rfl ?_
  refine go1 (op_len rfl rfl Try.underlying22 (.t (has rfl))) rfl ?_
  refine go1 (op_icmp rfl rfl (.t (has rfl)) (.t (has rfl))) rfl ?_
  refine goesO_nil ?_
  refine ends_then ?_
  refine goes_if (.t (has rfl)) H (fun hb1 H => ?_) (fun hb1 H => ?_)
  · skip
    refine goes_seq ?_
    refine goes_region ?_
    refine go1 (op_assign rfl (.bool _)) rfl ?_
    refine goesO_nil ?_
    refine ends_then ?_
    obtain rfl := Option.some.inj H
    exact goes_ret (ends_then_ret (ends_ret' rfl rfl (.t rfl (.nil _))))
  · skip
    refine goes_skip ?_
    refine ends_then ?_
    refine goes_seq ?_
    refine goes_seq ?_
    refine goes_region ?_
    refine go1 (op_move rfl (.t (has rfl))) rfl ?_
    refine go1 (op_len rfl rfl Try.underlying22 (.t (has rfl))) rfl ?_
    refine go1 (op_move rfl (.int _ _)) rfl ?_
    refine goesO_nil ?_
    refine ends_then ?_
    obtain ⟨o5, h4, H⟩ := bind_some H
    refine goes_cutR (o := o5) (fun s3 : Unit => []) (fun r a w => bodyPost Try.prog Try.f14 (CPost w0 S0 θ [VA.k kbool r]) .ret a w) ?_ ?_ ?_
    · replace H := h4; clear h4
      refine goes_block ?_
      refine goes_loop (fun s2 : Int => [Ent.t 0 (VA.k (kslice kstr) a0), Ent.t 1 (VA.k (kslice kstr) a1), Ent.t 12 (VA.k (kint .i64) (a0.length : Int)), Ent.t 13 (VA.k (kint .i64) s2)]) (fun k s2 => smithyplain_Texts.l0 a0 a1 k s2) (fun _ => rfl) H (.cons rfl (.cons rfl (.cons rfl (.cons rfl .nil)))) ?_
      intro k s2 H
      simp only [smithyplain_Texts.l0] at H
      refine goes_seq ?_
      refine goes_region ?_
      refine go1 (op_icmp rfl rfl (.t (has rfl)) (.t (has rfl))) rfl ?_
      refine goesO_nil ?_
      refine ends_then ?_
      refine goes_seq ?_
      refine goes_if (.t (has rfl)) H (fun hb6 H => ?_) (fun hb6 H => ?_)
      · skip
        refine goes_skip ?_
        refine ends_then ?_
        refine goes_seq ?_
        refine goes_block ?_
        refine goes_seq ?_
        refine goes_region ?_
        refine go1 (op_move rfl (.t (has rfl))) rfl ?_
        refine go1 (op_assign rfl (.t (has rfl))) rfl ?_
        refine goesO_nil ?_
        refine ends_then ?_
        refine goes_seq ?_
        obtain ⟨x7, h8, H⟩ := bind_some H
        obtain ⟨x9, h10, H⟩ := bind_some H
        refine goes_drawn [[Ent.t 16 (VA.k (kslice kstr) a0)], [Ent.t 17 (VA.k (kint .i64) s2)], [Ent.t 18 (VA.pt kstr x7)], [Ent.t 19 (VA.k kstr x7)], [Ent.t 20 (VA.k (kslice kstr) a1)], [Ent.t 21 (VA.k (kint .i64) s2)], [Ent.t 22 (VA.pt kstr x9)], [Ent.t 23 (VA.k kstr x9)], [Ent.t 24 (VA.k kbool (scmp .neq x7 x9))]] mixed (by kernel_rfl) (by kernel_rfl) (.cons [(none, Ent.t 0 (VA.k (kslice kstr) a0))] (OpSpec.run rfl rfl (op_move rfl (.t NL.h0)) rfl) (.cons (has rfl) .nil) (by kernel_rfl) (.cons [(none, Ent.t 5 (VA.k (kint .i64) s2))] (OpSpec.run rfl rfl (op_move rfl (.t NL.h0)) rfl) (.cons (has rfl) .nil) (by kernel_rfl) (.cons [(some 0, Ent.t 16 (VA.k (kslice kstr) a0)), (some 1, Ent.t 17 (VA.k (kint .i64) s2))] (OpSpec.run rfl rfl (op_indexAddr rfl Try.underlying22 tk9 h8 (.t NL.h0) (.t (NL.hs NL.h0))) rfl) (.cons (has rfl) (.cons (has rfl) .nil)) (by kernel_rfl) (.cons [(some 2, Ent.t 18 (VA.pt kstr x7))] (OpSpec.run rfl rfl (op_loadp rfl tk9 (.t NL.h0)) rfl) (.cons (has rfl) .nil) (by kernel_rfl) (.cons [(none, Ent.t 1 (VA.k (kslice kstr) a1))] (OpSpec.run rfl rfl (op_move rfl (.t NL.h0)) rfl) (.cons (has rfl) .nil) (by kernel_rfl) (.cons [(none, Ent.t 5 (VA.k (kint .i64) s2))] (OpSpec.run rfl rfl (op_move rfl (.t NL.h0)) rfl) (.cons (has rfl) .nil) (by kernel_rfl) (.cons [(some 4, Ent.t 20 (VA.k (kslice kstr) a1)), (some 5, Ent.t 21 (VA.k (kint .i64) s2))] (OpSpec.run rfl rfl (op_indexAddr rfl Try.underlying22 tk9 h10 (.t NL.h0) (.t (NL.hs NL.h0))) rfl) (.cons (has rfl) (.cons (has rfl) .nil)) (by kernel_rfl) (.cons [(some 6, Ent.t 22 (VA.pt kstr x9))] (OpSpec.run rfl rfl (op_loadp rfl tk9 (.t NL.h0)) rfl) (.cons (has rfl) .nil) (by kernel_rfl) (.cons [(some 3, Ent.t 19 (VA.k kstr x7)), (some 7, Ent.t 23 (VA.k kstr x9))] (OpSpec.run rfl rfl (op_scmp rfl rfl (.t NL.h0) (.t (NL.hs NL.h0))) rfl) (.cons (has rfl) (.cons (has rfl) .nil)) (by kernel_rfl) (.nil _)))))))))) ?_
        refine ends_sub [Ent.t 0 (VA.k (kslice kstr) a0), Ent.t 1 (VA.k (kslice kstr) a1), Ent.t 12 (VA.k (kint .i64) (a0.length : Int)), Ent.t 13 (VA.k (kint .i64) s2), Ent.t 24 (VA.k kbool (scmp .neq x7 x9))] (.cons rfl (.cons rfl (.cons rfl (.cons rfl (.cons rfl .nil))))) ?_
        refine ends_then ?_
        refine goes_if (.t (has rfl)) H (fun hb11 H => ?_) (fun hb11 H => ?_)
        · skip
          refine goes_seq ?_
          refine goes_region ?_
          refine go1 (op_assign rfl (.bool _)) rfl ?_
          refine goesO_nil ?_
          refine ends_then ?_
          obtain rfl := Option.some.inj H
          refine goes_ret (ends_block_ret (ends_then_ret (ends_then_ret (ends_block_ret (ends_cutR_ret rfl ?_)))))
          exact ends_ret' rfl rfl (.t rfl (.nil _))
        · skip
          refine goes_skip ?_
          refine ends_block ?_
          refine ends_then ?_
          refine goes_region ?_
          refine go1 (op_add rfl (.t (has rfl)) (.int _ _)) rfl ?_
          refine go1 (op_move rfl (.t (has rfl))) rfl ?_
          refine goesO_nil ?_
          exact loop_next _ H (.cons rfl (.cons rfl (.cons rfl (.cons rfl .nil))))
      · skip
        refine goes_exit (ends_then_exit (ends_then_exit (ends_block_exit ?_)))
        obtain rfl := Option.some.inj H
        exact ends_cutR rfl .nil
    · rintro s3 rfl
      clear h4
      dsimp only at H
      refine ends_then ?_
      refine goes_seq ?_
      refine goes_region ?_
      refine go1 (op_assign rfl (.bool _)) rfl ?_
      refine goesO_nil ?_
      refine ends_then ?_
      obtain rfl := Option.some.inj H
      exact goes_ret (ends_ret' rfl rfl (.t rfl (.nil _)))
    · rintro r' rfl a w hr
      obtain rfl := Option.some.inj H
      exact hr
theorem smithyplain_Texts.conF (k : Nat) (a0 : List ByteArray) (a1 : List ByteArray) (r : Bool) (H : smithyplain_Texts.f k a0 a1 = some r) : ConF Try.prog 14 [VA.k (kslice kstr) a0, VA.k (kslice kstr) a1] [VA.k kbool r] := (smithyplain_Texts.con k a0 a1 r H).freeL (.cons (KFree.k KFree.bool _) .nil)
/-! smithy/smithylaw13.small -/
def smithylaw13_small.f (k : Nat) : Option Bool := (stale_Newer.f k (⟨(⟨#[116]⟩ : ByteArray), [(⟨#[97]⟩ : ByteArray), (⟨#[98]⟩ : ByteArray)], ([] : List ByteArray), false, ByteArray.empty, ByteArray.empty, false, false, false, false⟩ : Node) (⟨(9 : Int), [(⟨(⟨#[97]⟩ : ByteArray), ByteArray.empty, (3 : Int)⟩ : File), (⟨(⟨#[98]⟩ : ByteArray), ByteArray.empty, (7 : Int)⟩ : File), (⟨(⟨#[116]⟩ : ByteArray), ByteArray.empty, (5 : Int)⟩ : File)]⟩ : Disk) ([] : List ByteArray)).bind fun v1 => (stale_Why.f k (⟨(⟨#[116]⟩ : ByteArray), [(⟨#[97]⟩ : ByteArray), (⟨#[98]⟩ : ByteArray)], ([] : List ByteArray), false, ByteArray.empty, ByteArray.empty, false, false, false, false⟩ : Node) (⟨(9 : Int), [(⟨(⟨#[97]⟩ : ByteArray), ByteArray.empty, (3 : Int)⟩ : File), (⟨(⟨#[98]⟩ : ByteArray), ByteArray.empty, (7 : Int)⟩ : File), (⟨(⟨#[116]⟩ : ByteArray), ByteArray.empty, (5 : Int)⟩ : File)]⟩ : Disk) ([] : List ByteArray)).bind fun v3 => (stale_Is.f k (⟨(⟨#[116]⟩ : ByteArray), [(⟨#[97]⟩ : ByteArray), (⟨#[98]⟩ : ByteArray)], ([] : List ByteArray), false, ByteArray.empty, ByteArray.empty, false, false, false, false⟩ : Node) (⟨(9 : Int), [(⟨(⟨#[97]⟩ : ByteArray), ByteArray.empty, (3 : Int)⟩ : File), (⟨(⟨#[98]⟩ : ByteArray), ByteArray.empty, (7 : Int)⟩ : File), (⟨(⟨#[116]⟩ : ByteArray), ByteArray.empty, (5 : Int)⟩ : File)]⟩ : Disk) ([] : List ByteArray)).bind fun v5 => (bif icmp .eql v1.2 (0 : Int) then (bif icmp .eql v3.2.2 (0 : Int) then (bif icmp .eql v5.2 (0 : Int) then (bif v5.1 then (bif icmp .eql v3.1 (4 : Int) then (bif scmp .eql v3.2.1 (⟨#[98]⟩ : ByteArray) then ((smithyplain_Texts.f k v1.1 ([(⟨#[98]⟩ : ByteArray)])).bind fun v15 => some v15) else (some false)) else (some false)) else (some false)) else (some false)) else (some false)) else (some false)).bind fun s7 => some s7
set_option maxRecDepth 100000 in
set_option maxHeartbeats 4000000 in
theorem smithylaw13_small.con (k : Nat) (r : Bool) (H : smithylaw13_small.f k = some r) : Con Try.prog 15 [] [VA.k kbool r] := by
  unfold smithylaw13_small.f at H
  refine con_enter Try.func15 rfl rfl rfl (fun w0 S0 θ => ?_)
  refine goes_seq ?_
  refine goes_region ?_
  refine go1 (op_assign rfl (.bool _)) rfl ?_
  refine goesO_nil ?_
  refine ends_then ?_
  refine goes_seq ?_
  refine goes_region ?_
  refine go1 (op_buildSlice rfl at22 (fun h => by first | rfl | cases h) rfl rfl rfl (.cons (.str _) (.cons (.str _) (.nil _)))) rfl ?_
  refine goesO_settle 10 rfl rfl ?_
  refine go1 (op_build (pl := [(0, 1), (1, 1), (2, 1), (3, 1), (4, 1), (5, 1), (6, 1), (7, 1), (8, 1), (9, 1)]) rfl rfl Try.underlying24 (by kernel_rfl) zk24 (.cons rfl tk9 fldNode_Target (.str _) (.cons rfl tk22 fldNode_Needs (.t (has rfl)) (.nil _)))) rfl ?_
  refine go3 (op_alloc 1 rfl zk24) rfl ?_
  refine go1 (op_store (Fld.whole kNode) tk24 (.t (has rfl)) (has rfl) (.t (has rfl))) rfl ?_
  refine goesO_nil ?_
  refine ends_then ?_
  refine goes_seq ?_
  refine goes_region ?_
  refine go1 (op_build (pl := [(0, 1), (1, 1), (2, 1)]) rfl rfl Try.underlying47 (by kernel_rfl) zk47 (.cons rfl tk9 fldFile_Name (.str _) (.cons rfl tk3 fldFile_Stamp (.int _ _) (.nil _)))) rfl ?_
  refine go1 (op_build (pl := [(0, 1), (1, 1), (2, 1)]) rfl rfl Try.underlying47 (by kernel_rfl) zk47 (.cons rfl tk9 fldFile_Name (.str _) (.cons rfl tk3 fldFile_Stamp (.int _ _) (.nil _)))) rfl ?_
  refine go1 (op_build (pl := [(0, 1), (1, 1), (2, 1)]) rfl rfl Try.underlying47 (by kernel_rfl) zk47 (.cons rfl tk9 fldFile_Name (.str _) (.cons rfl tk3 fldFile_Stamp (.int _ _) (.nil _)))) rfl ?_
  refine go1 (op_buildSlice rfl at25 (fun h => by first | rfl | cases h) rfl rfl rfl (.cons (.t (has rfl)) (.cons (.t (has rfl)) (.cons (.t (has rfl)) (.nil _))))) rfl ?_
  refine goesO_settle 15 rfl rfl ?_
  refine go1 (op_build (pl := [(0, 1), (1, 1)]) rfl rfl Try.underlying27 (by kernel_rfl) zk27 (.cons rfl tk3 fldDisk_Clock (.int _ _) (.cons rfl tk25 fldDisk_Files (.t (has rfl)) (.nil _)))) rfl ?_
  refine go3 (op_alloc 2 rfl zk27) rfl ?_
  refine go1 (op_store (Fld.whole kDisk) tk27 (.t (has rfl)) (has rfl) (.t (has rfl))) rfl ?_
  refine goesO_nil ?_
  refine ends_then ?_
  refine goes_seq ?_
  refine goes_region ?_
  refine go1 (op_load rfl (Fld.whole kNode) tk24 (.t (has rfl)) (has rfl)) rfl ?_
  refine go1 (op_load rfl (Fld.whole kDisk) tk27 (.t (has rfl)) (has rfl)) rfl ?_
  obtain ⟨v1, h2, H⟩ := bind_some H
  refine goN (op_calls' rfl enters8 (stale_Newer.con _ _ _ _ _ h2) rfl rfl (.cons (ArgP.k (.t (has rfl))) (.cons (ArgP.k (.t (has rfl))) (.cons (ArgP.k (.nil _)) .nil)))) rfl ?_
  refine go1 (op_same (.inl rfl) rfl rfl) rfl ?_
  refine go2 (op_extract_own_same rfl rfl rfl (has rfl) (has rfl)) rfl ?_
  refine go1 (op_extract_same rfl plain_k (has rfl) (has rfl)) rfl ?_
  refine go2 (op_mv (.inr rfl) rfl rfl (has rfl)) rfl ?_
  refine go1 (op_assign rfl (.t (has rfl))) rfl ?_
  refine goesO_nil ?_
  refine ends_then ?_
  refine goes_seq ?_
  refine goes_region ?_
  refine go1 (op_load rfl (Fld.whole kNode) tk24 (.t (has rfl)) (has rfl)) rfl ?_
  refine go1 (op_load rfl (Fld.whole kDisk) tk27 (.t (has rfl)) (has rfl)) rfl ?_
  obtain ⟨v3, h4, H⟩ := bind_some H
  refine goN (op_calls' rfl enters12 (stale_Why.con _ _ _ _ _ h4) rfl rfl (.cons (ArgP.k (.t (has rfl))) (.cons (ArgP.k (.t (has rfl))) (.cons (ArgP.k (.nil _)) .nil)))) rfl ?_
  refine go1 (op_same (.inl rfl) rfl rfl) rfl ?_
  refine go1 (op_extract_same rfl plain_k (has rfl) (has rfl)) rfl ?_
  refine go1 (op_extract_same rfl plain_k (has rfl) (has rfl)) rfl ?_
  refine go1 (op_extract_same rfl plain_k (has rfl) (has rfl)) rfl ?_
  refine go1 (op_assign rfl (.t (has rfl))) rfl ?_
  refine go1 (op_assign rfl (.t (has rfl))) rfl ?_
  refine go1 (op_assign rfl (.t (has rfl))) rfl ?_
  refine goesO_nil ?_
  refine ends_then ?_
  refine goes_seq ?_
  refine goes_region ?_
  refine go1 (op_load rfl (Fld.whole kNode) tk24 (.t (has rfl)) (has rfl)) rfl ?_
  refine go1 (op_load rfl (Fld.whole kDisk) tk27 (.t (has rfl)) (has rfl)) rfl ?_
  obtain ⟨v5, h6, H⟩ := bind_some H
  refine goN (op_calls' rfl enters10 (stale_Is.con _ _ _ _ _ h6) rfl rfl (.cons (ArgP.k (.t (has rfl))) (.cons (ArgP.k (.t (has rfl))) (.cons (ArgP.k (.nil _)) .nil)))) rfl ?_
  refine go1 (op_same (.inl rfl) rfl rfl) rfl ?_
  refine go1 (op_extract_same rfl plain_k (has rfl) (has rfl)) rfl ?_
  refine go1 (op_extract_same rfl plain_k (has rfl) (has rfl)) rfl ?_
  refine go1 (op_assign rfl (.t (has rfl))) rfl ?_
  refine go1 (op_assign rfl (.t (has rfl))) rfl ?_
  refine goesO_nil ?_
  refine ends_then ?_
  refine goes_seq ?_
  obtain ⟨s7, h8, H⟩ := bind_some H
  refine goes_cut [Ent.t 0 (VA.k kbool s7)] ?_ ?_
  · replace H := h8; clear h8
    refine goes_region ?_
    refine go1 (op_move rfl (.t (has rfl))) rfl ?_
    refine go1 (op_icmp rfl rfl (.t (has rfl)) (.int _ _)) rfl ?_
    refine go1 (op_move rfl (.t (has rfl))) rfl ?_
    refine goesO_split H (fun hb9 H => ?_) (fun hb9 H => ?_)
    · skip
      refine goG (op_move rfl (.t (has rfl))) rfl rfl rfl rfl hb9 ?_
      refine goG (op_icmp rfl rfl (.t (has rfl)) (.int _ _)) rfl rfl rfl rfl hb9 ?_
      refine go1 (op_pick_t rfl hb9 (.t (has rfl)) (.t (has rfl))) rfl ?_
      refine go1 (op_move rfl (.t (has rfl))) rfl ?_
      refine goesO_split H (fun hb10 H => ?_) (fun hb10 H => ?_)
      · skip
        refine goG (op_move rfl (.t (has rfl))) rfl rfl rfl rfl hb10 ?_
        refine goG (op_icmp rfl rfl (.t (has rfl)) (.int _ _)) rfl rfl rfl rfl hb10 ?_
        refine go1 (op_pick_t rfl hb10 (.t (has rfl)) (.t (has rfl))) rfl ?_
        refine go1 (op_move rfl (.t (has rfl))) rfl ?_
        refine goesO_split H (fun hb11 H => ?_) (fun hb11 H => ?_)
        · skip
          refine goG (op_move rfl (.t (has rfl))) rfl rfl rfl rfl hb11 ?_
          refine go1 (op_pick_t rfl hb11 (.t (has rfl)) (.t (has rfl))) rfl ?_
          refine go1 (op_move rfl (.t (has rfl))) rfl ?_
          refine goesO_split H (fun hb12 H => ?_) (fun hb12 H => ?_)
          · skip
            refine goG (op_move rfl (.t (has rfl))) rfl rfl rfl rfl hb12 ?_
            refine goG (op_icmp rfl rfl (.t (has rfl)) (.int _ _)) rfl rfl rfl rfl hb12 ?_
            refine go1 (op_pick_t rfl hb12 (.t (has rfl)) (.t (has rfl))) rfl ?_
            refine go1 (op_move rfl (.t (has rfl))) rfl ?_
            refine goesO_split H (fun hb13 H => ?_) (fun hb13 H => ?_)
            · skip
              refine goG (op_move rfl (.t (has rfl))) rfl rfl rfl rfl hb13 ?_
              refine goG (op_scmp rfl rfl (.t (has rfl)) (.str _)) rfl rfl rfl rfl hb13 ?_
              refine go1 (op_pick_t rfl hb13 (.t (has rfl)) (.t (has rfl))) rfl ?_
              refine go1 (op_move rfl (.t (has rfl))) rfl ?_
              refine goesO_split H (fun hb14 H => ?_) (fun hb14 H => ?_)
              · skip
                refine goesO_settle 3 rfl rfl ?_
                refine goG (op_move rfl (.t (has rfl))) rfl rfl rfl rfl hb14 ?_
                refine goG (op_buildSlice rfl at22 (fun h => by first | rfl | cases h) rfl rfl rfl (.cons (.str _) (.nil _))) rfl rfl rfl rfl hb14 ?_
                obtain ⟨v15, h16, H⟩ := bind_some H
                refine goG (op_callF' rfl enters14 (smithyplain_Texts.conF _ _ _ _ h16) rfl (.cons (ArgB.k (.t (has rfl))) (.cons (ArgB.own rfl (has rfl)) .nil))) rfl rfl rfl rfl hb14 ?_
                refine go1 (op_pick_t rfl hb14 (.t (has rfl)) (.t (has rfl))) rfl ?_
                refine go1 (op_assign rfl (.t (has rfl))) rfl ?_
                refine goesO_nil ?_
                obtain rfl := Option.some.inj H
                exact ends_cut (.cons rfl .nil)
              · skip
                refine goS rfl rfl rfl rfl rfl rfl hb14 ?_
                refine goS rfl rfl rfl rfl rfl rfl hb14 ?_
                refine goS rfl rfl rfl rfl rfl rfl hb14 ?_
                refine go1 (op_pick_f rfl hb14 (.t (has rfl)) (.bool _)) rfl ?_
                refine go1 (op_assign rfl (.t (has rfl))) rfl ?_
                refine goesO_nil ?_
                obtain rfl := Option.some.inj H
                exact ends_cut (.cons rfl .nil)
            · skip
              refine goS rfl rfl rfl rfl rfl rfl hb13 ?_
              refine goS rfl rfl rfl rfl rfl rfl hb13 ?_
              refine go1 (op_pick_f rfl hb13 (.t (has rfl)) (.bool _)) rfl ?_
              refine go1 (op_move rfl (.t (has rfl))) rfl ?_
              refine goS rfl rfl rfl rfl rfl rfl rfl ?_
              refine goS rfl rfl rfl rfl rfl rfl rfl ?_
              refine goS rfl rfl rfl rfl rfl rfl rfl ?_
              refine go1 (op_pick_f rfl rfl (.t (has rfl)) (.bool _)) rfl ?_
              refine go1 (op_assign rfl (.t (has rfl))) rfl ?_
              refine goesO_nil ?_
              obtain rfl := Option.some.inj H
              exact ends_cut (.cons rfl .nil)
          · skip
            refine goS rfl rfl rfl rfl rfl rfl hb12 ?_
            refine goS rfl rfl rfl rfl rfl rfl hb12 ?_
            refine go1 (op_pick_f rfl hb12 (.t (has rfl)) (.bool _)) rfl ?_
            refine go1 (op_move rfl (.t (has rfl))) rfl ?_
            refine goS rfl rfl rfl rfl rfl rfl rfl ?_
            refine goS rfl rfl rfl rfl rfl rfl rfl ?_
            refine go1 (op_pick_f rfl rfl (.t (has rfl)) (.bool _)) rfl ?_
            refine go1 (op_move rfl (.t (has rfl))) rfl ?_
            refine goS rfl rfl rfl rfl rfl rfl rfl ?_
            refine goS rfl rfl rfl rfl rfl rfl rfl ?_
            refine goS rfl rfl rfl rfl rfl rfl rfl ?_
            refine go1 (op_pick_f rfl rfl (.t (has rfl)) (.bool _)) rfl ?_
            refine go1 (op_assign rfl (.t (has rfl))) rfl ?_
            refine goesO_nil ?_
            obtain rfl := Option.some.inj H
            exact ends_cut (.cons rfl .nil)
        · skip
          refine goS rfl rfl rfl rfl rfl rfl hb11 ?_
          refine go1 (op_pick_f rfl hb11 (.t (has rfl)) (.bool _)) rfl ?_
          refine go1 (op_move rfl (.t (has rfl))) rfl ?_
          refine goS rfl rfl rfl rfl rfl rfl rfl ?_
          refine goS rfl rfl rfl rfl rfl rfl rfl ?_
          refine go1 (op_pick_f rfl rfl (.t (has rfl)) (.bool _)) rfl ?_
          refine go1 (op_move rfl (.t (has rfl))) rfl ?_
          refine goS rfl rfl rfl rfl rfl rfl rfl ?_
          refine goS rfl rfl rfl rfl rfl rfl rfl ?_
          refine go1 (op_pick_f rfl rfl (.t (has rfl)) (.bool _)) rfl ?_
          refine go1 (op_move rfl (.t (has rfl))) rfl ?_
          refine goS rfl rfl rfl rfl rfl rfl rfl ?_
          refine goS rfl rfl rfl rfl rfl rfl rfl ?_
          refine goS rfl rfl rfl rfl rfl rfl rfl ?_
          refine go1 (op_pick_f rfl rfl (.t (has rfl)) (.bool _)) rfl ?_
          refine go1 (op_assign rfl (.t (has rfl))) rfl ?_
          refine goesO_nil ?_
          obtain rfl := Option.some.inj H
          exact ends_cut (.cons rfl .nil)
      · skip
        refine goS rfl rfl rfl rfl rfl rfl hb10 ?_
        refine goS rfl rfl rfl rfl rfl rfl hb10 ?_
        refine go1 (op_pick_f rfl hb10 (.t (has rfl)) (.bool _)) rfl ?_
        refine go1 (op_move rfl (.t (has rfl))) rfl ?_
        refine goS rfl rfl rfl rfl rfl rfl rfl ?_
        refine go1 (op_pick_f rfl rfl (.t (has rfl)) (.bool _)) rfl ?_
        refine go1 (op_move rfl (.t (has rfl))) rfl ?_
        refine goS rfl rfl rfl rfl rfl rfl rfl ?_
        refine goS rfl rfl rfl rfl rfl rfl rfl ?_
        refine go1 (op_pick_f rfl rfl (.t (has rfl)) (.bool _)) rfl ?_
        refine go1 (op_move rfl (.t (has rfl))) rfl ?_
        refine goS rfl rfl rfl rfl rfl rfl rfl ?_
        refine goS rfl rfl rfl rfl rfl rfl rfl ?_
        refine go1 (op_pick_f rfl rfl (.t (has rfl)) (.bool _)) rfl ?_
        refine go1 (op_move rfl (.t (has rfl))) rfl ?_
        refine goS rfl rfl rfl rfl rfl rfl rfl ?_
        refine goS rfl rfl rfl rfl rfl rfl rfl ?_
        refine goS rfl rfl rfl rfl rfl rfl rfl ?_
        refine go1 (op_pick_f rfl rfl (.t (has rfl)) (.bool _)) rfl ?_
        refine go1 (op_assign rfl (.t (has rfl))) rfl ?_
        refine goesO_nil ?_
        obtain rfl := Option.some.inj H
        exact ends_cut (.cons rfl .nil)
    · skip
      refine goS rfl rfl rfl rfl rfl rfl hb9 ?_
      refine goS rfl rfl rfl rfl rfl rfl hb9 ?_
      refine go1 (op_pick_f rfl hb9 (.t (has rfl)) (.bool _)) rfl ?_
      refine go1 (op_move rfl (.t (has rfl))) rfl ?_
      refine goS rfl rfl rfl rfl rfl rfl rfl ?_
      refine goS rfl rfl rfl rfl rfl rfl rfl ?_
      refine go1 (op_pick_f rfl rfl (.t (has rfl)) (.bool _)) rfl ?_
      refine go1 (op_move rfl (.t (has rfl))) rfl ?_
      refine goS rfl rfl rfl rfl rfl rfl rfl ?_
      refine go1 (op_pick_f rfl rfl (.t (has rfl)) (.bool _)) rfl ?_
      refine go1 (op_move rfl (.t (has rfl))) rfl ?_
      refine goS rfl rfl rfl rfl rfl rfl rfl ?_
      refine goS rfl rfl rfl rfl rfl rfl rfl ?_
      refine go1 (op_pick_f rfl rfl (.t (has rfl)) (.bool _)) rfl ?_
      refine go1 (op_move rfl (.t (has rfl))) rfl ?_
      refine goS rfl rfl rfl rfl rfl rfl rfl ?_
      refine goS rfl rfl rfl rfl rfl rfl rfl ?_
      refine go1 (op_pick_f rfl rfl (.t (has rfl)) (.bool _)) rfl ?_
      refine go1 (op_move rfl (.t (has rfl))) rfl ?_
      refine goS rfl rfl rfl rfl rfl rfl rfl ?_
      refine goS rfl rfl rfl rfl rfl rfl rfl ?_
      refine goS rfl rfl rfl rfl rfl rfl rfl ?_
      refine go1 (op_pick_f rfl rfl (.t (has rfl)) (.bool _)) rfl ?_
      refine go1 (op_assign rfl (.t (has rfl))) rfl ?_
      refine goesO_nil ?_
      obtain rfl := Option.some.inj H
      exact ends_cut (.cons rfl .nil)
  refine ends_then ?_
  obtain rfl := Option.some.inj H
  exact goes_ret (ends_ret' rfl rfl (.t rfl (.nil _)))
theorem smithylaw13_small.conF (k : Nat) (r : Bool) (H : smithylaw13_small.f k = some r) : ConF Try.prog 15 [] [VA.k kbool r] := (smithylaw13_small.con k r H).freeL (.cons (KFree.k KFree.bool _) .nil)
/-! smithy/smithyref13.File -/
def smithyref13_File.l0 (a0 : Disk) (a1 : ByteArray) : Nat → Int → Option (Except (File × Bool) Unit)
  | 0, _ => none
  | k + 1, s1 => bif icmp .lss s1 (a0.Files.length : Int) then ((idx a0.Files s1).bind fun x6 => bif scmp .eql x6.Name a1 then (some (Except.error (x6, true))) else (smithyref13_File.l0 a0 a1 k (IntKind.i64.wrap (s1 + (1 : Int))))) else (some (Except.ok ()))
def smithyref13_File.f (k : Nat) (a0 : Disk) (a1 : ByteArray) : Option (File × Bool) := (smithyref13_File.l0 a0 a1 k (0 : Int)).bind fun o4 => match o4 with | .error r' => some r' | .ok s2 => (some ((⟨ByteArray.empty, ByteArray.empty, (0 : Int)⟩ : File), false))
set_option maxRecDepth 100000 in
set_option maxHeartbeats 4000000 in
theorem smithyref13_File.con (k : Nat) (a0 : Disk) (a1 : ByteArray) (r : File × Bool) (H : smithyref13_File.f k a0 a1 = some r) : Con Try.prog 16 [VA.k kDisk a0, VA.k kstr a1] [VA.k kFile r.1, VA.k kbool r.2] := by
  unfold smithyref13_File.f at H
  refine con_enter Try.func16 rfl rfl rfl (fun w0 S0 θ => ?_)
  refine goes_seq ?_
  refine goes_region ?_
  refine go3 (op_box 2 rfl (fun h => by first | rfl | cases h) (.t (has rfl))) rfl ?_
  refine go3 (op_alloc 4 rfl zk47) rfl ?_
  refine go1 (op_assign rfl (.bool _)) rfl ?_
  refine goesO_nil ?_
  refine ends_then ?_
  refine goes_seq ?_
  refine goes_seq ?_
  refine goes_region ?_
  refine go1 (op_fieldAddr rfl Try.underlying27 rfl tk25 (.t (has rfl))) rfl ?_
  refine go1 (op_load rfl fldDisk_Files tk25 (.t (has rfl)) (has rfl)) rfl ?_
  refine go1 (op_len rfl rfl Try.underlying25 (.t (has rfl))) rfl ?_
  refine go1 (op_move rfl (.int _ _)) rfl ?_
  refine goesO_nil ?_
  refine ends_then ?_
  obtain ⟨o4, h3, H⟩ := bind_some H
  refine goes_cutR (o := o4) (fun s2 : Unit => [Ent.t 4 (VA.ptr 4 0), Ent.h 4 (HE.box 47 kFile zeroFile)]) (fun r a w => bodyPost Try.prog Try.f16 (CPost w0 S0 θ [VA.k kFile r.1, VA.k kbool r.2]) .ret a w) ?_ ?_ ?_
  · replace H := h3; clear h3
    refine goes_block ?_
    refine goes_loop (fun s1 : Int => [Ent.t 1 (VA.k kstr a1), Ent.t 4 (VA.ptr 4 0), Ent.t 9 (VA.k (kslice kFile) a0.Files), Ent.t 10 (VA.k (kint .i64) (a0.Files.length : Int)), Ent.t 11 (VA.k (kint .i64) s1), Ent.h 4 (HE.box 47 kFile zeroFile)]) (fun k s1 => smithyref13_File.l0 a0 a1 k s1) (fun _ => rfl) H (.cons rfl (.cons rfl (.cons rfl (.cons rfl (.cons rfl (.cons rfl .nil)))))) ?_
    intro k s1 H
    simp only [smithyref13_File.l0] at H
    refine goes_seq ?_
    refine goes_region ?_
    refine go1 (op_icmp rfl rfl (.t (has rfl)) (.t (has rfl))) rfl ?_
    refine goesO_nil ?_
    refine ends_then ?_
    refine goes_seq ?_
    refine goes_if (.t (has rfl)) H (fun hb5 H => ?_) (fun hb5 H => ?_)
    · skip
      refine goes_skip ?_
      refine ends_then ?_
      refine goes_seq ?_
      refine goes_block ?_
      refine goes_seq ?_
      refine goes_region ?_
      obtain ⟨x6, h7, H⟩ := bind_some H
      refine go1 (op_indexAddr rfl Try.underlying25 tk47 h7 (.t (has rfl)) (.t (has rfl))) rfl ?_
      refine go1 (op_loadp rfl tk47 (.t (has rfl))) rfl ?_
      refine go3 (op_alloc 7 rfl zk47) rfl ?_
      refine go1 (op_store (Fld.whole kFile) tk47 (.t (has rfl)) (has rfl) (.t (has rfl))) rfl ?_
      refine goesO_nil ?_
      refine ends_then ?_
      refine goes_seq ?_
      refine goes_region ?_
      refine go1 (op_fieldAddr rfl Try.underlying47 rfl tk9 (.t (has rfl))) rfl ?_
      refine go1 (op_load rfl fldFile_Name tk9 (.t (has rfl)) (has rfl)) rfl ?_
      refine go1 (op_move rfl (.t (has rfl))) rfl ?_
      refine go1 (op_scmp rfl rfl (.t (has rfl)) (.t (has rfl))) rfl ?_
      refine goesO_nil ?_
      refine ends_then ?_
      refine goes_if (.t (has rfl)) H (fun hb8 H => ?_) (fun hb8 H => ?_)
      · skip
        refine goes_seq ?_
        refine goes_region ?_
        refine go1 (op_load rfl (Fld.whole kFile) tk47 (.t (has rfl)) (has rfl)) rfl ?_
        refine go1 (op_store (Fld.whole kFile) tk47 (.t (has rfl)) (has rfl) (.t (has rfl))) rfl ?_
        refine go1 (op_assign rfl (.bool _)) rfl ?_
        refine goesO_nil ?_
        refine ends_then ?_
        obtain rfl := Option.some.inj H
        refine goes_ret (ends_block_ret (ends_then_ret (ends_then_ret (ends_block_ret (ends_cutR_ret rfl ?_)))))
        exact ends_ret' rfl rfl (.c rfl rfl tk47 (.t rfl (.nil _)))
      · skip
        refine goes_skip ?_
        refine ends_block ?_
        refine ends_then ?_
        refine goes_region ?_
        refine go1 (op_add rfl (.t (has rfl)) (.int _ _)) rfl ?_
        refine go1 (op_move rfl (.t (has rfl))) rfl ?_
        refine goesO_nil ?_
        exact loop_next _ H (.cons rfl (.cons rfl (.cons rfl (.cons rfl (.cons rfl (.cons rfl .nil))))))
    · skip
      refine goes_exit (ends_then_exit (ends_then_exit (ends_block_exit ?_)))
      obtain rfl := Option.some.inj H
      exact ends_cutR rfl (.cons rfl (.cons rfl .nil))
  · rintro s2 rfl
    clear h3
    dsimp only at H
    refine ends_then ?_
    refine goes_seq ?_
    refine goes_region ?_
    refine go1 (op_build (pl := [(0, 1), (1, 1), (2, 1)]) rfl rfl Try.underlying47 (by kernel_rfl) zk47 (.nil _)) rfl ?_
    refine go1 (op_store (Fld.whole kFile) tk47 (.t (has rfl)) (has rfl) (.t (has rfl))) rfl ?_
    refine go1 (op_assign rfl (.bool _)) rfl ?_
    refine goesO_nil ?_
    refine ends_then ?_
    obtain rfl := Option.some.inj H
    exact goes_ret (ends_ret' rfl rfl (.c rfl rfl tk47 (.t rfl (.nil _))))
  · rintro r' rfl a w hr
    obtain rfl := Option.some.inj H
    exact hr
theorem smithyref13_File.conF (k : Nat) (a0 : Disk) (a1 : ByteArray) (r : File × Bool) (H : smithyref13_File.f k a0 a1 = some r) : ConF Try.prog 16 [VA.k kDisk a0, VA.k kstr a1] [VA.k kFile r.1, VA.k kbool r.2] := (smithyref13_File.con k a0 a1 r H).freeL (.cons (KFree.k kfreeFile _) (.cons (KFree.k KFree.bool _) .nil))
/-! smithy/smithyref03.Has -/
def smithyref03_Has.l0 (a0 : List ByteArray) (a1 : ByteArray) : Nat → Int → Option (Except Bool Unit)
  | 0, _ => none
  | k + 1, s1 => bif icmp .lss s1 (a0.length : Int) then ((idx a0 s1).bind fun x6 => bif scmp .eql x6 a1 then (some (Except.error true)) else (smithyref03_Has.l0 a0 a1 k (IntKind.i64.wrap (s1 + (1 : Int))))) else (some (Except.ok ()))
def smithyref03_Has.f (k : Nat) (a0 : List ByteArray) (a1 : ByteArray) : Option Bool := (smithyref03_Has.l0 a0 a1 k (0 : Int)).bind fun o4 => match o4 with | .error r' => some r' | .ok s2 => (some false)
set_option maxRecDepth 100000 in
set_option maxHeartbeats 4000000 in
theorem smithyref03_Has.con (k : Nat) (a0 : List ByteArray) (a1 : ByteArray) (r : Bool) (H : smithyref03_Has.f k a0 a1 = some r) : Con Try.prog 17 [VA.k (kslice kstr) a0, VA.k kstr a1] [VA.k kbool r] := by
  unfold smithyref03_Has.f at H
  refine con_enter Try.func17 rfl rfl rfl (fun w0 S0 θ => ?_)
  refine goes_seq ?_
  refine goes_region ?_
  refine go1 (op_assign rfl (.bool _)) rfl ?_
  refine goesO_nil ?_
  refine ends_then ?_
  refine goes_seq ?_
  refine goes_seq ?_
  refine goes_region ?_
  refine go1 (op_move rfl (.t (has rfl))) rfl ?_
  refine go1 (op_len rfl rfl Try.underlying22 (.t (has rfl))) rfl ?_
  refine go1 (op_move rfl (.int _ _)) rfl ?_
  refine goesO_nil ?_
  refine ends_then ?_
  obtain ⟨o4, h3, H⟩ := bind_some H
  refine goes_cutR (o := o4) (fun s2 : Unit => []) (fun r a w => bodyPost Try.prog Try.f17 (CPost w0 S0 θ [VA.k kbool r]) .ret a w) ?_ ?_ ?_
  · replace H := h3; clear h3
    refine goes_block ?_
    refine goes_loop (fun s1 : Int => [Ent.t 1 (VA.k kstr a1), Ent.t 7 (VA.k (kslice kstr) a0), Ent.t 8 (VA.k (kint .i64) (a0.length : Int)), Ent.t 9 (VA.k (kint .i64) s1)]) (fun k s1 => smithyref03_Has.l0 a0 a1 k s1) (fun _ => rfl) H (.cons rfl (.cons rfl (.cons rfl (.cons rfl .nil)))) ?_
    intro k s1 H
    simp only [smithyref03_Has.l0] at H
    refine goes_seq ?_
    refine goes_region ?_
    refine go1 (op_icmp rfl rfl (.t (has rfl)) (.t (has rfl))) rfl ?_
    refine goesO_nil ?_
    refine ends_then ?_
    refine goes_seq ?_
    refine goes_if (.t (has rfl)) H (fun hb5 H => ?_) (fun hb5 H => ?_)
    · skip
      refine goes_skip ?_
      refine ends_then ?_
      refine goes_seq ?_
      refine goes_block ?_
      refine goes_seq ?_
      refine goes_region ?_
      obtain ⟨x6, h7, H⟩ := bind_some H
      refine go1 (op_indexAddr rfl Try.underlying22 tk9 h7 (.t (has rfl)) (.t (has rfl))) rfl ?_
      refine go1 (op_loadp rfl tk9 (.t (has rfl))) rfl ?_
      refine go1 (op_assign rfl (.t (has rfl))) rfl ?_
      refine goesO_nil ?_
      refine ends_then ?_
      refine goes_seq ?_
      refine goes_region ?_
      refine go1 (op_move rfl (.t (has rfl))) rfl ?_
      refine go1 (op_move rfl (.t (has rfl))) rfl ?_
      refine go1 (op_scmp rfl rfl (.t (has rfl)) (.t (has rfl))) rfl ?_
      refine goesO_nil ?_
      refine ends_then ?_
      refine goes_if (.t (has rfl)) H (fun hb8 H => ?_) (fun hb8 H => ?_)
      · skip
        refine goes_seq ?_
        refine goes_region ?_
        refine go1 (op_assign rfl (.bool _)) rfl ?_
        refine goesO_nil ?_
        refine ends_then ?_
        obtain rfl := Option.some.inj H
        refine goes_ret (ends_block_ret (ends_then_ret (ends_then_ret (ends_block_ret (ends_cutR_ret rfl ?_)))))
        exact ends_ret' rfl rfl (.t rfl (.nil _))
      · skip
        refine goes_skip ?_
        refine ends_block ?_
        refine ends_then ?_
        refine goes_region ?_
        refine go1 (op_add rfl (.t (has rfl)) (.int _ _)) rfl ?_
        refine go1 (op_move rfl (.t (has rfl))) rfl ?_
        refine goesO_nil ?_
        exact loop_next _ H (.cons rfl (.cons rfl (.cons rfl (.cons rfl .nil))))
    · skip
      refine goes_exit (ends_then_exit (ends_then_exit (ends_block_exit ?_)))
      obtain rfl := Option.some.inj H
      exact ends_cutR rfl .nil
  · rintro s2 rfl
    clear h3
    dsimp only at H
    refine ends_then ?_
    refine goes_seq ?_
    refine goes_region ?_
    refine go1 (op_assign rfl (.bool _)) rfl ?_
    refine goesO_nil ?_
    refine ends_then ?_
    obtain rfl := Option.some.inj H
    exact goes_ret (ends_ret' rfl rfl (.t rfl (.nil _)))
  · rintro r' rfl a w hr
    obtain rfl := Option.some.inj H
    exact hr
theorem smithyref03_Has.conF (k : Nat) (a0 : List ByteArray) (a1 : ByteArray) (r : Bool) (H : smithyref03_Has.f k a0 a1 = some r) : ConF Try.prog 17 [VA.k (kslice kstr) a0, VA.k kstr a1] [VA.k kbool r] := (smithyref03_Has.con k a0 a1 r H).freeL (.cons (KFree.k KFree.bool _) .nil)
/-! smithy/smithylaw13.StaleFresh -/
def smithylaw13_StaleFresh.l0 (a0 : Law13Case) (v14 : File × Bool) : Nat → (Bool × Int) → Option Bool
  | 0, _ => none
  | k + 1, s19 => bif icmp .lss s19.2 (a0.N.Needs.length : Int) then ((idx a0.N.Needs s19.2).bind fun x23 => (smithyref13_File.f k a0.D x23).bind fun v25 => (bif s19.1 then (bif v25.2 then (bif icmp .leq v25.1.Stamp v14.1.Stamp then ((smithyref03_Has.f k a0.Made x23).bind fun v32 => some (!v32)) else (some false)) else (some false)) else (some false)).bind fun s27 => smithylaw13_StaleFresh.l0 a0 v14 k (s27, IntKind.i64.wrap (s19.2 + (1 : Int)))) else (some s19.1)
def smithylaw13_StaleFresh.f (k : Nat) (a0 : Law13Case) : Option Bool := (stale_Why.f k a0.N a0.D a0.Made).bind fun v1 => (stale_Is.f k a0.N a0.D a0.Made).bind fun v3 => (bif icmp .neq v1.2.2 (0 : Int) then (some true) else (some (icmp .neq v3.2 (0 : Int)))).bind fun s5 => bif s5 then ((bif icmp .eql v1.2.2 v3.2 then ((smithylaw13_small.f k).bind fun v12 => some v12) else (some false)).bind fun s9 => some s9) else ((smithyref13_File.f k a0.D a0.N.Target).bind fun v14 => (bif !a0.N.Phony then (some v14.2) else (some false)).bind fun s16 => (smithylaw13_StaleFresh.l0 a0 v14 k (s16, (0 : Int))).bind fun s20 => (bif (v3.1 == !s20) then (bif (icmp .eql v1.1 (0 : Int) == s20) then ((smithylaw13_small.f k).bind fun v38 => some v38) else (some false)) else (some false)).bind fun s34 => some s34)
set_option maxRecDepth 100000 in
set_option maxHeartbeats 4000000 in
theorem smithylaw13_StaleFresh.con (k : Nat) (a0 : Law13Case) (r : Bool) (H : smithylaw13_StaleFresh.f k a0 = some r) : Con Try.prog 4 [VA.k kLaw13Case a0] [VA.k kbool r] := by
  unfold smithylaw13_StaleFresh.f at H
  refine con_enter Try.func4 rfl rfl rfl (fun w0 S0 θ => ?_)
  refine goes_seq ?_
  refine goes_region ?_
  refine go3 (op_box 1 rfl (fun h => by first | rfl | cases h) (.t (has rfl))) rfl ?_
  refine go1 (op_assign rfl (.bool _)) rfl ?_
  refine goesO_nil ?_
  refine ends_then ?_
  refine goes_seq ?_
  refine goes_region ?_
  refine go1 (op_fieldAddr rfl Try.underlying29 rfl tk24 (.t (has rfl))) rfl ?_
  refine go1 (op_load rfl fldLaw13Case_N tk24 (.t (has rfl)) (has rfl)) rfl ?_
  refine go1 (op_fieldAddr rfl Try.underlying29 rfl tk27 (.t (has rfl))) rfl ?_
  refine go1 (op_load rfl fldLaw13Case_D tk27 (.t (has rfl)) (has rfl)) rfl ?_
  refine go1 (op_fieldAddr rfl Try.underlying29 rfl tk22 (.t (has rfl))) rfl ?_
  refine go1 (op_load rfl fldLaw13Case_Made tk22 (.t (has rfl)) (has rfl)) rfl ?_
  obtain ⟨v1, h2, H⟩ := bind_some H
  refine goN (op_calls' rfl enters12 (stale_Why.con _ _ _ _ _ h2) rfl rfl (.cons (ArgP.k (.t (has rfl))) (.cons (ArgP.k (.t (has rfl))) (.cons (ArgP.k (.t (has rfl))) .nil)))) rfl ?_
  refine go1 (op_same (.inl rfl) rfl rfl) rfl ?_
  refine go1 (op_extract_same rfl plain_k (has rfl) (has rfl)) rfl ?_
  refine go1 (op_extract_same rfl plain_k (has rfl) (has rfl)) rfl ?_
  refine go1 (op_extract_same rfl plain_k (has rfl) (has rfl)) rfl ?_
  refine go1 (op_assign rfl (.t (has rfl))) rfl ?_
  refine go1 (op_assign rfl (.t (has rfl))) rfl ?_
  refine go1 (op_assign rfl (.t (has rfl))) rfl ?_
  refine goesO_nil ?_
  refine ends_then ?_
  refine goes_seq ?_
  refine goes_region ?_
  refine go1 (op_fieldAddr rfl Try.underlying29 rfl tk24 (.t (has rfl))) rfl ?_
  refine go1 (op_load rfl fldLaw13Case_N tk24 (.t (has rfl)) (has rfl)) rfl ?_
  refine go1 (op_fieldAddr rfl Try.underlying29 rfl tk27 (.t (has rfl))) rfl ?_
  refine go1 (op_load rfl fldLaw13Case_D tk27 (.t (has rfl)) (has rfl)) rfl ?_
  refine go1 (op_fieldAddr rfl Try.underlying29 rfl tk22 (.t (has rfl))) rfl ?_
  refine go1 (op_load rfl fldLaw13Case_Made tk22 (.t (has rfl)) (has rfl)) rfl ?_
  obtain ⟨v3, h4, H⟩ := bind_some H
  refine goN (op_calls' rfl enters10 (stale_Is.con _ _ _ _ _ h4) rfl rfl (.cons (ArgP.k (.t (has rfl))) (.cons (ArgP.k (.t (has rfl))) (.cons (ArgP.k (.t (has rfl))) .nil)))) rfl ?_
  refine go1 (op_same (.inl rfl) rfl rfl) rfl ?_
  refine go1 (op_extract_same rfl plain_k (has rfl) (has rfl)) rfl ?_
  refine go1 (op_extract_same rfl plain_k (has rfl) (has rfl)) rfl ?_
  refine go1 (op_assign rfl (.t (has rfl))) rfl ?_
  refine go1 (op_assign rfl (.t (has rfl))) rfl ?_
  refine goesO_nil ?_
  refine ends_then ?_
  refine goes_seq ?_
  refine goes_seq ?_
  obtain ⟨s5, h6, H⟩ := bind_some H
  refine goes_cut [Ent.t 1 (VA.ptr 1 0), Ent.t 3 (VA.k (kint .i64) v1.1), Ent.t 5 (VA.k (kint .i64) v1.2.2), Ent.t 6 (VA.k kbool v3.1), Ent.t 7 (VA.k (kint .i64) v3.2), Ent.t 41 (VA.k kbool s5), Ent.h 1 (HE.box 29 kLaw13Case a0)] ?_ ?_
  · replace H := h6; clear h6
    refine goes_region ?_
    refine go1 (op_move rfl (.t (has rfl))) rfl ?_
    refine go1 (op_icmp rfl rfl (.t (has rfl)) (.int _ _)) rfl ?_
    refine go1 (op_move rfl (.t (has rfl))) rfl ?_
    refine goesO_split H (fun hb7 H => ?_) (fun hb7 H => ?_)
    · skip
      refine goS rfl rfl rfl rfl rfl rfl hb7 ?_
      refine goS rfl rfl rfl rfl rfl rfl hb7 ?_
      refine go1 (op_pick_t rfl hb7 (.t (has rfl)) (.bool _)) rfl ?_
      refine goesO_nil ?_
      obtain rfl := Option.some.inj H
      exact ends_cut (.cons rfl (.cons rfl (.cons rfl (.cons rfl (.cons rfl (.cons rfl (.cons rfl .nil)))))))
    · skip
      refine goG (op_move rfl (.t (has rfl))) rfl rfl rfl rfl hb7 ?_
      refine goG (op_icmp rfl rfl (.t (has rfl)) (.int _ _)) rfl rfl rfl rfl hb7 ?_
      refine go1 (op_pick_f rfl hb7 (.t (has rfl)) (.t (has rfl))) rfl ?_
      refine goesO_nil ?_
      obtain rfl := Option.some.inj H
      exact ends_cut (.cons rfl (.cons rfl (.cons rfl (.cons rfl (.cons rfl (.cons rfl (.cons rfl .nil)))))))
  refine ends_then ?_
  refine goes_if (.t (has rfl)) H (fun hb8 H => ?_) (fun hb8 H => ?_)
  · skip
    refine goes_seq ?_
    obtain ⟨s9, h10, H⟩ := bind_some H
    refine goes_cut [Ent.t 2 (VA.k kbool s9)] ?_ ?_
    · replace H := h10; clear h10
      refine goes_region ?_
      refine go1 (op_move rfl (.t (has rfl))) rfl ?_
      refine go1 (op_move rfl (.t (has rfl))) rfl ?_
      refine go1 (op_icmp rfl rfl (.t (has rfl)) (.t (has rfl))) rfl ?_
      refine go1 (op_move rfl (.t (has rfl))) rfl ?_
      refine goesO_split H (fun hb11 H => ?_) (fun hb11 H => ?_)
      · skip
        obtain ⟨v12, h13, H⟩ := bind_some H
        refine goG (op_call' rfl enters15 (smithylaw13_small.con _  _ h13) rfl .nil) rfl rfl rfl rfl hb11 ?_
        refine go1 (op_pick_t rfl hb11 (.t (has rfl)) (.t (has rfl))) rfl ?_
        refine go1 (op_assign rfl (.t (has rfl))) rfl ?_
        refine goesO_nil ?_
        obtain rfl := Option.some.inj H
        exact ends_cut (.cons rfl .nil)
      · skip
        refine goS rfl rfl rfl rfl rfl rfl hb11 ?_
        refine go1 (op_pick_f rfl hb11 (.t (has rfl)) (.bool _)) rfl ?_
        refine go1 (op_assign rfl (.t (has rfl))) rfl ?_
        refine goesO_nil ?_
        obtain rfl := Option.some.inj H
        exact ends_cut (.cons rfl .nil)
    refine ends_then ?_
    obtain rfl := Option.some.inj H
    exact goes_ret (ends_then_ret (ends_ret' rfl rfl (.t rfl (.nil _))))
  · skip
    refine goes_skip ?_
    refine ends_then ?_
    refine goes_seq ?_
    refine goes_region ?_
    refine go1 (op_fieldAddr rfl Try.underlying29 rfl tk27 (.t (has rfl))) rfl ?_
    refine go1 (op_load rfl fldLaw13Case_D tk27 (.t (has rfl)) (has rfl)) rfl ?_
    refine go1 (op_fieldAddr rfl Try.underlying29 rfl tk24 (.t (has rfl))) rfl ?_
    refine go1 (op_fieldAddr rfl Try.underlying24 rfl tk9 (.t (has rfl))) rfl ?_
    refine go1 (op_load rfl (Fld.comp fldLaw13Case_N fldNode_Target) tk9 (.t (has rfl)) (has rfl)) rfl ?_
    obtain ⟨v14, h15, H⟩ := bind_some H
    refine goN (op_calls' rfl enters16 (smithyref13_File.con _ _ _ _ h15) rfl rfl (.cons (ArgP.k (.t (has rfl))) (.cons (ArgP.k (.t (has rfl))) .nil))) rfl ?_
    refine go1 (op_same (.inl rfl) rfl rfl) rfl ?_
    refine go1 (op_extract_same rfl plain_k (has rfl) (has rfl)) rfl ?_
    refine go1 (op_extract_same rfl plain_k (has rfl) (has rfl)) rfl ?_
    refine go3 (op_alloc 8 rfl zk47) rfl ?_
    refine go1 (op_store (Fld.whole kFile) tk47 (.t (has rfl)) (has rfl) (.t (has rfl))) rfl ?_
    refine go1 (op_assign rfl (.t (has rfl))) rfl ?_
    refine goesO_nil ?_
    refine ends_then ?_
    refine goes_seq ?_
    obtain ⟨s16, h17, H⟩ := bind_some H
    refine goes_cut [Ent.t 1 (VA.ptr 1 0), Ent.t 3 (VA.k (kint .i64) v1.1), Ent.t 6 (VA.k kbool v3.1), Ent.t 8 (VA.ptr 8 0), Ent.t 10 (VA.k kbool s16), Ent.h 1 (HE.box 29 kLaw13Case a0), Ent.h 8 (HE.box 47 kFile v14.1)] ?_ ?_
    · replace H := h17; clear h17
      refine goes_region ?_
      refine go1 (op_fieldAddr rfl Try.underlying29 rfl tk24 (.t (has rfl))) rfl ?_
      refine go1 (op_fieldAddr rfl Try.underlying24 rfl tk4 (.t (has rfl))) rfl ?_
      refine go1 (op_load rfl (Fld.comp fldLaw13Case_N fldNode_Phony) tk4 (.t (has rfl)) (has rfl)) rfl ?_
      refine go1 (op_not rfl (.t (has rfl))) rfl ?_
      refine go1 (op_move rfl (.t (has rfl))) rfl ?_
      refine goesO_split H (fun hb18 H => ?_) (fun hb18 H => ?_)
      · skip
        refine goG (op_move rfl (.t (has rfl))) rfl rfl rfl rfl hb18 ?_
        refine go1 (op_pick_t rfl hb18 (.t (has rfl)) (.t (has rfl))) rfl ?_
        refine go1 (op_assign rfl (.t (has rfl))) rfl ?_
        refine goesO_nil ?_
        obtain rfl := Option.some.inj H
        exact ends_cut (.cons rfl (.cons rfl (.cons rfl (.cons rfl (.cons rfl (.cons rfl (.cons rfl .nil)))))))
      · skip
        refine goS rfl rfl rfl rfl rfl rfl hb18 ?_
        refine go1 (op_pick_f rfl hb18 (.t (has rfl)) (.bool _)) rfl ?_
        refine go1 (op_assign rfl (.t (has rfl))) rfl ?_
        refine goesO_nil ?_
        obtain rfl := Option.some.inj H
        exact ends_cut (.cons rfl (.cons rfl (.cons rfl (.cons rfl (.cons rfl (.cons rfl (.cons rfl .nil)))))))
    refine ends_then ?_
    refine goes_seq ?_
    refine goes_seq ?_
    refine goes_region ?_
    refine go1 (op_fieldAddr rfl Try.underlying29 rfl tk24 (.t (has rfl))) rfl ?_
    refine go1 (op_fieldAddr rfl Try.underlying24 rfl tk22 (.t (has rfl))) rfl ?_
    refine go1 (op_load rfl (Fld.comp fldLaw13Case_N fldNode_Needs) tk22 (.t (has rfl)) (has rfl)) rfl ?_
    refine go1 (op_len rfl rfl Try.underlying22 (.t (has rfl))) rfl ?_
    refine go1 (op_move rfl (.int _ _)) rfl ?_
    refine goesO_nil ?_
    refine ends_then ?_
    obtain ⟨s20, h21, H⟩ := bind_some H
    refine goes_cut [Ent.t 3 (VA.k (kint .i64) v1.1), Ent.t 6 (VA.k kbool v3.1), Ent.t 10 (VA.k kbool s20)] ?_ ?_
    · replace H := h21; clear h21
      refine goes_block ?_
      refine goes_loop (fun s19 : Bool × Int => [Ent.t 1 (VA.ptr 1 0), Ent.t 3 (VA.k (kint .i64) v1.1), Ent.t 6 (VA.k kbool v3.1), Ent.t 8 (VA.ptr 8 0), Ent.t 10 (VA.k kbool s19.1), Ent.t 66 (VA.k (kslice kstr) a0.N.Needs), Ent.t 67 (VA.k (kint .i64) (a0.N.Needs.length : Int)), Ent.t 68 (VA.k (kint .i64) s19.2), Ent.h 1 (HE.box 29 kLaw13Case a0), Ent.h 8 (HE.box 47 kFile v14.1)]) (fun k s19 => smithylaw13_StaleFresh.l0 a0 v14 k s19) (fun _ => rfl) H (.cons rfl (.cons rfl (.cons rfl (.cons rfl (.cons rfl (.cons rfl (.cons rfl (.cons rfl (.cons rfl (.cons rfl .nil)))))))))) ?_
      intro k s19 H
      simp only [smithylaw13_StaleFresh.l0] at H
      refine goes_seq ?_
      refine goes_region ?_
      refine go1 (op_icmp rfl rfl (.t (has rfl)) (.t (has rfl))) rfl ?_
      refine goesO_nil ?_
      refine ends_then ?_
      refine goes_seq ?_
      refine goes_if (.t (has rfl)) H (fun hb22 H => ?_) (fun hb22 H => ?_)
      · skip
        refine goes_skip ?_
        refine ends_then ?_
        refine goes_seq ?_
        refine goes_block ?_
        refine goes_seq ?_
        refine goes_region ?_
        obtain ⟨x23, h24, H⟩ := bind_some H
        refine go1 (op_indexAddr rfl Try.underlying22 tk9 h24 (.t (has rfl)) (.t (has rfl))) rfl ?_
        refine go1 (op_loadp rfl tk9 (.t (has rfl))) rfl ?_
        refine go1 (op_assign rfl (.t (has rfl))) rfl ?_
        refine goesO_nil ?_
        refine ends_then ?_
        refine goes_seq ?_
        refine goes_region ?_
        refine go1 (op_fieldAddr rfl Try.underlying29 rfl tk27 (.t (has rfl))) rfl ?_
        refine go1 (op_load rfl fldLaw13Case_D tk27 (.t (has rfl)) (has rfl)) rfl ?_
        refine go1 (op_move rfl (.t (has rfl))) rfl ?_
        obtain ⟨v25, h26, H⟩ := bind_some H
        refine goN (op_calls' rfl enters16 (smithyref13_File.con _ _ _ _ h26) rfl rfl (.cons (ArgP.k (.t (has rfl))) (.cons (ArgP.k (.t (has rfl))) .nil))) rfl ?_
        refine go1 (op_same (.inl rfl) rfl rfl) rfl ?_
        refine go1 (op_extract_same rfl plain_k (has rfl) (has rfl)) rfl ?_
        refine go1 (op_extract_same rfl plain_k (has rfl) (has rfl)) rfl ?_
        refine go3 (op_alloc 13 rfl zk47) rfl ?_
        refine go1 (op_store (Fld.whole kFile) tk47 (.t (has rfl)) (has rfl) (.t (has rfl))) rfl ?_
        refine go1 (op_assign rfl (.t (has rfl))) rfl ?_
        refine goesO_nil ?_
        refine ends_then ?_
        obtain ⟨s27, h28, H⟩ := bind_some H
        refine goes_cut [Ent.t 1 (VA.ptr 1 0), Ent.t 3 (VA.k (kint .i64) v1.1), Ent.t 6 (VA.k kbool v3.1), Ent.t 8 (VA.ptr 8 0), Ent.t 10 (VA.k kbool s27), Ent.t 66 (VA.k (kslice kstr) a0.N.Needs), Ent.t 67 (VA.k (kint .i64) (a0.N.Needs.length : Int)), Ent.t 68 (VA.k (kint .i64) s19.2), Ent.h 1 (HE.box 29 kLaw13Case a0), Ent.h 8 (HE.box 47 kFile v14.1)] ?_ ?_
        · replace H := h28; clear h28
          refine goes_region ?_
          refine go1 (op_move rfl (.t (has rfl))) rfl ?_
          refine go1 (op_move rfl (.t (has rfl))) rfl ?_
          refine goesO_split H (fun hb29 H => ?_) (fun hb29 H => ?_)
          · skip
            refine goG (op_move rfl (.t (has rfl))) rfl rfl rfl rfl hb29 ?_
            refine go1 (op_pick_t rfl hb29 (.t (has rfl)) (.t (has rfl))) rfl ?_
            refine go1 (op_move rfl (.t (has rfl))) rfl ?_
            refine goesO_split H (fun hb30 H => ?_) (fun hb30 H => ?_)
            · skip
              refine goG (op_fieldAddr rfl Try.underlying47 rfl tk3 (.t (has rfl))) rfl rfl rfl rfl hb30 ?_
              refine goG (op_load rfl fldFile_Stamp tk3 (.t (has rfl)) (has rfl)) rfl rfl rfl rfl hb30 ?_
              refine goG (op_fieldAddr rfl Try.underlying47 rfl tk3 (.t (has rfl))) rfl rfl rfl rfl hb30 ?_
              refine goG (op_load rfl fldFile_Stamp tk3 (.t (has rfl)) (has rfl)) rfl rfl rfl rfl hb30 ?_
              refine goG (op_icmp rfl rfl (.t (has rfl)) (.t (has rfl))) rfl rfl rfl rfl hb30 ?_
              refine go1 (op_pick_t rfl hb30 (.t (has rfl)) (.t (has rfl))) rfl ?_
              refine go1 (op_move rfl (.t (has rfl))) rfl ?_
              refine goesO_split H (fun hb31 H => ?_) (fun hb31 H => ?_)
              · skip
                refine goG (op_fieldAddr rfl Try.underlying29 rfl tk22 (.t (has rfl))) rfl rfl rfl rfl hb31 ?_
                refine goG (op_load rfl fldLaw13Case_Made tk22 (.t (has rfl)) (has rfl)) rfl rfl rfl rfl hb31 ?_
                refine goG (op_move rfl (.t (has rfl))) rfl rfl rfl rfl hb31 ?_
                obtain ⟨v32, h33, H⟩ := bind_some H
                refine goG (op_call' rfl enters17 (smithyref03_Has.con _ _ _ _ h33) rfl (.cons (ArgP.k (.t (has rfl))) (.cons (ArgP.k (.t (has rfl))) .nil))) rfl rfl rfl rfl hb31 ?_
                refine goG (op_not rfl (.t (has rfl))) rfl rfl rfl rfl hb31 ?_
                refine go1 (op_pick_t rfl hb31 (.t (has rfl)) (.t (has rfl))) rfl ?_
                refine go1 (op_assign rfl (.t (has rfl))) rfl ?_
                refine goesO_nil ?_
                obtain rfl := Option.some.inj H
                exact ends_cut (.cons rfl (.cons rfl (.cons rfl (.cons rfl (.cons rfl (.cons rfl (.cons rfl (.cons rfl (.cons rfl (.cons rfl .nil))))))))))
              · skip
                refine goS rfl rfl rfl rfl rfl rfl hb31 ?_
                refine goS rfl rfl rfl rfl rfl rfl hb31 ?_
                refine goS rfl rfl rfl rfl rfl rfl hb31 ?_
                refine goS rfl rfl rfl rfl rfl rfl hb31 ?_
                refine goS rfl rfl rfl rfl rfl rfl hb31 ?_
                refine go1 (op_pick_f rfl hb31 (.t (has rfl)) (.bool _)) rfl ?_
                refine go1 (op_assign rfl (.t (has rfl))) rfl ?_
                refine goesO_nil ?_
                obtain rfl := Option.some.inj H
                exact ends_cut (.cons rfl (.cons rfl (.cons rfl (.cons rfl (.cons rfl (.cons rfl (.cons rfl (.cons rfl (.cons rfl (.cons rfl .nil))))))))))
            · skip
              refine goS rfl rfl rfl rfl rfl rfl hb30 ?_
              refine goS rfl rfl rfl rfl rfl rfl hb30 ?_
              refine goS rfl rfl rfl rfl rfl rfl hb30 ?_
              refine goS rfl rfl rfl rfl rfl rfl hb30 ?_
              refine goS rfl rfl rfl rfl rfl rfl hb30 ?_
              refine go1 (op_pick_f rfl hb30 (.t (has rfl)) (.bool _)) rfl ?_
              refine go1 (op_move rfl (.t (has rfl))) rfl ?_
              refine goS rfl rfl rfl rfl rfl rfl rfl ?_
              refine goS rfl rfl rfl rfl rfl rfl rfl ?_
              refine goS rfl rfl rfl rfl rfl rfl rfl ?_
              refine goS rfl rfl rfl rfl rfl rfl rfl ?_
              refine goS rfl rfl rfl rfl rfl rfl rfl ?_
              refine go1 (op_pick_f rfl rfl (.t (has rfl)) (.bool _)) rfl ?_
              refine go1 (op_assign rfl (.t (has rfl))) rfl ?_
              refine goesO_nil ?_
              obtain rfl := Option.some.inj H
              exact ends_cut (.cons rfl (.cons rfl (.cons rfl (.cons rfl (.cons rfl (.cons rfl (.cons rfl (.cons rfl (.cons rfl (.cons rfl .nil))))))))))
          · skip
            refine goS rfl rfl rfl rfl rfl rfl hb29 ?_
            refine go1 (op_pick_f rfl hb29 (.t (has rfl)) (.bool _)) rfl ?_
            refine go1 (op_move rfl (.t (has rfl))) rfl ?_
            refine goS rfl rfl rfl rfl rfl rfl rfl ?_
            refine goS rfl rfl rfl rfl rfl rfl rfl ?_
            refine goS rfl rfl rfl rfl rfl rfl rfl ?_
            refine goS rfl rfl rfl rfl rfl rfl rfl ?_
            refine goS rfl rfl rfl rfl rfl rfl rfl ?_
            refine go1 (op_pick_f rfl rfl (.t (has rfl)) (.bool _)) rfl ?_
            refine go1 (op_move rfl (.t (has rfl))) rfl ?_
            refine goS rfl rfl rfl rfl rfl rfl rfl ?_
            refine goS rfl rfl rfl rfl rfl rfl rfl ?_
            refine goS rfl rfl rfl rfl rfl rfl rfl ?_
            refine goS rfl rfl rfl rfl rfl rfl rfl ?_
            refine goS rfl rfl rfl rfl rfl rfl rfl ?_
            refine go1 (op_pick_f rfl rfl (.t (has rfl)) (.bool _)) rfl ?_
            refine go1 (op_assign rfl (.t (has rfl))) rfl ?_
            refine goesO_nil ?_
            obtain rfl := Option.some.inj H
            exact ends_cut (.cons rfl (.cons rfl (.cons rfl (.cons rfl (.cons rfl (.cons rfl (.cons rfl (.cons rfl (.cons rfl (.cons rfl .nil))))))))))
        refine ends_block ?_
        refine ends_then ?_
        refine goes_region ?_
        refine go1 (op_add rfl (.t (has rfl)) (.int _ _)) rfl ?_
        refine go1 (op_move rfl (.t (has rfl))) rfl ?_
        refine goesO_nil ?_
        exact loop_next _ H (.cons rfl (.cons rfl (.cons rfl (.cons rfl (.cons rfl (.cons rfl (.cons rfl (.cons rfl (.cons rfl (.cons rfl .nil))))))))))
      · skip
        refine goes_exit (ends_then_exit (ends_then_exit (ends_block_exit ?_)))
        obtain rfl := Option.some.inj H
        exact ends_cut (.cons rfl (.cons rfl (.cons rfl .nil)))
    refine ends_then ?_
    refine goes_seq ?_
    obtain ⟨s34, h35, H⟩ := bind_some H
    refine goes_cut [Ent.t 2 (VA.k kbool s34)] ?_ ?_
    · replace H := h35; clear h35
      refine goes_region ?_
      refine go1 (op_move rfl (.t (has rfl))) rfl ?_
      refine go1 (op_move rfl (.t (has rfl))) rfl ?_
      refine go1 (op_not rfl (.t (has rfl))) rfl ?_
      refine go1 (op_beq rfl Try.underlying4 (.t (has rfl)) (.t (has rfl))) rfl ?_
      refine go1 (op_move rfl (.t (has rfl))) rfl ?_
      refine goesO_split H (fun hb36 H => ?_) (fun hb36 H => ?_)
      · skip
        refine goG (op_move rfl (.t (has rfl))) rfl rfl rfl rfl hb36 ?_
        refine goG (op_icmp rfl rfl (.t (has rfl)) (.int _ _)) rfl rfl rfl rfl hb36 ?_
        refine goG (op_move rfl (.t (has rfl))) rfl rfl rfl rfl hb36 ?_
        refine goG (op_beq rfl Try.underlying4 (.t (has rfl)) (.t (has rfl))) rfl rfl rfl rfl hb36 ?_
        refine go1 (op_pick_t rfl hb36 (.t (has rfl)) (.t (has rfl))) rfl ?_
        refine go1 (op_move rfl (.t (has rfl))) rfl ?_
        refine goesO_split H (fun hb37 H => ?_) (fun hb37 H => ?_)
        · skip
          obtain ⟨v38, h39, H⟩ := bind_some H
          refine goG (op_call' rfl enters15 (smithylaw13_small.con _  _ h39) rfl .nil) rfl rfl rfl rfl hb37 ?_
          refine go1 (op_pick_t rfl hb37 (.t (has rfl)) (.t (has rfl))) rfl ?_
          refine go1 (op_assign rfl (.t (has rfl))) rfl ?_
          refine goesO_nil ?_
          obtain rfl := Option.some.inj H
          exact ends_cut (.cons rfl .nil)
        · skip
          refine goS rfl rfl rfl rfl rfl rfl hb37 ?_
          refine go1 (op_pick_f rfl hb37 (.t (has rfl)) (.bool _)) rfl ?_
          refine go1 (op_assign rfl (.t (has rfl))) rfl ?_
          refine goesO_nil ?_
          obtain rfl := Option.some.inj H
          exact ends_cut (.cons rfl .nil)
      · skip
        refine goS rfl rfl rfl rfl rfl rfl hb36 ?_
        refine goS rfl rfl rfl rfl rfl rfl hb36 ?_
        refine goS rfl rfl rfl rfl rfl rfl hb36 ?_
        refine goS rfl rfl rfl rfl rfl rfl hb36 ?_
        refine go1 (op_pick_f rfl hb36 (.t (has rfl)) (.bool _)) rfl ?_
        refine go1 (op_move rfl (.t (has rfl))) rfl ?_
        refine goS rfl rfl rfl rfl rfl rfl rfl ?_
        refine go1 (op_pick_f rfl rfl (.t (has rfl)) (.bool _)) rfl ?_
        refine go1 (op_assign rfl (.t (has rfl))) rfl ?_
        refine goesO_nil ?_
        obtain rfl := Option.some.inj H
        exact ends_cut (.cons rfl .nil)
    refine ends_then ?_
    obtain rfl := Option.some.inj H
    exact goes_ret (ends_ret' rfl rfl (.t rfl (.nil _)))
theorem smithylaw13_StaleFresh.conF (k : Nat) (a0 : Law13Case) (r : Bool) (H : smithylaw13_StaleFresh.f k a0 = some r) : ConF Try.prog 4 [VA.k kLaw13Case a0] [VA.k kbool r] := (smithylaw13_StaleFresh.con k a0 r H).freeL (.cons (KFree.k KFree.bool _) .nil)
end Go.Proofs.Ytoemgemfgaooeaa.F
