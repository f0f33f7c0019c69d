import Derived.Test.YtoemgemfgaooeaaFWx3
set_option linter.unusedVariables false
set_option linter.unusedSimpArgs false
set_option linter.unnecessarySimpa false
set_option linter.deprecated false
namespace Go.Proofs.Ytoemgemfgaooeaa.F
open Go Go.RowKit Go.Proofs.Ytoemgemfgaooeaa.Sl
/-! smithy/stale.newer$1 -/
def stale_newer_1.f (k : Nat) (a0 : ByteArray) (c0 : Disk) (c1 : Bool) (c2 : File) (c3 : List ByteArray) : Option Bool := (stale_file.f k c0 a0).bind fun v1 => (bif c1 then (bif v1.2 then (bif icmp .leq v1.1.Stamp c2.Stamp then ((slices_Contains_string_string.f k c3 a0).bind fun v8 => some (!v8)) else (some false)) else (some false)) else (some false)).bind fun s3 => some s3
set_option maxRecDepth 100000 in
set_option maxHeartbeats 4000000 in
theorem stale_newer_1.con (k : Nat) (a0 : ByteArray) (c0 : Disk) (c1 : Bool) (c2 : File) (c3 : List ByteArray) (r : Bool) (H : stale_newer_1.f k a0 c0 c1 c2 c3 = some r) : Con Try.prog 41 [VA.k kstr a0, VA.pt kDisk c0, VA.pt kbool c1, VA.pt kFile c2, VA.pt (kslice kstr) c3] [VA.k kbool r] := by
  unfold stale_newer_1.f at H
  refine con_enter Try.func41 rfl rfl rfl (fun w0 S0 θ => ?_)
  refine goes_seq ?_
  refine goes_region ?_
  refine go1 (op_assign rfl (.bool _)) rfl ?_
  refine goesO_nil ?_
  refine ends_then ?_
  refine goes_seq ?_
  refine goes_region ?_
  refine go1 (op_loadp rfl tk27 (.t (has rfl))) rfl ?_
  refine go1 (op_move rfl (.t (has rfl))) rfl ?_
  obtain ⟨v1, h2, H⟩ := bind_some H
  refine goN (op_calls' rfl enters40 (stale_file.con _ _ _ _ h2) rfl rfl (.cons (ArgP.k (.t (has rfl))) (.cons (ArgP.k (.t (has rfl))) .nil))) rfl ?_
  refine go1 (op_same (.inl rfl) rfl rfl) rfl ?_
  refine go1 (op_extract_same rfl plain_k (has rfl) (has rfl)) rfl ?_
  refine go1 (op_extract_same rfl plain_k (has rfl) (has rfl)) rfl ?_
  refine go3 (op_alloc 7 rfl zk47) rfl ?_
  refine go1 (op_store (Fld.whole kFile) tk47 (.t (has rfl)) (has rfl) (.t (has rfl))) rfl ?_
  refine go1 (op_assign rfl (.t (has rfl))) rfl ?_
  refine goesO_nil ?_
  refine ends_then ?_
  refine goes_seq ?_
  obtain ⟨s3, h4, H⟩ := bind_some H
  refine goes_cut [Ent.t 6 (VA.k kbool s3)] ?_ ?_
  · replace H := h4; clear h4
    refine goes_region ?_
    refine go1 (op_loadp rfl tk4 (.t (has rfl))) rfl ?_
    refine go1 (op_move rfl (.t (has rfl))) rfl ?_
    refine goesO_split H (fun hb5 H => ?_) (fun hb5 H => ?_)
    · skip
      refine goG (op_move rfl (.t (has rfl))) rfl rfl rfl rfl hb5 ?_
      refine go1 (op_pick_t rfl hb5 (.t (has rfl)) (.t (has rfl))) rfl ?_
      refine go1 (op_move rfl (.t (has rfl))) rfl ?_
      refine goesO_split H (fun hb6 H => ?_) (fun hb6 H => ?_)
      · skip
        refine goG (op_fieldAddr rfl Try.underlying47 rfl tk3 (.t (has rfl))) rfl rfl rfl rfl hb6 ?_
        refine goG (op_load rfl fldFile_Stamp tk3 (.t (has rfl)) (has rfl)) rfl rfl rfl rfl hb6 ?_
        refine goG (op_fieldAddrp rfl fldFile_Stamp Try.underlying47 rfl tk3 (.t (has rfl))) rfl rfl rfl rfl hb6 ?_
        refine goG (op_loadp rfl tk3 (.t (has rfl))) rfl rfl rfl rfl hb6 ?_
        refine goG (op_icmp rfl rfl (.t (has rfl)) (.t (has rfl))) rfl rfl rfl rfl hb6 ?_
        refine go1 (op_pick_t rfl hb6 (.t (has rfl)) (.t (has rfl))) rfl ?_
        refine go1 (op_move rfl (.t (has rfl))) rfl ?_
        refine goesO_split H (fun hb7 H => ?_) (fun hb7 H => ?_)
        · skip
          refine goG (op_loadp rfl tk22 (.t (has rfl))) rfl rfl rfl rfl hb7 ?_
          refine goG (op_move rfl (.t (has rfl))) rfl rfl rfl rfl hb7 ?_
          obtain ⟨v8, h9, H⟩ := bind_some H
          refine goG (op_call' rfl enters42 (slices_Contains_string_string.con _ _ _ _ h9) rfl (.cons (ArgP.k (.t (has rfl))) (.cons (ArgP.k (.t (has rfl))) .nil))) rfl rfl rfl rfl hb7 ?_
          refine goG (op_not rfl (.t (has rfl))) rfl rfl rfl rfl hb7 ?_
          refine go1 (op_pick_t rfl hb7 (.t (has rfl)) (.t (has rfl))) rfl ?_
          refine go1 (op_assign rfl (.t (has rfl))) rfl ?_
          refine goesO_nil ?_
          obtain rfl := Option.some.inj H
          exact ends_cut (.cons rfl .nil)
        · skip
          refine goS rfl rfl rfl rfl rfl rfl hb7 ?_
          refine goS rfl rfl rfl rfl rfl rfl hb7 ?_
          refine goS rfl rfl rfl rfl rfl rfl hb7 ?_
          refine goS rfl rfl rfl rfl rfl rfl hb7 ?_
          refine go1 (op_pick_f rfl hb7 (.t (has rfl)) (.bool _)) rfl ?_
          refine go1 (op_assign rfl (.t (has rfl))) rfl ?_
          refine goesO_nil ?_
          obtain rfl := Option.some.inj H
          exact ends_cut (.cons rfl .nil)
      · skip
        refine goS rfl rfl rfl rfl rfl rfl hb6 ?_
        refine goS rfl rfl rfl rfl rfl rfl hb6 ?_
        refine goS rfl rfl rfl rfl rfl rfl hb6 ?_
        refine goS rfl rfl rfl rfl rfl rfl hb6 ?_
        refine goS rfl rfl rfl rfl rfl rfl hb6 ?_
        refine go1 (op_pick_f rfl hb6 (.t (has rfl)) (.bool _)) rfl ?_
        refine go1 (op_move rfl (.t (has rfl))) rfl ?_
        refine goS rfl rfl rfl rfl rfl rfl rfl ?_
        refine goS rfl rfl rfl rfl rfl rfl rfl ?_
        refine goS rfl rfl rfl rfl rfl rfl rfl ?_
        refine goS rfl rfl rfl rfl rfl rfl rfl ?_
        refine go1 (op_pick_f rfl rfl (.t (has rfl)) (.bool _)) rfl ?_
        refine go1 (op_assign rfl (.t (has rfl))) rfl ?_
        refine goesO_nil ?_
        obtain rfl := Option.some.inj H
        exact ends_cut (.cons rfl .nil)
    · skip
      refine goS rfl rfl rfl rfl rfl rfl hb5 ?_
      refine go1 (op_pick_f rfl hb5 (.t (has rfl)) (.bool _)) rfl ?_
      refine go1 (op_move rfl (.t (has rfl))) rfl ?_
      refine goS rfl rfl rfl rfl rfl rfl rfl ?_
      refine goS rfl rfl rfl rfl rfl rfl rfl ?_
      refine goS rfl rfl rfl rfl rfl rfl rfl ?_
      refine goS rfl rfl rfl rfl rfl rfl rfl ?_
      refine goS rfl rfl rfl rfl rfl rfl rfl ?_
      refine go1 (op_pick_f rfl rfl (.t (has rfl)) (.bool _)) rfl ?_
      refine go1 (op_move rfl (.t (has rfl))) rfl ?_
      refine goS rfl rfl rfl rfl rfl rfl rfl ?_
      refine goS rfl rfl rfl rfl rfl rfl rfl ?_
      refine goS rfl rfl rfl rfl rfl rfl rfl ?_
      refine goS rfl rfl rfl rfl rfl rfl rfl ?_
      refine go1 (op_pick_f rfl rfl (.t (has rfl)) (.bool _)) rfl ?_
      refine go1 (op_assign rfl (.t (has rfl))) rfl ?_
      refine goesO_nil ?_
      obtain rfl := Option.some.inj H
      exact ends_cut (.cons rfl .nil)
  refine ends_then ?_
  obtain rfl := Option.some.inj H
  exact goes_ret (ends_ret' rfl rfl (.t rfl (.nil _)))
theorem stale_newer_1.conF (k : Nat) (a0 : ByteArray) (c0 : Disk) (c1 : Bool) (c2 : File) (c3 : List ByteArray) (r : Bool) (H : stale_newer_1.f k a0 c0 c1 c2 c3 = some r) : ConF Try.prog 41 [VA.k kstr a0, VA.pt kDisk c0, VA.pt kbool c1, VA.pt kFile c2, VA.pt (kslice kstr) c3] [VA.k kbool r] := (stale_newer_1.con k a0 c0 c1 c2 c3 r H).freeL (.cons (KFree.k KFree.bool _) .nil)
/-! smithy/stale.newer -/
def stale_newer.f (k : Nat) (a0 : Node) (a1 : Disk) (a2 : List ByteArray) : Option (List ByteArray) := (stale_file.f k a1 a0.Target).bind fun v1 => (slices_Clone_string_string.f a0.Needs).bind fun v3 => (slices_DeleteFunc_string_string.f k v3 (fun (z0 : ByteArray) => stale_newer_1.f k z0 a1 v1.2 v1.1 a2)).bind fun v5 => some v5
set_option maxRecDepth 100000 in
set_option maxHeartbeats 4000000 in
theorem stale_newer.con (k : Nat) (a0 : Node) (a1 : Disk) (a2 : List ByteArray) (r : List ByteArray) (H : stale_newer.f k a0 a1 a2 = some r) : Con Try.prog 23 [VA.k kNode a0, VA.k kDisk a1, VA.k (kslice kstr) a2] [VA.own 9 kstr r] := by
  unfold stale_newer.f at H
  refine con_enter Try.func23 rfl rfl rfl (fun w0 S0 θ => ?_)
  refine goes_seq ?_
  refine goes_region ?_
  refine go3 (op_box 3 rfl (fun h => by first | rfl | cases h) (.t (has rfl))) rfl ?_
  refine go3 (op_box 4 rfl (fun h => by first | rfl | cases h) (.t (has rfl))) rfl ?_
  refine go3 (op_box 5 rfl (fun h => by first | rfl | cases h) (.t (has rfl))) rfl ?_
  refine go1 (op_assign_nil 9 kstr (.inr rfl) rfl) rfl ?_
  refine goesO_nil ?_
  refine ends_then ?_
  refine goes_seq ?_
  refine goes_region ?_
  refine go1 (op_load rfl (Fld.whole kDisk) tk27 (.t (has rfl)) (has rfl)) rfl ?_
  refine go1 (op_fieldAddr rfl Try.underlying24 rfl tk9 (.t (has rfl))) rfl ?_
  refine go1 (op_load rfl fldNode_Target tk9 (.t (has rfl)) (has rfl)) rfl ?_
  obtain ⟨v1, h2, H⟩ := bind_some H
  refine goN (op_calls' rfl enters40 (stale_file.con _ _ _ _ h2) rfl rfl (.cons (ArgP.k (.t (has rfl))) (.cons (ArgP.k (.t (has rfl))) .nil))) rfl ?_
  refine go1 (op_same (.inl rfl) rfl rfl) rfl ?_
  refine go1 (op_extract_same rfl plain_k (has rfl) (has rfl)) rfl ?_
  refine go1 (op_extract_same rfl plain_k (has rfl) (has rfl)) rfl ?_
  refine go3 (op_alloc 7 rfl zk47) rfl ?_
  refine go3 (op_alloc 8 rfl zk4) rfl ?_
  refine go1 (op_store (Fld.whole kFile) tk47 (.t (has rfl)) (has rfl) (.t (has rfl))) rfl ?_
  refine go1 (op_store (Fld.whole kbool) tk4 (.t (has rfl)) (has rfl) (.t (has rfl))) rfl ?_
  refine goesO_nil ?_
  refine ends_then ?_
  refine goes_seq ?_
  refine goes_region ?_
  refine go1 (op_fieldAddr rfl Try.underlying24 rfl tk22 (.t (has rfl))) rfl ?_
  refine go1 (op_load rfl fldNode_Needs tk22 (.t (has rfl)) (has rfl)) rfl ?_
  obtain ⟨v3, h4, H⟩ := bind_some H
  refine go1 (op_call' rfl enters34 (slices_Clone_string_string.con _ _ h4) rfl (.cons (ArgP.k (.t (has rfl))) .nil)) rfl ?_
  refine go1 (op_makeFunc (ys := []) (xs := [4, 8, 7, 5]) rfl rfl rfl rfl) rfl ?_
  refine goesO_number 18 900 rfl rfl rfl ?_
  obtain ⟨v5, h6, H⟩ := bind_some H
  refine goN (op_callEF [5000900] [] rfl enters33 (slices_DeleteFunc_string_string.conF 41 ([]) ([VA.pt kDisk a1, VA.pt kbool v1.2, VA.pt kFile v1.1, VA.pt (kslice kstr) a2]) _ _ (fun (z0 : ByteArray) => stale_newer_1.f k z0 a1 v1.2 v1.1 a2) enters41 (fun z0 r h => stale_newer_1.con _ z0 a1 v1.2 v1.1 a2 r h) _ h6) rfl (.cons (has rfl) .nil) (.cons (ArgR.a plain_rw (.t (NR.mk (has rfl) rfl))) (.cons (ArgR.mf rfl rfl (NR.mk (has rfl) rfl) .nil (.cons (ArgR.ptk (get := fun x => x) (y := a1) (Fld.whole kDisk) (.t (NR.mk (has rfl) rfl)) (NR.mk (has rfl) rfl)) (.cons (ArgR.ptk (get := fun x => x) (y := v1.2) (Fld.whole kbool) (.t (NR.mk (has rfl) rfl)) (NR.mk (has rfl) rfl)) (.cons (ArgR.ptk (get := fun x => x) (y := v1.1) (Fld.whole kFile) (.t (NR.mk (has rfl) rfl)) (NR.mk (has rfl) rfl)) (.cons (ArgR.ptk (get := fun x => x) (y := a2) (Fld.whole (kslice kstr)) (.t (NR.mk (has rfl) rfl)) (NR.mk (has rfl) rfl)) .nil))))) .nil))) rfl ?_
  refine go2 (op_mv (.inr rfl) rfl rfl (has rfl)) rfl ?_
  refine goesO_nil ?_
  refine ends_then ?_
  obtain rfl := Option.some.inj H
  exact goes_ret (ends_ret' rfl rfl (.t rfl (.nil _)))
theorem stale_newer.conF (k : Nat) (a0 : Node) (a1 : Disk) (a2 : List ByteArray) (r : List ByteArray) (H : stale_newer.f k a0 a1 a2 = some r) : ConF Try.prog 23 [VA.k kNode a0, VA.k kDisk a1, VA.k (kslice kstr) a2] [VA.own 9 kstr r] := (stale_newer.con k a0 a1 a2 r H).freeL (.cons (KFree.own KFree.str _ _) .nil)
/-! smithy/stale.Newer -/
def stale_Newer.f (k : Nat) (a0 : Node) (a1 : Disk) (a2 : List ByteArray) : Option ((List ByteArray) × Int) := (stale_fit.f k a0 a1 a2).bind fun v1 => bif icmp .neq v1 (0 : Int) then (some (([] : List ByteArray), v1)) else ((stale_newer.f k a0 a1 a2).bind fun v4 => some (v4, (0 : Int)))
set_option maxRecDepth 100000 in
set_option maxHeartbeats 4000000 in
theorem stale_Newer.con (k : Nat) (a0 : Node) (a1 : Disk) (a2 : List ByteArray) (r : (List ByteArray) × Int) (H : stale_Newer.f k a0 a1 a2 = some r) : Con Try.prog 8 [VA.k kNode a0, VA.k kDisk a1, VA.k (kslice kstr) a2] [VA.own 9 kstr r.1, VA.k (kint .i64) r.2] := by
  unfold stale_Newer.f at H
  refine con_enter Try.func8 rfl rfl rfl (fun w0 S0 θ => ?_)
  refine goes_seq ?_
  refine goes_region ?_
  refine go3 (op_box 3 rfl (fun h => by first | rfl | cases h) (.t (has rfl))) rfl ?_
  refine go3 (op_box 4 rfl (fun h => by first | rfl | cases h) (.t (has rfl))) rfl ?_
  refine go1 (op_assign_nil 9 kstr (.inr rfl) rfl) rfl ?_
  refine go1 (op_assign rfl (.int _ _)) rfl ?_
  refine goesO_nil ?_
  refine ends_then ?_
  refine goes_seq ?_
  refine goes_seq ?_
  refine goes_region ?_
  refine go1 (op_load rfl (Fld.whole kNode) tk24 (.t (has rfl)) (has rfl)) rfl ?_
  refine go1 (op_load rfl (Fld.whole kDisk) tk27 (.t (has rfl)) (has rfl)) rfl ?_
  refine go1 (op_move rfl (.t (has rfl))) rfl ?_
  obtain ⟨v1, h2, H⟩ := bind_some H
  refine go1 (op_call' rfl enters22 (stale_fit.con _ _ _ _ _ h2) rfl (.cons (ArgP.k (.t (has rfl))) (.cons (ArgP.k (.t (has rfl))) (.cons (ArgP.k (.t (has rfl))) .nil)))) rfl ?_
  refine go1 (op_assign rfl (.t (has rfl))) rfl ?_
  refine goesO_nil ?_
  refine ends_then ?_
  refine goes_seq ?_
  refine goes_region ?_
  refine go1 (op_move rfl (.t (has rfl))) rfl ?_
  refine go1 (op_icmp rfl rfl (.t (has rfl)) (.int _ _)) rfl ?_
  refine goesO_nil ?_
  refine ends_then ?_
  refine goes_if (.t (has rfl)) H (fun hb3 H => ?_) (fun hb3 H => ?_)
  · skip
    refine goes_seq ?_
    refine goes_region ?_
    refine go1 (op_move rfl (.t (has rfl))) rfl ?_
    refine go1 (op_assign_nil 9 kstr (.inr rfl) rfl) rfl ?_
    refine go1 (op_assign rfl (.t (has rfl))) rfl ?_
    refine goesO_nil ?_
    refine ends_then ?_
    obtain rfl := Option.some.inj H
    exact goes_ret (ends_then_ret (ends_ret' rfl rfl (.t rfl (.t rfl (.nil _)))))
  · skip
    refine goes_skip ?_
    refine ends_then ?_
    refine goes_seq ?_
    refine goes_region ?_
    refine go1 (op_load rfl (Fld.whole kNode) tk24 (.t (has rfl)) (has rfl)) rfl ?_
    refine go1 (op_load rfl (Fld.whole kDisk) tk27 (.t (has rfl)) (has rfl)) rfl ?_
    refine go1 (op_move rfl (.t (has rfl))) rfl ?_
    obtain ⟨v4, h5, H⟩ := bind_some H
    refine go1 (op_call' rfl enters23 (stale_newer.con _ _ _ _ _ h5) rfl (.cons (ArgP.k (.t (has rfl))) (.cons (ArgP.k (.t (has rfl))) (.cons (ArgP.k (.t (has rfl))) .nil)))) rfl ?_
    refine go2 (op_mv (.inr rfl) rfl rfl (has rfl)) rfl ?_
    refine go1 (op_assign rfl (.int _ _)) rfl ?_
    refine goesO_nil ?_
    refine ends_then ?_
    obtain rfl := Option.some.inj H
    exact goes_ret (ends_ret' rfl rfl (.t rfl (.t rfl (.nil _))))
theorem stale_Newer.conF (k : Nat) (a0 : Node) (a1 : Disk) (a2 : List ByteArray) (r : (List ByteArray) × Int) (H : stale_Newer.f k a0 a1 a2 = some r) : ConF Try.prog 8 [VA.k kNode a0, VA.k kDisk a1, VA.k (kslice kstr) a2] [VA.own 9 kstr r.1, VA.k (kint .i64) r.2] := (stale_Newer.con k a0 a1 a2 r H).freeL (.cons (KFree.own KFree.str _ _) (.cons (KFree.k (KFree.int .i64) _) .nil))
/-! smithy/stale.Why -/
def stale_Why.f (k : Nat) (a0 : Node) (a1 : Disk) (a2 : List ByteArray) : Option (Int × ByteArray × Int) := (stale_fit.f k a0 a1 a2).bind fun v1 => bif icmp .neq v1 (0 : Int) then (some ((0 : Int), (⟨#[]⟩ : ByteArray), v1)) else ((stale_why.f k a0 a1 a2).bind fun v4 => some (v4.1, v4.2, (0 : Int)))
set_option maxRecDepth 100000 in
set_option maxHeartbeats 4000000 in
theorem stale_Why.con (k : Nat) (a0 : Node) (a1 : Disk) (a2 : List ByteArray) (r : Int × ByteArray × Int) (H : stale_Why.f k a0 a1 a2 = some r) : Con Try.prog 12 [VA.k kNode a0, VA.k kDisk a1, VA.k (kslice kstr) a2] [VA.k (kint .i64) r.1, VA.k kstr r.2.1, VA.k (kint .i64) r.2.2] := by
  unfold stale_Why.f at H
  refine con_enter Try.func12 rfl rfl rfl (fun w0 S0 θ => ?_)
  refine goes_seq ?_
  refine goes_region ?_
  refine go3 (op_box 3 rfl (fun h => by first | rfl | cases h) (.t (has rfl))) rfl ?_
  refine go3 (op_box 4 rfl (fun h => by first | rfl | cases h) (.t (has rfl))) rfl ?_
  refine go1 (op_assign rfl (.int _ _)) rfl ?_
  refine go1 (op_assign rfl (.str _)) rfl ?_
  refine go1 (op_assign rfl (.int _ _)) rfl ?_
  refine goesO_nil ?_
  refine ends_then ?_
  refine goes_seq ?_
  refine goes_seq ?_
  refine goes_region ?_
  refine go1 (op_load rfl (Fld.whole kNode) tk24 (.t (has rfl)) (has rfl)) rfl ?_
  refine go1 (op_load rfl (Fld.whole kDisk) tk27 (.t (has rfl)) (has rfl)) rfl ?_
  refine go1 (op_move rfl (.t (has rfl))) rfl ?_
  obtain ⟨v1, h2, H⟩ := bind_some H
  refine go1 (op_call' rfl enters22 (stale_fit.con _ _ _ _ _ h2) rfl (.cons (ArgP.k (.t (has rfl))) (.cons (ArgP.k (.t (has rfl))) (.cons (ArgP.k (.t (has rfl))) .nil)))) rfl ?_
  refine go1 (op_assign rfl (.t (has rfl))) rfl ?_
  refine goesO_nil ?_
  refine ends_then ?_
  refine goes_seq ?_
  refine goes_region ?_
  refine go1 (op_move rfl (.t (has rfl))) rfl ?_
  refine go1 (op_icmp rfl rfl (.t (has rfl)) (.int _ _)) rfl ?_
  refine goesO_nil ?_
  refine ends_then ?_
  refine goes_if (.t (has rfl)) H (fun hb3 H => ?_) (fun hb3 H => ?_)
  · skip
    refine goes_seq ?_
    refine goes_region ?_
    refine go1 (op_move rfl (.t (has rfl))) rfl ?_
    refine go1 (op_assign rfl (.int _ _)) rfl ?_
    refine go1 (op_assign rfl (.str _)) rfl ?_
    refine go1 (op_assign rfl (.t (has rfl))) rfl ?_
    refine goesO_nil ?_
    refine ends_then ?_
    obtain rfl := Option.some.inj H
    exact goes_ret (ends_then_ret (ends_ret' rfl rfl (.t rfl (.t rfl (.t rfl (.nil _))))))
  · skip
    refine goes_skip ?_
    refine ends_then ?_
    refine goes_seq ?_
    refine goes_region ?_
    refine go1 (op_load rfl (Fld.whole kNode) tk24 (.t (has rfl)) (has rfl)) rfl ?_
    refine go1 (op_load rfl (Fld.whole kDisk) tk27 (.t (has rfl)) (has rfl)) rfl ?_
    refine go1 (op_move rfl (.t (has rfl))) rfl ?_
    obtain ⟨v4, h5, H⟩ := bind_some H
    refine goN (op_calls' rfl enters27 (stale_why.con _ _ _ _ _ h5) rfl rfl (.cons (ArgP.k (.t (has rfl))) (.cons (ArgP.k (.t (has rfl))) (.cons (ArgP.k (.t (has rfl))) .nil)))) rfl ?_
    refine go1 (op_same (.inl rfl) rfl rfl) rfl ?_
    refine go1 (op_extract_same rfl plain_k (has rfl) (has rfl)) rfl ?_
    refine go1 (op_extract_same rfl plain_k (has rfl) (has rfl)) rfl ?_
    refine go1 (op_assign rfl (.t (has rfl))) rfl ?_
    refine go1 (op_assign rfl (.t (has rfl))) rfl ?_
    refine goesO_nil ?_
    refine ends_then ?_
    refine goes_seq ?_
    refine goes_region ?_
    refine go1 (op_move rfl (.t (has rfl))) rfl ?_
    refine go1 (op_move rfl (.t (has rfl))) rfl ?_
    refine go1 (op_assign rfl (.t (has rfl))) rfl ?_
    refine go1 (op_assign rfl (.t (has rfl))) rfl ?_
    refine go1 (op_assign rfl (.int _ _)) rfl ?_
    refine goesO_nil ?_
    refine ends_then ?_
    obtain rfl := Option.some.inj H
    exact goes_ret (ends_ret' rfl rfl (.t rfl (.t rfl (.t rfl (.nil _)))))
theorem stale_Why.conF (k : Nat) (a0 : Node) (a1 : Disk) (a2 : List ByteArray) (r : Int × ByteArray × Int) (H : stale_Why.f k a0 a1 a2 = some r) : ConF Try.prog 12 [VA.k kNode a0, VA.k kDisk a1, VA.k (kslice kstr) a2] [VA.k (kint .i64) r.1, VA.k kstr r.2.1, VA.k (kint .i64) r.2.2] := (stale_Why.con k a0 a1 a2 r H).freeL (.cons (KFree.k (KFree.int .i64) _) (.cons (KFree.k KFree.str _) (.cons (KFree.k (KFree.int .i64) _) .nil)))
/-! smithy/stale.Is -/
def stale_Is.f (k : Nat) (a0 : Node) (a1 : Disk) (a2 : List ByteArray) : Option (Bool × Int) := (stale_Why.f k a0 a1 a2).bind fun v1 => some (icmp .neq v1.1 (0 : Int), v1.2.2)
set_option maxRecDepth 100000 in
set_option maxHeartbeats 4000000 in
theorem stale_Is.con (k : Nat) (a0 : Node) (a1 : Disk) (a2 : List ByteArray) (r : Bool × Int) (H : stale_Is.f k a0 a1 a2 = some r) : Con Try.prog 10 [VA.k kNode a0, VA.k kDisk a1, VA.k (kslice kstr) a2] [VA.k kbool r.1, VA.k (kint .i64) r.2] := by
  unfold stale_Is.f at H
  refine con_enter Try.func10 rfl rfl rfl (fun w0 S0 θ => ?_)
  refine goes_seq ?_
  refine goes_region ?_
  refine go3 (op_box 3 rfl (fun h => by first | rfl | cases h) (.t (has rfl))) rfl ?_
  refine go3 (op_box 4 rfl (fun h => by first | rfl | cases h) (.t (has rfl))) rfl ?_
  refine go1 (op_assign rfl (.bool _)) rfl ?_
  refine go1 (op_assign rfl (.int _ _)) rfl ?_
  refine goesO_nil ?_
  refine ends_then ?_
  refine goes_seq ?_
  refine goes_region ?_
  refine go1 (op_load rfl (Fld.whole kNode) tk24 (.t (has rfl)) (has rfl)) rfl ?_
  refine go1 (op_load rfl (Fld.whole kDisk) tk27 (.t (has rfl)) (has rfl)) rfl ?_
  refine go1 (op_move rfl (.t (has rfl))) rfl ?_
  obtain ⟨v1, h2, H⟩ := bind_some H
  refine goN (op_calls' rfl enters12 (stale_Why.con _ _ _ _ _ h2) rfl rfl (.cons (ArgP.k (.t (has rfl))) (.cons (ArgP.k (.t (has rfl))) (.cons (ArgP.k (.t (has rfl))) .nil)))) rfl ?_
  refine go1 (op_same (.inl rfl) rfl rfl) rfl ?_
  refine go1 (op_extract_same rfl plain_k (has rfl) (has rfl)) rfl ?_
  refine go1 (op_extract_same rfl plain_k (has rfl) (has rfl)) rfl ?_
  refine go1 (op_extract_same rfl plain_k (has rfl) (has rfl)) rfl ?_
  refine go1 (op_assign rfl (.t (has rfl))) rfl ?_
  refine go1 (op_assign rfl (.t (has rfl))) rfl ?_
  refine go1 (op_assign rfl (.t (has rfl))) rfl ?_
  refine goesO_nil ?_
  refine ends_then ?_
  refine goes_seq ?_
  refine goes_region ?_
  refine go1 (op_move rfl (.t (has rfl))) rfl ?_
  refine go1 (op_icmp rfl rfl (.t (has rfl)) (.int _ _)) rfl ?_
  refine go1 (op_move rfl (.t (has rfl))) rfl ?_
  refine go1 (op_assign rfl (.t (has rfl))) rfl ?_
  refine go1 (op_assign rfl (.t (has rfl))) rfl ?_
  refine goesO_nil ?_
  refine ends_then ?_
  obtain rfl := Option.some.inj H
  exact goes_ret (ends_ret' rfl rfl (.t rfl (.t rfl (.nil _))))
theorem stale_Is.conF (k : Nat) (a0 : Node) (a1 : Disk) (a2 : List ByteArray) (r : Bool × Int) (H : stale_Is.f k a0 a1 a2 = some r) : ConF Try.prog 10 [VA.k kNode a0, VA.k kDisk a1, VA.k (kslice kstr) a2] [VA.k kbool r.1, VA.k (kint .i64) r.2] := (stale_Is.con k a0 a1 a2 r H).freeL (.cons (KFree.k KFree.bool _) (.cons (KFree.k (KFree.int .i64) _) .nil))
/-! smithy/smithylaw13.small -/
def smithylaw13_small.f (k : Nat) : Option Bool := (stale_Newer.f k (⟨(⟨#[116]⟩ : ByteArray), [(⟨#[97]⟩ : ByteArray), (⟨#[98]⟩ : ByteArray)], ([] : List ByteArray), false, ByteArray.empty, ByteArray.empty, false, false, false, false⟩ : Node) (⟨(9 : Int), [(⟨(⟨#[97]⟩ : ByteArray), ByteArray.empty, (3 : Int)⟩ : File), (⟨(⟨#[98]⟩ : ByteArray), ByteArray.empty, (7 : Int)⟩ : File), (⟨(⟨#[116]⟩ : ByteArray), ByteArray.empty, (5 : Int)⟩ : File)]⟩ : Disk) ([] : List ByteArray)).bind fun v1 => (stale_Why.f k (⟨(⟨#[116]⟩ : ByteArray), [(⟨#[97]⟩ : ByteArray), (⟨#[98]⟩ : ByteArray)], ([] : List ByteArray), false, ByteArray.empty, ByteArray.empty, false, false, false, false⟩ : Node) (⟨(9 : Int), [(⟨(⟨#[97]⟩ : ByteArray), ByteArray.empty, (3 : Int)⟩ : File), (⟨(⟨#[98]⟩ : ByteArray), ByteArray.empty, (7 : Int)⟩ : File), (⟨(⟨#[116]⟩ : ByteArray), ByteArray.empty, (5 : Int)⟩ : File)]⟩ : Disk) ([] : List ByteArray)).bind fun v3 => (stale_Is.f k (⟨(⟨#[116]⟩ : ByteArray), [(⟨#[97]⟩ : ByteArray), (⟨#[98]⟩ : ByteArray)], ([] : List ByteArray), false, ByteArray.empty, ByteArray.empty, false, false, false, false⟩ : Node) (⟨(9 : Int), [(⟨(⟨#[97]⟩ : ByteArray), ByteArray.empty, (3 : Int)⟩ : File), (⟨(⟨#[98]⟩ : ByteArray), ByteArray.empty, (7 : Int)⟩ : File), (⟨(⟨#[116]⟩ : ByteArray), ByteArray.empty, (5 : Int)⟩ : File)]⟩ : Disk) ([] : List ByteArray)).bind fun v5 => (bif icmp .eql v1.2 (0 : Int) then (bif icmp .eql v3.2.2 (0 : Int) then (bif icmp .eql v5.2 (0 : Int) then (bif v5.1 then (bif icmp .eql v3.1 (4 : Int) then (bif scmp .eql v3.2.1 (⟨#[98]⟩ : ByteArray) then ((smithyplain_Texts.f k v1.1 ([(⟨#[98]⟩ : ByteArray)])).bind fun v15 => some v15) else (some false)) else (some false)) else (some false)) else (some false)) else (some false)) else (some false)).bind fun s7 => some s7
set_option maxRecDepth 100000 in
set_option maxHeartbeats 4000000 in
theorem smithylaw13_small.con (k : Nat) (r : Bool) (H : smithylaw13_small.f k = some r) : Con Try.prog 15 [] [VA.k kbool r] := by
  unfold smithylaw13_small.f at H
  refine con_enter Try.func15 rfl rfl rfl (fun w0 S0 θ => ?_)
  refine goes_seq ?_
  refine goes_region ?_
  refine go1 (op_assign rfl (.bool _)) rfl ?_
  refine goesO_nil ?_
  refine ends_then ?_
  refine goes_seq ?_
  refine goes_region ?_
  refine go1 (op_buildSlice rfl at22 (fun h => by first | rfl | cases h) rfl rfl rfl (.cons (.str _) (.cons (.str _) (.nil _)))) rfl ?_
  refine goesO_settle 10 rfl rfl ?_
  refine go1 (op_build (pl := [(0, 1), (1, 1), (2, 1), (3, 1), (4, 1), (5, 1), (6, 1), (7, 1), (8, 1), (9, 1)]) rfl rfl Try.underlying24 (by kernel_rfl) zk24 (.cons rfl tk9 fldNode_Target (.str _) (.cons rfl tk22 fldNode_Needs (.t (has rfl)) (.nil _)))) rfl ?_
  refine go3 (op_alloc 1 rfl zk24) rfl ?_
  refine go1 (op_store (Fld.whole kNode) tk24 (.t (has rfl)) (has rfl) (.t (has rfl))) rfl ?_
  refine goesO_nil ?_
  refine ends_then ?_
  refine goes_seq ?_
  refine goes_region ?_
  refine go1 (op_build (pl := [(0, 1), (1, 1), (2, 1)]) rfl rfl Try.underlying47 (by kernel_rfl) zk47 (.cons rfl tk9 fldFile_Name (.str _) (.cons rfl tk3 fldFile_Stamp (.int _ _) (.nil _)))) rfl ?_
  refine go1 (op_build (pl := [(0, 1), (1, 1), (2, 1)]) rfl rfl Try.underlying47 (by kernel_rfl) zk47 (.cons rfl tk9 fldFile_Name (.str _) (.cons rfl tk3 fldFile_Stamp (.int _ _) (.nil _)))) rfl ?_
  refine go1 (op_build (pl := [(0, 1), (1, 1), (2, 1)]) rfl rfl Try.underlying47 (by kernel_rfl) zk47 (.cons rfl tk9 fldFile_Name (.str _) (.cons rfl tk3 fldFile_Stamp (.int _ _) (.nil _)))) rfl ?_
  refine go1 (op_buildSlice rfl at25 (fun h => by first | rfl | cases h) rfl rfl rfl (.cons (.t (has rfl)) (.cons (.t (has rfl)) (.cons (.t (has rfl)) (.nil _))))) rfl ?_
  refine goesO_settle 15 rfl rfl ?_
  refine go1 (op_build (pl := [(0, 1), (1, 1)]) rfl rfl Try.underlying27 (by kernel_rfl) zk27 (.cons rfl tk3 fldDisk_Clock (.int _ _) (.cons rfl tk25 fldDisk_Files (.t (has rfl)) (.nil _)))) rfl ?_
  refine go3 (op_alloc 2 rfl zk27) rfl ?_
  refine go1 (op_store (Fld.whole kDisk) tk27 (.t (has rfl)) (has rfl) (.t (has rfl))) rfl ?_
  refine goesO_nil ?_
  refine ends_then ?_
  refine goes_seq ?_
  refine goes_region ?_
  refine go1 (op_load rfl (Fld.whole kNode) tk24 (.t (has rfl)) (has rfl)) rfl ?_
  refine go1 (op_load rfl (Fld.whole kDisk) tk27 (.t (has rfl)) (has rfl)) rfl ?_
  obtain ⟨v1, h2, H⟩ := bind_some H
  refine goN (op_calls' rfl enters8 (stale_Newer.con _ _ _ _ _ h2) rfl rfl (.cons (ArgP.k (.t (has rfl))) (.cons (ArgP.k (.t (has rfl))) (.cons (ArgP.k (.nil _)) .nil)))) rfl ?_
  refine go1 (op_same (.inl rfl) rfl rfl) rfl ?_
  refine go2 (op_extract_own_same rfl rfl rfl (has rfl) (has rfl)) rfl ?_
  refine go1 (op_extract_same rfl plain_k (has rfl) (has rfl)) rfl ?_
  refine go2 (op_mv (.inr rfl) rfl rfl (has rfl)) rfl ?_
  refine go1 (op_assign rfl (.t (has rfl))) rfl ?_
  refine goesO_nil ?_
  refine ends_then ?_
  refine goes_seq ?_
  refine goes_region ?_
  refine go1 (op_load rfl (Fld.whole kNode) tk24 (.t (has rfl)) (has rfl)) rfl ?_
  refine go1 (op_load rfl (Fld.whole kDisk) tk27 (.t (has rfl)) (has rfl)) rfl ?_
  obtain ⟨v3, h4, H⟩ := bind_some H
  refine goN (op_calls' rfl enters12 (stale_Why.con _ _ _ _ _ h4) rfl rfl (.cons (ArgP.k (.t (has rfl))) (.cons (ArgP.k (.t (has rfl))) (.cons (ArgP.k (.nil _)) .nil)))) rfl ?_
  refine go1 (op_same (.inl rfl) rfl rfl) rfl ?_
  refine go1 (op_extract_same rfl plain_k (has rfl) (has rfl)) rfl ?_
  refine go1 (op_extract_same rfl plain_k (has rfl) (has rfl)) rfl ?_
  refine go1 (op_extract_same rfl plain_k (has rfl) (has rfl)) rfl ?_
  refine go1 (op_assign rfl (.t (has rfl))) rfl ?_
  refine go1 (op_assign rfl (.t (has rfl))) rfl ?_
  refine go1 (op_assign rfl (.t (has rfl))) rfl ?_
  refine goesO_nil ?_
  refine ends_then ?_
  refine goes_seq ?_
  refine goes_region ?_
  refine go1 (op_load rfl (Fld.whole kNode) tk24 (.t (has rfl)) (has rfl)) rfl ?_
  refine go1 (op_load rfl (Fld.whole kDisk) tk27 (.t (has rfl)) (has rfl)) rfl ?_
  obtain ⟨v5, h6, H⟩ := bind_some H
  refine goN (op_calls' rfl enters10 (stale_Is.con _ _ _ _ _ h6) rfl rfl (.cons (ArgP.k (.t (has rfl))) (.cons (ArgP.k (.t (has rfl))) (.cons (ArgP.k (.nil _)) .nil)))) rfl ?_
  refine go1 (op_same (.inl rfl) rfl rfl) rfl ?_
  refine go1 (op_extract_same rfl plain_k (has rfl) (has rfl)) rfl ?_
  refine go1 (op_extract_same rfl plain_k (has rfl) (has rfl)) rfl ?_
  refine go1 (op_assign rfl (.t (has rfl))) rfl ?_
  refine go1 (op_assign rfl (.t (has rfl))) rfl ?_
  refine goesO_nil ?_
  refine ends_then ?_
  refine goes_seq ?_
  obtain ⟨s7, h8, H⟩ := bind_some H
  refine goes_cut [Ent.t 0 (VA.k kbool s7)] ?_ ?_
  · replace H := h8; clear h8
    refine goes_region ?_
    refine go1 (op_move rfl (.t (has rfl))) rfl ?_
    refine go1 (op_icmp rfl rfl (.t (has rfl)) (.int _ _)) rfl ?_
    refine go1 (op_move rfl (.t (has rfl))) rfl ?_
    refine goesO_split H (fun hb9 H => ?_) (fun hb9 H => ?_)
    · skip
      refine goG (op_move rfl (.t (has rfl))) rfl rfl rfl rfl hb9 ?_
      refine goG (op_icmp rfl rfl (.t (has rfl)) (.int _ _)) rfl rfl rfl rfl hb9 ?_
      refine go1 (op_pick_t rfl hb9 (.t (has rfl)) (.t (has rfl))) rfl ?_
      refine go1 (op_move rfl (.t (has rfl))) rfl ?_
      refine goesO_split H (fun hb10 H => ?_) (fun hb10 H => ?_)
      · skip
        refine goG (op_move rfl (.t (has rfl))) rfl rfl rfl rfl hb10 ?_
        refine goG (op_icmp rfl rfl (.t (has rfl)) (.int _ _)) rfl rfl rfl rfl hb10 ?_
        refine go1 (op_pick_t rfl hb10 (.t (has rfl)) (.t (has rfl))) rfl ?_
        refine go1 (op_move rfl (.t (has rfl))) rfl ?_
        refine goesO_split H (fun hb11 H => ?_) (fun hb11 H => ?_)
        · skip
          refine goG (op_move rfl (.t (has rfl))) rfl rfl rfl rfl hb11 ?_
          refine go1 (op_pick_t rfl hb11 (.t (has rfl)) (.t (has rfl))) rfl ?_
          refine go1 (op_move rfl (.t (has rfl))) rfl ?_
          refine goesO_split H (fun hb12 H => ?_) (fun hb12 H => ?_)
          · skip
            refine goG (op_move rfl (.t (has rfl))) rfl rfl rfl rfl hb12 ?_
            refine goG (op_icmp rfl rfl (.t (has rfl)) (.int _ _)) rfl rfl rfl rfl hb12 ?_
            refine go1 (op_pick_t rfl hb12 (.t (has rfl)) (.t (has rfl))) rfl ?_
            refine go1 (op_move rfl (.t (has rfl))) rfl ?_
            refine goesO_split H (fun hb13 H => ?_) (fun hb13 H => ?_)
            · skip
              refine goG (op_move rfl (.t (has rfl))) rfl rfl rfl rfl hb13 ?_
              refine goG (op_scmp rfl rfl (.t (has rfl)) (.str _)) rfl rfl rfl rfl hb13 ?_
              refine go1 (op_pick_t rfl hb13 (.t (has rfl)) (.t (has rfl))) rfl ?_
              refine go1 (op_move rfl (.t (has rfl))) rfl ?_
              refine goesO_split H (fun hb14 H => ?_) (fun hb14 H => ?_)
              · skip
                refine goesO_settle 3 rfl rfl ?_
                refine goG (op_move rfl (.t (has rfl))) rfl rfl rfl rfl hb14 ?_
                refine goG (op_buildSlice rfl at22 (fun h => by first | rfl | cases h) rfl rfl rfl (.cons (.str _) (.nil _))) rfl rfl rfl rfl hb14 ?_
                obtain ⟨v15, h16, H⟩ := bind_some H
                refine goG (op_callF' rfl enters14 (smithyplain_Texts.conF _ _ _ _ h16) rfl (.cons (ArgB.k (.t (has rfl))) (.cons (ArgB.own rfl (has rfl)) .nil))) rfl rfl rfl rfl hb14 ?_
                refine go1 (op_pick_t rfl hb14 (.t (has rfl)) (.t (has rfl))) rfl ?_
                refine go1 (op_assign rfl (.t (has rfl))) rfl ?_
                refine goesO_nil ?_
                obtain rfl := Option.some.inj H
                exact ends_cut (.cons rfl .nil)
              · skip
                refine goS rfl rfl rfl rfl rfl rfl hb14 ?_
                refine goS rfl rfl rfl rfl rfl rfl hb14 ?_
                refine goS rfl rfl rfl rfl rfl rfl hb14 ?_
                refine go1 (op_pick_f rfl hb14 (.t (has rfl)) (.bool _)) rfl ?_
                refine go1 (op_assign rfl (.t (has rfl))) rfl ?_
                refine goesO_nil ?_
                obtain rfl := Option.some.inj H
                exact ends_cut (.cons rfl .nil)
            · skip
              refine goS rfl rfl rfl rfl rfl rfl hb13 ?_
              refine goS rfl rfl rfl rfl rfl rfl hb13 ?_
              refine go1 (op_pick_f rfl hb13 (.t (has rfl)) (.bool _)) rfl ?_
              refine go1 (op_move rfl (.t (has rfl))) rfl ?_
              refine goS rfl rfl rfl rfl rfl rfl rfl ?_
              refine goS rfl rfl rfl rfl rfl rfl rfl ?_
              refine goS rfl rfl rfl rfl rfl rfl rfl ?_
              refine go1 (op_pick_f rfl rfl (.t (has rfl)) (.bool _)) rfl ?_
              refine go1 (op_assign rfl (.t (has rfl))) rfl ?_
              refine goesO_nil ?_
              obtain rfl := Option.some.inj H
              exact ends_cut (.cons rfl .nil)
          · skip
            refine goS rfl rfl rfl rfl rfl rfl hb12 ?_
            refine goS rfl rfl rfl rfl rfl rfl hb12 ?_
            refine go1 (op_pick_f rfl hb12 (.t (has rfl)) (.bool _)) rfl ?_
            refine go1 (op_move rfl (.t (has rfl))) rfl ?_
            refine goS rfl rfl rfl rfl rfl rfl rfl ?_
            refine goS rfl rfl rfl rfl rfl rfl rfl ?_
            refine go1 (op_pick_f rfl rfl (.t (has rfl)) (.bool _)) rfl ?_
            refine go1 (op_move rfl (.t (has rfl))) rfl ?_
            refine goS rfl rfl rfl rfl rfl rfl rfl ?_
            refine goS rfl rfl rfl rfl rfl rfl rfl ?_
            refine goS rfl rfl rfl rfl rfl rfl rfl ?_
            refine go1 (op_pick_f rfl rfl (.t (has rfl)) (.bool _)) rfl ?_
            refine go1 (op_assign rfl (.t (has rfl))) rfl ?_
            refine goesO_nil ?_
            obtain rfl := Option.some.inj H
            exact ends_cut (.cons rfl .nil)
        · skip
          refine goS rfl rfl rfl rfl rfl rfl hb11 ?_
          refine go1 (op_pick_f rfl hb11 (.t (has rfl)) (.bool _)) rfl ?_
          refine go1 (op_move rfl (.t (has rfl))) rfl ?_
          refine goS rfl rfl rfl rfl rfl rfl rfl ?_
          refine goS rfl rfl rfl rfl rfl rfl rfl ?_
          refine go1 (op_pick_f rfl rfl (.t (has rfl)) (.bool _)) rfl ?_
          refine go1 (op_move rfl (.t (has rfl))) rfl ?_
          refine goS rfl rfl rfl rfl rfl rfl rfl ?_
          refine goS rfl rfl rfl rfl rfl rfl rfl ?_
          refine go1 (op_pick_f rfl rfl (.t (has rfl)) (.bool _)) rfl ?_
          refine go1 (op_move rfl (.t (has rfl))) rfl ?_
          refine goS rfl rfl rfl rfl rfl rfl rfl ?_
          refine goS rfl rfl rfl rfl rfl rfl rfl ?_
          refine goS rfl rfl rfl rfl rfl rfl rfl ?_
          refine go1 (op_pick_f rfl rfl (.t (has rfl)) (.bool _)) rfl ?_
          refine go1 (op_assign rfl (.t (has rfl))) rfl ?_
          refine goesO_nil ?_
          obtain rfl := Option.some.inj H
          exact ends_cut (.cons rfl .nil)
      · skip
        refine goS rfl rfl rfl rfl rfl rfl hb10 ?_
        refine goS rfl rfl rfl rfl rfl rfl hb10 ?_
        refine go1 (op_pick_f rfl hb10 (.t (has rfl)) (.bool _)) rfl ?_
        refine go1 (op_move rfl (.t (has rfl))) rfl ?_
        refine goS rfl rfl rfl rfl rfl rfl rfl ?_
        refine go1 (op_pick_f rfl rfl (.t (has rfl)) (.bool _)) rfl ?_
        refine go1 (op_move rfl (.t (has rfl))) rfl ?_
        refine goS rfl rfl rfl rfl rfl rfl rfl ?_
        refine goS rfl rfl rfl rfl rfl rfl rfl ?_
        refine go1 (op_pick_f rfl rfl (.t (has rfl)) (.bool _)) rfl ?_
        refine go1 (op_move rfl (.t (has rfl))) rfl ?_
        refine goS rfl rfl rfl rfl rfl rfl rfl ?_
        refine goS rfl rfl rfl rfl rfl rfl rfl ?_
        refine go1 (op_pick_f rfl rfl (.t (has rfl)) (.bool _)) rfl ?_
        refine go1 (op_move rfl (.t (has rfl))) rfl ?_
        refine goS rfl rfl rfl rfl rfl rfl rfl ?_
        refine goS rfl rfl rfl rfl rfl rfl rfl ?_
        refine goS rfl rfl rfl rfl rfl rfl rfl ?_
        refine go1 (op_pick_f rfl rfl (.t (has rfl)) (.bool _)) rfl ?_
        refine go1 (op_assign rfl (.t (has rfl))) rfl ?_
        refine goesO_nil ?_
        obtain rfl := Option.some.inj H
        exact ends_cut (.cons rfl .nil)
    · skip
      refine goS rfl rfl rfl rfl rfl rfl hb9 ?_
      refine goS rfl rfl rfl rfl rfl rfl hb9 ?_
      refine go1 (op_pick_f rfl hb9 (.t (has rfl)) (.bool _)) rfl ?_
      refine go1 (op_move rfl (.t (has rfl))) rfl ?_
      refine goS rfl rfl rfl rfl rfl rfl rfl ?_
      refine goS rfl rfl rfl rfl rfl rfl rfl ?_
      refine go1 (op_pick_f rfl rfl (.t (has rfl)) (.bool _)) rfl ?_
      refine go1 (op_move rfl (.t (has rfl))) rfl ?_
      refine goS rfl rfl rfl rfl rfl rfl rfl ?_
      refine go1 (op_pick_f rfl rfl (.t (has rfl)) (.bool _)) rfl ?_
      refine go1 (op_move rfl (.t (has rfl))) rfl ?_
      refine goS rfl rfl rfl rfl rfl rfl rfl ?_
      refine goS rfl rfl rfl rfl rfl rfl rfl ?_
      refine go1 (op_pick_f rfl rfl (.t (has rfl)) (.bool _)) rfl ?_
      refine go1 (op_move rfl (.t (has rfl))) rfl ?_
      refine goS rfl rfl rfl rfl rfl rfl rfl ?_
      refine goS rfl rfl rfl rfl rfl rfl rfl ?_
      refine go1 (op_pick_f rfl rfl (.t (has rfl)) (.bool _)) rfl ?_
      refine go1 (op_move rfl (.t (has rfl))) rfl ?_
      refine goS rfl rfl rfl rfl rfl rfl rfl ?_
      refine goS rfl rfl rfl rfl rfl rfl rfl ?_
      refine goS rfl rfl rfl rfl rfl rfl rfl ?_
      refine go1 (op_pick_f rfl rfl (.t (has rfl)) (.bool _)) rfl ?_
      refine go1 (op_assign rfl (.t (has rfl))) rfl ?_
      refine goesO_nil ?_
      obtain rfl := Option.some.inj H
      exact ends_cut (.cons rfl .nil)
  refine ends_then ?_
  obtain rfl := Option.some.inj H
  exact goes_ret (ends_ret' rfl rfl (.t rfl (.nil _)))
theorem smithylaw13_small.conF (k : Nat) (r : Bool) (H : smithylaw13_small.f k = some r) : ConF Try.prog 15 [] [VA.k kbool r] := (smithylaw13_small.con k r H).freeL (.cons (KFree.k KFree.bool _) .nil)
/-! smithy/smithylaw13.StaleWoulds -/
def smithylaw13_StaleWoulds.f (k : Nat) (a0 : Plan) (a1 : Disk) : Option Bool := (stale_Would.f k a0 a1).bind fun v1 => (smithyref13_Would.f k a0 a1).bind fun v3 => ((smithyplain_Texts.f k v1.1 v3.1).bind fun v7 => bif v7 then (bif icmp .eql v1.2 v3.2 then ((smithylaw13_small.f k).bind fun v11 => some v11) else (some false)) else (some false)).bind fun s5 => some s5
set_option maxRecDepth 100000 in
set_option maxHeartbeats 4000000 in
theorem smithylaw13_StaleWoulds.con (k : Nat) (a0 : Plan) (a1 : Disk) (r : Bool) (H : smithylaw13_StaleWoulds.f k a0 a1 = some r) : Con Try.prog 6 [VA.k kPlan a0, VA.k kDisk a1] [VA.k kbool r] := by
  unfold smithylaw13_StaleWoulds.f at H
  refine con_enter Try.func6 rfl rfl rfl (fun w0 S0 θ => ?_)
  refine goes_seq ?_
  refine goes_region ?_
  refine go3 (op_box 2 rfl (fun h => by first | rfl | cases h) (.t (has rfl))) rfl ?_
  refine go3 (op_box 3 rfl (fun h => by first | rfl | cases h) (.t (has rfl))) rfl ?_
  refine go1 (op_assign rfl (.bool _)) rfl ?_
  refine goesO_nil ?_
  refine ends_then ?_
  refine goes_seq ?_
  refine goes_region ?_
  refine go1 (op_load rfl (Fld.whole kPlan) tk57 (.t (has rfl)) (has rfl)) rfl ?_
  refine go1 (op_load rfl (Fld.whole kDisk) tk27 (.t (has rfl)) (has rfl)) rfl ?_
  obtain ⟨v1, h2, H⟩ := bind_some H
  refine goN (op_calls' rfl enters20 (stale_Would.con _ _ _ _ h2) rfl rfl (.cons (ArgP.k (.t (has rfl))) (.cons (ArgP.k (.t (has rfl))) .nil))) rfl ?_
  refine go1 (op_same (.inl rfl) rfl rfl) rfl ?_
  refine go2 (op_extract_own_same rfl rfl rfl (has rfl) (has rfl)) rfl ?_
  refine go1 (op_extract_same rfl plain_k (has rfl) (has rfl)) rfl ?_
  refine go2 (op_mv (.inr rfl) rfl rfl (has rfl)) rfl ?_
  refine go1 (op_assign rfl (.t (has rfl))) rfl ?_
  refine goesO_nil ?_
  refine ends_then ?_
  refine goes_seq ?_
  refine goes_region ?_
  refine go1 (op_load rfl (Fld.whole kPlan) tk57 (.t (has rfl)) (has rfl)) rfl ?_
  refine go1 (op_load rfl (Fld.whole kDisk) tk27 (.t (has rfl)) (has rfl)) rfl ?_
  obtain ⟨v3, h4, H⟩ := bind_some H
  refine goN (op_calls' rfl enters21 (smithyref13_Would.con _ _ _ _ h4) rfl rfl (.cons (ArgP.k (.t (has rfl))) (.cons (ArgP.k (.t (has rfl))) .nil))) rfl ?_
  refine go1 (op_same (.inl rfl) rfl rfl) rfl ?_
  refine go2 (op_extract_own_same rfl rfl rfl (has rfl) (has rfl)) rfl ?_
  refine go1 (op_extract_same rfl plain_k (has rfl) (has rfl)) rfl ?_
  refine go2 (op_mv (.inr rfl) rfl rfl (has rfl)) rfl ?_
  refine go1 (op_assign rfl (.t (has rfl))) rfl ?_
  refine goesO_nil ?_
  refine ends_then ?_
  refine goes_seq ?_
  obtain ⟨s5, h6, H⟩ := bind_some H
  refine goes_cut [Ent.t 4 (VA.k kbool s5)] ?_ ?_
  · replace H := h6; clear h6
    refine goes_region ?_
    refine goesO_settle 5 rfl rfl ?_
    refine go1 (op_move rfl (.t (has rfl))) rfl ?_
    refine goesO_settle 7 rfl rfl ?_
    refine go1 (op_move rfl (.t (has rfl))) rfl ?_
    obtain ⟨v7, h8, H⟩ := bind_some H
    refine go1 (op_call' rfl enters14 (smithyplain_Texts.con _ _ _ _ h8) rfl (.cons (ArgP.k (.t (has rfl))) (.cons (ArgP.k (.t (has rfl))) .nil))) rfl ?_
    refine go1 (op_move rfl (.t (has rfl))) rfl ?_
    refine goesO_split H (fun hb9 H => ?_) (fun hb9 H => ?_)
    · skip
      refine goG (op_move rfl (.t (has rfl))) rfl rfl rfl rfl hb9 ?_
      refine goG (op_move rfl (.t (has rfl))) rfl rfl rfl rfl hb9 ?_
      refine goG (op_icmp rfl rfl (.t (has rfl)) (.t (has rfl))) rfl rfl rfl rfl hb9 ?_
      refine go1 (op_pick_t rfl hb9 (.t (has rfl)) (.t (has rfl))) rfl ?_
      refine go1 (op_move rfl (.t (has rfl))) rfl ?_
      refine goesO_split H (fun hb10 H => ?_) (fun hb10 H => ?_)
      · skip
        obtain ⟨v11, h12, H⟩ := bind_some H
        refine goG (op_call' rfl enters15 (smithylaw13_small.con _  _ h12) rfl .nil) rfl rfl rfl rfl hb10 ?_
        refine go1 (op_pick_t rfl hb10 (.t (has rfl)) (.t (has rfl))) rfl ?_
        refine go1 (op_assign rfl (.t (has rfl))) rfl ?_
        refine goesO_nil ?_
        obtain rfl := Option.some.inj H
        exact ends_cut (.cons rfl .nil)
      · skip
        refine goS rfl rfl rfl rfl rfl rfl hb10 ?_
        refine go1 (op_pick_f rfl hb10 (.t (has rfl)) (.bool _)) rfl ?_
        refine go1 (op_assign rfl (.t (has rfl))) rfl ?_
        refine goesO_nil ?_
        obtain rfl := Option.some.inj H
        exact ends_cut (.cons rfl .nil)
    · skip
      refine goS rfl rfl rfl rfl rfl rfl hb9 ?_
      refine goS rfl rfl rfl rfl rfl rfl hb9 ?_
      refine goS rfl rfl rfl rfl rfl rfl hb9 ?_
      refine go1 (op_pick_f rfl hb9 (.t (has rfl)) (.bool _)) rfl ?_
      refine go1 (op_move rfl (.t (has rfl))) rfl ?_
      refine goS rfl rfl rfl rfl rfl rfl rfl ?_
      refine go1 (op_pick_f rfl rfl (.t (has rfl)) (.bool _)) rfl ?_
      refine go1 (op_assign rfl (.t (has rfl))) rfl ?_
      refine goesO_nil ?_
      obtain rfl := Option.some.inj H
      exact ends_cut (.cons rfl .nil)
  refine ends_then ?_
  obtain rfl := Option.some.inj H
  exact goes_ret (ends_ret' rfl rfl (.t rfl (.nil _)))
theorem smithylaw13_StaleWoulds.conF (k : Nat) (a0 : Plan) (a1 : Disk) (r : Bool) (H : smithylaw13_StaleWoulds.f k a0 a1 = some r) : ConF Try.prog 6 [VA.k kPlan a0, VA.k kDisk a1] [VA.k kbool r] := (smithylaw13_StaleWoulds.con k a0 a1 r H).freeL (.cons (KFree.k KFree.bool _) .nil)
/-! smithy/smithylaw13.StaleOrder -/
def smithylaw13_StaleOrder.l1 (v1 : (List ByteArray) × Int) (x14 : Node) (s26 : Bool) : Nat → (Bool × Int) → Option Bool
  | 0, _ => none
  | k + 1, s33 => bif icmp .lss s33.2 (x14.Needs.length : Int) then ((idx x14.Needs s33.2).bind fun x37 => (bif s33.1 then (some true) else (bif s26 then ((smithyref03_Has.f k v1.1 x37).bind fun v43 => some v43) else (some false))).bind fun s39 => smithylaw13_StaleOrder.l1 v1 x14 s26 k (s39, IntKind.i64.wrap (s33.2 + (1 : Int)))) else (some s33.1)
def smithylaw13_StaleOrder.l0 (a0 : Plan) (a1 : Disk) (v1 : (List ByteArray) × Int) : Nat → (Int × Int) → Option (Except Bool Int)
  | 0, _ => none
  | k + 1, s9 => bif icmp .lss s9.2 (a0.Nodes.length : Int) then ((idx a0.Nodes s9.2).bind fun x14 => (bif icmp .lss s9.1 (v1.1.length : Int) then ((idx v1.1 s9.1).bind fun x19 => some (scmp .eql x19 x14.Target)) else (some false)).bind fun s16 => (bif s16 then (some (IntKind.i64.wrap (s9.1 + (1 : Int)))) else (some s9.1)).bind fun s21 => (smithyref13_File.f k a1 x14.Target).bind fun v24 => (bif x14.Has then (some (icmp .gtr (x14.Recipe.length : Int) (0 : Int))) else (some false)).bind fun s26 => (bif s26 then (bif x14.Phony then (some true) else (some (!v24.2))) else (some false)).bind fun s29 => (smithylaw13_StaleOrder.l1 v1 x14 s26 k (s29, (0 : Int))).bind fun s34 => (bif s16 then (bif !s26 then (some true) else (bif s34 then (some (!s16)) else (some false))) else (bif s34 then (some (!s16)) else (some false))).bind fun s45 => bif s45 then (some (Except.error false)) else (smithylaw13_StaleOrder.l0 a0 a1 v1 k (s21, IntKind.i64.wrap (s9.2 + (1 : Int))))) else (some (Except.ok s9.1))
def smithylaw13_StaleOrder.f (k : Nat) (a0 : Plan) (a1 : Disk) : Option Bool := (stale_Would.f k a0 a1).bind fun v1 => bif icmp .neq v1.2 (0 : Int) then ((bif icmp .eql (v1.1.length : Int) (0 : Int) then ((smithylaw13_small.f k).bind fun v7 => some v7) else (some false)).bind fun s4 => some s4) else ((smithylaw13_StaleOrder.l0 a0 a1 v1 k ((0 : Int), (0 : Int))).bind fun o12 => match o12 with | .error r' => some r' | .ok s10 => ((bif icmp .eql s10 (v1.1.length : Int) then ((smithylaw13_small.f k).bind fun v55 => some v55) else (some false)).bind fun s52 => some s52))
set_option maxRecDepth 100000 in
set_option maxHeartbeats 4000000 in
theorem smithylaw13_StaleOrder.con (k : Nat) (a0 : Plan) (a1 : Disk) (r : Bool) (H : smithylaw13_StaleOrder.f k a0 a1 = some r) : Con Try.prog 7 [VA.k kPlan a0, VA.k kDisk a1] [VA.k kbool r] := by
  unfold smithylaw13_StaleOrder.f at H
  refine con_enter Try.func7 rfl rfl rfl (fun w0 S0 θ => ?_)
  refine goes_seq ?_
  refine goes_region ?_
  refine go3 (op_box 2 rfl (fun h => by first | rfl | cases h) (.t (has rfl))) rfl ?_
  refine go3 (op_box 3 rfl (fun h => by first | rfl | cases h) (.t (has rfl))) rfl ?_
  refine go1 (op_assign rfl (.bool _)) rfl ?_
  refine goesO_nil ?_
  refine ends_then ?_
  refine goes_seq ?_
  refine goes_region ?_
  refine go1 (op_load rfl (Fld.whole kPlan) tk57 (.t (has rfl)) (has rfl)) rfl ?_
  refine go1 (op_load rfl (Fld.whole kDisk) tk27 (.t (has rfl)) (has rfl)) rfl ?_
  obtain ⟨v1, h2, H⟩ := bind_some H
  refine goN (op_calls' rfl enters20 (stale_Would.con _ _ _ _ h2) rfl rfl (.cons (ArgP.k (.t (has rfl))) (.cons (ArgP.k (.t (has rfl))) .nil))) rfl ?_
  refine go1 (op_same (.inl rfl) rfl rfl) rfl ?_
  refine go2 (op_extract_own_same rfl rfl rfl (has rfl) (has rfl)) rfl ?_
  refine go1 (op_extract_same rfl plain_k (has rfl) (has rfl)) rfl ?_
  refine go2 (op_mv (.inr rfl) rfl rfl (has rfl)) rfl ?_
  refine go1 (op_assign rfl (.t (has rfl))) rfl ?_
  refine goesO_nil ?_
  refine ends_then ?_
  refine goes_seq ?_
  refine goes_seq ?_
  refine goes_region ?_
  refine go1 (op_move rfl (.t (has rfl))) rfl ?_
  refine go1 (op_icmp rfl rfl (.t (has rfl)) (.int _ _)) rfl ?_
  refine goesO_nil ?_
  refine ends_then ?_
  refine goes_if (.t (has rfl)) H (fun hb3 H => ?_) (fun hb3 H => ?_)
  · skip
    refine goes_seq ?_
    obtain ⟨s4, h5, H⟩ := bind_some H
    refine goes_cut [Ent.t 4 (VA.k kbool s4)] ?_ ?_
    · replace H := h5; clear h5
      refine goes_region ?_
      refine goesO_settle 5 rfl rfl ?_
      refine go1 (op_move rfl (.t (has rfl))) rfl ?_
      refine go1 (op_len rfl rfl Try.underlying22 (.t (has rfl))) rfl ?_
      refine go1 (op_icmp rfl rfl (.t (has rfl)) (.int _ _)) rfl ?_
      refine go1 (op_move rfl (.t (has rfl))) rfl ?_
      refine goesO_split H (fun hb6 H => ?_) (fun hb6 H => ?_)
      · skip
        obtain ⟨v7, h8, H⟩ := bind_some H
        refine goG (op_call' rfl enters15 (smithylaw13_small.con _  _ h8) rfl .nil) rfl rfl rfl rfl hb6 ?_
        refine go1 (op_pick_t rfl hb6 (.t (has rfl)) (.t (has rfl))) rfl ?_
        refine go1 (op_assign rfl (.t (has rfl))) rfl ?_
        refine goesO_nil ?_
        obtain rfl := Option.some.inj H
        exact ends_cut (.cons rfl .nil)
      · skip
        refine goS rfl rfl rfl rfl rfl rfl hb6 ?_
        refine go1 (op_pick_f rfl hb6 (.t (has rfl)) (.bool _)) rfl ?_
        refine go1 (op_assign rfl (.t (has rfl))) rfl ?_
        refine goesO_nil ?_
        obtain rfl := Option.some.inj H
        exact ends_cut (.cons rfl .nil)
    refine ends_then ?_
    obtain rfl := Option.some.inj H
    exact goes_ret (ends_then_ret (ends_ret' rfl rfl (.t rfl (.nil _))))
  · skip
    refine goes_skip ?_
    refine ends_then ?_
    refine goes_seq ?_
    refine goes_region ?_
    refine go1 (op_assign rfl (.int _ _)) rfl ?_
    refine goesO_nil ?_
    refine ends_then ?_
    refine goes_seq ?_
    refine goes_seq ?_
    refine goes_region ?_
    refine go1 (op_fieldAddr rfl Try.underlying57 rfl tk55 (.t (has rfl))) rfl ?_
    refine go1 (op_load rfl fldPlan_Nodes tk55 (.t (has rfl)) (has rfl)) rfl ?_
    refine go1 (op_len rfl rfl Try.underlying55 (.t (has rfl))) rfl ?_
    refine go1 (op_move rfl (.int _ _)) rfl ?_
    refine goesO_nil ?_
    refine ends_then ?_
    refine goes_settle 5 rfl rfl ?_
    obtain ⟨o12, h11, H⟩ := bind_some H
    refine goes_cutR (o := o12) (fun s10 : Int => [Ent.t 5 (VA.k (kslice kstr) v1.1), Ent.t 7 (VA.k (kint .i64) s10)]) (fun r a w => bodyPost Try.prog Try.f7 (CPost w0 S0 θ [VA.k kbool r]) .ret a w) ?_ ?_ ?_
    · replace H := h11; clear h11
      refine goes_block ?_
      refine goes_loop (fun s9 : Int × Int => [Ent.t 3 (VA.ptr 3 0), Ent.t 5 (VA.k (kslice kstr) v1.1), Ent.t 7 (VA.k (kint .i64) s9.1), Ent.t 32 (VA.k (kslice kNode) a0.Nodes), Ent.t 33 (VA.k (kint .i64) (a0.Nodes.length : Int)), Ent.t 34 (VA.k (kint .i64) s9.2), Ent.h 3 (HE.box 27 kDisk a1)]) (fun k s9 => smithylaw13_StaleOrder.l0 a0 a1 v1 k s9) (fun _ => rfl) H (.cons rfl (.cons rfl (.cons rfl (.cons rfl (.cons rfl (.cons rfl (.cons rfl .nil))))))) ?_
      intro k s9 H
      simp only [smithylaw13_StaleOrder.l0] at H
      refine goes_seq ?_
      refine goes_region ?_
      refine go1 (op_icmp rfl rfl (.t (has rfl)) (.t (has rfl))) rfl ?_
      refine goesO_nil ?_
      refine ends_then ?_
      refine goes_seq ?_
      refine goes_if (.t (has rfl)) H (fun hb13 H => ?_) (fun hb13 H => ?_)
      · skip
        refine goes_skip ?_
        refine ends_then ?_
        refine goes_seq ?_
        refine goes_block ?_
        refine goes_seq ?_
        refine goes_region ?_
        obtain ⟨x14, h15, H⟩ := bind_some H
        refine go1 (op_indexAddr rfl Try.underlying55 tk24 h15 (.t (has rfl)) (.t (has rfl))) rfl ?_
        refine go1 (op_loadp rfl tk24 (.t (has rfl))) rfl ?_
        refine go3 (op_alloc 9 rfl zk24) rfl ?_
        refine go1 (op_store (Fld.whole kNode) tk24 (.t (has rfl)) (has rfl) (.t (has rfl))) rfl ?_
        refine goesO_nil ?_
        refine ends_then ?_
        refine goes_seq ?_
        obtain ⟨s16, h17, H⟩ := bind_some H
        refine goes_cut [Ent.t 3 (VA.ptr 3 0), Ent.t 5 (VA.k (kslice kstr) v1.1), Ent.t 7 (VA.k (kint .i64) s9.1), Ent.t 9 (VA.ptr 9 0), Ent.t 10 (VA.k kbool s16), Ent.t 32 (VA.k (kslice kNode) a0.Nodes), Ent.t 33 (VA.k (kint .i64) (a0.Nodes.length : Int)), Ent.t 34 (VA.k (kint .i64) s9.2), Ent.h 3 (HE.box 27 kDisk a1), Ent.h 9 (HE.box 24 kNode x14)] ?_ ?_
        · replace H := h17; clear h17
          refine goes_split H (fun hb18 H => ?_) (fun hb18 H => ?_)
          · skip
            obtain ⟨x19, h20, H⟩ := bind_some H
            refine goes_drawn [[Ent.t 38 (VA.k (kint .i64) s9.1)], [Ent.t 39 (VA.k (kslice kstr) v1.1)], [Ent.t 40 (VA.k (kint .i64) (v1.1.length : Int))], [Ent.t 41 (VA.k kbool (icmp .lss s9.1 (v1.1.length : Int)))], [Ent.t 42 (VA.k kbool (icmp .lss s9.1 (v1.1.length : Int)))], [Ent.t 43 (VA.k (kslice kstr) v1.1)], [Ent.t 44 (VA.k (kint .i64) s9.1)], [Ent.t 45 (VA.pt kstr x19)], [Ent.t 46 (VA.k kstr x19)], [Ent.t 47 (VA.ptr 9 0)], [Ent.t 48 (VA.k kstr x14.Target)], [Ent.t 49 (VA.k kbool (scmp .eql x19 x14.Target))], [Ent.t 50 (VA.k kbool (scmp .eql x19 x14.Target))], [Ent.t 10 (VA.k kbool (scmp .eql x19 x14.Target))]] mixed (by kernel_rfl) (by kernel_rfl) (.cons [(none, Ent.t 7 (VA.k (kint .i64) s9.1))] (OpSpec.run rfl rfl (op_move rfl (.t NL.h0)) rfl) (.cons (has rfl) .nil) (by kernel_rfl) (.cons [(none, Ent.t 5 (VA.k (kslice kstr) v1.1))] (OpSpec.run rfl rfl (op_move rfl (.t NL.h0)) rfl) (.cons (has rfl) .nil) (by kernel_rfl) (.cons [(some 1, Ent.t 39 (VA.k (kslice kstr) v1.1))] (OpSpec.run rfl rfl (op_len rfl rfl Try.underlying22 (.t NL.h0)) rfl) (.cons (has rfl) .nil) (by kernel_rfl) (.cons [(some 0, Ent.t 38 (VA.k (kint .i64) s9.1)), (some 2, Ent.t 40 (VA.k (kint .i64) (v1.1.length : Int)))] (OpSpec.run rfl rfl (op_icmp rfl rfl (.t NL.h0) (.t (NL.hs NL.h0))) rfl) (.cons (has rfl) (.cons (has rfl) .nil)) (by kernel_rfl) (.cons [(some 3, Ent.t 41 (VA.k kbool (icmp .lss s9.1 (v1.1.length : Int))))] (OpSpec.run rfl rfl (op_move rfl (.t NL.h0)) rfl) (.cons (has rfl) .nil) (by kernel_rfl) (.cons [(some 4, Ent.t 42 (VA.k kbool (icmp .lss s9.1 (v1.1.length : Int)))), (none, Ent.t 5 (VA.k (kslice kstr) v1.1))] (OpSpec.runG rfl rfl rfl rfl NL.h0 hb18 (op_move rfl (.t (NL.hs NL.h0))) rfl) (.cons (has rfl) (.cons (has rfl) .nil)) (by kernel_rfl) (.cons [(some 4, Ent.t 42 (VA.k kbool (icmp .lss s9.1 (v1.1.length : Int)))), (none, Ent.t 7 (VA.k (kint .i64) s9.1))] (OpSpec.runG rfl rfl rfl rfl NL.h0 hb18 (op_move rfl (.t (NL.hs NL.h0))) rfl) (.cons (has rfl) (.cons (has rfl) .nil)) (by kernel_rfl) (.cons [(some 4, Ent.t 42 (VA.k kbool (icmp .lss s9.1 (v1.1.length : Int)))), (some 5, Ent.t 43 (VA.k (kslice kstr) v1.1)), (some 6, Ent.t 44 (VA.k (kint .i64) s9.1))] (OpSpec.runG rfl rfl rfl rfl NL.h0 hb18 (op_indexAddr rfl Try.underlying22 tk9 h20 (.t (NL.hs NL.h0)) (.t (NL.hs (NL.hs NL.h0)))) rfl) (.cons (has rfl) (.cons (has rfl) (.cons (has rfl) .nil))) (by kernel_rfl) (.cons [(some 4, Ent.t 42 (VA.k kbool (icmp .lss s9.1 (v1.1.length : Int)))), (some 7, Ent.t 45 (VA.pt kstr x19))] (OpSpec.runG rfl rfl rfl rfl NL.h0 hb18 (op_loadp rfl tk9 (.t (NL.hs NL.h0))) rfl) (.cons (has rfl) (.cons (has rfl) .nil)) (by kernel_rfl) (.cons [(some 4, Ent.t 42 (VA.k kbool (icmp .lss s9.1 (v1.1.length : Int)))), (none, Ent.t 9 (VA.ptr 9 0))] (OpSpec.runG rfl rfl rfl rfl NL.h0 hb18 (op_fieldAddr rfl Try.underlying24 rfl tk9 (.t (NL.hs NL.h0))) rfl) (.cons (has rfl) (.cons (has rfl) .nil)) (by kernel_rfl) (.cons [(some 4, Ent.t 42 (VA.k kbool (icmp .lss s9.1 (v1.1.length : Int)))), (some 9, Ent.t 47 (VA.ptr 9 0)), (none, Ent.h 9 (HE.box 24 kNode x14))] (OpSpec.runG rfl rfl rfl rfl NL.h0 hb18 (op_load rfl fldNode_Target tk9 (.t (NL.hs NL.h0)) (NL.hs (NL.hs NL.h0))) rfl) (.cons (has rfl) (.cons (has rfl) (.cons (has rfl) .nil))) (by kernel_rfl) (.cons [(some 4, Ent.t 42 (VA.k kbool (icmp .lss s9.1 (v1.1.length : Int)))), (some 8, Ent.t 46 (VA.k kstr x19)), (some 10, Ent.t 48 (VA.k kstr x14.Target))] (OpSpec.runG rfl rfl rfl rfl NL.h0 hb18 (op_scmp rfl rfl (.t (NL.hs NL.h0)) (.t (NL.hs (NL.hs NL.h0)))) rfl) (.cons (has rfl) (.cons (has rfl) (.cons (has rfl) .nil))) (by kernel_rfl) (.cons [(some 4, Ent.t 42 (VA.k kbool (icmp .lss s9.1 (v1.1.length : Int)))), (some 11, Ent.t 49 (VA.k kbool (scmp .eql x19 x14.Target)))] (OpSpec.run rfl rfl (op_pick_t rfl hb18 (.t NL.h0) (.t (NL.hs NL.h0))) rfl) (.cons (has rfl) (.cons (has rfl) .nil)) (by kernel_rfl) (.cons [(some 12, Ent.t 50 (VA.k kbool (scmp .eql x19 x14.Target)))] (OpSpec.run rfl rfl (op_assign rfl (.t NL.h0)) rfl) (.cons (has rfl) .nil) (by kernel_rfl) (.nil _))))))))))))))) ?_
            refine ends_sub [Ent.t 3 (VA.ptr 3 0), Ent.t 5 (VA.k (kslice kstr) v1.1), Ent.t 7 (VA.k (kint .i64) s9.1), Ent.t 9 (VA.ptr 9 0), Ent.t 10 (VA.k kbool (scmp .eql x19 x14.Target)), Ent.t 32 (VA.k (kslice kNode) a0.Nodes), Ent.t 33 (VA.k (kint .i64) (a0.Nodes.length : Int)), Ent.t 34 (VA.k (kint .i64) s9.2), Ent.t 43 (VA.k (kslice kstr) v1.1), Ent.t 44 (VA.k (kint .i64) s9.1), Ent.t 45 (VA.pt kstr x19), Ent.t 46 (VA.k kstr x19), Ent.t 47 (VA.ptr 9 0), Ent.t 48 (VA.k kstr x14.Target), Ent.t 49 (VA.k kbool (scmp .eql x19 x14.Target)), Ent.h 3 (HE.box 27 kDisk a1), Ent.h 9 (HE.box 24 kNode x14)] (.cons rfl (.cons rfl (.cons rfl (.cons rfl (.cons rfl (.cons rfl (.cons rfl (.cons rfl (.cons rfl (.cons rfl (.cons rfl (.cons rfl (.cons rfl (.cons rfl (.cons rfl (.cons rfl (.cons rfl .nil))))))))))))))))) ?_
            obtain rfl := Option.some.inj H
            exact ends_cut (.cons rfl (.cons rfl (.cons rfl (.cons rfl (.cons rfl (.cons rfl (.cons rfl (.cons rfl (.cons rfl (.cons rfl .nil))))))))))
          · skip
            refine goes_drawn [[Ent.t 38 (VA.k (kint .i64) s9.1)], [Ent.t 39 (VA.k (kslice kstr) v1.1)], [Ent.t 40 (VA.k (kint .i64) (v1.1.length : Int))], [Ent.t 41 (VA.k kbool (icmp .lss s9.1 (v1.1.length : Int)))], [Ent.t 42 (VA.k kbool (icmp .lss s9.1 (v1.1.length : Int)))], [Ent.t 43 (VA.v undef)], [Ent.t 44 (VA.v undef)], [Ent.t 45 (VA.v undef)], [Ent.t 46 (VA.v undef)], [Ent.t 47 (VA.v undef)], [Ent.t 48 (VA.v undef)], [Ent.t 49 (VA.v undef)], [Ent.t 50 (VA.k kbool false)], [Ent.t 10 (VA.k kbool false)]] mixed (by kernel_rfl) (by kernel_rfl) (.cons [(none, Ent.t 7 (VA.k (kint .i64) s9.1))] (OpSpec.run rfl rfl (op_move rfl (.t NL.h0)) rfl) (.cons (has rfl) .nil) (by kernel_rfl) (.cons [(none, Ent.t 5 (VA.k (kslice kstr) v1.1))] (OpSpec.run rfl rfl (op_move rfl (.t NL.h0)) rfl) (.cons (has rfl) .nil) (by kernel_rfl) (.cons [(some 1, Ent.t 39 (VA.k (kslice kstr) v1.1))] (OpSpec.run rfl rfl (op_len rfl rfl Try.underlying22 (.t NL.h0)) rfl) (.cons (has rfl) .nil) (by kernel_rfl) (.cons [(some 0, Ent.t 38 (VA.k (kint .i64) s9.1)), (some 2, Ent.t 40 (VA.k (kint .i64) (v1.1.length : Int)))] (OpSpec.run rfl rfl (op_icmp rfl rfl (.t NL.h0) (.t (NL.hs NL.h0))) rfl) (.cons (has rfl) (.cons (has rfl) .nil)) (by kernel_rfl) (.cons [(some 3, Ent.t 41 (VA.k kbool (icmp .lss s9.1 (v1.1.length : Int))))] (OpSpec.run rfl rfl (op_move rfl (.t NL.h0)) rfl) (.cons (has rfl) .nil) (by kernel_rfl) (.cons [(some 4, Ent.t 42 (VA.k kbool (icmp .lss s9.1 (v1.1.length : Int))))] (run_skip rfl rfl rfl rfl rfl rfl NL.h0 hb18) (.cons (has rfl) .nil) (by kernel_rfl) (.cons [(some 4, Ent.t 42 (VA.k kbool (icmp .lss s9.1 (v1.1.length : Int))))] (run_skip rfl rfl rfl rfl rfl rfl NL.h0 hb18) (.cons (has rfl) .nil) (by kernel_rfl) (.cons [(some 4, Ent.t 42 (VA.k kbool (icmp .lss s9.1 (v1.1.length : Int))))] (run_skip rfl rfl rfl rfl rfl rfl NL.h0 hb18) (.cons (has rfl) .nil) (by kernel_rfl) (.cons [(some 4, Ent.t 42 (VA.k kbool (icmp .lss s9.1 (v1.1.length : Int))))] (run_skip rfl rfl rfl rfl rfl rfl NL.h0 hb18) (.cons (has rfl) .nil) (by kernel_rfl) (.cons [(some 4, Ent.t 42 (VA.k kbool (icmp .lss s9.1 (v1.1.length : Int))))] (run_skip rfl rfl rfl rfl rfl rfl NL.h0 hb18) (.cons (has rfl) .nil) (by kernel_rfl) (.cons [(some 4, Ent.t 42 (VA.k kbool (icmp .lss s9.1 (v1.1.length : Int))))] (run_skip rfl rfl rfl rfl rfl rfl NL.h0 hb18) (.cons (has rfl) .nil) (by kernel_rfl) (.cons [(some 4, Ent.t 42 (VA.k kbool (icmp .lss s9.1 (v1.1.length : Int))))] (run_skip rfl rfl rfl rfl rfl rfl NL.h0 hb18) (.cons (has rfl) .nil) (by kernel_rfl) (.cons [(some 4, Ent.t 42 (VA.k kbool (icmp .lss s9.1 (v1.1.length : Int))))] (OpSpec.run rfl rfl (op_pick_f rfl hb18 (.t NL.h0) (.bool _)) rfl) (.cons (has rfl) .nil) (by kernel_rfl) (.cons [(some 12, Ent.t 50 (VA.k kbool false))] (OpSpec.run rfl rfl (op_assign rfl (.t NL.h0)) rfl) (.cons (has rfl) .nil) (by kernel_rfl) (.nil _))))))))))))))) ?_
            refine ends_sub [Ent.t 3 (VA.ptr 3 0), Ent.t 5 (VA.k (kslice kstr) v1.1), Ent.t 7 (VA.k (kint .i64) s9.1), Ent.t 9 (VA.ptr 9 0), Ent.t 10 (VA.k kbool false), Ent.t 32 (VA.k (kslice kNode) a0.Nodes), Ent.t 33 (VA.k (kint .i64) (a0.Nodes.length : Int)), Ent.t 34 (VA.k (kint .i64) s9.2), Ent.h 3 (HE.box 27 kDisk a1), Ent.h 9 (HE.box 24 kNode x14)] (.cons rfl (.cons rfl (.cons rfl (.cons rfl (.cons rfl (.cons rfl (.cons rfl (.cons rfl (.cons rfl (.cons rfl .nil)))))))))) ?_
            obtain rfl := Option.some.inj H
            exact ends_cut (.cons rfl (.cons rfl (.cons rfl (.cons rfl (.cons rfl (.cons rfl (.cons rfl (.cons rfl (.cons rfl (.cons rfl .nil))))))))))
        refine ends_then ?_
        refine goes_seq ?_
        refine goes_seq ?_
        refine goes_region ?_
        refine go1 (op_move rfl (.t (has rfl))) rfl ?_
        refine goesO_nil ?_
        refine ends_then ?_
        obtain ⟨s21, h22, H⟩ := bind_some H
        refine goes_cut [Ent.t 3 (VA.ptr 3 0), Ent.t 5 (VA.k (kslice kstr) v1.1), Ent.t 7 (VA.k (kint .i64) s21), Ent.t 9 (VA.ptr 9 0), Ent.t 10 (VA.k kbool s16), Ent.t 32 (VA.k (kslice kNode) a0.Nodes), Ent.t 33 (VA.k (kint .i64) (a0.Nodes.length : Int)), Ent.t 34 (VA.k (kint .i64) s9.2), Ent.h 3 (HE.box 27 kDisk a1), Ent.h 9 (HE.box 24 kNode x14)] ?_ ?_
        · replace H := h22; clear h22
          refine goes_if (.t (has rfl)) H (fun hb23 H => ?_) (fun hb23 H => ?_)
          · skip
            refine goes_region ?_
            refine go1 (op_move rfl (.t (has rfl))) rfl ?_
            refine go1 (op_add rfl (.t (has rfl)) (.int _ _)) rfl ?_
            refine go1 (op_assign rfl (.t (has rfl))) rfl ?_
            refine goesO_nil ?_
            obtain rfl := Option.some.inj H
            exact ends_cut (.cons rfl (.cons rfl (.cons rfl (.cons rfl (.cons rfl (.cons rfl (.cons rfl (.cons rfl (.cons rfl (.cons rfl .nil))))))))))
          · skip
            refine goes_skip ?_
            obtain rfl := Option.some.inj H
            exact ends_cut (.cons rfl (.cons rfl (.cons rfl (.cons rfl (.cons rfl (.cons rfl (.cons rfl (.cons rfl (.cons rfl (.cons rfl .nil))))))))))
        refine ends_then ?_
        refine goes_seq ?_
        refine goes_region ?_
        refine go1 (op_load rfl (Fld.whole kDisk) tk27 (.t (has rfl)) (has rfl)) rfl ?_
        refine go1 (op_fieldAddr rfl Try.underlying24 rfl tk9 (.t (has rfl))) rfl ?_
        refine go1 (op_load rfl fldNode_Target tk9 (.t (has rfl)) (has rfl)) rfl ?_
        obtain ⟨v24, h25, H⟩ := bind_some H
        refine goN (op_calls' rfl enters16 (smithyref13_File.con _ _ _ _ h25) rfl rfl (.cons (ArgP.k (.t (has rfl))) (.cons (ArgP.k (.t (has rfl))) .nil))) rfl ?_
        refine go1 (op_same (.inl rfl) rfl rfl) rfl ?_
        refine go1 (op_extract_same rfl plain_k (has rfl) (has rfl)) rfl ?_
        refine go1 (op_extract_same rfl plain_k (has rfl) (has rfl)) rfl ?_
        refine go3 (op_alloc 11 rfl zk47) rfl ?_
        refine go1 (op_store (Fld.whole kFile) tk47 (.t (has rfl)) (has rfl) (.t (has rfl))) rfl ?_
        refine go1 (op_assign rfl (.t (has rfl))) rfl ?_
        refine goesO_nil ?_
        refine ends_then ?_
        refine goes_seq ?_
        obtain ⟨s26, h27, H⟩ := bind_some H
        refine goes_cut [Ent.t 3 (VA.ptr 3 0), Ent.t 5 (VA.k (kslice kstr) v1.1), Ent.t 7 (VA.k (kint .i64) s21), Ent.t 9 (VA.ptr 9 0), Ent.t 10 (VA.k kbool s16), Ent.t 12 (VA.k kbool v24.2), Ent.t 13 (VA.k kbool s26), Ent.t 32 (VA.k (kslice kNode) a0.Nodes), Ent.t 33 (VA.k (kint .i64) (a0.Nodes.length : Int)), Ent.t 34 (VA.k (kint .i64) s9.2), Ent.h 3 (HE.box 27 kDisk a1), Ent.h 9 (HE.box 24 kNode x14)] ?_ ?_
        · replace H := h27; clear h27
          refine goes_region ?_
          refine go1 (op_fieldAddr rfl Try.underlying24 rfl tk4 (.t (has rfl))) rfl ?_
          refine go1 (op_load rfl fldNode_Has tk4 (.t (has rfl)) (has rfl)) rfl ?_
          refine go1 (op_move rfl (.t (has rfl))) rfl ?_
          refine goesO_split H (fun hb28 H => ?_) (fun hb28 H => ?_)
          · skip
            refine goG (op_fieldAddr rfl Try.underlying24 rfl tk22 (.t (has rfl))) rfl rfl rfl rfl hb28 ?_
            refine goG (op_load rfl fldNode_Recipe tk22 (.t (has rfl)) (has rfl)) rfl rfl rfl rfl hb28 ?_
            refine goG (op_len rfl rfl Try.underlying22 (.t (has rfl))) rfl rfl rfl rfl hb28 ?_
            refine goG (op_icmp rfl rfl (.t (has rfl)) (.int _ _)) rfl rfl rfl rfl hb28 ?_
            refine go1 (op_pick_t rfl hb28 (.t (has rfl)) (.t (has rfl))) rfl ?_
            refine go1 (op_assign rfl (.t (has rfl))) rfl ?_
            refine goesO_nil ?_
            obtain rfl := Option.some.inj H
            exact ends_cut (.cons rfl (.cons rfl (.cons rfl (.cons rfl (.cons rfl (.cons rfl (.cons rfl (.cons rfl (.cons rfl (.cons rfl (.cons rfl (.cons rfl .nil))))))))))))
          · skip
            refine goS rfl rfl rfl rfl rfl rfl hb28 ?_
            refine goS rfl rfl rfl rfl rfl rfl hb28 ?_
            refine goS rfl rfl rfl rfl rfl rfl hb28 ?_
            refine goS rfl rfl rfl rfl rfl rfl hb28 ?_
            refine go1 (op_pick_f rfl hb28 (.t (has rfl)) (.bool _)) rfl ?_
            refine go1 (op_assign rfl (.t (has rfl))) rfl ?_
            refine goesO_nil ?_
            obtain rfl := Option.some.inj H
            exact ends_cut (.cons rfl (.cons rfl (.cons rfl (.cons rfl (.cons rfl (.cons rfl (.cons rfl (.cons rfl (.cons rfl (.cons rfl (.cons rfl (.cons rfl .nil))))))))))))
        refine ends_then ?_
        refine goes_seq ?_
        obtain ⟨s29, h30, H⟩ := bind_some H
        refine goes_cut [Ent.t 3 (VA.ptr 3 0), Ent.t 5 (VA.k (kslice kstr) v1.1), Ent.t 7 (VA.k (kint .i64) s21), Ent.t 9 (VA.ptr 9 0), Ent.t 10 (VA.k kbool s16), Ent.t 13 (VA.k kbool s26), Ent.t 14 (VA.k kbool s29), Ent.t 32 (VA.k (kslice kNode) a0.Nodes), Ent.t 33 (VA.k (kint .i64) (a0.Nodes.length : Int)), Ent.t 34 (VA.k (kint .i64) s9.2), Ent.h 3 (HE.box 27 kDisk a1), Ent.h 9 (HE.box 24 kNode x14)] ?_ ?_
        · replace H := h30; clear h30
          refine goes_region ?_
          refine go1 (op_move rfl (.t (has rfl))) rfl ?_
          refine go1 (op_move rfl (.t (has rfl))) rfl ?_
          refine goesO_split H (fun hb31 H => ?_) (fun hb31 H => ?_)
          · skip
            refine goG (op_fieldAddr rfl Try.underlying24 rfl tk4 (.t (has rfl))) rfl rfl rfl rfl hb31 ?_
            refine goG (op_load rfl fldNode_Phony tk4 (.t (has rfl)) (has rfl)) rfl rfl rfl rfl hb31 ?_
            refine goG (op_move rfl (.t (has rfl))) rfl rfl rfl rfl hb31 ?_
            refine goesO_split H (fun hb32 H => ?_) (fun hb32 H => ?_)
            · skip
              refine goS rfl rfl rfl rfl rfl rfl hb32 ?_
              refine goS rfl rfl rfl rfl rfl rfl hb32 ?_
              refine goG (op_pick_t rfl hb32 (.t (has rfl)) (.bool _)) rfl rfl rfl rfl hb31 ?_
              refine go1 (op_pick_t rfl hb31 (.t (has rfl)) (.t (has rfl))) rfl ?_
              refine go1 (op_assign rfl (.t (has rfl))) rfl ?_
              refine goesO_nil ?_
              obtain rfl := Option.some.inj H
              exact ends_cut (.cons rfl (.cons rfl (.cons rfl (.cons rfl (.cons rfl (.cons rfl (.cons rfl (.cons rfl (.cons rfl (.cons rfl (.cons rfl (.cons rfl .nil))))))))))))
            · skip
              refine goG (op_move rfl (.t (has rfl))) rfl rfl rfl rfl hb32 ?_
              refine goG (op_not rfl (.t (has rfl))) rfl rfl rfl rfl hb32 ?_
              refine goG (op_pick_f rfl hb32 (.t (has rfl)) (.t (has rfl))) rfl rfl rfl rfl hb31 ?_
              refine go1 (op_pick_t rfl hb31 (.t (has rfl)) (.t (has rfl))) rfl ?_
              refine go1 (op_assign rfl (.t (has rfl))) rfl ?_
              refine goesO_nil ?_
              obtain rfl := Option.some.inj H
              exact ends_cut (.cons rfl (.cons rfl (.cons rfl (.cons rfl (.cons rfl (.cons rfl (.cons rfl (.cons rfl (.cons rfl (.cons rfl (.cons rfl (.cons rfl .nil))))))))))))
          · skip
            refine goS rfl rfl rfl rfl rfl rfl hb31 ?_
            refine goS rfl rfl rfl rfl rfl rfl hb31 ?_
            refine goS rfl rfl rfl rfl rfl rfl hb31 ?_
            refine goSU rfl rfl rfl rfl rfl rfl ?_
            refine goSU rfl rfl rfl rfl rfl rfl ?_
            refine goS rfl rfl rfl rfl rfl rfl hb31 ?_
            refine go1 (op_pick_f rfl hb31 (.t (has rfl)) (.bool _)) rfl ?_
            refine go1 (op_assign rfl (.t (has rfl))) rfl ?_
            refine goesO_nil ?_
            obtain rfl := Option.some.inj H
            exact ends_cut (.cons rfl (.cons rfl (.cons rfl (.cons rfl (.cons rfl (.cons rfl (.cons rfl (.cons rfl (.cons rfl (.cons rfl (.cons rfl (.cons rfl .nil))))))))))))
        refine ends_then ?_
        refine goes_seq ?_
        refine goes_seq ?_
        refine goes_region ?_
        refine go1 (op_fieldAddr rfl Try.underlying24 rfl tk22 (.t (has rfl))) rfl ?_
        refine go1 (op_load rfl fldNode_Needs tk22 (.t (has rfl)) (has rfl)) rfl ?_
        refine go1 (op_len rfl rfl Try.underlying22 (.t (has rfl))) rfl ?_
        refine go1 (op_move rfl (.int _ _)) rfl ?_
        refine goesO_nil ?_
        refine ends_then ?_
        obtain ⟨s34, h35, H⟩ := bind_some H
        refine goes_cut [Ent.t 3 (VA.ptr 3 0), Ent.t 5 (VA.k (kslice kstr) v1.1), Ent.t 7 (VA.k (kint .i64) s21), Ent.t 10 (VA.k kbool s16), Ent.t 13 (VA.k kbool s26), Ent.t 14 (VA.k kbool s34), Ent.t 32 (VA.k (kslice kNode) a0.Nodes), Ent.t 33 (VA.k (kint .i64) (a0.Nodes.length : Int)), Ent.t 34 (VA.k (kint .i64) s9.2), Ent.h 3 (HE.box 27 kDisk a1)] ?_ ?_
        · replace H := h35; clear h35
          refine goes_block ?_
          refine goes_loop (fun s33 : Bool × Int => [Ent.t 3 (VA.ptr 3 0), Ent.t 5 (VA.k (kslice kstr) v1.1), Ent.t 7 (VA.k (kint .i64) s21), Ent.t 10 (VA.k kbool s16), Ent.t 13 (VA.k kbool s26), Ent.t 14 (VA.k kbool s33.1), Ent.t 32 (VA.k (kslice kNode) a0.Nodes), Ent.t 33 (VA.k (kint .i64) (a0.Nodes.length : Int)), Ent.t 34 (VA.k (kint .i64) s9.2), Ent.t 79 (VA.k (kslice kstr) x14.Needs), Ent.t 80 (VA.k (kint .i64) (x14.Needs.length : Int)), Ent.t 81 (VA.k (kint .i64) s33.2), Ent.h 3 (HE.box 27 kDisk a1)]) (fun k s33 => smithylaw13_StaleOrder.l1 v1 x14 s26 k s33) (fun _ => rfl) H (.cons rfl (.cons rfl (.cons rfl (.cons rfl (.cons rfl (.cons rfl (.cons rfl (.cons rfl (.cons rfl (.cons rfl (.cons rfl (.cons rfl (.cons rfl .nil))))))))))))) ?_
          intro k s33 H
          simp only [smithylaw13_StaleOrder.l1] at H
          refine goes_seq ?_
          refine goes_region ?_
          refine go1 (op_icmp rfl rfl (.t (has rfl)) (.t (has rfl))) rfl ?_
          refine goesO_nil ?_
          refine ends_then ?_
          refine goes_seq ?_
          refine goes_if (.t (has rfl)) H (fun hb36 H => ?_) (fun hb36 H => ?_)
          · skip
            refine goes_skip ?_
            refine ends_then ?_
            refine goes_seq ?_
            refine goes_block ?_
            refine goes_seq ?_
            refine goes_region ?_
            obtain ⟨x37, h38, H⟩ := bind_some H
            refine go1 (op_indexAddr rfl Try.underlying22 tk9 h38 (.t (has rfl)) (.t (has rfl))) rfl ?_
            refine go1 (op_loadp rfl tk9 (.t (has rfl))) rfl ?_
            refine go1 (op_assign rfl (.t (has rfl))) rfl ?_
            refine goesO_nil ?_
            refine ends_then ?_
            obtain ⟨s39, h40, H⟩ := bind_some H
            refine goes_cut [Ent.t 3 (VA.ptr 3 0), Ent.t 5 (VA.k (kslice kstr) v1.1), Ent.t 7 (VA.k (kint .i64) s21), Ent.t 10 (VA.k kbool s16), Ent.t 13 (VA.k kbool s26), Ent.t 14 (VA.k kbool s39), Ent.t 32 (VA.k (kslice kNode) a0.Nodes), Ent.t 33 (VA.k (kint .i64) (a0.Nodes.length : Int)), Ent.t 34 (VA.k (kint .i64) s9.2), Ent.t 79 (VA.k (kslice kstr) x14.Needs), Ent.t 80 (VA.k (kint .i64) (x14.Needs.length : Int)), Ent.t 81 (VA.k (kint .i64) s33.2), Ent.h 3 (HE.box 27 kDisk a1)] ?_ ?_
            · replace H := h40; clear h40
              refine goes_region ?_
              refine go1 (op_move rfl (.t (has rfl))) rfl ?_
              refine go1 (op_move rfl (.t (has rfl))) rfl ?_
              refine goesO_split H (fun hb41 H => ?_) (fun hb41 H => ?_)
              · skip
                refine goS rfl rfl rfl rfl rfl rfl hb41 ?_
                refine goS rfl rfl rfl rfl rfl rfl hb41 ?_
                refine goSU rfl rfl rfl rfl rfl rfl ?_
                refine goSU rfl rfl rfl rfl rfl rfl ?_
                refine goSU rfl rfl rfl rfl rfl rfl ?_
                refine goS rfl rfl rfl rfl rfl rfl hb41 ?_
                refine go1 (op_pick_t rfl hb41 (.t (has rfl)) (.bool _)) rfl ?_
                refine go1 (op_assign rfl (.t (has rfl))) rfl ?_
                refine goesO_nil ?_
                obtain rfl := Option.some.inj H
                exact ends_cut (.cons rfl (.cons rfl (.cons rfl (.cons rfl (.cons rfl (.cons rfl (.cons rfl (.cons rfl (.cons rfl (.cons rfl (.cons rfl (.cons rfl (.cons rfl .nil)))))))))))))
              · skip
                refine goG (op_move rfl (.t (has rfl))) rfl rfl rfl rfl hb41 ?_
                refine goG (op_move rfl (.t (has rfl))) rfl rfl rfl rfl hb41 ?_
                refine goesO_split H (fun hb42 H => ?_) (fun hb42 H => ?_)
                · skip
                  refine goG (op_move rfl (.t (has rfl))) rfl rfl rfl rfl hb42 ?_
                  refine goG (op_move rfl (.t (has rfl))) rfl rfl rfl rfl hb42 ?_
                  obtain ⟨v43, h44, H⟩ := bind_some H
                  refine goG (op_call' rfl enters17 (smithyref03_Has.con _ _ _ _ h44) rfl (.cons (ArgP.k (.t (has rfl))) (.cons (ArgP.k (.t (has rfl))) .nil))) rfl rfl rfl rfl hb42 ?_
                  refine goG (op_pick_t rfl hb42 (.t (has rfl)) (.t (has rfl))) rfl rfl rfl rfl hb41 ?_
                  refine go1 (op_pick_f rfl hb41 (.t (has rfl)) (.t (has rfl))) rfl ?_
                  refine go1 (op_assign rfl (.t (has rfl))) rfl ?_
                  refine goesO_nil ?_
                  obtain rfl := Option.some.inj H
                  exact ends_cut (.cons rfl (.cons rfl (.cons rfl (.cons rfl (.cons rfl (.cons rfl (.cons rfl (.cons rfl (.cons rfl (.cons rfl (.cons rfl (.cons rfl (.cons rfl .nil)))))))))))))
                · skip
                  refine goS rfl rfl rfl rfl rfl rfl hb42 ?_
                  refine goS rfl rfl rfl rfl rfl rfl hb42 ?_
                  refine goS rfl rfl rfl rfl rfl rfl hb42 ?_
                  refine goG (op_pick_f rfl hb42 (.t (has rfl)) (.bool _)) rfl rfl rfl rfl hb41 ?_
                  refine go1 (op_pick_f rfl hb41 (.t (has rfl)) (.t (has rfl))) rfl ?_
                  refine go1 (op_assign rfl (.t (has rfl))) rfl ?_
                  refine goesO_nil ?_
                  obtain rfl := Option.some.inj H
                  exact ends_cut (.cons rfl (.cons rfl (.cons rfl (.cons rfl (.cons rfl (.cons rfl (.cons rfl (.cons rfl (.cons rfl (.cons rfl (.cons rfl (.cons rfl (.cons rfl .nil)))))))))))))
            refine ends_block ?_
            refine ends_then ?_
            refine goes_region ?_
            refine go1 (op_add rfl (.t (has rfl)) (.int _ _)) rfl ?_
            refine go1 (op_move rfl (.t (has rfl))) rfl ?_
            refine goesO_nil ?_
            exact loop_next _ H (.cons rfl (.cons rfl (.cons rfl (.cons rfl (.cons rfl (.cons rfl (.cons rfl (.cons rfl (.cons rfl (.cons rfl (.cons rfl (.cons rfl (.cons rfl .nil)))))))))))))
          · skip
            refine goes_exit (ends_then_exit (ends_then_exit (ends_block_exit ?_)))
            obtain rfl := Option.some.inj H
            exact ends_cut (.cons rfl (.cons rfl (.cons rfl (.cons rfl (.cons rfl (.cons rfl (.cons rfl (.cons rfl (.cons rfl (.cons rfl .nil))))))))))
        refine ends_then ?_
        refine goes_seq ?_
        obtain ⟨s45, h46, H⟩ := bind_some H
        refine goes_cut [Ent.t 3 (VA.ptr 3 0), Ent.t 5 (VA.k (kslice kstr) v1.1), Ent.t 7 (VA.k (kint .i64) s21), Ent.t 32 (VA.k (kslice kNode) a0.Nodes), Ent.t 33 (VA.k (kint .i64) (a0.Nodes.length : Int)), Ent.t 34 (VA.k (kint .i64) s9.2), Ent.t 106 (VA.k kbool s45), Ent.h 3 (HE.box 27 kDisk a1)] ?_ ?_
        · replace H := h46; clear h46
          refine goes_region ?_
          refine go1 (op_move rfl (.t (has rfl))) rfl ?_
          refine go1 (op_move rfl (.t (has rfl))) rfl ?_
          refine goesO_split H (fun hb47 H => ?_) (fun hb47 H => ?_)
          · skip
            refine goG (op_move rfl (.t (has rfl))) rfl rfl rfl rfl hb47 ?_
            refine goG (op_not rfl (.t (has rfl))) rfl rfl rfl rfl hb47 ?_
            refine go1 (op_pick_t rfl hb47 (.t (has rfl)) (.t (has rfl))) rfl ?_
            refine go1 (op_move rfl (.t (has rfl))) rfl ?_
            refine goesO_split H (fun hb48 H => ?_) (fun hb48 H => ?_)
            · skip
              refine goS rfl rfl rfl rfl rfl rfl hb48 ?_
              refine goS rfl rfl rfl rfl rfl rfl hb48 ?_
              refine goSU rfl rfl rfl rfl rfl rfl ?_
              refine goSU rfl rfl rfl rfl rfl rfl ?_
              refine goS rfl rfl rfl rfl rfl rfl hb48 ?_
              refine go1 (op_pick_t rfl hb48 (.t (has rfl)) (.bool _)) rfl ?_
              refine goesO_nil ?_
              obtain rfl := Option.some.inj H
              exact ends_cut (.cons rfl (.cons rfl (.cons rfl (.cons rfl (.cons rfl (.cons rfl (.cons rfl (.cons rfl .nil))))))))
            · skip
              refine goG (op_move rfl (.t (has rfl))) rfl rfl rfl rfl hb48 ?_
              refine goG (op_move rfl (.t (has rfl))) rfl rfl rfl rfl hb48 ?_
              refine goesO_split H (fun hb49 H => ?_) (fun hb49 H => ?_)
              · skip
                refine goG (op_move rfl (.t (has rfl))) rfl rfl rfl rfl hb49 ?_
                refine goG (op_not rfl (.t (has rfl))) rfl rfl rfl rfl hb49 ?_
                refine goG (op_pick_t rfl hb49 (.t (has rfl)) (.t (has rfl))) rfl rfl rfl rfl hb48 ?_
                refine go1 (op_pick_f rfl hb48 (.t (has rfl)) (.t (has rfl))) rfl ?_
                refine goesO_nil ?_
                obtain rfl := Option.some.inj H
                exact ends_cut (.cons rfl (.cons rfl (.cons rfl (.cons rfl (.cons rfl (.cons rfl (.cons rfl (.cons rfl .nil))))))))
              · skip
                refine goS rfl rfl rfl rfl rfl rfl hb49 ?_
                refine goS rfl rfl rfl rfl rfl rfl hb49 ?_
                refine goG (op_pick_f rfl hb49 (.t (has rfl)) (.bool _)) rfl rfl rfl rfl hb48 ?_
                refine go1 (op_pick_f rfl hb48 (.t (has rfl)) (.t (has rfl))) rfl ?_
                refine goesO_nil ?_
                obtain rfl := Option.some.inj H
                exact ends_cut (.cons rfl (.cons rfl (.cons rfl (.cons rfl (.cons rfl (.cons rfl (.cons rfl (.cons rfl .nil))))))))
          · skip
            refine goS rfl rfl rfl rfl rfl rfl hb47 ?_
            refine goS rfl rfl rfl rfl rfl rfl hb47 ?_
            refine go1 (op_pick_f rfl hb47 (.t (has rfl)) (.bool _)) rfl ?_
            refine go1 (op_move rfl (.t (has rfl))) rfl ?_
            refine goG (op_move rfl (.t (has rfl))) rfl rfl rfl rfl rfl ?_
            refine goG (op_move rfl (.t (has rfl))) rfl rfl rfl rfl rfl ?_
            refine goesO_split H (fun hb50 H => ?_) (fun hb50 H => ?_)
            · skip
              refine goG (op_move rfl (.t (has rfl))) rfl rfl rfl rfl hb50 ?_
              refine goG (op_not rfl (.t (has rfl))) rfl rfl rfl rfl hb50 ?_
              refine goG (op_pick_t rfl hb50 (.t (has rfl)) (.t (has rfl))) rfl rfl rfl rfl rfl ?_
              refine go1 (op_pick_f rfl rfl (.t (has rfl)) (.t (has rfl))) rfl ?_
              refine goesO_nil ?_
              obtain rfl := Option.some.inj H
              exact ends_cut (.cons rfl (.cons rfl (.cons rfl (.cons rfl (.cons rfl (.cons rfl (.cons rfl (.cons rfl .nil))))))))
            · skip
              refine goS rfl rfl rfl rfl rfl rfl hb50 ?_
              refine goS rfl rfl rfl rfl rfl rfl hb50 ?_
              refine goG (op_pick_f rfl hb50 (.t (has rfl)) (.bool _)) rfl rfl rfl rfl rfl ?_
              refine go1 (op_pick_f rfl rfl (.t (has rfl)) (.t (has rfl))) rfl ?_
              refine goesO_nil ?_
              obtain rfl := Option.some.inj H
              exact ends_cut (.cons rfl (.cons rfl (.cons rfl (.cons rfl (.cons rfl (.cons rfl (.cons rfl (.cons rfl .nil))))))))
        refine ends_then ?_
        refine goes_if (.t (has rfl)) H (fun hb51 H => ?_) (fun hb51 H => ?_)
        · skip
          refine goes_seq ?_
          refine goes_region ?_
          refine go1 (op_assign rfl (.bool _)) rfl ?_
          refine goesO_nil ?_
          refine ends_then ?_
          obtain rfl := Option.some.inj H
          refine goes_ret (ends_block_ret (ends_then_ret (ends_then_ret (ends_block_ret (ends_cutR_ret rfl ?_)))))
          exact ends_ret' rfl rfl (.t rfl (.nil _))
        · skip
          refine goes_skip ?_
          refine ends_block ?_
          refine ends_then ?_
          refine goes_region ?_
          refine go1 (op_add rfl (.t (has rfl)) (.int _ _)) rfl ?_
          refine go1 (op_move rfl (.t (has rfl))) rfl ?_
          refine goesO_nil ?_
          exact loop_next _ H (.cons rfl (.cons rfl (.cons rfl (.cons rfl (.cons rfl (.cons rfl (.cons rfl .nil)))))))
      · skip
        refine goes_exit (ends_then_exit (ends_then_exit (ends_block_exit ?_)))
        obtain rfl := Option.some.inj H
        exact ends_cutR rfl (.cons rfl (.cons rfl .nil))
    · rintro s10 rfl
      clear h11
      dsimp only at H
      refine ends_then ?_
      refine goes_seq ?_
      obtain ⟨s52, h53, H⟩ := bind_some H
      refine goes_cut [Ent.t 4 (VA.k kbool s52)] ?_ ?_
      · replace H := h53; clear h53
        refine goes_region ?_
        refine go1 (op_move rfl (.t (has rfl))) rfl ?_
        refine go1 (op_move rfl (.t (has rfl))) rfl ?_
        refine go1 (op_len rfl rfl Try.underlying22 (.t (has rfl))) rfl ?_
        refine go1 (op_icmp rfl rfl (.t (has rfl)) (.t (has rfl))) rfl ?_
        refine go1 (op_move rfl (.t (has rfl))) rfl ?_
        refine goesO_split H (fun hb54 H => ?_) (fun hb54 H => ?_)
        · skip
          obtain ⟨v55, h56, H⟩ := bind_some H
          refine goG (op_call' rfl enters15 (smithylaw13_small.con _  _ h56) rfl .nil) rfl rfl rfl rfl hb54 ?_
          refine go1 (op_pick_t rfl hb54 (.t (has rfl)) (.t (has rfl))) rfl ?_
          refine go1 (op_assign rfl (.t (has rfl))) rfl ?_
          refine goesO_nil ?_
          obtain rfl := Option.some.inj H
          exact ends_cut (.cons rfl .nil)
        · skip
          refine goS rfl rfl rfl rfl rfl rfl hb54 ?_
          refine go1 (op_pick_f rfl hb54 (.t (has rfl)) (.bool _)) rfl ?_
          refine go1 (op_assign rfl (.t (has rfl))) rfl ?_
          refine goesO_nil ?_
          obtain rfl := Option.some.inj H
          exact ends_cut (.cons rfl .nil)
      refine ends_then ?_
      obtain rfl := Option.some.inj H
      exact goes_ret (ends_ret' rfl rfl (.t rfl (.nil _)))
    · rintro r' rfl a w hr
      obtain rfl := Option.some.inj H
      exact hr
theorem smithylaw13_StaleOrder.conF (k : Nat) (a0 : Plan) (a1 : Disk) (r : Bool) (H : smithylaw13_StaleOrder.f k a0 a1 = some r) : ConF Try.prog 7 [VA.k kPlan a0, VA.k kDisk a1] [VA.k kbool r] := (smithylaw13_StaleOrder.con k a0 a1 r H).freeL (.cons (KFree.k KFree.bool _) .nil)
end Go.Proofs.Ytoemgemfgaooeaa.F
