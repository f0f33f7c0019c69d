import Derived.Test.YtaeapobjhgakiaaFKx0
set_option linter.unusedVariables false
set_option linter.unusedSimpArgs false
set_option linter.unnecessarySimpa false
set_option linter.deprecated false
namespace Go.Proofs.Ytaeapobjhgakiaa.F
open Go Go.RowKit Go.Proofs.Ytaeapobjhgakiaa.Sl
/-! slices.BinarySearchFunc[[]smithy/api.File,smithy/api.File,string] -/
def slices_BinarySearchFunc_api_File_api_File_string.l0 (a0 : List File) (a1 : ByteArray) (a2 : File → ByteArray → Option Int) : Nat → (Int × Int) → Option Int
  | 0, _ => none
  | k + 1, s1 => bif icmp .lss s1.1 s1.2 then ((idx a0 (IntKind.i64.wrap ((IntKind.u64.wrap (IntKind.i64.wrap (s1.1 + s1.2))) / 2 ^ (Int.toNat (1 : Int))))).bind fun x5 => (a2 x5 a1).bind fun v7 => bif icmp .lss v7 (0 : Int) then (slices_BinarySearchFunc_api_File_api_File_string.l0 a0 a1 a2 k (IntKind.i64.wrap (IntKind.i64.wrap ((IntKind.u64.wrap (IntKind.i64.wrap (s1.1 + s1.2))) / 2 ^ (Int.toNat (1 : Int))) + (1 : Int)), s1.2)) else (slices_BinarySearchFunc_api_File_api_File_string.l0 a0 a1 a2 k (s1.1, IntKind.i64.wrap ((IntKind.u64.wrap (IntKind.i64.wrap (s1.1 + s1.2))) / 2 ^ (Int.toNat (1 : Int)))))) else (some s1.1)
def slices_BinarySearchFunc_api_File_api_File_string.f (k : Nat) (a0 : List File) (a1 : ByteArray) (a2 : File → ByteArray → Option Int) : Option (Int × Bool) := (slices_BinarySearchFunc_api_File_api_File_string.l0 a0 a1 a2 k ((0 : Int), (a0.length : Int))).bind fun s2 => (bif icmp .lss s2 (a0.length : Int) then ((idx a0 s2).bind fun x13 => (a2 x13 a1).bind fun v15 => some (icmp .eql v15 (0 : Int))) else (some false)).bind fun s10 => some (s2, s10)
set_option maxRecDepth 100000 in
set_option maxHeartbeats 4000000 in
theorem slices_BinarySearchFunc_api_File_api_File_string.con (F2 : FuncId) (pre2 caps2 : List VA) (k : Nat) (a0 : List File) (a1 : ByteArray) (a2 : File → ByteArray → Option Int) (hE2 : Enters Try.prog F2) (hp2 : ∀ (z0 : File) (z1 : ByteArray) r, a2 z0 z1 = some r → Con Try.prog F2 (pre2 ++ ([VA.k kFile z0, VA.k kstr z1] ++ caps2)) [VA.k (kint .i64) r]) (r : Int × Bool) (H : slices_BinarySearchFunc_api_File_api_File_string.f k a0 a1 a2 = some r) : Con Try.prog 55 [VA.k (kslice kFile) a0, VA.k kstr a1, VA.clo F2 pre2 caps2] [VA.k (kint .i64) r.1, VA.k kbool r.2] := by
  unfold slices_BinarySearchFunc_api_File_api_File_string.f at H
  refine con_enter Try.func55 rfl rfl rfl (fun w0 S0 θ => ?_)
  refine goes_seq ?_
  refine goes_region ?_
  refine go1 (op_assign rfl (.int _ _)) rfl ?_
  refine go1 (op_assign rfl (.bool _)) rfl ?_
  refine goesO_nil ?_
  refine ends_then ?_
  refine goes_seq ?_
  refine goes_region ?_
  refine go1 (op_move rfl (.t (has rfl))) rfl ?_
  refine go1 (op_len rfl rfl Try.underlying22 (.t (has rfl))) rfl ?_
  refine go1 (op_assign rfl (.t (has rfl))) rfl ?_
  refine goesO_nil ?_
  refine ends_then ?_
  refine goes_seq ?_
  refine goes_region ?_
  refine go1 (op_move rfl (.t (has rfl))) rfl ?_
  refine go1 (op_assign rfl (.int _ _)) rfl ?_
  refine go1 (op_assign rfl (.t (has rfl))) rfl ?_
  refine goesO_nil ?_
  refine ends_then ?_
  refine goes_seq ?_
  obtain ⟨s2, h3, H⟩ := bind_some H
  refine goes_cut [Ent.t 0 (VA.k (kslice kFile) a0), Ent.t 1 (VA.k kstr a1), Ent.t 2 (VA.clo F2 pre2 caps2), Ent.t 8 (VA.k (kint .i64) (a0.length : Int)), Ent.t 9 (VA.k (kint .i64) s2)] ?_ ?_
  · replace H := h3; clear h3
    refine goes_block ?_
    refine goes_loop (fun s1 : Int × Int => [Ent.t 0 (VA.k (kslice kFile) a0), Ent.t 1 (VA.k kstr a1), Ent.t 2 (VA.clo F2 pre2 caps2), Ent.t 8 (VA.k (kint .i64) (a0.length : Int)), Ent.t 9 (VA.k (kint .i64) s1.1), Ent.t 10 (VA.k (kint .i64) s1.2)]) (fun k s1 => slices_BinarySearchFunc_api_File_api_File_string.l0 a0 a1 a2 k s1) (fun _ => rfl) H (.cons rfl (.cons rfl (.cons rfl (.cons rfl (.cons rfl (.cons rfl .nil)))))) ?_
    intro k s1 H
    simp only [slices_BinarySearchFunc_api_File_api_File_string.l0] at H
    refine goes_seq ?_
    refine goes_seq ?_
    refine goes_region ?_
    refine go1 (op_move rfl (.t (has rfl))) rfl ?_
    refine go1 (op_move rfl (.t (has rfl))) rfl ?_
    refine go1 (op_icmp rfl rfl (.t (has rfl)) (.t (has rfl))) rfl ?_
    refine goesO_nil ?_
    refine ends_then ?_
    refine goes_if (.t (has rfl)) H (fun hb4 H => ?_) (fun hb4 H => ?_)
    · skip
      refine goes_skip ?_
      refine ends_then ?_
      refine goes_block ?_
      refine goes_seq ?_
      refine goes_region ?_
      refine go1 (op_move rfl (.t (has rfl))) rfl ?_
      refine go1 (op_move rfl (.t (has rfl))) rfl ?_
      refine go1 (op_add rfl (.t (has rfl)) (.t (has rfl))) rfl ?_
      refine go1 (op_conv rfl Try.underlying3 Try.underlying86 (.t (has rfl))) rfl ?_
      refine go1 (op_shr rfl (by decide) (by decide) (.t (has rfl)) (.int _ _)) rfl ?_
      refine go1 (op_conv rfl Try.underlying86 Try.underlying3 (.t (has rfl))) rfl ?_
      refine go1 (op_assign rfl (.t (has rfl))) rfl ?_
      refine goesO_nil ?_
      refine ends_then ?_
      refine goes_seq ?_
      refine goes_region ?_
      refine go1 (op_moveA rfl plain_clo (.t (has rfl))) rfl ?_
      refine go1 (op_move rfl (.t (has rfl))) rfl ?_
      refine go1 (op_move rfl (.t (has rfl))) rfl ?_
      obtain ⟨x5, h6, H⟩ := bind_some H
      refine go1 (op_indexAddr rfl Try.underlying22 tk26 h6 (.t (has rfl)) (.t (has rfl))) rfl ?_
      refine go1 (op_loadp rfl tk26 (.t (has rfl))) rfl ?_
      refine go1 (op_move rfl (.t (has rfl))) rfl ?_
      obtain ⟨v7, h8, H⟩ := bind_some H
      refine go1 (op_callv rfl (.t (has rfl)) hE2 (hp2 _ _ _ h8) rfl (.cons (ArgP.k (.t (has rfl))) (.cons (ArgP.k (.t (has rfl))) .nil))) rfl ?_
      refine go1 (op_icmp rfl rfl (.t (has rfl)) (.int _ _)) rfl ?_
      refine goesO_nil ?_
      refine ends_then ?_
      refine goes_if (.t (has rfl)) H (fun hb9 H => ?_) (fun hb9 H => ?_)
      · skip
        refine goes_region ?_
        refine go1 (op_move rfl (.t (has rfl))) rfl ?_
        refine go1 (op_add rfl (.t (has rfl)) (.int _ _)) rfl ?_
        refine go1 (op_assign rfl (.t (has rfl))) rfl ?_
        refine goesO_nil ?_
        refine ends_block ?_
        exact loop_next _ H (.cons rfl (.cons rfl (.cons rfl (.cons rfl (.cons rfl (.cons rfl .nil))))))
      · skip
        refine goes_region ?_
        refine go1 (op_move rfl (.t (has rfl))) rfl ?_
        refine go1 (op_assign rfl (.t (has rfl))) rfl ?_
        refine goesO_nil ?_
        refine ends_block ?_
        exact loop_next _ H (.cons rfl (.cons rfl (.cons rfl (.cons rfl (.cons rfl (.cons rfl .nil))))))
    · skip
      refine goes_exit (ends_then_exit (ends_then_exit (ends_block_exit ?_)))
      obtain rfl := Option.some.inj H
      exact ends_cut (.cons rfl (.cons rfl (.cons rfl (.cons rfl (.cons rfl .nil)))))
  refine ends_then ?_
  refine goes_seq ?_
  obtain ⟨s10, h11, H⟩ := bind_some H
  refine goes_cut [Ent.t 6 (VA.k (kint .i64) s2), Ent.t 7 (VA.k kbool s10)] ?_ ?_
  · replace H := h11; clear h11
    refine goes_region ?_
    refine go1 (op_move rfl (.t (has rfl))) rfl ?_
    refine go1 (op_move rfl (.t (has rfl))) rfl ?_
    refine go1 (op_move rfl (.t (has rfl))) rfl ?_
    refine go1 (op_icmp rfl rfl (.t (has rfl)) (.t (has rfl))) rfl ?_
    refine go1 (op_move rfl (.t (has rfl))) rfl ?_
    refine goesO_split H (fun hb12 H => ?_) (fun hb12 H => ?_)
    · skip
      refine goG (op_moveA rfl plain_clo (.t (has rfl))) rfl rfl rfl rfl hb12 ?_
      refine goG (op_move rfl (.t (has rfl))) rfl rfl rfl rfl hb12 ?_
      refine goG (op_move rfl (.t (has rfl))) rfl rfl rfl rfl hb12 ?_
      obtain ⟨x13, h14, H⟩ := bind_some H
      refine goG (op_indexAddr rfl Try.underlying22 tk26 h14 (.t (has rfl)) (.t (has rfl))) rfl rfl rfl rfl hb12 ?_
      refine goG (op_loadp rfl tk26 (.t (has rfl))) rfl rfl rfl rfl hb12 ?_
      refine goG (op_move rfl (.t (has rfl))) rfl rfl rfl rfl hb12 ?_
      obtain ⟨v15, h16, H⟩ := bind_some H
      refine goG (op_callv rfl (.t (has rfl)) hE2 (hp2 _ _ _ h16) rfl (.cons (ArgP.k (.t (has rfl))) (.cons (ArgP.k (.t (has rfl))) .nil))) rfl rfl rfl rfl hb12 ?_
      refine goG (op_icmp rfl rfl (.t (has rfl)) (.int _ _)) rfl rfl rfl rfl hb12 ?_
      refine go1 (op_pick_t rfl hb12 (.t (has rfl)) (.t (has rfl))) rfl ?_
      refine go1 (op_assign rfl (.t (has rfl))) rfl ?_
      refine go1 (op_assign rfl (.t (has rfl))) rfl ?_
      refine goesO_nil ?_
      obtain rfl := Option.some.inj H
      exact ends_cut (.cons rfl (.cons rfl .nil))
    · skip
      refine goS rfl rfl rfl rfl rfl rfl hb12 ?_
      refine goS rfl rfl rfl rfl rfl rfl hb12 ?_
      refine goS rfl rfl rfl rfl rfl rfl hb12 ?_
      refine goS rfl rfl rfl rfl rfl rfl hb12 ?_
      refine goS rfl rfl rfl rfl rfl rfl hb12 ?_
      refine goS rfl rfl rfl rfl rfl rfl hb12 ?_
      refine goS rfl rfl rfl rfl rfl rfl hb12 ?_
      refine goS rfl rfl rfl rfl rfl rfl hb12 ?_
      refine go1 (op_pick_f rfl hb12 (.t (has rfl)) (.bool _)) rfl ?_
      refine go1 (op_assign rfl (.t (has rfl))) rfl ?_
      refine go1 (op_assign rfl (.t (has rfl))) rfl ?_
      refine goesO_nil ?_
      obtain rfl := Option.some.inj H
      exact ends_cut (.cons rfl (.cons rfl .nil))
  refine ends_then ?_
  obtain rfl := Option.some.inj H
  exact goes_ret (ends_ret' rfl rfl (.t rfl (.t rfl (.nil _))))
theorem slices_BinarySearchFunc_api_File_api_File_string.conF (F2 : FuncId) (pre2 caps2 : List VA) (k : Nat) (a0 : List File) (a1 : ByteArray) (a2 : File → ByteArray → Option Int) (hE2 : Enters Try.prog F2) (hp2 : ∀ (z0 : File) (z1 : ByteArray) r, a2 z0 z1 = some r → Con Try.prog F2 (pre2 ++ ([VA.k kFile z0, VA.k kstr z1] ++ caps2)) [VA.k (kint .i64) r]) (r : Int × Bool) (H : slices_BinarySearchFunc_api_File_api_File_string.f k a0 a1 a2 = some r) : ConF Try.prog 55 [VA.k (kslice kFile) a0, VA.k kstr a1, VA.clo F2 pre2 caps2] [VA.k (kint .i64) r.1, VA.k kbool r.2] := (slices_BinarySearchFunc_api_File_api_File_string.con F2 pre2 caps2 k a0 a1 a2 hE2 hp2 r H).freeL (.cons (KFree.k (KFree.int .i64) _) (.cons (KFree.k KFree.bool _) .nil))
/-! strings.Compare -/
def strings_Compare.f (a0 : ByteArray) (a1 : ByteArray) : Option Int := some (Lib.compareBytes a0.data.toList a1.data.toList)
theorem strings_Compare.con (a0 : ByteArray) (a1 : ByteArray) (r : Int) (H : strings_Compare.f a0 a1 = some r) : Con Try.prog 57 [VA.k kstr a0, VA.k kstr a1] [VA.k (kint .i64) r] := by
  obtain rfl := Option.some.inj H
  refine con_plain fun θ S w vs h => ?_
  match vs, h with
  | [v0, v1], h =>
    obtain ⟨h0, h1, _⟩ := h
    obtain rfl := arg_str h0
    obtain rfl := arg_str h1
    exact ⟨_, Try.strings_Compare a0 a1 w, va_int _ _⟩
theorem strings_Compare.conF (a0 : ByteArray) (a1 : ByteArray) (r : Int) (H : strings_Compare.f a0 a1 = some r) : ConF Try.prog 57 [VA.k kstr a0, VA.k kstr a1] [VA.k (kint .i64) r] := (strings_Compare.con a0 a1 r H).freeL (.cons (KFree.k (KFree.int .i64) _) .nil)
/-! smithy/disk.place$1 -/
def disk_place_1.f (a0 : File) (a1 : ByteArray) : Option Int := (strings_Compare.f a0.Name a1).bind fun v1 => some v1
set_option maxRecDepth 100000 in
set_option maxHeartbeats 4000000 in
theorem disk_place_1.con (a0 : File) (a1 : ByteArray) (r : Int) (H : disk_place_1.f a0 a1 = some r) : Con Try.prog 56 [VA.k kFile a0, VA.k kstr a1] [VA.k (kint .i64) r] := by
  unfold disk_place_1.f at H
  refine con_enter Try.func56 rfl rfl rfl (fun w0 S0 θ => ?_)
  refine goes_seq ?_
  refine goes_region ?_
  refine go3 (op_box 2 rfl (fun h => by first | rfl | cases h) (.t (has rfl))) rfl ?_
  refine go1 (op_assign rfl (.int _ _)) rfl ?_
  refine goesO_nil ?_
  refine ends_then ?_
  refine goes_seq ?_
  refine goes_region ?_
  refine go1 (op_fieldAddr rfl Try.underlying26 rfl tk9 (.t (has rfl))) rfl ?_
  refine go1 (op_load rfl fldFile_Name tk9 (.t (has rfl)) (has rfl)) rfl ?_
  refine go1 (op_move rfl (.t (has rfl))) rfl ?_
  obtain ⟨v1, h2, H⟩ := bind_some H
  refine go1 (op_call' rfl enters57 (strings_Compare.con _ _ _ h2) rfl (.cons (ArgP.k (.t (has rfl))) (.cons (ArgP.k (.t (has rfl))) .nil))) rfl ?_
  refine go1 (op_assign rfl (.t (has rfl))) rfl ?_
  refine goesO_nil ?_
  refine ends_then ?_
  obtain rfl := Option.some.inj H
  exact goes_ret (ends_ret' rfl rfl (.t rfl (.nil _)))
theorem disk_place_1.conF (a0 : File) (a1 : ByteArray) (r : Int) (H : disk_place_1.f a0 a1 = some r) : ConF Try.prog 56 [VA.k kFile a0, VA.k kstr a1] [VA.k (kint .i64) r] := (disk_place_1.con a0 a1 r H).freeL (.cons (KFree.k (KFree.int .i64) _) .nil)
/-! smithy/disk.place -/
def disk_place.f (k : Nat) (a0 : Disk) (a1 : ByteArray) : Option (Int × Bool) := (slices_BinarySearchFunc_api_File_api_File_string.f k a0.Files a1 (fun (z0 : File) (z1 : ByteArray) => disk_place_1.f z0 z1)).bind fun v1 => some (v1.1, v1.2)
set_option maxRecDepth 100000 in
set_option maxHeartbeats 4000000 in
theorem disk_place.con (k : Nat) (a0 : Disk) (a1 : ByteArray) (r : Int × Bool) (H : disk_place.f k a0 a1 = some r) : Con Try.prog 36 [VA.k kDisk a0, VA.k kstr a1] [VA.k (kint .i64) r.1, VA.k kbool r.2] := by
  unfold disk_place.f at H
  refine con_enter Try.func36 rfl rfl rfl (fun w0 S0 θ => ?_)
  refine goes_seq ?_
  refine goes_region ?_
  refine go3 (op_box 2 rfl (fun h => by first | rfl | cases h) (.t (has rfl))) rfl ?_
  refine go1 (op_assign rfl (.int _ _)) rfl ?_
  refine go1 (op_assign rfl (.bool _)) rfl ?_
  refine goesO_nil ?_
  refine ends_then ?_
  refine goes_seq ?_
  refine goes_region ?_
  refine go1 (op_fieldAddr rfl Try.underlying24 rfl tk22 (.t (has rfl))) rfl ?_
  refine go1 (op_load rfl fldDisk_Files tk22 (.t (has rfl)) (has rfl)) rfl ?_
  refine go1 (op_move rfl (.t (has rfl))) rfl ?_
  obtain ⟨v1, h2, H⟩ := bind_some H
  refine goN (op_calls' rfl enters55 (slices_BinarySearchFunc_api_File_api_File_string.con 56 ([]) ([]) _ _ _ (fun (z0 : File) (z1 : ByteArray) => disk_place_1.f z0 z1) enters56 (fun z0 z1 r h => disk_place_1.con z0 z1 r h) _ h2) rfl rfl (.cons (ArgP.k (.t (has rfl))) (.cons (ArgP.k (.t (has rfl))) (.cons ArgP.fn .nil)))) rfl ?_
  refine go1 (op_extract rfl plain_k (has rfl)) rfl ?_
  refine go1 (op_extract rfl plain_k (has rfl)) rfl ?_
  refine go1 (op_assign rfl (.t (has rfl))) rfl ?_
  refine go1 (op_assign rfl (.t (has rfl))) rfl ?_
  refine goesO_nil ?_
  refine ends_then ?_
  obtain rfl := Option.some.inj H
  exact goes_ret (ends_ret' rfl rfl (.t rfl (.t rfl (.nil _))))
theorem disk_place.conF (k : Nat) (a0 : Disk) (a1 : ByteArray) (r : Int × Bool) (H : disk_place.f k a0 a1 = some r) : ConF Try.prog 36 [VA.k kDisk a0, VA.k kstr a1] [VA.k (kint .i64) r.1, VA.k kbool r.2] := (disk_place.con k a0 a1 r H).freeL (.cons (KFree.k (KFree.int .i64) _) (.cons (KFree.k KFree.bool _) .nil))
/-! slices.Clone[[]smithy/api.File,smithy/api.File] -/
def slices_Clone_api_File_api_File.f (a0 : List File) : Option (List File) := (app 40 ([] : List File) a0).bind fun x1 => some x1
set_option maxRecDepth 100000 in
set_option maxHeartbeats 4000000 in
theorem slices_Clone_api_File_api_File.con (a0 : List File) (r : List File) (H : slices_Clone_api_File_api_File.f a0 = some r) : Con Try.prog 47 [VA.k (kslice kFile) a0] [VA.own 26 kFile r] := by
  unfold slices_Clone_api_File_api_File.f at H
  refine con_enter Try.func47 rfl rfl rfl (fun w0 S0 θ => ?_)
  refine goes_seq ?_
  refine goes_region ?_
  refine go1 (op_assign_nil 26 kFile (.inr rfl) rfl) rfl ?_
  refine goesO_nil ?_
  refine ends_then ?_
  refine goes_seq ?_
  refine goes_seq ?_
  refine goes_region ?_
  refine go1 (op_move rfl (.t (has rfl))) rfl ?_
  refine go1 (op_isnil rfl Try.underlying22 (.t (has rfl))) rfl ?_
  refine goesO_nil ?_
  refine ends_then ?_
  refine goes_ifnil (.t (has rfl)) (fun hnil => ?_) ?_
  · skip
    replace H : (some ([] : List File)) = some r := by subst hnil; simpa [app, room] using H
    refine goes_seq ?_
    refine goes_region ?_
    refine go1 (op_assign_nil 26 kFile (.inr rfl) rfl) rfl ?_
    refine goesO_nil ?_
    refine ends_then ?_
    obtain rfl := Option.some.inj H
    exact goes_ret (ends_then_ret (ends_ret' rfl rfl (.t rfl (.nil _))))
  · skip
    refine goes_skip ?_
    refine ends_then ?_
    refine goes_seq ?_
    refine goes_region ?_
    refine go1 (op_buildSlice0 rfl at22) rfl ?_
    refine go1 (op_move rfl (.t (has rfl))) rfl ?_
    obtain ⟨x1, h2, H⟩ := bind_some H
    refine go2 (op_append rfl rfl at22 h2 (has rfl) (ReadsArg.k (.t (has rfl)))) rfl ?_
    refine go2 (op_mv (.inr rfl) rfl rfl (has rfl)) rfl ?_
    refine goesO_nil ?_
    refine ends_then ?_
    obtain rfl := Option.some.inj H
    exact goes_ret (ends_ret' rfl rfl (.t rfl (.nil _)))
theorem slices_Clone_api_File_api_File.conF (a0 : List File) (r : List File) (H : slices_Clone_api_File_api_File.f a0 = some r) : ConF Try.prog 47 [VA.k (kslice kFile) a0] [VA.own 26 kFile r] := (slices_Clone_api_File_api_File.con a0 r H).freeL (.cons (KFree.own kfreeFile _ _) .nil)
/-! slices.Insert[[]smithy/api.File,smithy/api.File] -/
def slices_Insert_api_File_api_File.f (a0 : List File) (a1 : Int) (a2 : List File) : Option (List File) := match a2 with
  | [y] => bif decide (0 ≤ a1) && decide (a1 ≤ (a0.length : Int)) && room 40 (a0.length + 1) then some (a0.take a1.toNat ++ y :: a0.drop a1.toNat) else none
  | _ => none
theorem insAt26 : InsAt Try.prog 59 22 26 where
  cells := Ins26.insert_cells
  shift := Ins26.insert_shift26
  grow := Ins26.insert_grow26
  last := Ins26.insert_end26
theorem slices_Insert_api_File_api_File.con (a0 : List File) (a1 : Int) (a2 : List File) (r : List File) (H : slices_Insert_api_File_api_File.f a0 a1 a2 = some r) : ConE Try.prog 59 [] [Ent.r 900 26 kFile a0, Ent.r 902 26 kFile a2] [VA.rw 900 (a0).length, VA.k (kint .i64) a1, VA.rw 902 (a2).length] [VA.own 26 kFile r] [] := by
  unfold slices_Insert_api_File_api_File.f at H
  match a2, H with
  | [y], H =>
    simp only at H
    cases hb : (decide (0 ≤ a1) && decide (a1 ≤ (a0.length : Int)) && room 40 (a0.length + 1)) with
    | false => rw [hb] at H; cases H
    | true =>
      rw [hb, cond_true] at H
      obtain rfl := Option.some.inj H
      simp only [Bool.and_eq_true, decide_eq_true_eq] at hb
      exact conE_insert insAt26 at22 kfreeFile rfl a0 a1 y hb.1.1 hb.1.2 hb.2
theorem slices_Insert_api_File_api_File.conF (a0 : List File) (a1 : Int) (a2 : List File) (r : List File) (H : slices_Insert_api_File_api_File.f a0 a1 a2 = some r) : ConEF Try.prog 59 [] [Ent.r 900 26 kFile a0, Ent.r 902 26 kFile a2] [VA.rw 900 (a0).length, VA.k (kint .i64) a1, VA.rw 902 (a2).length] [VA.own 26 kFile r] [] := (slices_Insert_api_File_api_File.con a0 a1 a2 r H).freeL (.cons (KFree.own kfreeFile _ _) .nil) (fun e he => by cases he)
/-! smithy/disk.laid -/
def disk_laid.f (k : Nat) (a0 : Disk) (a1 : File) : Option (Disk × Int) := (disk_place.f k a0 a1.Name).bind fun v1 => (slices_Clone_api_File_api_File.f a0.Files).bind fun v3 => (bif v1.2 then ((idx v3 v1.1).bind fun x9 => (idx v3 v1.1).bind fun x11 => some (Except.ok (v3.set v1.1.toNat a1))) else (bif icmp .eql (a0.Files.length : Int) (256 : Int) then (some (Except.error ((⟨(0 : Int), ([] : List File)⟩ : Disk), (22 : Int)))) else ((slices_Insert_api_File_api_File.f v3 v1.1 ([a1])).bind fun v14 => some (Except.ok v14)))).bind fun o7 => match o7 with | .error r' => some r' | .ok s5 => (some ((⟨a0.Clock, s5⟩ : Disk), (0 : Int)))
set_option maxRecDepth 100000 in
set_option maxHeartbeats 4000000 in
theorem disk_laid.con (k : Nat) (a0 : Disk) (a1 : File) (r : Disk × Int) (H : disk_laid.f k a0 a1 = some r) : Con Try.prog 41 [VA.k kDisk a0, VA.k kFile a1] [VA.k kDisk r.1, VA.k (kint .i64) r.2] := by
  unfold disk_laid.f at H
  refine con_enter Try.func41 rfl rfl rfl (fun w0 S0 θ => ?_)
  refine goes_seq ?_
  refine goes_region ?_
  refine go3 (op_box 2 rfl (fun h => by first | rfl | cases h) (.t (has rfl))) rfl ?_
  refine go3 (op_box 3 rfl (fun h => by first | rfl | cases h) (.t (has rfl))) rfl ?_
  refine go3 (op_alloc 4 rfl zk24) rfl ?_
  refine go1 (op_assign rfl (.int _ _)) rfl ?_
  refine goesO_nil ?_
  refine ends_then ?_
  refine goes_seq ?_
  refine goes_region ?_
  refine go1 (op_load rfl (Fld.whole kDisk) tk24 (.t (has rfl)) (has rfl)) rfl ?_
  refine go1 (op_fieldAddr rfl Try.underlying26 rfl tk9 (.t (has rfl))) rfl ?_
  refine go1 (op_load rfl fldFile_Name tk9 (.t (has rfl)) (has rfl)) rfl ?_
  obtain ⟨v1, h2, H⟩ := bind_some H
  refine goN (op_calls' rfl enters36 (disk_place.con _ _ _ _ h2) rfl rfl (.cons (ArgP.k (.t (has rfl))) (.cons (ArgP.k (.t (has rfl))) .nil))) rfl ?_
  refine go1 (op_same (.inl rfl) rfl rfl) rfl ?_
  refine go1 (op_extract_same rfl plain_k (has rfl) (has rfl)) rfl ?_
  refine go1 (op_extract_same rfl plain_k (has rfl) (has rfl)) rfl ?_
  refine go1 (op_assign rfl (.t (has rfl))) rfl ?_
  refine go1 (op_assign rfl (.t (has rfl))) rfl ?_
  refine goesO_nil ?_
  refine ends_then ?_
  refine goes_seq ?_
  obtain ⟨v3, h4, H⟩ := bind_some H
  refine goes_drawn [[Ent.t 16 (VA.ptr 2 0)], [Ent.t 17 (VA.k (kint .i64) a0.Clock)], [Ent.t 18 (VA.ptr 2 1)], [Ent.t 19 (VA.k (kslice kFile) a0.Files)], [Ent.t 20 (VA.rw 100801 (v3).length), Ent.r 100801 26 kFile v3, Ent.bind 100801, Ent.bind 600801, Ent.t 20 (VA.own 26 kFile v3)], [Ent.t 21 (VA.fl 2 [FA.k 0 (kint .i64) a0.Clock, FA.rw 1 100801 (v3).length])], [Ent.t 8 (VA.ptr 8 0), Ent.h 8 (HE.boxf 24 2 [FA.any 0 2]), Ent.bind 8], [Ent.h 8 (HE.boxf 24 2 [FA.whole 2 [FA.k 0 (kint .i64) a0.Clock, FA.rw 1 100801 (v3).length]])]] mixed (by kernel_rfl) (by kernel_rfl) (.cons [(none, Ent.t 2 (VA.ptr 2 0))] (OpSpec.run rfl rfl (op_fieldAddr rfl Try.underlying24 rfl tk3 (.t NL.h0)) rfl) (.cons (has rfl) .nil) (by kernel_rfl) (.cons [(some 0, Ent.t 16 (VA.ptr 2 0)), (none, Ent.h 2 (HE.box 24 kDisk a0))] (OpSpec.run rfl rfl (op_load rfl fldDisk_Clock tk3 (.t NL.h0) (NL.hs NL.h0)) rfl) (.cons (has rfl) (.cons (has rfl) .nil)) (by kernel_rfl) (.cons [(none, Ent.t 2 (VA.ptr 2 0))] (OpSpec.run rfl rfl (op_fieldAddr rfl Try.underlying24 rfl tk22 (.t NL.h0)) rfl) (.cons (has rfl) .nil) (by kernel_rfl) (.cons [(some 2, Ent.t 18 (VA.ptr 2 1)), (none, Ent.h 2 (HE.box 24 kDisk a0))] (OpSpec.run rfl rfl (op_load rfl fldDisk_Files tk22 (.t NL.h0) (NL.hs NL.h0)) rfl) (.cons (has rfl) (.cons (has rfl) .nil)) (by kernel_rfl) (.cons [(some 3, Ent.t 19 (VA.k (kslice kFile) a0.Files))] (OpSpec.run rfl rfl (OpSpec.number (op_call' rfl enters47 (slices_Clone_api_File_api_File.con _ _ h4) rfl (.cons (ArgP.k (.t NL.h0)) .nil)) 100801 rfl rfl) rfl) (.cons (has rfl) .nil) (by kernel_rfl) (.cons [(some 1, Ent.t 17 (VA.k (kint .i64) a0.Clock)), (some 4, Ent.t 20 (VA.rw 100801 (v3).length))] (OpSpec.run rfl rfl (op_build_fl (pl := [(0, 1), (1, 1)]) rfl Try.underlying24 (by kernel_rfl) xzf24_1 (.cons [] (FA.k 0 (kint .i64) a0.Clock) [FA.v 1 (.slice none 0 0)] rfl rfl rfl rfl (gives_k tk3) rfl (.t NL.h0) (.cons [FA.k 0 (kint .i64) a0.Clock] (FA.rw 1 100801 (v3).length) [] rfl rfl rfl rfl (gives_rw (K := kFile) tk22) rfl (.t (NL.hs NL.h0)) (.nil _)))) rfl) (.cons (has rfl) (.cons (has rfl) .nil)) (by kernel_rfl) (.cons [] (OpSpec.run rfl rfl (op_alloc_any 8 rfl xaz24 rfl) rfl) .nil (by kernel_rfl) (.cons [(some 6, Ent.t 8 (VA.ptr 8 0)), (some 5, Ent.t 21 (VA.fl 2 [FA.k 0 (kint .i64) a0.Clock, FA.rw 1 100801 (v3).length])), (some 6, Ent.h 8 (HE.boxf 24 2 [FA.any 0 2]))] (OpSpec.run rfl rfl (op_store_fl (cellsOf_tk tk24) rfl (tk24).size (.t NL.h0) (NL.hs (NL.hs NL.h0)) (.t (NL.hs NL.h0))) rfl) (.cons (has rfl) (.cons (has rfl) (.cons (has rfl) .nil))) (by kernel_rfl) (.nil _))))))))) ?_
  refine ends_sub [Ent.t 2 (VA.ptr 2 0), Ent.t 3 (VA.ptr 3 0), Ent.t 4 (VA.ptr 4 0), Ent.t 6 (VA.k (kint .i64) v1.1), Ent.t 7 (VA.k kbool v1.2), Ent.t 8 (VA.ptr 8 0), Ent.h 2 (HE.box 24 kDisk a0), Ent.h 3 (HE.box 26 kFile a1), Ent.h 4 (HE.box 24 kDisk zeroDisk), Ent.h 8 (HE.boxf 24 2 [FA.whole 2 [FA.k 0 (kint .i64) a0.Clock, FA.rw 1 100801 (v3).length]]), Ent.r 100801 26 kFile v3] (.cons rfl (.cons rfl (.cons rfl (.cons rfl (.cons rfl (.cons rfl (.cons rfl (.cons rfl (.cons rfl (.cons rfl (.cons rfl .nil))))))))))) ?_
  refine ends_by (fun a w hi => inv_split 8 rfl hi) ?_
  refine ends_then ?_
  refine goes_seq ?_
  obtain ⟨o7, h6, H⟩ := bind_some H
  refine goes_cutR (o := o7) (fun s5 : (List File) => [Ent.t 4 (VA.ptr 4 0), Ent.t 8 (VA.ptr 8 0), Ent.h 4 (HE.box 24 kDisk zeroDisk), Ent.h 8 (HE.boxf 24 2 [FA.k 0 (kint .i64) a0.Clock, FA.rw 1 100801 (s5).length]), Ent.r 100801 26 kFile s5]) (fun r a w => bodyPost Try.prog Try.f41 (CPost w0 S0 θ [VA.k kDisk r.1, VA.k (kint .i64) r.2]) .ret a w) ?_ ?_ ?_
  · replace H := h6; clear h6
    refine goes_block ?_
    refine goes_seq ?_
    refine goes_region ?_
    refine go1 (op_move rfl (.t (has rfl))) rfl ?_
    refine go1 (op_assign rfl (.t (has rfl))) rfl ?_
    refine goesO_nil ?_
    refine ends_then ?_
    refine goes_if (.t (has rfl)) H (fun hb8 H => ?_) (fun hb8 H => ?_)
    · skip
      refine goes_region ?_
      refine go1 (op_fieldAddr rfl Try.underlying24 rfl tk22 (.t (has rfl))) rfl ?_
      refine go1 (op_loadf_rw (K := kFile) rfl tk22 (.t (has rfl)) (has rfl) (.tail _ (.head _))) rfl ?_
      refine go1 (op_move rfl (.t (has rfl))) rfl ?_
      refine go1 (op_load rfl (Fld.whole kFile) tk26 (.t (has rfl)) (has rfl)) rfl ?_
      obtain ⟨x9, h10, H⟩ := bind_some H
      refine go1 (op_indexAddr_rw rfl Try.underlying22 tk26 h10 (.t (has rfl)) (has rfl) (.t (has rfl))) rfl ?_
      obtain ⟨x11, h12, H⟩ := bind_some H
      refine go1 (op_store_rp (off := 0) (Fld.whole kFile) tk26 h12 (has rfl) (.t (has rfl)) (.t (has rfl))) rfl ?_
      refine goesO_by (fun a w hi => inv_again (e' := Ent.h 8 (HE.boxf 24 2 [FA.k 0 (kint .i64) a0.Clock, FA.rw 1 100801 (v3.set v1.1.toNat a1).length])) 2000008 rfl (by simp only [List.length_set]) hi) ?_
      refine goesO_nil ?_
      refine ends_block ?_
      obtain rfl := Option.some.inj H
      exact ends_cutR rfl (.cons rfl (.cons rfl (.cons rfl (.cons rfl (.cons rfl .nil)))))
    · skip
      refine goes_seq ?_
      refine goes_region ?_
      refine go1 (op_fieldAddr rfl Try.underlying24 rfl tk22 (.t (has rfl))) rfl ?_
      refine go1 (op_load rfl fldDisk_Files tk22 (.t (has rfl)) (has rfl)) rfl ?_
      refine go1 (op_len rfl rfl Try.underlying22 (.t (has rfl))) rfl ?_
      refine go1 (op_icmp rfl rfl (.t (has rfl)) (.int _ _)) rfl ?_
      refine go1 (op_assign rfl (.t (has rfl))) rfl ?_
      refine goesO_nil ?_
      refine ends_then ?_
      refine goes_if (.t (has rfl)) H (fun hb13 H => ?_) (fun hb13 H => ?_)
      · skip
        refine goes_seq ?_
        refine goes_region ?_
        refine go1 (op_build (pl := [(0, 1), (1, 1)]) rfl rfl Try.underlying24 (by kernel_rfl) zk24 (.nil _)) rfl ?_
        refine go1 (op_store (Fld.whole kDisk) tk24 (.t (has rfl)) (has rfl) (.t (has rfl))) rfl ?_
        refine go1 (op_assign rfl (.int _ _)) rfl ?_
        refine goesO_nil ?_
        refine ends_then ?_
        obtain rfl := Option.some.inj H
        refine goes_ret (ends_block_ret (ends_cutR_ret rfl ?_))
        exact ends_ret' rfl rfl (.c rfl rfl tk24 (.t rfl (.nil _)))
      · skip
        refine goes_region ?_
        refine go1 (op_fieldAddr rfl Try.underlying24 rfl tk22 (.t (has rfl))) rfl ?_
        refine go1 (op_loadf_rw (K := kFile) rfl tk22 (.t (has rfl)) (has rfl) (.tail _ (.head _))) rfl ?_
        refine go1 (op_move rfl (.t (has rfl))) rfl ?_
        refine go1 (op_load rfl (Fld.whole kFile) tk26 (.t (has rfl)) (has rfl)) rfl ?_
        refine go1 (op_buildSlice rfl at22 (fun h => by first | rfl | cases h) rfl rfl rfl (.cons (.t (has rfl)) (.nil _))) rfl ?_
        refine goesO_release 23 100801 rfl rfl rfl ?_
        refine goesO_number 23 900 rfl rfl rfl ?_
        refine goesO_number 26 902 rfl rfl rfl ?_
        obtain ⟨v14, h15, H⟩ := bind_some H
        refine goN (op_callE [5000900, 5000902] [] rfl enters59 (slices_Insert_api_File_api_File.con _ _ _ _ h15) rfl (.cons (has rfl) (.cons (has rfl) .nil)) (.cons (ArgP.a plain_rw (.t (has rfl))) (.cons (ArgP.k (.t (has rfl))) (.cons (ArgP.a plain_rw (.t (has rfl))) .nil)))) rfl ?_
        refine go1 (op_fieldAddr rfl Try.underlying24 rfl tk22 (.t (has rfl))) rfl ?_
        refine goesO_by (fun a w hi => inv_boxw (fs' := [FA.k 0 (kint .i64) a0.Clock, FA.any 1 1]) 8 rfl (.keep (.head _) (.any (f := FA.rw 1 100801 (v3).length) (.tail _ (.head _)) .nil)) hi) ?_
        refine goesO_number 27 100801 rfl rfl rfl ?_
        refine go1 (op_storef_rw (K := kFile) (f := FA.any 1 1) (off := 1) (id := 8) [FA.k 0 (kint .i64) a0.Clock] [] tk22 rfl rfl rfl (.t (has rfl)) (has rfl) (.t (has rfl))) rfl ?_
        refine goesO_nil ?_
        refine ends_block ?_
        obtain rfl := Option.some.inj H
        exact ends_cutR rfl (.cons rfl (.cons rfl (.cons rfl (.cons rfl (.cons rfl .nil)))))
  · rintro s5 rfl
    clear h6
    dsimp only at H
    refine ends_then ?_
    refine goes_seq ?_
    refine goes_region ?_
    refine goesO_by (fun a w hi => inv_settle_r' 100801 rfl rfl hi) ?_
    refine goesO_by (fun a w hi => inv_field_k' (xs := s5) 8 [FA.k 0 (kint .i64) a0.Clock] 1 100801 [] rfl rfl hi) ?_
    refine go1 (op_loadw (x := (⟨a0.Clock, s5⟩ : Disk)) rfl tk24 (.t (has rfl)) (has rfl) (.iso (.pair (la := [FA.k 0 (kint .i64) a0.Clock]) (lb := [FA.k 1 (kslice kFile) s5]) .leaf .leaf) rfl)) rfl ?_
    refine go1 (op_store (Fld.whole kDisk) tk24 (.t (has rfl)) (has rfl) (.t (has rfl))) rfl ?_
    refine go1 (op_assign rfl (.int _ _)) rfl ?_
    refine goesO_nil ?_
    refine ends_then ?_
    obtain rfl := Option.some.inj H
    exact goes_ret (ends_ret' rfl rfl (.c rfl rfl tk24 (.t rfl (.nil _))))
  · rintro r' rfl a w hr
    obtain rfl := Option.some.inj H
    exact hr
/-! smithy/disk.written -/
def disk_written.f (k : Nat) (a0 : Disk) (a1 : ByteArray) (a2 : ByteArray) : Option (Disk × Int) := (disk_laid.f k a0 (⟨a1, a2, IntKind.i64.wrap (a0.Clock + (1 : Int))⟩ : File)).bind fun v1 => bif icmp .neq v1.2 (0 : Int) then (some ((⟨(0 : Int), ([] : List File)⟩ : Disk), v1.2)) else (bif icmp .eql a0.Clock (1099511627776 : Int) then (some ((⟨(0 : Int), ([] : List File)⟩ : Disk), (23 : Int))) else (some ({ v1.1 with Clock := IntKind.i64.wrap (v1.1.Clock + (1 : Int)) }, (0 : Int))))
set_option maxRecDepth 100000 in
set_option maxHeartbeats 4000000 in
theorem disk_written.con (k : Nat) (a0 : Disk) (a1 : ByteArray) (a2 : ByteArray) (r : Disk × Int) (H : disk_written.f k a0 a1 a2 = some r) : Con Try.prog 44 [VA.k kDisk a0, VA.k kstr a1, VA.k kstr a2] [VA.k kDisk r.1, VA.k (kint .i64) r.2] := by
  unfold disk_written.f at H
  refine con_enter Try.func44 rfl rfl rfl (fun w0 S0 θ => ?_)
  refine goes_seq ?_
  refine goes_region ?_
  refine go3 (op_box 3 rfl (fun h => by first | rfl | cases h) (.t (has rfl))) rfl ?_
  refine go3 (op_alloc 6 rfl zk24) rfl ?_
  refine go1 (op_assign rfl (.int _ _)) rfl ?_
  refine goesO_nil ?_
  refine ends_then ?_
  refine goes_seq ?_
  refine goes_region ?_
  refine go1 (op_load rfl (Fld.whole kDisk) tk24 (.t (has rfl)) (has rfl)) rfl ?_
  refine go1 (op_move rfl (.t (has rfl))) rfl ?_
  refine go1 (op_move rfl (.t (has rfl))) rfl ?_
  refine go1 (op_fieldAddr rfl Try.underlying24 rfl tk3 (.t (has rfl))) rfl ?_
  refine go1 (op_load rfl fldDisk_Clock tk3 (.t (has rfl)) (has rfl)) rfl ?_
  refine go1 (op_add rfl (.t (has rfl)) (.int _ _)) rfl ?_
  refine go1 (op_build (pl := [(0, 1), (1, 1), (2, 1)]) rfl rfl Try.underlying26 (by kernel_rfl) zk26 (.cons rfl tk9 fldFile_Name (.t (has rfl)) (.cons rfl tk9 fldFile_Text (.t (has rfl)) (.cons rfl tk3 fldFile_Stamp (.t (has rfl)) (.nil _))))) rfl ?_
  obtain ⟨v1, h2, H⟩ := bind_some H
  refine goN (op_calls' rfl enters41 (disk_laid.con _ _ _ _ h2) rfl rfl (.cons (ArgP.k (.t (has rfl))) (.cons (ArgP.k (.t (has rfl))) .nil))) rfl ?_
  refine go1 (op_same (.inl rfl) rfl rfl) rfl ?_
  refine go1 (op_extract_same rfl plain_k (has rfl) (has rfl)) rfl ?_
  refine go1 (op_extract_same rfl plain_k (has rfl) (has rfl)) rfl ?_
  refine go3 (op_alloc 8 rfl zk24) rfl ?_
  refine go1 (op_store (Fld.whole kDisk) tk24 (.t (has rfl)) (has rfl) (.t (has rfl))) rfl ?_
  refine go1 (op_assign rfl (.t (has rfl))) rfl ?_
  refine goesO_nil ?_
  refine ends_then ?_
  refine goes_seq ?_
  refine goes_seq ?_
  refine goes_region ?_
  refine go1 (op_move rfl (.t (has rfl))) rfl ?_
  refine go1 (op_icmp rfl rfl (.t (has rfl)) (.int _ _)) rfl ?_
  refine goesO_nil ?_
  refine ends_then ?_
  refine goes_if (.t (has rfl)) H (fun hb3 H => ?_) (fun hb3 H => ?_)
  · skip
    refine goes_seq ?_
    refine goes_region ?_
    refine go1 (op_build (pl := [(0, 1), (1, 1)]) rfl rfl Try.underlying24 (by kernel_rfl) zk24 (.nil _)) rfl ?_
    refine go1 (op_move rfl (.t (has rfl))) rfl ?_
    refine go1 (op_store (Fld.whole kDisk) tk24 (.t (has rfl)) (has rfl) (.t (has rfl))) rfl ?_
    refine go1 (op_assign rfl (.t (has rfl))) rfl ?_
    refine goesO_nil ?_
    refine ends_then ?_
    obtain rfl := Option.some.inj H
    exact goes_ret (ends_then_ret (ends_ret' rfl rfl (.c rfl rfl tk24 (.t rfl (.nil _)))))
  · skip
    refine goes_skip ?_
    refine ends_then ?_
    refine goes_seq ?_
    refine goes_seq ?_
    refine goes_region ?_
    refine go1 (op_fieldAddr rfl Try.underlying24 rfl tk3 (.t (has rfl))) rfl ?_
    refine go1 (op_load rfl fldDisk_Clock tk3 (.t (has rfl)) (has rfl)) rfl ?_
    refine go1 (op_icmp rfl rfl (.t (has rfl)) (.int _ _)) rfl ?_
    refine goesO_nil ?_
    refine ends_then ?_
    refine goes_if (.t (has rfl)) H (fun hb4 H => ?_) (fun hb4 H => ?_)
    · skip
      refine goes_seq ?_
      refine goes_region ?_
      refine go1 (op_build (pl := [(0, 1), (1, 1)]) rfl rfl Try.underlying24 (by kernel_rfl) zk24 (.nil _)) rfl ?_
      refine go1 (op_store (Fld.whole kDisk) tk24 (.t (has rfl)) (has rfl) (.t (has rfl))) rfl ?_
      refine go1 (op_assign rfl (.int _ _)) rfl ?_
      refine goesO_nil ?_
      refine ends_then ?_
      obtain rfl := Option.some.inj H
      exact goes_ret (ends_then_ret (ends_ret' rfl rfl (.c rfl rfl tk24 (.t rfl (.nil _)))))
    · skip
      refine goes_skip ?_
      refine ends_then ?_
      refine goes_seq ?_
      refine goes_region ?_
      refine go1 (op_fieldAddr rfl Try.underlying24 rfl tk3 (.t (has rfl))) rfl ?_
      refine go1 (op_load rfl fldDisk_Clock tk3 (.t (has rfl)) (has rfl)) rfl ?_
      refine go1 (op_add rfl (.t (has rfl)) (.int _ _)) rfl ?_
      refine go1 (op_fieldAddr rfl Try.underlying24 rfl tk3 (.t (has rfl))) rfl ?_
      refine go1 (op_store fldDisk_Clock tk3 (.t (has rfl)) (has rfl) (.t (has rfl))) rfl ?_
      refine goesO_nil ?_
      refine ends_then ?_
      refine goes_seq ?_
      refine goes_region ?_
      refine go1 (op_load rfl (Fld.whole kDisk) tk24 (.t (has rfl)) (has rfl)) rfl ?_
      refine go1 (op_store (Fld.whole kDisk) tk24 (.t (has rfl)) (has rfl) (.t (has rfl))) rfl ?_
      refine go1 (op_assign rfl (.int _ _)) rfl ?_
      refine goesO_nil ?_
      refine ends_then ?_
      obtain rfl := Option.some.inj H
      exact goes_ret (ends_ret' rfl rfl (.c rfl rfl tk24 (.t rfl (.nil _))))
/-! smithy/disk.Write -/
def disk_Write.f (k : Nat) (a0 : Disk) (a1 : ByteArray) (a2 : ByteArray) : Option (Disk × Int) := (disk_asked.f k a0 a1).bind fun v1 => bif icmp .neq v1 (0 : Int) then (some ((⟨(0 : Int), ([] : List File)⟩ : Disk), v1)) else (bif icmp .gtr (a2.size : Int) (4096 : Int) then (some ((⟨(0 : Int), ([] : List File)⟩ : Disk), (20 : Int))) else ((disk_written.f k a0 a1 a2).bind fun v5 => some (v5.1, v5.2)))
set_option maxRecDepth 100000 in
set_option maxHeartbeats 4000000 in
theorem disk_Write.con (k : Nat) (a0 : Disk) (a1 : ByteArray) (a2 : ByteArray) (r : Disk × Int) (H : disk_Write.f k a0 a1 a2 = some r) : Con Try.prog 22 [VA.k kDisk a0, VA.k kstr a1, VA.k kstr a2] [VA.k kDisk r.1, VA.k (kint .i64) r.2] := by
  unfold disk_Write.f at H
  refine con_enter Try.func22 rfl rfl rfl (fun w0 S0 θ => ?_)
  refine goes_seq ?_
  refine goes_region ?_
  refine go3 (op_box 3 rfl (fun h => by first | rfl | cases h) (.t (has rfl))) rfl ?_
  refine go3 (op_alloc 6 rfl zk24) rfl ?_
  refine go1 (op_assign rfl (.int _ _)) rfl ?_
  refine goesO_nil ?_
  refine ends_then ?_
  refine goes_seq ?_
  refine goes_seq ?_
  refine goes_region ?_
  refine go1 (op_load rfl (Fld.whole kDisk) tk24 (.t (has rfl)) (has rfl)) rfl ?_
  refine go1 (op_move rfl (.t (has rfl))) rfl ?_
  obtain ⟨v1, h2, H⟩ := bind_some H
  refine go1 (op_call' rfl enters35 (disk_asked.con _ _ _ _ h2) rfl (.cons (ArgP.k (.t (has rfl))) (.cons (ArgP.k (.t (has rfl))) .nil))) rfl ?_
  refine go1 (op_assign rfl (.t (has rfl))) rfl ?_
  refine goesO_nil ?_
  refine ends_then ?_
  refine goes_seq ?_
  refine goes_region ?_
  refine go1 (op_move rfl (.t (has rfl))) rfl ?_
  refine go1 (op_icmp rfl rfl (.t (has rfl)) (.int _ _)) rfl ?_
  refine goesO_nil ?_
  refine ends_then ?_
  refine goes_if (.t (has rfl)) H (fun hb3 H => ?_) (fun hb3 H => ?_)
  · skip
    refine goes_seq ?_
    refine goes_region ?_
    refine go1 (op_build (pl := [(0, 1), (1, 1)]) rfl rfl Try.underlying24 (by kernel_rfl) zk24 (.nil _)) rfl ?_
    refine go1 (op_move rfl (.t (has rfl))) rfl ?_
    refine go1 (op_store (Fld.whole kDisk) tk24 (.t (has rfl)) (has rfl) (.t (has rfl))) rfl ?_
    refine go1 (op_assign rfl (.t (has rfl))) rfl ?_
    refine goesO_nil ?_
    refine ends_then ?_
    obtain rfl := Option.some.inj H
    exact goes_ret (ends_then_ret (ends_ret' rfl rfl (.c rfl rfl tk24 (.t rfl (.nil _)))))
  · skip
    refine goes_skip ?_
    refine ends_then ?_
    refine goes_seq ?_
    refine goes_seq ?_
    refine goes_region ?_
    refine go1 (op_move rfl (.t (has rfl))) rfl ?_
    refine go1 (op_len_str rfl rfl Try.underlying9 (.t (has rfl))) rfl ?_
    refine go1 (op_icmp rfl rfl (.t (has rfl)) (.int _ _)) rfl ?_
    refine goesO_nil ?_
    refine ends_then ?_
    refine goes_if (.t (has rfl)) H (fun hb4 H => ?_) (fun hb4 H => ?_)
    · skip
      refine goes_seq ?_
      refine goes_region ?_
      refine go1 (op_build (pl := [(0, 1), (1, 1)]) rfl rfl Try.underlying24 (by kernel_rfl) zk24 (.nil _)) rfl ?_
      refine go1 (op_store (Fld.whole kDisk) tk24 (.t (has rfl)) (has rfl) (.t (has rfl))) rfl ?_
      refine go1 (op_assign rfl (.int _ _)) rfl ?_
      refine goesO_nil ?_
      refine ends_then ?_
      obtain rfl := Option.some.inj H
      exact goes_ret (ends_then_ret (ends_ret' rfl rfl (.c rfl rfl tk24 (.t rfl (.nil _)))))
    · skip
      refine goes_skip ?_
      refine ends_then ?_
      refine goes_seq ?_
      refine goes_region ?_
      refine go1 (op_load rfl (Fld.whole kDisk) tk24 (.t (has rfl)) (has rfl)) rfl ?_
      refine go1 (op_move rfl (.t (has rfl))) rfl ?_
      refine go1 (op_move rfl (.t (has rfl))) rfl ?_
      obtain ⟨v5, h6, H⟩ := bind_some H
      refine goN (op_calls' rfl enters44 (disk_written.con _ _ _ _ _ h6) rfl rfl (.cons (ArgP.k (.t (has rfl))) (.cons (ArgP.k (.t (has rfl))) (.cons (ArgP.k (.t (has rfl))) .nil)))) rfl ?_
      refine go1 (op_extract rfl plain_k (has rfl)) rfl ?_
      refine go1 (op_extract rfl plain_k (has rfl)) rfl ?_
      refine go1 (op_store (Fld.whole kDisk) tk24 (.t (has rfl)) (has rfl) (.t (has rfl))) rfl ?_
      refine go1 (op_assign rfl (.t (has rfl))) rfl ?_
      refine goesO_nil ?_
      refine ends_then ?_
      obtain rfl := Option.some.inj H
      exact goes_ret (ends_ret' rfl rfl (.c rfl rfl tk24 (.t rfl (.nil _))))
/-! smithy/disk.Find -/
def disk_Find.f (k : Nat) (a0 : Disk) (a1 : ByteArray) : Option (File × Int) := (disk_asked.f k a0 a1).bind fun v1 => bif icmp .neq v1 (0 : Int) then (some ((⟨ByteArray.empty, ByteArray.empty, (0 : Int)⟩ : File), v1)) else ((disk_place.f k a0 a1).bind fun v4 => bif !v4.2 then (some ((⟨ByteArray.empty, ByteArray.empty, (0 : Int)⟩ : File), (21 : Int))) else ((idx a0.Files v4.1).bind fun x7 => some (x7, (0 : Int))))
set_option maxRecDepth 100000 in
set_option maxHeartbeats 4000000 in
theorem disk_Find.con (k : Nat) (a0 : Disk) (a1 : ByteArray) (r : File × Int) (H : disk_Find.f k a0 a1 = some r) : Con Try.prog 10 [VA.k kDisk a0, VA.k kstr a1] [VA.k kFile r.1, VA.k (kint .i64) r.2] := by
  unfold disk_Find.f at H
  refine con_enter Try.func10 rfl rfl rfl (fun w0 S0 θ => ?_)
  refine goes_seq ?_
  refine goes_region ?_
  refine go3 (op_box 2 rfl (fun h => by first | rfl | cases h) (.t (has rfl))) rfl ?_
  refine go3 (op_alloc 4 rfl zk26) rfl ?_
  refine go1 (op_assign rfl (.int _ _)) rfl ?_
  refine goesO_nil ?_
  refine ends_then ?_
  refine goes_seq ?_
  refine goes_seq ?_
  refine goes_region ?_
  refine go1 (op_load rfl (Fld.whole kDisk) tk24 (.t (has rfl)) (has rfl)) rfl ?_
  refine go1 (op_move rfl (.t (has rfl))) rfl ?_
  obtain ⟨v1, h2, H⟩ := bind_some H
  refine go1 (op_call' rfl enters35 (disk_asked.con _ _ _ _ h2) rfl (.cons (ArgP.k (.t (has rfl))) (.cons (ArgP.k (.t (has rfl))) .nil))) rfl ?_
  refine go1 (op_assign rfl (.t (has rfl))) rfl ?_
  refine goesO_nil ?_
  refine ends_then ?_
  refine goes_seq ?_
  refine goes_region ?_
  refine go1 (op_move rfl (.t (has rfl))) rfl ?_
  refine go1 (op_icmp rfl rfl (.t (has rfl)) (.int _ _)) rfl ?_
  refine goesO_nil ?_
  refine ends_then ?_
  refine goes_if (.t (has rfl)) H (fun hb3 H => ?_) (fun hb3 H => ?_)
  · skip
    refine goes_seq ?_
    refine goes_region ?_
    refine go1 (op_build (pl := [(0, 1), (1, 1), (2, 1)]) rfl rfl Try.underlying26 (by kernel_rfl) zk26 (.nil _)) rfl ?_
    refine go1 (op_move rfl (.t (has rfl))) rfl ?_
    refine go1 (op_store (Fld.whole kFile) tk26 (.t (has rfl)) (has rfl) (.t (has rfl))) rfl ?_
    refine go1 (op_assign rfl (.t (has rfl))) rfl ?_
    refine goesO_nil ?_
    refine ends_then ?_
    obtain rfl := Option.some.inj H
    exact goes_ret (ends_then_ret (ends_ret' rfl rfl (.c rfl rfl tk26 (.t rfl (.nil _)))))
  · skip
    refine goes_skip ?_
    refine ends_then ?_
    refine goes_seq ?_
    refine goes_region ?_
    refine go1 (op_load rfl (Fld.whole kDisk) tk24 (.t (has rfl)) (has rfl)) rfl ?_
    refine go1 (op_move rfl (.t (has rfl))) rfl ?_
    obtain ⟨v4, h5, H⟩ := bind_some H
    refine goN (op_calls' rfl enters36 (disk_place.con _ _ _ _ h5) rfl rfl (.cons (ArgP.k (.t (has rfl))) (.cons (ArgP.k (.t (has rfl))) .nil))) rfl ?_
    refine go1 (op_same (.inl rfl) rfl rfl) rfl ?_
    refine go1 (op_extract_same rfl plain_k (has rfl) (has rfl)) rfl ?_
    refine go1 (op_extract_same rfl plain_k (has rfl) (has rfl)) rfl ?_
    refine go1 (op_assign rfl (.t (has rfl))) rfl ?_
    refine go1 (op_assign rfl (.t (has rfl))) rfl ?_
    refine goesO_nil ?_
    refine ends_then ?_
    refine goes_seq ?_
    refine goes_seq ?_
    refine goes_region ?_
    refine go1 (op_move rfl (.t (has rfl))) rfl ?_
    refine go1 (op_not rfl (.t (has rfl))) rfl ?_
    refine goesO_nil ?_
    refine ends_then ?_
    refine goes_if (.t (has rfl)) H (fun hb6 H => ?_) (fun hb6 H => ?_)
    · skip
      refine goes_seq ?_
      refine goes_region ?_
      refine go1 (op_build (pl := [(0, 1), (1, 1), (2, 1)]) rfl rfl Try.underlying26 (by kernel_rfl) zk26 (.nil _)) rfl ?_
      refine go1 (op_store (Fld.whole kFile) tk26 (.t (has rfl)) (has rfl) (.t (has rfl))) rfl ?_
      refine go1 (op_assign rfl (.int _ _)) rfl ?_
      refine goesO_nil ?_
      refine ends_then ?_
      obtain rfl := Option.some.inj H
      exact goes_ret (ends_then_ret (ends_ret' rfl rfl (.c rfl rfl tk26 (.t rfl (.nil _)))))
    · skip
      refine goes_skip ?_
      refine ends_then ?_
      refine goes_seq ?_
      refine goes_region ?_
      refine go1 (op_fieldAddr rfl Try.underlying24 rfl tk22 (.t (has rfl))) rfl ?_
      refine go1 (op_load rfl fldDisk_Files tk22 (.t (has rfl)) (has rfl)) rfl ?_
      refine go1 (op_move rfl (.t (has rfl))) rfl ?_
      obtain ⟨x7, h8, H⟩ := bind_some H
      refine go1 (op_indexAddr rfl Try.underlying22 tk26 h8 (.t (has rfl)) (.t (has rfl))) rfl ?_
      refine go1 (op_loadp rfl tk26 (.t (has rfl))) rfl ?_
      refine go1 (op_store (Fld.whole kFile) tk26 (.t (has rfl)) (has rfl) (.t (has rfl))) rfl ?_
      refine go1 (op_assign rfl (.int _ _)) rfl ?_
      refine goesO_nil ?_
      refine ends_then ?_
      obtain rfl := Option.some.inj H
      exact goes_ret (ends_ret' rfl rfl (.c rfl rfl tk26 (.t rfl (.nil _))))
theorem disk_Find.conF (k : Nat) (a0 : Disk) (a1 : ByteArray) (r : File × Int) (H : disk_Find.f k a0 a1 = some r) : ConF Try.prog 10 [VA.k kDisk a0, VA.k kstr a1] [VA.k kFile r.1, VA.k (kint .i64) r.2] := (disk_Find.con k a0 a1 r H).freeL (.cons (KFree.k kfreeFile _) (.cons (KFree.k (KFree.int .i64) _) .nil))
/-! smithy/smithylaw02.speaks -/
def smithylaw02_speaks.f (k : Nat) : Option Bool := (disk_Write.f k (⟨(5 : Int), ([] : List File)⟩ : Disk) (⟨#[97]⟩ : ByteArray) (⟨#[120]⟩ : ByteArray)).bind fun v1 => (disk_Find.f k v1.1 (⟨#[97]⟩ : ByteArray)).bind fun v3 => (disk_Find.f k v1.1 (⟨#[98]⟩ : ByteArray)).bind fun v5 => (bif icmp .eql v1.2 (0 : Int) then (bif icmp .eql v3.2 (0 : Int) then (bif eqFile v3.1 (⟨(⟨#[97]⟩ : ByteArray), (⟨#[120]⟩ : ByteArray), (6 : Int)⟩ : File) then (bif icmp .eql v1.1.Clock (6 : Int) then (some (icmp .eql v5.2 (21 : Int))) else (some false)) else (some false)) else (some false)) else (some false)).bind fun s7 => some s7
set_option maxRecDepth 100000 in
set_option maxHeartbeats 4000000 in
theorem smithylaw02_speaks.con (k : Nat) (r : Bool) (H : smithylaw02_speaks.f k = some r) : Con Try.prog 17 [] [VA.k kbool r] := by
  unfold smithylaw02_speaks.f at H
  refine con_enter Try.func17 rfl rfl rfl (fun w0 S0 θ => ?_)
  refine goes_seq ?_
  refine goes_region ?_
  refine go1 (op_assign rfl (.bool _)) rfl ?_
  refine goesO_nil ?_
  refine ends_then ?_
  refine goes_seq ?_
  refine goes_region ?_
  refine go1 (op_build (pl := [(0, 1), (1, 1)]) rfl rfl Try.underlying24 (by kernel_rfl) zk24 (.cons rfl tk3 fldDisk_Clock (.int _ _) (.nil _))) rfl ?_
  obtain ⟨v1, h2, H⟩ := bind_some H
  refine goN (op_calls' rfl enters22 (disk_Write.con _ _ _ _ _ h2) rfl rfl (.cons (ArgP.k (.t (has rfl))) (.cons (ArgP.k (.str _)) (.cons (ArgP.k (.str _)) .nil)))) rfl ?_
  refine go1 (op_same (.inl rfl) rfl rfl) rfl ?_
  refine go1 (op_extract_same rfl plain_k (has rfl) (has rfl)) rfl ?_
  refine go1 (op_extract_same rfl plain_k (has rfl) (has rfl)) rfl ?_
  refine go3 (op_alloc 1 rfl zk24) rfl ?_
  refine go1 (op_store (Fld.whole kDisk) tk24 (.t (has rfl)) (has rfl) (.t (has rfl))) rfl ?_
  refine go1 (op_assign rfl (.t (has rfl))) rfl ?_
  refine goesO_nil ?_
  refine ends_then ?_
  refine goes_seq ?_
  refine goes_region ?_
  refine go1 (op_load rfl (Fld.whole kDisk) tk24 (.t (has rfl)) (has rfl)) rfl ?_
  obtain ⟨v3, h4, H⟩ := bind_some H
  refine goN (op_calls' rfl enters10 (disk_Find.con _ _ _ _ h4) rfl rfl (.cons (ArgP.k (.t (has rfl))) (.cons (ArgP.k (.str _)) .nil))) rfl ?_
  refine go1 (op_same (.inl rfl) rfl rfl) rfl ?_
  refine go1 (op_extract_same rfl plain_k (has rfl) (has rfl)) rfl ?_
  refine go1 (op_extract_same rfl plain_k (has rfl) (has rfl)) rfl ?_
  refine go3 (op_alloc 3 rfl zk26) rfl ?_
  refine go1 (op_store (Fld.whole kFile) tk26 (.t (has rfl)) (has rfl) (.t (has rfl))) rfl ?_
  refine go1 (op_assign rfl (.t (has rfl))) rfl ?_
  refine goesO_nil ?_
  refine ends_then ?_
  refine goes_seq ?_
  refine goes_region ?_
  refine go1 (op_load rfl (Fld.whole kDisk) tk24 (.t (has rfl)) (has rfl)) rfl ?_
  obtain ⟨v5, h6, H⟩ := bind_some H
  refine goN (op_calls' rfl enters10 (disk_Find.con _ _ _ _ h6) rfl rfl (.cons (ArgP.k (.t (has rfl))) (.cons (ArgP.k (.str _)) .nil))) rfl ?_
  refine go1 (op_same (.inl rfl) rfl rfl) rfl ?_
  refine go1 (op_extract_same rfl plain_k (has rfl) (has rfl)) rfl ?_
  refine go1 (op_extract_same rfl plain_k (has rfl) (has rfl)) rfl ?_
  refine go3 (op_alloc 5 rfl zk26) rfl ?_
  refine go1 (op_store (Fld.whole kFile) tk26 (.t (has rfl)) (has rfl) (.t (has rfl))) rfl ?_
  refine go1 (op_assign rfl (.t (has rfl))) rfl ?_
  refine goesO_nil ?_
  refine ends_then ?_
  refine goes_seq ?_
  obtain ⟨s7, h8, H⟩ := bind_some H
  refine goes_cut [Ent.t 0 (VA.k kbool s7)] ?_ ?_
  · replace H := h8; clear h8
    refine goes_region ?_
    refine go1 (op_move rfl (.t (has rfl))) rfl ?_
    refine go1 (op_icmp rfl rfl (.t (has rfl)) (.int _ _)) rfl ?_
    refine go1 (op_move rfl (.t (has rfl))) rfl ?_
    refine goesO_split H (fun hb9 H => ?_) (fun hb9 H => ?_)
    · skip
      refine goG (op_move rfl (.t (has rfl))) rfl rfl rfl rfl hb9 ?_
      refine goG (op_icmp rfl rfl (.t (has rfl)) (.int _ _)) rfl rfl rfl rfl hb9 ?_
      refine go1 (op_pick_t rfl hb9 (.t (has rfl)) (.t (has rfl))) rfl ?_
      refine go1 (op_move rfl (.t (has rfl))) rfl ?_
      refine goesO_split H (fun hb10 H => ?_) (fun hb10 H => ?_)
      · skip
        refine goG (op_load rfl (Fld.whole kFile) tk26 (.t (has rfl)) (has rfl)) rfl rfl rfl rfl hb10 ?_
        refine goG (op_build (pl := [(0, 1), (1, 1), (2, 1)]) rfl rfl Try.underlying26 (by kernel_rfl) zk26 (.cons rfl tk9 fldFile_Name (.str _) (.cons rfl tk9 fldFile_Text (.str _) (.cons rfl tk3 fldFile_Stamp (.int _ _) (.nil _))))) rfl rfl rfl rfl hb10 ?_
        refine goG (op_seq rfl qk26 rfl rfl (by kernel_rfl) (.t (has rfl)) (.t (has rfl))) rfl rfl rfl rfl hb10 ?_
        refine go1 (op_pick_t rfl hb10 (.t (has rfl)) (.t (has rfl))) rfl ?_
        refine go1 (op_move rfl (.t (has rfl))) rfl ?_
        refine goesO_split H (fun hb11 H => ?_) (fun hb11 H => ?_)
        · skip
          refine goG (op_fieldAddr rfl Try.underlying24 rfl tk3 (.t (has rfl))) rfl rfl rfl rfl hb11 ?_
          refine goG (op_load rfl fldDisk_Clock tk3 (.t (has rfl)) (has rfl)) rfl rfl rfl rfl hb11 ?_
          refine goG (op_icmp rfl rfl (.t (has rfl)) (.int _ _)) rfl rfl rfl rfl hb11 ?_
          refine go1 (op_pick_t rfl hb11 (.t (has rfl)) (.t (has rfl))) rfl ?_
          refine go1 (op_move rfl (.t (has rfl))) rfl ?_
          refine goesO_split H (fun hb12 H => ?_) (fun hb12 H => ?_)
          · skip
            refine goG (op_move rfl (.t (has rfl))) rfl rfl rfl rfl hb12 ?_
            refine goG (op_icmp rfl rfl (.t (has rfl)) (.int _ _)) rfl rfl rfl rfl hb12 ?_
            refine go1 (op_pick_t rfl hb12 (.t (has rfl)) (.t (has rfl))) rfl ?_
            refine go1 (op_assign rfl (.t (has rfl))) rfl ?_
            refine goesO_nil ?_
            obtain rfl := Option.some.inj H
            exact ends_cut (.cons rfl .nil)
          · skip
            refine goS rfl rfl rfl rfl rfl rfl hb12 ?_
            refine goS rfl rfl rfl rfl rfl rfl hb12 ?_
            refine go1 (op_pick_f rfl hb12 (.t (has rfl)) (.bool _)) rfl ?_
            refine go1 (op_assign rfl (.t (has rfl))) rfl ?_
            refine goesO_nil ?_
            obtain rfl := Option.some.inj H
            exact ends_cut (.cons rfl .nil)
        · skip
          refine goS rfl rfl rfl rfl rfl rfl hb11 ?_
          refine goS rfl rfl rfl rfl rfl rfl hb11 ?_
          refine goS rfl rfl rfl rfl rfl rfl hb11 ?_
          refine go1 (op_pick_f rfl hb11 (.t (has rfl)) (.bool _)) rfl ?_
          refine go1 (op_move rfl (.t (has rfl))) rfl ?_
          refine goS rfl rfl rfl rfl rfl rfl rfl ?_
          refine goS rfl rfl rfl rfl rfl rfl rfl ?_
          refine go1 (op_pick_f rfl rfl (.t (has rfl)) (.bool _)) rfl ?_
          refine go1 (op_assign rfl (.t (has rfl))) rfl ?_
          refine goesO_nil ?_
          obtain rfl := Option.some.inj H
          exact ends_cut (.cons rfl .nil)
      · skip
        refine goS rfl rfl rfl rfl rfl rfl hb10 ?_
        refine goS rfl rfl rfl rfl rfl rfl hb10 ?_
        refine goS rfl rfl rfl rfl rfl rfl hb10 ?_
        refine go1 (op_pick_f rfl hb10 (.t (has rfl)) (.bool _)) rfl ?_
        refine go1 (op_move rfl (.t (has rfl))) rfl ?_
        refine goS rfl rfl rfl rfl rfl rfl rfl ?_
        refine goS rfl rfl rfl rfl rfl rfl rfl ?_
        refine goS rfl rfl rfl rfl rfl rfl rfl ?_
        refine go1 (op_pick_f rfl rfl (.t (has rfl)) (.bool _)) rfl ?_
        refine go1 (op_move rfl (.t (has rfl))) rfl ?_
        refine goS rfl rfl rfl rfl rfl rfl rfl ?_
        refine goS rfl rfl rfl rfl rfl rfl rfl ?_
        refine go1 (op_pick_f rfl rfl (.t (has rfl)) (.bool _)) rfl ?_
        refine go1 (op_assign rfl (.t (has rfl))) rfl ?_
        refine goesO_nil ?_
        obtain rfl := Option.some.inj H
        exact ends_cut (.cons rfl .nil)
    · skip
      refine goS rfl rfl rfl rfl rfl rfl hb9 ?_
      refine goS rfl rfl rfl rfl rfl rfl hb9 ?_
      refine go1 (op_pick_f rfl hb9 (.t (has rfl)) (.bool _)) rfl ?_
      refine go1 (op_move rfl (.t (has rfl))) rfl ?_
      refine goS rfl rfl rfl rfl rfl rfl rfl ?_
      refine goS rfl rfl rfl rfl rfl rfl rfl ?_
      refine goS rfl rfl rfl rfl rfl rfl rfl ?_
      refine go1 (op_pick_f rfl rfl (.t (has rfl)) (.bool _)) rfl ?_
      refine go1 (op_move rfl (.t (has rfl))) rfl ?_
      refine goS rfl rfl rfl rfl rfl rfl rfl ?_
      refine goS rfl rfl rfl rfl rfl rfl rfl ?_
      refine goS rfl rfl rfl rfl rfl rfl rfl ?_
      refine go1 (op_pick_f rfl rfl (.t (has rfl)) (.bool _)) rfl ?_
      refine go1 (op_move rfl (.t (has rfl))) rfl ?_
      refine goS rfl rfl rfl rfl rfl rfl rfl ?_
      refine goS rfl rfl rfl rfl rfl rfl rfl ?_
      refine go1 (op_pick_f rfl rfl (.t (has rfl)) (.bool _)) rfl ?_
      refine go1 (op_assign rfl (.t (has rfl))) rfl ?_
      refine goesO_nil ?_
      obtain rfl := Option.some.inj H
      exact ends_cut (.cons rfl .nil)
  refine ends_then ?_
  obtain rfl := Option.some.inj H
  exact goes_ret (ends_ret' rfl rfl (.t rfl (.nil _)))
theorem smithylaw02_speaks.conF (k : Nat) (r : Bool) (H : smithylaw02_speaks.f k = some r) : ConF Try.prog 17 [] [VA.k kbool r] := (smithylaw02_speaks.con k r H).freeL (.cons (KFree.k KFree.bool _) .nil)
end Go.Proofs.Ytaeapobjhgakiaa.F
