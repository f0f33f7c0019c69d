import Derived.Test.YtaeapobjhgakiaaFKx1
set_option linter.unusedVariables false
set_option linter.unusedSimpArgs false
set_option linter.unnecessarySimpa false
set_option linter.deprecated false
namespace Go.Proofs.Ytaeapobjhgakiaa.F
open Go Go.RowKit Go.Proofs.Ytaeapobjhgakiaa.Sl
/-! smithy/disk.Changed$1 -/
def disk_Changed_1.l0 (a0 : Disk) (a1 : Disk) : Nat → ((List ByteArray) × Int) → Option (List ByteArray)
  | 0, _ => none
  | k + 1, s1 => bif icmp .lss s1.2 (a0.Files.length : Int) then (((idx a0.Files s1.2).bind fun x7 => (disk_place.f k a1 x7.Name).bind fun v9 => (bif !v9.2 then (some true) else ((idx a1.Files v9.1).bind fun x14 => some (scmp .neq x14.Text x7.Text))).bind fun s11 => bif s11 then ((app 16 s1.1 ([x7.Name])).bind fun x17 => some x17) else (some s1.1)).bind fun s5 => disk_Changed_1.l0 a0 a1 k (s5, IntKind.i64.wrap (s1.2 + (1 : Int)))) else (some s1.1)
def disk_Changed_1.f (k : Nat) (a0 : Disk) (a1 : Disk) (c0 : List ByteArray) : Option (List ByteArray) := (disk_Changed_1.l0 a0 a1 k (c0, (0 : Int))).bind fun s2 => some s2
set_option maxRecDepth 100000 in
set_option maxHeartbeats 4000000 in
theorem disk_Changed_1.con (k : Nat) (a0 : Disk) (a1 : Disk) (c0 : List ByteArray) (r : List ByteArray) (H : disk_Changed_1.f k a0 a1 c0 = some r) : ConE Try.prog 51 [950] [Ent.h 950 (HE.boxf 32 1 [FA.rw 0 195000 (c0).length]), Ent.r 195000 9 kstr c0] [VA.k kDisk a0, VA.k kDisk a1, VA.ptr 950 0] [] [Ent.h 950 (HE.boxf 32 1 [FA.rw 0 195000 (r).length]), Ent.r 195000 9 kstr r] := by
  unfold disk_Changed_1.f at H
  refine con_enterE Try.func51 rfl rfl rfl rfl rfl (fun w0 S0 X β => ?_)
  refine goes_seq ?_
  refine goes_region ?_
  refine go3 (op_box 3 rfl (fun h => by first | rfl | cases h) (.t (has rfl))) rfl ?_
  refine go3 (op_box 4 rfl (fun h => by first | rfl | cases h) (.t (has rfl))) rfl ?_
  refine goesO_nil ?_
  refine ends_then ?_
  refine goes_seq ?_
  refine goes_region ?_
  refine go1 (op_fieldAddr rfl Try.underlying24 rfl tk22 (.t (has rfl))) rfl ?_
  refine go1 (op_load rfl fldDisk_Files tk22 (.t (has rfl)) (has rfl)) rfl ?_
  refine go1 (op_len rfl rfl Try.underlying22 (.t (has rfl))) rfl ?_
  refine go1 (op_move rfl (.int _ _)) rfl ?_
  refine goesO_nil ?_
  refine ends_then ?_
  obtain ⟨s2, h3, H⟩ := bind_some H
  refine goes_cut [Ent.h 950 (HE.boxf 32 1 [FA.rw 0 195000 (s2).length]), Ent.r 195000 9 kstr s2, Ent.isb 950 (β 950)] ?_ ?_
  · replace H := h3; clear h3
    refine goes_block ?_
    refine goes_loop (fun s1 : (List ByteArray) × Int => [Ent.t 2 (VA.ptr 950 0), Ent.t 4 (VA.ptr 4 0), Ent.t 10 (VA.k (kslice kFile) a0.Files), Ent.t 11 (VA.k (kint .i64) (a0.Files.length : Int)), Ent.t 12 (VA.k (kint .i64) s1.2), Ent.h 4 (HE.box 24 kDisk a1), Ent.h 950 (HE.boxf 32 1 [FA.rw 0 195000 (s1.1).length]), Ent.r 195000 9 kstr s1.1, Ent.isb 950 (β 950)]) (fun k s1 => disk_Changed_1.l0 a0 a1 k s1) (fun _ => rfl) H (.cons rfl (.cons rfl (.cons rfl (.cons rfl (.cons rfl (.cons rfl (.cons rfl (.cons rfl (.cons rfl .nil))))))))) ?_
    intro k s1 H
    simp only [disk_Changed_1.l0] at H
    refine goes_seq ?_
    refine goes_region ?_
    refine go1 (op_icmp rfl rfl (.t (has rfl)) (.t (has rfl))) rfl ?_
    refine goesO_nil ?_
    refine ends_then ?_
    refine goes_seq ?_
    refine goes_if (.t (has rfl)) H (fun hb4 H => ?_) (fun hb4 H => ?_)
    · skip
      refine goes_skip ?_
      refine ends_then ?_
      refine goes_seq ?_
      obtain ⟨s5, h6, H⟩ := bind_some H
      refine goes_cut [Ent.t 2 (VA.ptr 950 0), Ent.t 4 (VA.ptr 4 0), Ent.t 10 (VA.k (kslice kFile) a0.Files), Ent.t 11 (VA.k (kint .i64) (a0.Files.length : Int)), Ent.t 12 (VA.k (kint .i64) s1.2), Ent.h 4 (HE.box 24 kDisk a1), Ent.h 950 (HE.boxf 32 1 [FA.rw 0 195000 (s5).length]), Ent.r 195000 9 kstr s5, Ent.isb 950 (β 950)] ?_ ?_
      · replace H := h6; clear h6
        refine goes_block ?_
        refine goes_seq ?_
        refine goes_region ?_
        obtain ⟨x7, h8, H⟩ := bind_some H
        refine go1 (op_indexAddr rfl Try.underlying22 tk26 h8 (.t (has rfl)) (.t (has rfl))) rfl ?_
        refine go1 (op_loadp rfl tk26 (.t (has rfl))) rfl ?_
        refine go3 (op_alloc 6 rfl zk26) rfl ?_
        refine go1 (op_store (Fld.whole kFile) tk26 (.t (has rfl)) (has rfl) (.t (has rfl))) rfl ?_
        refine goesO_nil ?_
        refine ends_then ?_
        refine goes_seq ?_
        refine goes_region ?_
        refine go1 (op_load rfl (Fld.whole kDisk) tk24 (.t (has rfl)) (has rfl)) rfl ?_
        refine go1 (op_fieldAddr rfl Try.underlying26 rfl tk9 (.t (has rfl))) rfl ?_
        refine go1 (op_load rfl fldFile_Name tk9 (.t (has rfl)) (has rfl)) rfl ?_
        obtain ⟨v9, h10, H⟩ := bind_some H
        refine goN (op_calls' rfl enters36 (disk_place.con _ _ _ _ h10) rfl rfl (.cons (ArgP.k (.t (has rfl))) (.cons (ArgP.k (.t (has rfl))) .nil))) rfl ?_
        refine go1 (op_same (.inl rfl) rfl rfl) rfl ?_
        refine go1 (op_extract_same rfl plain_k (has rfl) (has rfl)) rfl ?_
        refine go1 (op_extract_same rfl plain_k (has rfl) (has rfl)) rfl ?_
        refine go1 (op_assign rfl (.t (has rfl))) rfl ?_
        refine go1 (op_assign rfl (.t (has rfl))) rfl ?_
        refine goesO_nil ?_
        refine ends_then ?_
        refine goes_seq ?_
        obtain ⟨s11, h12, H⟩ := bind_some H
        refine goes_cut [Ent.t 2 (VA.ptr 950 0), Ent.t 4 (VA.ptr 4 0), Ent.t 6 (VA.ptr 6 0), Ent.t 10 (VA.k (kslice kFile) a0.Files), Ent.t 11 (VA.k (kint .i64) (a0.Files.length : Int)), Ent.t 12 (VA.k (kint .i64) s1.2), Ent.t 35 (VA.k kbool s11), Ent.h 4 (HE.box 24 kDisk a1), Ent.h 6 (HE.box 26 kFile x7), Ent.h 950 (HE.boxf 32 1 [FA.rw 0 195000 (s1.1).length]), Ent.r 195000 9 kstr s1.1, Ent.isb 950 (β 950)] ?_ ?_
        · replace H := h12; clear h12
          refine goes_split H (fun hb13 H => ?_) (fun hb13 H => ?_)
          · skip
            refine goes_drawn [[Ent.t 23 (VA.k kbool v9.2)], [Ent.t 24 (VA.k kbool (!v9.2))], [Ent.t 25 (VA.k kbool (!v9.2))], [Ent.t 26 (VA.v undef)], [Ent.t 27 (VA.v undef)], [Ent.t 28 (VA.v undef)], [Ent.t 29 (VA.v undef)], [Ent.t 30 (VA.v undef)], [Ent.t 31 (VA.v undef)], [Ent.t 32 (VA.v undef)], [Ent.t 33 (VA.v undef)], [Ent.t 34 (VA.v undef)], [Ent.t 35 (VA.k kbool true)]] mixed (by kernel_rfl) (by kernel_rfl) (.cons [(none, Ent.t 8 (VA.k kbool v9.2))] (OpSpec.run rfl rfl (op_move rfl (.t NL.h0)) rfl) (.cons (has rfl) .nil) (by kernel_rfl) (.cons [(some 0, Ent.t 23 (VA.k kbool v9.2))] (OpSpec.run rfl rfl (op_not rfl (.t NL.h0)) rfl) (.cons (has rfl) .nil) (by kernel_rfl) (.cons [(some 1, Ent.t 24 (VA.k kbool (!v9.2)))] (OpSpec.run rfl rfl (op_move rfl (.t NL.h0)) rfl) (.cons (has rfl) .nil) (by kernel_rfl) (.cons [(some 2, Ent.t 25 (VA.k kbool (!v9.2)))] (run_skip rfl rfl rfl rfl rfl rfl NL.h0 hb13) (.cons (has rfl) .nil) (by kernel_rfl) (.cons [(some 2, Ent.t 25 (VA.k kbool (!v9.2)))] (run_skip rfl rfl rfl rfl rfl rfl NL.h0 hb13) (.cons (has rfl) .nil) (by kernel_rfl) (.cons [(some 2, Ent.t 25 (VA.k kbool (!v9.2)))] (run_skip rfl rfl rfl rfl rfl rfl NL.h0 hb13) (.cons (has rfl) .nil) (by kernel_rfl) (.cons [(some 2, Ent.t 25 (VA.k kbool (!v9.2)))] (run_skip rfl rfl rfl rfl rfl rfl NL.h0 hb13) (.cons (has rfl) .nil) (by kernel_rfl) (.cons [(some 2, Ent.t 25 (VA.k kbool (!v9.2)))] (run_skip rfl rfl rfl rfl rfl rfl NL.h0 hb13) (.cons (has rfl) .nil) (by kernel_rfl) (.cons [(some 2, Ent.t 25 (VA.k kbool (!v9.2)))] (run_skip rfl rfl rfl rfl rfl rfl NL.h0 hb13) (.cons (has rfl) .nil) (by kernel_rfl) (.cons [(some 2, Ent.t 25 (VA.k kbool (!v9.2)))] (run_skip rfl rfl rfl rfl rfl rfl NL.h0 hb13) (.cons (has rfl) .nil) (by kernel_rfl) (.cons [(some 2, Ent.t 25 (VA.k kbool (!v9.2)))] (run_skip rfl rfl rfl rfl rfl rfl NL.h0 hb13) (.cons (has rfl) .nil) (by kernel_rfl) (.cons [(some 2, Ent.t 25 (VA.k kbool (!v9.2)))] (run_skip rfl rfl rfl rfl rfl rfl NL.h0 hb13) (.cons (has rfl) .nil) (by kernel_rfl) (.cons [(some 2, Ent.t 25 (VA.k kbool (!v9.2)))] (OpSpec.run rfl rfl (op_pick_t rfl hb13 (.t NL.h0) (.bool _)) rfl) (.cons (has rfl) .nil) (by kernel_rfl) (.nil _)))))))))))))) ?_
            refine ends_sub [Ent.t 2 (VA.ptr 950 0), Ent.t 4 (VA.ptr 4 0), Ent.t 6 (VA.ptr 6 0), Ent.t 10 (VA.k (kslice kFile) a0.Files), Ent.t 11 (VA.k (kint .i64) (a0.Files.length : Int)), Ent.t 12 (VA.k (kint .i64) s1.2), Ent.t 35 (VA.k kbool true), Ent.h 4 (HE.box 24 kDisk a1), Ent.h 6 (HE.box 26 kFile x7), Ent.h 950 (HE.boxf 32 1 [FA.rw 0 195000 (s1.1).length]), Ent.r 195000 9 kstr s1.1, Ent.isb 950 (β 950)] (.cons rfl (.cons rfl (.cons rfl (.cons rfl (.cons rfl (.cons rfl (.cons rfl (.cons rfl (.cons rfl (.cons rfl (.cons rfl (.cons rfl .nil)))))))))))) ?_
            obtain rfl := Option.some.inj H
            exact ends_cut (.cons rfl (.cons rfl (.cons rfl (.cons rfl (.cons rfl (.cons rfl (.cons rfl (.cons rfl (.cons rfl (.cons rfl (.cons rfl (.cons rfl .nil))))))))))))
          · skip
            obtain ⟨x14, h15, H⟩ := bind_some H
            refine goes_drawn [[Ent.t 23 (VA.k kbool v9.2)], [Ent.t 24 (VA.k kbool (!v9.2))], [Ent.t 25 (VA.k kbool (!v9.2))], [Ent.t 26 (VA.ptr 4 1)], [Ent.t 27 (VA.k (kslice kFile) a1.Files)], [Ent.t 28 (VA.k (kint .i64) v9.1)], [Ent.t 29 (VA.pt kFile x14)], [Ent.t 30 (VA.pt kstr x14.Text)], [Ent.t 31 (VA.k kstr x14.Text)], [Ent.t 32 (VA.ptr 6 1)], [Ent.t 33 (VA.k kstr x7.Text)], [Ent.t 34 (VA.k kbool (scmp .neq x14.Text x7.Text))], [Ent.t 35 (VA.k kbool (scmp .neq x14.Text x7.Text))]] mixed (by kernel_rfl) (by kernel_rfl) (.cons [(none, Ent.t 8 (VA.k kbool v9.2))] (OpSpec.run rfl rfl (op_move rfl (.t NL.h0)) rfl) (.cons (has rfl) .nil) (by kernel_rfl) (.cons [(some 0, Ent.t 23 (VA.k kbool v9.2))] (OpSpec.run rfl rfl (op_not rfl (.t NL.h0)) rfl) (.cons (has rfl) .nil) (by kernel_rfl) (.cons [(some 1, Ent.t 24 (VA.k kbool (!v9.2)))] (OpSpec.run rfl rfl (op_move rfl (.t NL.h0)) rfl) (.cons (has rfl) .nil) (by kernel_rfl) (.cons [(some 2, Ent.t 25 (VA.k kbool (!v9.2))), (none, Ent.t 4 (VA.ptr 4 0))] (OpSpec.runG rfl rfl rfl rfl NL.h0 hb13 (op_fieldAddr rfl Try.underlying24 rfl tk22 (.t (NL.hs NL.h0))) rfl) (.cons (has rfl) (.cons (has rfl) .nil)) (by kernel_rfl) (.cons [(some 2, Ent.t 25 (VA.k kbool (!v9.2))), (some 3, Ent.t 26 (VA.ptr 4 1)), (none, Ent.h 4 (HE.box 24 kDisk a1))] (OpSpec.runG rfl rfl rfl rfl NL.h0 hb13 (op_load rfl fldDisk_Files tk22 (.t (NL.hs NL.h0)) (NL.hs (NL.hs NL.h0))) rfl) (.cons (has rfl) (.cons (has rfl) (.cons (has rfl) .nil))) (by kernel_rfl) (.cons [(some 2, Ent.t 25 (VA.k kbool (!v9.2))), (none, Ent.t 7 (VA.k (kint .i64) v9.1))] (OpSpec.runG rfl rfl rfl rfl NL.h0 hb13 (op_move rfl (.t (NL.hs NL.h0))) rfl) (.cons (has rfl) (.cons (has rfl) .nil)) (by kernel_rfl) (.cons [(some 2, Ent.t 25 (VA.k kbool (!v9.2))), (some 4, Ent.t 27 (VA.k (kslice kFile) a1.Files)), (some 5, Ent.t 28 (VA.k (kint .i64) v9.1))] (OpSpec.runG rfl rfl rfl rfl NL.h0 hb13 (op_indexAddr rfl Try.underlying22 tk26 h15 (.t (NL.hs NL.h0)) (.t (NL.hs (NL.hs NL.h0)))) rfl) (.cons (has rfl) (.cons (has rfl) (.cons (has rfl) .nil))) (by kernel_rfl) (.cons [(some 2, Ent.t 25 (VA.k kbool (!v9.2))), (some 6, Ent.t 29 (VA.pt kFile x14))] (OpSpec.runG rfl rfl rfl rfl NL.h0 hb13 (op_fieldAddrp rfl fldFile_Text Try.underlying26 rfl tk9 (.t (NL.hs NL.h0))) rfl) (.cons (has rfl) (.cons (has rfl) .nil)) (by kernel_rfl) (.cons [(some 2, Ent.t 25 (VA.k kbool (!v9.2))), (some 7, Ent.t 30 (VA.pt kstr x14.Text))] (OpSpec.runG rfl rfl rfl rfl NL.h0 hb13 (op_loadp rfl tk9 (.t (NL.hs NL.h0))) rfl) (.cons (has rfl) (.cons (has rfl) .nil)) (by kernel_rfl) (.cons [(some 2, Ent.t 25 (VA.k kbool (!v9.2))), (none, Ent.t 6 (VA.ptr 6 0))] (OpSpec.runG rfl rfl rfl rfl NL.h0 hb13 (op_fieldAddr rfl Try.underlying26 rfl tk9 (.t (NL.hs NL.h0))) rfl) (.cons (has rfl) (.cons (has rfl) .nil)) (by kernel_rfl) (.cons [(some 2, Ent.t 25 (VA.k kbool (!v9.2))), (some 9, Ent.t 32 (VA.ptr 6 1)), (none, Ent.h 6 (HE.box 26 kFile x7))] (OpSpec.runG rfl rfl rfl rfl NL.h0 hb13 (op_load rfl fldFile_Text tk9 (.t (NL.hs NL.h0)) (NL.hs (NL.hs NL.h0))) rfl) (.cons (has rfl) (.cons (has rfl) (.cons (has rfl) .nil))) (by kernel_rfl) (.cons [(some 2, Ent.t 25 (VA.k kbool (!v9.2))), (some 8, Ent.t 31 (VA.k kstr x14.Text)), (some 10, Ent.t 33 (VA.k kstr x7.Text))] (OpSpec.runG rfl rfl rfl rfl NL.h0 hb13 (op_scmp rfl rfl (.t (NL.hs NL.h0)) (.t (NL.hs (NL.hs NL.h0)))) rfl) (.cons (has rfl) (.cons (has rfl) (.cons (has rfl) .nil))) (by kernel_rfl) (.cons [(some 2, Ent.t 25 (VA.k kbool (!v9.2))), (some 11, Ent.t 34 (VA.k kbool (scmp .neq x14.Text x7.Text)))] (OpSpec.run rfl rfl (op_pick_f rfl hb13 (.t NL.h0) (.t (NL.hs NL.h0))) rfl) (.cons (has rfl) (.cons (has rfl) .nil)) (by kernel_rfl) (.nil _)))))))))))))) ?_
            refine ends_sub [Ent.t 2 (VA.ptr 950 0), Ent.t 4 (VA.ptr 4 0), Ent.t 6 (VA.ptr 6 0), Ent.t 10 (VA.k (kslice kFile) a0.Files), Ent.t 11 (VA.k (kint .i64) (a0.Files.length : Int)), Ent.t 12 (VA.k (kint .i64) s1.2), Ent.t 26 (VA.ptr 4 1), Ent.t 27 (VA.k (kslice kFile) a1.Files), Ent.t 28 (VA.k (kint .i64) v9.1), Ent.t 29 (VA.pt kFile x14), Ent.t 30 (VA.pt kstr x14.Text), Ent.t 31 (VA.k kstr x14.Text), Ent.t 32 (VA.ptr 6 1), Ent.t 33 (VA.k kstr x7.Text), Ent.t 34 (VA.k kbool (scmp .neq x14.Text x7.Text)), Ent.t 35 (VA.k kbool (scmp .neq x14.Text x7.Text)), Ent.h 4 (HE.box 24 kDisk a1), Ent.h 6 (HE.box 26 kFile x7), Ent.h 950 (HE.boxf 32 1 [FA.rw 0 195000 (s1.1).length]), Ent.r 195000 9 kstr s1.1, Ent.isb 950 (β 950)] (.cons rfl (.cons rfl (.cons rfl (.cons rfl (.cons rfl (.cons rfl (.cons rfl (.cons rfl (.cons rfl (.cons rfl (.cons rfl (.cons rfl (.cons rfl (.cons rfl (.cons rfl (.cons rfl (.cons rfl (.cons rfl (.cons rfl (.cons rfl (.cons rfl .nil))))))))))))))))))))) ?_
            obtain rfl := Option.some.inj H
            exact ends_cut (.cons rfl (.cons rfl (.cons rfl (.cons rfl (.cons rfl (.cons rfl (.cons rfl (.cons rfl (.cons rfl (.cons rfl (.cons rfl (.cons rfl .nil))))))))))))
        refine ends_then ?_
        refine goes_if (.t (has rfl)) H (fun hb16 H => ?_) (fun hb16 H => ?_)
        · skip
          refine goes_region ?_
          refine go1 (op_loadf_rw (K := kstr) rfl tk32 (.t (has rfl)) (has rfl) (.head _)) rfl ?_
          refine go1 (op_fieldAddr rfl Try.underlying26 rfl tk9 (.t (has rfl))) rfl ?_
          refine go1 (op_load rfl fldFile_Name tk9 (.t (has rfl)) (has rfl)) rfl ?_
          refine go1 (op_buildSlice rfl at32 (fun h => by first | rfl | cases h) rfl rfl rfl (.cons (.t (has rfl)) (.nil _))) rfl ?_
          refine goesO_release 36 195000 rfl rfl rfl ?_
          obtain ⟨x17, h18, H⟩ := bind_some H
          refine go2 (op_append rfl rfl at32 h18 (has rfl) (ReadsArg.own (.t (has rfl)))) rfl ?_
          refine goesO_by (fun a w hi => inv_boxw (fs' := [FA.any 0 1]) 950 rfl (.any (f := FA.rw 0 195000 (s1.1).length) (.head _) .nil) hi) ?_
          refine goesO_number 40 195000 rfl rfl rfl ?_
          refine go1 (op_storef_rw (K := kstr) (f := FA.any 0 1) (off := 0) (id := 950) [] [] tk32 rfl rfl rfl (.t (has rfl)) (has rfl) (.t (has rfl))) rfl ?_
          refine goesO_nil ?_
          refine ends_block ?_
          obtain rfl := Option.some.inj H
          exact ends_cut (.cons rfl (.cons rfl (.cons rfl (.cons rfl (.cons rfl (.cons rfl (.cons rfl (.cons rfl (.cons rfl .nil)))))))))
        · skip
          refine goes_skip ?_
          refine ends_block ?_
          obtain rfl := Option.some.inj H
          exact ends_cut (.cons rfl (.cons rfl (.cons rfl (.cons rfl (.cons rfl (.cons rfl (.cons rfl (.cons rfl (.cons rfl .nil)))))))))
      refine ends_then ?_
      refine goes_region ?_
      refine go1 (op_add rfl (.t (has rfl)) (.int _ _)) rfl ?_
      refine go1 (op_move rfl (.t (has rfl))) rfl ?_
      refine goesO_nil ?_
      exact loop_next _ H (.cons rfl (.cons rfl (.cons rfl (.cons rfl (.cons rfl (.cons rfl (.cons rfl (.cons rfl (.cons rfl .nil)))))))))
    · skip
      refine goes_exit (ends_then_exit (ends_then_exit (ends_block_exit ?_)))
      obtain rfl := Option.some.inj H
      exact ends_cut (.cons rfl (.cons rfl (.cons rfl .nil)))
  obtain rfl := Option.some.inj H
  exact ends_fall (n := 0) (ends_retE rfl (.cons rfl .nil) (.post (.cons rfl (.cons rfl .nil)) rfl))
/-! slices.Sort[[]string,string] -/
def slices_Sort_string_string.f (a0 : List ByteArray) : Option (List ByteArray) := bif Nat.blt a0.length 4611686018427387904 then some (sortB a0) else none
theorem slices_Sort_string_string.con (i : Nat) (a0 : List ByteArray) (r : List ByteArray) (H : slices_Sort_string_string.f a0 = some r) : ConE Try.prog 52 [i, 500000 + i] [Ent.r i 9 kstr a0] [VA.rw i (a0).length] [] [Ent.r i 9 kstr r] := by
  unfold slices_Sort_string_string.f at H
  cases hb : Nat.blt a0.length 4611686018427387904 with
  | false => rw [hb] at H; cases H
  | true =>
    rw [hb, cond_true] at H
    obtain rfl := Option.some.inj H
    exact conE_sort i (fun blk off cap ss w h1 h2 h3 => Try.slices_Sort_string blk off cap ss w h1 h2 h3) (fun p cap w => Try.slices_Sort_string_none p cap w) a0 (blt_lt hb)
theorem slices_Sort_string_string.len {a0 r : List ByteArray} (H : slices_Sort_string_string.f a0 = some r) : (a0).length = (r).length := by
  unfold slices_Sort_string_string.f at H
  cases hb : Nat.blt a0.length 4611686018427387904 with
  | false => rw [hb] at H; cases H
  | true =>
    rw [hb, cond_true] at H
    obtain rfl := Option.some.inj H
    exact (sortB_length a0).symm
theorem slices_Sort_string_string.conF (i : Nat) (a0 : List ByteArray) (r : List ByteArray) (H : slices_Sort_string_string.f a0 = some r) : ConEF Try.prog 52 [i, 500000 + i] [Ent.r i 9 kstr a0] [VA.rw i (a0).length] [] [Ent.r i 9 kstr r] := (slices_Sort_string_string.con i a0 r H).freeL .nil (fun e he => by rcases List.mem_cons.1 he with rfl | he; exact freeEnt_r KFree.str _ _ _; cases he)
/-! slices.Compact[[]string,string] -/
def slices_Compact_string_string.f (a0 : List ByteArray) : Option (List ByteArray) := some (compactB a0)
theorem slices_Compact_string_string.con (i : Nat) (a0 : List ByteArray) (r : List ByteArray) (H : slices_Compact_string_string.f a0 = some r) : ConE Try.prog 53 [] [Ent.r i 9 kstr a0] [VA.rw i (a0).length] [VA.own 9 kstr r] [] := by
  obtain rfl := Option.some.inj H
  exact conE_compact i (fun blk off cap zs w h1 h2 h3 => Try.slices_Compact_string blk off cap zs w h1 h2 h3) (fun a cap w => Try.slices_Compact_string_empty a cap w) a0
theorem slices_Compact_string_string.conF (i : Nat) (a0 : List ByteArray) (r : List ByteArray) (H : slices_Compact_string_string.f a0 = some r) : ConEF Try.prog 53 [] [Ent.r i 9 kstr a0] [VA.rw i (a0).length] [VA.own 9 kstr r] [] := (slices_Compact_string_string.con i a0 r H).freeL (.cons (KFree.own KFree.str _ _) .nil) (fun e he => by cases he)
/-! smithy/disk.Changed -/
def disk_Changed.l0 (a0 : Disk) (a1 : Disk) : Nat → Int → Option (Except ((List ByteArray) × Int) Unit)
  | 0, _ => none
  | k + 1, s1 => bif icmp .lss s1 (([a0, a1]).length : Int) then ((idx ([a0, a1]) s1).bind fun x6 => (disk_Check.f k x6).bind fun v8 => bif icmp .neq v8 (0 : Int) then (some (Except.error (([] : List ByteArray), v8))) else (disk_Changed.l0 a0 a1 k (IntKind.i64.wrap (s1 + (1 : Int))))) else (some (Except.ok ()))
def disk_Changed.f (k : Nat) (a0 : Disk) (a1 : Disk) : Option ((List ByteArray) × Int) := (disk_Changed.l0 a0 a1 k (0 : Int)).bind fun o4 => match o4 with | .error r' => some r' | .ok s2 => ((disk_Changed_1.f k a0 a1 ([] : List ByteArray)).bind fun v11 => (disk_Changed_1.f k a1 a0 v11).bind fun v13 => (slices_Sort_string_string.f v13).bind fun v15 => (slices_Compact_string_string.f v15).bind fun v17 => some (v17, (0 : Int)))
set_option maxRecDepth 100000 in
set_option maxHeartbeats 4000000 in
theorem disk_Changed.con (k : Nat) (a0 : Disk) (a1 : Disk) (r : (List ByteArray) × Int) (H : disk_Changed.f k a0 a1 = some r) : Con Try.prog 31 [VA.k kDisk a0, VA.k kDisk a1] [VA.own 9 kstr r.1, VA.k (kint .i64) r.2] := by
  unfold disk_Changed.f at H
  refine con_enter Try.func31 rfl rfl rfl (fun w0 S0 θ => ?_)
  refine goes_seq ?_
  refine goes_region ?_
  refine go3 (op_box 2 rfl (fun h => by first | rfl | cases h) (.t (has rfl))) rfl ?_
  refine go3 (op_box 3 rfl (fun h => by first | rfl | cases h) (.t (has rfl))) rfl ?_
  refine go1 (op_assign_nil 9 kstr (.inr rfl) rfl) rfl ?_
  refine go1 (op_assign rfl (.int _ _)) rfl ?_
  refine goesO_nil ?_
  refine ends_then ?_
  refine goes_seq ?_
  refine goes_seq ?_
  refine goes_region ?_
  refine go1 (op_load rfl (Fld.whole kDisk) tk24 (.t (has rfl)) (has rfl)) rfl ?_
  refine go1 (op_load rfl (Fld.whole kDisk) tk24 (.t (has rfl)) (has rfl)) rfl ?_
  refine go1 (op_buildSlice rfl at74 (fun h => by first | rfl | cases h) rfl rfl rfl (.cons (.t (has rfl)) (.cons (.t (has rfl)) (.nil _)))) rfl ?_
  refine go1 (op_len_own rfl rfl Try.underlying74 (.t (has rfl))) rfl ?_
  refine go1 (op_move rfl (.int _ _)) rfl ?_
  refine goesO_nil ?_
  refine ends_then ?_
  refine goes_settle 13 rfl rfl ?_
  obtain ⟨o4, h3, H⟩ := bind_some H
  refine goes_cutR (o := o4) (fun s2 : Unit => [Ent.t 2 (VA.ptr 2 0), Ent.t 3 (VA.ptr 3 0), Ent.h 2 (HE.box 24 kDisk a0), Ent.h 3 (HE.box 24 kDisk a1)]) (fun r a w => bodyPost Try.prog Try.f31 (CPost w0 S0 θ [VA.own 9 kstr r.1, VA.k (kint .i64) r.2]) .ret a w) ?_ ?_ ?_
  · replace H := h3; clear h3
    refine goes_block ?_
    refine goes_loop (fun s1 : Int => [Ent.t 2 (VA.ptr 2 0), Ent.t 3 (VA.ptr 3 0), Ent.t 13 (VA.k (kslice kDisk) ([a0, a1])), Ent.t 14 (VA.k (kint .i64) (([a0, a1]).length : Int)), Ent.t 15 (VA.k (kint .i64) s1), Ent.h 2 (HE.box 24 kDisk a0), Ent.h 3 (HE.box 24 kDisk a1)]) (fun k s1 => disk_Changed.l0 a0 a1 k s1) (fun _ => rfl) H (.cons rfl (.cons rfl (.cons rfl (.cons rfl (.cons rfl (.cons rfl (.cons rfl .nil))))))) ?_
    intro k s1 H
    simp only [disk_Changed.l0] at H
    refine goes_seq ?_
    refine goes_region ?_
    refine go1 (op_icmp rfl rfl (.t (has rfl)) (.t (has rfl))) rfl ?_
    refine goesO_nil ?_
    refine ends_then ?_
    refine goes_seq ?_
    refine goes_if (.t (has rfl)) H (fun hb5 H => ?_) (fun hb5 H => ?_)
    · skip
      refine goes_skip ?_
      refine ends_then ?_
      refine goes_seq ?_
      refine goes_block ?_
      refine goes_seq ?_
      refine goes_region ?_
      obtain ⟨x6, h7, H⟩ := bind_some H
      refine go1 (op_indexAddr rfl Try.underlying74 tk24 h7 (.t (has rfl)) (.t (has rfl))) rfl ?_
      refine go1 (op_loadp rfl tk24 (.t (has rfl))) rfl ?_
      refine go3 (op_alloc 7 rfl zk24) rfl ?_
      refine go1 (op_store (Fld.whole kDisk) tk24 (.t (has rfl)) (has rfl) (.t (has rfl))) rfl ?_
      refine goesO_nil ?_
      refine ends_then ?_
      refine goes_seq ?_
      refine goes_region ?_
      refine go1 (op_load rfl (Fld.whole kDisk) tk24 (.t (has rfl)) (has rfl)) rfl ?_
      obtain ⟨v8, h9, H⟩ := bind_some H
      refine go1 (op_call' rfl enters14 (disk_Check.con _ _ _ h9) rfl (.cons (ArgP.k (.t (has rfl))) .nil)) rfl ?_
      refine go1 (op_assign rfl (.t (has rfl))) rfl ?_
      refine goesO_nil ?_
      refine ends_then ?_
      refine goes_seq ?_
      refine goes_region ?_
      refine go1 (op_move rfl (.t (has rfl))) rfl ?_
      refine go1 (op_icmp rfl rfl (.t (has rfl)) (.int _ _)) rfl ?_
      refine goesO_nil ?_
      refine ends_then ?_
      refine goes_if (.t (has rfl)) H (fun hb10 H => ?_) (fun hb10 H => ?_)
      · skip
        refine goes_seq ?_
        refine goes_region ?_
        refine go1 (op_move rfl (.t (has rfl))) rfl ?_
        refine go1 (op_assign_nil 9 kstr (.inr rfl) rfl) rfl ?_
        refine go1 (op_assign rfl (.t (has rfl))) rfl ?_
        refine goesO_nil ?_
        refine ends_then ?_
        obtain rfl := Option.some.inj H
        refine goes_ret (ends_block_ret (ends_then_ret (ends_then_ret (ends_block_ret (ends_cutR_ret rfl ?_)))))
        exact ends_ret' rfl rfl (.t rfl (.t rfl (.nil _)))
      · skip
        refine goes_skip ?_
        refine ends_block ?_
        refine ends_then ?_
        refine goes_region ?_
        refine go1 (op_add rfl (.t (has rfl)) (.int _ _)) rfl ?_
        refine go1 (op_move rfl (.t (has rfl))) rfl ?_
        refine goesO_nil ?_
        exact loop_next _ H (.cons rfl (.cons rfl (.cons rfl (.cons rfl (.cons rfl (.cons rfl (.cons rfl .nil)))))))
    · skip
      refine goes_exit (ends_then_exit (ends_then_exit (ends_block_exit ?_)))
      obtain rfl := Option.some.inj H
      exact ends_cutR rfl (.cons rfl (.cons rfl (.cons rfl (.cons rfl .nil))))
  · rintro s2 rfl
    clear h3
    dsimp only at H
    refine ends_then ?_
    refine goes_seq ?_
    refine goes_region ?_
    refine go3 (op_alloc_zf 950 rfl xzf32_0) rfl ?_
    refine goesO_by (fun a w hi => inv_nilrow' 950 [] 0 [] 195000 9 kstr rfl rfl rfl rfl rfl hi) ?_
    refine goesO_nil ?_
    refine ends_then ?_
    refine goes_seq ?_
    refine goes_region ?_
    refine go1 (op_makeFunc (ys := []) (xs := [9]) rfl rfl rfl rfl) rfl ?_
    refine go1 (op_assignA rfl plain_cl (Arg.mfl1 (has rfl) (.t (has rfl)))) rfl ?_
    refine goesO_nil ?_
    refine ends_then ?_
    refine goes_seq ?_
    refine goes_region ?_
    refine go1 (op_moveA rfl plain_cl (.t (has rfl))) rfl ?_
    refine go1 (op_load rfl (Fld.whole kDisk) tk24 (.t (has rfl)) (has rfl)) rfl ?_
    refine go1 (op_load rfl (Fld.whole kDisk) tk24 (.t (has rfl)) (has rfl)) rfl ?_
    obtain ⟨v11, h12, H⟩ := bind_some H
    refine goN (op_callvE [] [195000, 695000] rfl (ArgP.a plain_cl (.t (has rfl))) enters51 (disk_Changed_1.con _ _ _ _ _ h12) rfl (.cons (has rfl) (.cons (has rfl) .nil)) (.cons (ArgP.k (.t (has rfl))) (.cons (ArgP.k (.t (has rfl))) .nil))) rfl ?_
    refine goesO_nil ?_
    refine ends_then ?_
    refine goes_seq ?_
    refine goes_region ?_
    refine go1 (op_moveA rfl plain_cl (.t (has rfl))) rfl ?_
    refine go1 (op_load rfl (Fld.whole kDisk) tk24 (.t (has rfl)) (has rfl)) rfl ?_
    refine go1 (op_load rfl (Fld.whole kDisk) tk24 (.t (has rfl)) (has rfl)) rfl ?_
    obtain ⟨v13, h14, H⟩ := bind_some H
    refine goN (op_callvE [] [195000, 695000] rfl (ArgP.a plain_cl (.t (has rfl))) enters51 (disk_Changed_1.con _ _ _ _ _ h14) rfl (.cons (has rfl) (.cons (has rfl) .nil)) (.cons (ArgP.k (.t (has rfl))) (.cons (ArgP.k (.t (has rfl))) .nil))) rfl ?_
    refine goesO_nil ?_
    refine ends_then ?_
    refine goes_seq ?_
    refine goes_region ?_
    refine go1 (op_loadf_rw (K := kstr) rfl tk32 (.t (has rfl)) (has rfl) (.head _)) rfl ?_
    obtain ⟨v15, h16, H⟩ := bind_some H
    refine goN (op_callE [] [] rfl enters52 (slices_Sort_string_string.con 195000 _ _ h16) rfl (.cons (has rfl) .nil) (.cons (ArgP.a plain_rw (.t (has rfl))) .nil)) rfl ?_
    refine goesO_by (fun a w hi => inv_again (e' := Ent.h 950 (HE.boxf 32 1 [FA.rw 0 195000 (v15).length])) 2000950 rfl (by rw [slices_Sort_string_string.len h16]) hi) ?_
    refine goesO_nil ?_
    refine ends_then ?_
    refine goes_seq ?_
    refine goes_region ?_
    refine go1 (op_loadf_rw (K := kstr) rfl tk32 (.t (has rfl)) (has rfl) (.head _)) rfl ?_
    obtain ⟨v17, h18, H⟩ := bind_some H
    refine goN (op_callE [5195000] [] rfl enters53 (slices_Compact_string_string.con 195000 _ _ h18) rfl (.cons (has rfl) .nil) (.cons (ArgP.a plain_rw (.t (has rfl))) .nil)) rfl ?_
    refine go2 (op_mv (.inr rfl) rfl rfl (has rfl)) rfl ?_
    refine go1 (op_assign rfl (.int _ _)) rfl ?_
    refine goesO_nil ?_
    refine ends_then ?_
    obtain rfl := Option.some.inj H
    exact goes_ret (ends_ret' rfl rfl (.t rfl (.t rfl (.nil _))))
  · rintro r' rfl a w hr
    obtain rfl := Option.some.inj H
    exact hr
theorem disk_Changed.conF (k : Nat) (a0 : Disk) (a1 : Disk) (r : (List ByteArray) × Int) (H : disk_Changed.f k a0 a1 = some r) : ConF Try.prog 31 [VA.k kDisk a0, VA.k kDisk a1] [VA.own 9 kstr r.1, VA.k (kint .i64) r.2] := (disk_Changed.con k a0 a1 r H).freeL (.cons (KFree.own KFree.str _ _) (.cons (KFree.k (KFree.int .i64) _) .nil))
/-! smithy/smithylaw02.DiskTwo -/
def smithylaw02_DiskTwo.f (k : Nat) (a0 : Disk) (a1 : File) (a2 : File) : Option Bool := bif scmp .eql a1.Name a2.Name then ((smithylaw02_speaks.f k).bind fun v2 => some v2) else ((disk_Write.f k a0 a1.Name a1.Text).bind fun v4 => (disk_Write.f k a0 a2.Name a2.Text).bind fun v6 => (bif icmp .neq v4.2 (0 : Int) then (some true) else (some (icmp .neq v6.2 (0 : Int)))).bind fun s8 => bif s8 then ((smithylaw02_speaks.f k).bind fun v12 => some v12) else ((disk_Write.f k v4.1 a2.Name a2.Text).bind fun v14 => (disk_Write.f k v6.1 a1.Name a1.Text).bind fun v16 => (bif icmp .neq v14.2 (0 : Int) then (some true) else (some (icmp .neq v16.2 (0 : Int)))).bind fun s18 => bif s18 then ((bif icmp .eql v14.2 v16.2 then ((smithylaw02_speaks.f k).bind fun v25 => some v25) else (some false)).bind fun s22 => some s22) else ((disk_Changed.f k v14.1 v16.1).bind fun v27 => (bif icmp .eql v27.2 (0 : Int) then (bif icmp .eql (v27.1.length : Int) (0 : Int) then (bif icmp .eql v14.1.Clock v16.1.Clock then ((smithylaw02_speaks.f k).bind fun v34 => some v34) else (some false)) else (some false)) else (some false)).bind fun s29 => some s29)))
set_option maxRecDepth 100000 in
set_option maxHeartbeats 4000000 in
theorem smithylaw02_DiskTwo.con (k : Nat) (a0 : Disk) (a1 : File) (a2 : File) (r : Bool) (H : smithylaw02_DiskTwo.f k a0 a1 a2 = some r) : Con Try.prog 8 [VA.k kDisk a0, VA.k kFile a1, VA.k kFile a2] [VA.k kbool r] := by
  unfold smithylaw02_DiskTwo.f at H
  refine con_enter Try.func8 rfl rfl rfl (fun w0 S0 θ => ?_)
  refine goes_seq ?_
  refine goes_region ?_
  refine go3 (op_box 3 rfl (fun h => by first | rfl | cases h) (.t (has rfl))) rfl ?_
  refine go3 (op_box 4 rfl (fun h => by first | rfl | cases h) (.t (has rfl))) rfl ?_
  refine go3 (op_box 5 rfl (fun h => by first | rfl | cases h) (.t (has rfl))) rfl ?_
  refine go1 (op_assign rfl (.bool _)) rfl ?_
  refine goesO_nil ?_
  refine ends_then ?_
  refine goes_seq ?_
  refine goes_seq ?_
  refine goes_region ?_
  refine go1 (op_fieldAddr rfl Try.underlying26 rfl tk9 (.t (has rfl))) rfl ?_
  refine go1 (op_load rfl fldFile_Name tk9 (.t (has rfl)) (has rfl)) rfl ?_
  refine go1 (op_fieldAddr rfl Try.underlying26 rfl tk9 (.t (has rfl))) rfl ?_
  refine go1 (op_load rfl fldFile_Name tk9 (.t (has rfl)) (has rfl)) rfl ?_
  refine go1 (op_scmp rfl rfl (.t (has rfl)) (.t (has rfl))) rfl ?_
  refine goesO_nil ?_
  refine ends_then ?_
  refine goes_if (.t (has rfl)) H (fun hb1 H => ?_) (fun hb1 H => ?_)
  · skip
    refine goes_seq ?_
    refine goes_region ?_
    obtain ⟨v2, h3, H⟩ := bind_some H
    refine go1 (op_call' rfl enters17 (smithylaw02_speaks.con _  _ h3) rfl .nil) rfl ?_
    refine go1 (op_assign rfl (.t (has rfl))) rfl ?_
    refine goesO_nil ?_
    refine ends_then ?_
    obtain rfl := Option.some.inj H
    exact goes_ret (ends_then_ret (ends_ret' rfl rfl (.t rfl (.nil _))))
  · skip
    refine goes_skip ?_
    refine ends_then ?_
    refine goes_seq ?_
    refine goes_region ?_
    refine go1 (op_load rfl (Fld.whole kDisk) tk24 (.t (has rfl)) (has rfl)) rfl ?_
    refine go1 (op_fieldAddr rfl Try.underlying26 rfl tk9 (.t (has rfl))) rfl ?_
    refine go1 (op_load rfl fldFile_Name tk9 (.t (has rfl)) (has rfl)) rfl ?_
    refine go1 (op_fieldAddr rfl Try.underlying26 rfl tk9 (.t (has rfl))) rfl ?_
    refine go1 (op_load rfl fldFile_Text tk9 (.t (has rfl)) (has rfl)) rfl ?_
    obtain ⟨v4, h5, H⟩ := bind_some H
    refine goN (op_calls' rfl enters22 (disk_Write.con _ _ _ _ _ h5) rfl rfl (.cons (ArgP.k (.t (has rfl))) (.cons (ArgP.k (.t (has rfl))) (.cons (ArgP.k (.t (has rfl))) .nil)))) rfl ?_
    refine go1 (op_same (.inl rfl) rfl rfl) rfl ?_
    refine go1 (op_extract_same rfl plain_k (has rfl) (has rfl)) rfl ?_
    refine go1 (op_extract_same rfl plain_k (has rfl) (has rfl)) rfl ?_
    refine go3 (op_alloc 7 rfl zk24) rfl ?_
    refine go1 (op_store (Fld.whole kDisk) tk24 (.t (has rfl)) (has rfl) (.t (has rfl))) rfl ?_
    refine go1 (op_assign rfl (.t (has rfl))) rfl ?_
    refine goesO_nil ?_
    refine ends_then ?_
    refine goes_seq ?_
    refine goes_region ?_
    refine go1 (op_load rfl (Fld.whole kDisk) tk24 (.t (has rfl)) (has rfl)) rfl ?_
    refine go1 (op_fieldAddr rfl Try.underlying26 rfl tk9 (.t (has rfl))) rfl ?_
    refine go1 (op_load rfl fldFile_Name tk9 (.t (has rfl)) (has rfl)) rfl ?_
    refine go1 (op_fieldAddr rfl Try.underlying26 rfl tk9 (.t (has rfl))) rfl ?_
    refine go1 (op_load rfl fldFile_Text tk9 (.t (has rfl)) (has rfl)) rfl ?_
    obtain ⟨v6, h7, H⟩ := bind_some H
    refine goN (op_calls' rfl enters22 (disk_Write.con _ _ _ _ _ h7) rfl rfl (.cons (ArgP.k (.t (has rfl))) (.cons (ArgP.k (.t (has rfl))) (.cons (ArgP.k (.t (has rfl))) .nil)))) rfl ?_
    refine go1 (op_same (.inl rfl) rfl rfl) rfl ?_
    refine go1 (op_extract_same rfl plain_k (has rfl) (has rfl)) rfl ?_
    refine go1 (op_extract_same rfl plain_k (has rfl) (has rfl)) rfl ?_
    refine go3 (op_alloc 9 rfl zk24) rfl ?_
    refine go1 (op_store (Fld.whole kDisk) tk24 (.t (has rfl)) (has rfl) (.t (has rfl))) rfl ?_
    refine go1 (op_assign rfl (.t (has rfl))) rfl ?_
    refine goesO_nil ?_
    refine ends_then ?_
    refine goes_seq ?_
    refine goes_seq ?_
    obtain ⟨s8, h9, H⟩ := bind_some H
    refine goes_cut [Ent.t 4 (VA.ptr 4 0), Ent.t 5 (VA.ptr 5 0), Ent.t 7 (VA.ptr 7 0), Ent.t 9 (VA.ptr 9 0), Ent.t 46 (VA.k kbool s8), Ent.h 4 (HE.box 26 kFile a1), Ent.h 5 (HE.box 26 kFile a2), Ent.h 7 (HE.box 24 kDisk v4.1), Ent.h 9 (HE.box 24 kDisk v6.1)] ?_ ?_
    · replace H := h9; clear h9
      refine goes_region ?_
      refine go1 (op_move rfl (.t (has rfl))) rfl ?_
      refine go1 (op_icmp rfl rfl (.t (has rfl)) (.int _ _)) rfl ?_
      refine go1 (op_move rfl (.t (has rfl))) rfl ?_
      refine goesO_split H (fun hb10 H => ?_) (fun hb10 H => ?_)
      · skip
        refine goS rfl rfl rfl rfl rfl rfl hb10 ?_
        refine goS rfl rfl rfl rfl rfl rfl hb10 ?_
        refine go1 (op_pick_t rfl hb10 (.t (has rfl)) (.bool _)) rfl ?_
        refine goesO_nil ?_
        obtain rfl := Option.some.inj H
        exact ends_cut (.cons rfl (.cons rfl (.cons rfl (.cons rfl (.cons rfl (.cons rfl (.cons rfl (.cons rfl (.cons rfl .nil)))))))))
      · skip
        refine goG (op_move rfl (.t (has rfl))) rfl rfl rfl rfl hb10 ?_
        refine goG (op_icmp rfl rfl (.t (has rfl)) (.int _ _)) rfl rfl rfl rfl hb10 ?_
        refine go1 (op_pick_f rfl hb10 (.t (has rfl)) (.t (has rfl))) rfl ?_
        refine goesO_nil ?_
        obtain rfl := Option.some.inj H
        exact ends_cut (.cons rfl (.cons rfl (.cons rfl (.cons rfl (.cons rfl (.cons rfl (.cons rfl (.cons rfl (.cons rfl .nil)))))))))
    refine ends_then ?_
    refine goes_if (.t (has rfl)) H (fun hb11 H => ?_) (fun hb11 H => ?_)
    · skip
      refine goes_seq ?_
      refine goes_region ?_
      obtain ⟨v12, h13, H⟩ := bind_some H
      refine go1 (op_call' rfl enters17 (smithylaw02_speaks.con _  _ h13) rfl .nil) rfl ?_
      refine go1 (op_assign rfl (.t (has rfl))) rfl ?_
      refine goesO_nil ?_
      refine ends_then ?_
      obtain rfl := Option.some.inj H
      exact goes_ret (ends_then_ret (ends_ret' rfl rfl (.t rfl (.nil _))))
    · skip
      refine goes_skip ?_
      refine ends_then ?_
      refine goes_seq ?_
      refine goes_region ?_
      refine go1 (op_load rfl (Fld.whole kDisk) tk24 (.t (has rfl)) (has rfl)) rfl ?_
      refine go1 (op_fieldAddr rfl Try.underlying26 rfl tk9 (.t (has rfl))) rfl ?_
      refine go1 (op_load rfl fldFile_Name tk9 (.t (has rfl)) (has rfl)) rfl ?_
      refine go1 (op_fieldAddr rfl Try.underlying26 rfl tk9 (.t (has rfl))) rfl ?_
      refine go1 (op_load rfl fldFile_Text tk9 (.t (has rfl)) (has rfl)) rfl ?_
      obtain ⟨v14, h15, H⟩ := bind_some H
      refine goN (op_calls' rfl enters22 (disk_Write.con _ _ _ _ _ h15) rfl rfl (.cons (ArgP.k (.t (has rfl))) (.cons (ArgP.k (.t (has rfl))) (.cons (ArgP.k (.t (has rfl))) .nil)))) rfl ?_
      refine go1 (op_same (.inl rfl) rfl rfl) rfl ?_
      refine go1 (op_extract_same rfl plain_k (has rfl) (has rfl)) rfl ?_
      refine go1 (op_extract_same rfl plain_k (has rfl) (has rfl)) rfl ?_
      refine go3 (op_alloc 11 rfl zk24) rfl ?_
      refine go1 (op_store (Fld.whole kDisk) tk24 (.t (has rfl)) (has rfl) (.t (has rfl))) rfl ?_
      refine go1 (op_assign rfl (.t (has rfl))) rfl ?_
      refine goesO_nil ?_
      refine ends_then ?_
      refine goes_seq ?_
      refine goes_region ?_
      refine go1 (op_load rfl (Fld.whole kDisk) tk24 (.t (has rfl)) (has rfl)) rfl ?_
      refine go1 (op_fieldAddr rfl Try.underlying26 rfl tk9 (.t (has rfl))) rfl ?_
      refine go1 (op_load rfl fldFile_Name tk9 (.t (has rfl)) (has rfl)) rfl ?_
      refine go1 (op_fieldAddr rfl Try.underlying26 rfl tk9 (.t (has rfl))) rfl ?_
      refine go1 (op_load rfl fldFile_Text tk9 (.t (has rfl)) (has rfl)) rfl ?_
      obtain ⟨v16, h17, H⟩ := bind_some H
      refine goN (op_calls' rfl enters22 (disk_Write.con _ _ _ _ _ h17) rfl rfl (.cons (ArgP.k (.t (has rfl))) (.cons (ArgP.k (.t (has rfl))) (.cons (ArgP.k (.t (has rfl))) .nil)))) rfl ?_
      refine go1 (op_same (.inl rfl) rfl rfl) rfl ?_
      refine go1 (op_extract_same rfl plain_k (has rfl) (has rfl)) rfl ?_
      refine go1 (op_extract_same rfl plain_k (has rfl) (has rfl)) rfl ?_
      refine go3 (op_alloc 13 rfl zk24) rfl ?_
      refine go1 (op_store (Fld.whole kDisk) tk24 (.t (has rfl)) (has rfl) (.t (has rfl))) rfl ?_
      refine go1 (op_assign rfl (.t (has rfl))) rfl ?_
      refine goesO_nil ?_
      refine ends_then ?_
      refine goes_seq ?_
      refine goes_seq ?_
      obtain ⟨s18, h19, H⟩ := bind_some H
      refine goes_cut [Ent.t 11 (VA.ptr 11 0), Ent.t 12 (VA.k (kint .i64) v14.2), Ent.t 13 (VA.ptr 13 0), Ent.t 14 (VA.k (kint .i64) v16.2), Ent.t 71 (VA.k kbool s18), Ent.h 11 (HE.box 24 kDisk v14.1), Ent.h 13 (HE.box 24 kDisk v16.1)] ?_ ?_
      · replace H := h19; clear h19
        refine goes_region ?_
        refine go1 (op_move rfl (.t (has rfl))) rfl ?_
        refine go1 (op_icmp rfl rfl (.t (has rfl)) (.int _ _)) rfl ?_
        refine go1 (op_move rfl (.t (has rfl))) rfl ?_
        refine goesO_split H (fun hb20 H => ?_) (fun hb20 H => ?_)
        · skip
          refine goS rfl rfl rfl rfl rfl rfl hb20 ?_
          refine goS rfl rfl rfl rfl rfl rfl hb20 ?_
          refine go1 (op_pick_t rfl hb20 (.t (has rfl)) (.bool _)) rfl ?_
          refine goesO_nil ?_
          obtain rfl := Option.some.inj H
          exact ends_cut (.cons rfl (.cons rfl (.cons rfl (.cons rfl (.cons rfl (.cons rfl (.cons rfl .nil)))))))
        · skip
          refine goG (op_move rfl (.t (has rfl))) rfl rfl rfl rfl hb20 ?_
          refine goG (op_icmp rfl rfl (.t (has rfl)) (.int _ _)) rfl rfl rfl rfl hb20 ?_
          refine go1 (op_pick_f rfl hb20 (.t (has rfl)) (.t (has rfl))) rfl ?_
          refine goesO_nil ?_
          obtain rfl := Option.some.inj H
          exact ends_cut (.cons rfl (.cons rfl (.cons rfl (.cons rfl (.cons rfl (.cons rfl (.cons rfl .nil)))))))
      refine ends_then ?_
      refine goes_if (.t (has rfl)) H (fun hb21 H => ?_) (fun hb21 H => ?_)
      · skip
        refine goes_seq ?_
        obtain ⟨s22, h23, H⟩ := bind_some H
        refine goes_cut [Ent.t 6 (VA.k kbool s22)] ?_ ?_
        · replace H := h23; clear h23
          refine goes_region ?_
          refine go1 (op_move rfl (.t (has rfl))) rfl ?_
          refine go1 (op_move rfl (.t (has rfl))) rfl ?_
          refine go1 (op_icmp rfl rfl (.t (has rfl)) (.t (has rfl))) rfl ?_
          refine go1 (op_move rfl (.t (has rfl))) rfl ?_
          refine goesO_split H (fun hb24 H => ?_) (fun hb24 H => ?_)
          · skip
            obtain ⟨v25, h26, H⟩ := bind_some H
            refine goG (op_call' rfl enters17 (smithylaw02_speaks.con _  _ h26) rfl .nil) rfl rfl rfl rfl hb24 ?_
            refine go1 (op_pick_t rfl hb24 (.t (has rfl)) (.t (has rfl))) rfl ?_
            refine go1 (op_assign rfl (.t (has rfl))) rfl ?_
            refine goesO_nil ?_
            obtain rfl := Option.some.inj H
            exact ends_cut (.cons rfl .nil)
          · skip
            refine goS rfl rfl rfl rfl rfl rfl hb24 ?_
            refine go1 (op_pick_f rfl hb24 (.t (has rfl)) (.bool _)) rfl ?_
            refine go1 (op_assign rfl (.t (has rfl))) rfl ?_
            refine goesO_nil ?_
            obtain rfl := Option.some.inj H
            exact ends_cut (.cons rfl .nil)
        refine ends_then ?_
        obtain rfl := Option.some.inj H
        exact goes_ret (ends_then_ret (ends_ret' rfl rfl (.t rfl (.nil _))))
      · skip
        refine goes_skip ?_
        refine ends_then ?_
        refine goes_seq ?_
        refine goes_region ?_
        refine go1 (op_load rfl (Fld.whole kDisk) tk24 (.t (has rfl)) (has rfl)) rfl ?_
        refine go1 (op_load rfl (Fld.whole kDisk) tk24 (.t (has rfl)) (has rfl)) rfl ?_
        obtain ⟨v27, h28, H⟩ := bind_some H
        refine goN (op_calls' rfl enters31 (disk_Changed.con _ _ _ _ h28) rfl rfl (.cons (ArgP.k (.t (has rfl))) (.cons (ArgP.k (.t (has rfl))) .nil))) rfl ?_
        refine go1 (op_same (.inl rfl) rfl rfl) rfl ?_
        refine go2 (op_extract_own_same rfl rfl rfl (has rfl) (has rfl)) rfl ?_
        refine go1 (op_extract_same rfl plain_k (has rfl) (has rfl)) rfl ?_
        refine go2 (op_mv (.inr rfl) rfl rfl (has rfl)) rfl ?_
        refine go1 (op_assign rfl (.t (has rfl))) rfl ?_
        refine goesO_nil ?_
        refine ends_then ?_
        refine goes_seq ?_
        obtain ⟨s29, h30, H⟩ := bind_some H
        refine goes_cut [Ent.t 6 (VA.k kbool s29)] ?_ ?_
        · replace H := h30; clear h30
          refine goes_region ?_
          refine go1 (op_move rfl (.t (has rfl))) rfl ?_
          refine go1 (op_icmp rfl rfl (.t (has rfl)) (.int _ _)) rfl ?_
          refine go1 (op_move rfl (.t (has rfl))) rfl ?_
          refine goesO_split H (fun hb31 H => ?_) (fun hb31 H => ?_)
          · skip
            refine goesO_settle 15 rfl rfl ?_
            refine goG (op_move rfl (.t (has rfl))) rfl rfl rfl rfl hb31 ?_
            refine goG (op_len rfl rfl Try.underlying32 (.t (has rfl))) rfl rfl rfl rfl hb31 ?_
            refine goG (op_icmp rfl rfl (.t (has rfl)) (.int _ _)) rfl rfl rfl rfl hb31 ?_
            refine go1 (op_pick_t rfl hb31 (.t (has rfl)) (.t (has rfl))) rfl ?_
            refine go1 (op_move rfl (.t (has rfl))) rfl ?_
            refine goesO_split H (fun hb32 H => ?_) (fun hb32 H => ?_)
            · skip
              refine goG (op_fieldAddr rfl Try.underlying24 rfl tk3 (.t (has rfl))) rfl rfl rfl rfl hb32 ?_
              refine goG (op_load rfl fldDisk_Clock tk3 (.t (has rfl)) (has rfl)) rfl rfl rfl rfl hb32 ?_
              refine goG (op_fieldAddr rfl Try.underlying24 rfl tk3 (.t (has rfl))) rfl rfl rfl rfl hb32 ?_
              refine goG (op_load rfl fldDisk_Clock tk3 (.t (has rfl)) (has rfl)) rfl rfl rfl rfl hb32 ?_
              refine goG (op_icmp rfl rfl (.t (has rfl)) (.t (has rfl))) rfl rfl rfl rfl hb32 ?_
              refine go1 (op_pick_t rfl hb32 (.t (has rfl)) (.t (has rfl))) rfl ?_
              refine go1 (op_move rfl (.t (has rfl))) rfl ?_
              refine goesO_split H (fun hb33 H => ?_) (fun hb33 H => ?_)
              · skip
                obtain ⟨v34, h35, H⟩ := bind_some H
                refine goG (op_call' rfl enters17 (smithylaw02_speaks.con _  _ h35) rfl .nil) rfl rfl rfl rfl hb33 ?_
                refine go1 (op_pick_t rfl hb33 (.t (has rfl)) (.t (has rfl))) rfl ?_
                refine go1 (op_assign rfl (.t (has rfl))) rfl ?_
                refine goesO_nil ?_
                obtain rfl := Option.some.inj H
                exact ends_cut (.cons rfl .nil)
              · skip
                refine goS rfl rfl rfl rfl rfl rfl hb33 ?_
                refine go1 (op_pick_f rfl hb33 (.t (has rfl)) (.bool _)) rfl ?_
                refine go1 (op_assign rfl (.t (has rfl))) rfl ?_
                refine goesO_nil ?_
                obtain rfl := Option.some.inj H
                exact ends_cut (.cons rfl .nil)
            · skip
              refine goS rfl rfl rfl rfl rfl rfl hb32 ?_
              refine goS rfl rfl rfl rfl rfl rfl hb32 ?_
              refine goS rfl rfl rfl rfl rfl rfl hb32 ?_
              refine goS rfl rfl rfl rfl rfl rfl hb32 ?_
              refine goS rfl rfl rfl rfl rfl rfl hb32 ?_
              refine go1 (op_pick_f rfl hb32 (.t (has rfl)) (.bool _)) rfl ?_
              refine go1 (op_move rfl (.t (has rfl))) rfl ?_
              refine goS rfl rfl rfl rfl rfl rfl rfl ?_
              refine go1 (op_pick_f rfl rfl (.t (has rfl)) (.bool _)) rfl ?_
              refine go1 (op_assign rfl (.t (has rfl))) rfl ?_
              refine goesO_nil ?_
              obtain rfl := Option.some.inj H
              exact ends_cut (.cons rfl .nil)
          · skip
            refine goS rfl rfl rfl rfl rfl rfl hb31 ?_
            refine goS rfl rfl rfl rfl rfl rfl hb31 ?_
            refine goS rfl rfl rfl rfl rfl rfl hb31 ?_
            refine go1 (op_pick_f rfl hb31 (.t (has rfl)) (.bool _)) rfl ?_
            refine go1 (op_move rfl (.t (has rfl))) rfl ?_
            refine goS rfl rfl rfl rfl rfl rfl rfl ?_
            refine goS rfl rfl rfl rfl rfl rfl rfl ?_
            refine goS rfl rfl rfl rfl rfl rfl rfl ?_
            refine goS rfl rfl rfl rfl rfl rfl rfl ?_
            refine goS rfl rfl rfl rfl rfl rfl rfl ?_
            refine go1 (op_pick_f rfl rfl (.t (has rfl)) (.bool _)) rfl ?_
            refine go1 (op_move rfl (.t (has rfl))) rfl ?_
            refine goS rfl rfl rfl rfl rfl rfl rfl ?_
            refine go1 (op_pick_f rfl rfl (.t (has rfl)) (.bool _)) rfl ?_
            refine go1 (op_assign rfl (.t (has rfl))) rfl ?_
            refine goesO_nil ?_
            obtain rfl := Option.some.inj H
            exact ends_cut (.cons rfl .nil)
        refine ends_then ?_
        obtain rfl := Option.some.inj H
        exact goes_ret (ends_ret' rfl rfl (.t rfl (.nil _)))
theorem smithylaw02_DiskTwo.conF (k : Nat) (a0 : Disk) (a1 : File) (a2 : File) (r : Bool) (H : smithylaw02_DiskTwo.f k a0 a1 a2 = some r) : ConF Try.prog 8 [VA.k kDisk a0, VA.k kFile a1, VA.k kFile a2] [VA.k kbool r] := (smithylaw02_DiskTwo.con k a0 a1 a2 r H).freeL (.cons (KFree.k KFree.bool _) .nil)
end Go.Proofs.Ytaeapobjhgakiaa.F
