import Derived.Test.YtoemgemfgaooeaaFWx0
set_option linter.unusedVariables false
set_option linter.unusedSimpArgs false
set_option linter.unnecessarySimpa false
set_option linter.deprecated false
namespace Go.Proofs.Ytoemgemfgaooeaa.F
open Go Go.RowKit Go.Proofs.Ytoemgemfgaooeaa.Sl
/-! smithy/disk.Check -/
def disk_Check.l0 (a0 : Disk) : Nat → (File × Int) → Option (Except Int Unit)
  | 0, _ => none
  | k + 1, s6 => bif icmp .lss s6.2 (a0.Files.length : Int) then ((idx a0.Files s6.2).bind fun x11 => ((disk_named.f k x11.Name).bind fun v15 => bif !v15 then (some true) else (bif icmp .gtr s6.2 (0 : Int) then (bif scmp .leq x11.Name s6.1.Name then (some true) else (bif icmp .gtr (x11.Text.size : Int) (4096 : Int) then (some true) else (bif icmp .lss x11.Stamp (0 : Int) then (some true) else (some (icmp .gtr x11.Stamp a0.Clock))))) else (bif icmp .gtr (x11.Text.size : Int) (4096 : Int) then (some true) else (bif icmp .lss x11.Stamp (0 : Int) then (some true) else (some (icmp .gtr x11.Stamp a0.Clock)))))).bind fun s13 => bif s13 then (some (Except.error (4 : Int))) else (disk_Check.l0 a0 k (x11, IntKind.i64.wrap (s6.2 + (1 : Int))))) else (some (Except.ok ()))
def disk_Check.f (k : Nat) (a0 : Disk) : Option Int := (bif icmp .lss a0.Clock (0 : Int) then (some true) else (bif icmp .gtr a0.Clock (1099511627776 : Int) then (some true) else (some (icmp .gtr (a0.Files.length : Int) (256 : Int))))).bind fun s1 => bif s1 then (some (4 : Int)) else ((disk_Check.l0 a0 k ((⟨ByteArray.empty, ByteArray.empty, (0 : Int)⟩ : File), (0 : Int))).bind fun o9 => match o9 with | .error r' => some r' | .ok s7 => (some (0 : Int)))
set_option maxRecDepth 100000 in
set_option maxHeartbeats 4000000 in
theorem disk_Check.con (k : Nat) (a0 : Disk) (r : Int) (H : disk_Check.f k a0 = some r) : Con Try.prog 32 [VA.k kDisk a0] [VA.k (kint .i64) r] := by
  unfold disk_Check.f at H
  refine con_enter Try.func32 rfl rfl rfl (fun w0 S0 θ => ?_)
  refine goes_seq ?_
  refine goes_region ?_
  refine go3 (op_box 1 rfl (fun h => by first | rfl | cases h) (.t (has rfl))) rfl ?_
  refine go1 (op_assign rfl (.int _ _)) rfl ?_
  refine goesO_nil ?_
  refine ends_then ?_
  refine goes_seq ?_
  refine goes_seq ?_
  obtain ⟨s1, h2, H⟩ := bind_some H
  refine goes_cut [Ent.t 1 (VA.ptr 1 0), Ent.t 19 (VA.k kbool s1), Ent.h 1 (HE.box 27 kDisk a0)] ?_ ?_
  · replace H := h2; clear h2
    refine goes_region ?_
    refine go1 (op_fieldAddr rfl Try.underlying27 rfl tk3 (.t (has rfl))) rfl ?_
    refine go1 (op_load rfl fldDisk_Clock tk3 (.t (has rfl)) (has rfl)) rfl ?_
    refine go1 (op_icmp rfl rfl (.t (has rfl)) (.int _ _)) rfl ?_
    refine go1 (op_move rfl (.t (has rfl))) rfl ?_
    refine goesO_split H (fun hb3 H => ?_) (fun hb3 H => ?_)
    · skip
      refine goS rfl rfl rfl rfl rfl rfl hb3 ?_
      refine goS rfl rfl rfl rfl rfl rfl hb3 ?_
      refine goS rfl rfl rfl rfl rfl rfl hb3 ?_
      refine go1 (op_pick_t rfl hb3 (.t (has rfl)) (.bool _)) rfl ?_
      refine go1 (op_move rfl (.t (has rfl))) rfl ?_
      refine goS rfl rfl rfl rfl rfl rfl rfl ?_
      refine goS rfl rfl rfl rfl rfl rfl rfl ?_
      refine goS rfl rfl rfl rfl rfl rfl rfl ?_
      refine goS rfl rfl rfl rfl rfl rfl rfl ?_
      refine go1 (op_pick_t rfl rfl (.t (has rfl)) (.bool _)) rfl ?_
      refine goesO_nil ?_
      obtain rfl := Option.some.inj H
      exact ends_cut (.cons rfl (.cons rfl (.cons rfl .nil)))
    · skip
      refine goG (op_fieldAddr rfl Try.underlying27 rfl tk3 (.t (has rfl))) rfl rfl rfl rfl hb3 ?_
      refine goG (op_load rfl fldDisk_Clock tk3 (.t (has rfl)) (has rfl)) rfl rfl rfl rfl hb3 ?_
      refine goG (op_icmp rfl rfl (.t (has rfl)) (.int _ _)) rfl rfl rfl rfl hb3 ?_
      refine go1 (op_pick_f rfl hb3 (.t (has rfl)) (.t (has rfl))) rfl ?_
      refine go1 (op_move rfl (.t (has rfl))) rfl ?_
      refine goesO_split H (fun hb4 H => ?_) (fun hb4 H => ?_)
      · skip
        refine goS rfl rfl rfl rfl rfl rfl hb4 ?_
        refine goS rfl rfl rfl rfl rfl rfl hb4 ?_
        refine goS rfl rfl rfl rfl rfl rfl hb4 ?_
        refine goS rfl rfl rfl rfl rfl rfl hb4 ?_
        refine go1 (op_pick_t rfl hb4 (.t (has rfl)) (.bool _)) rfl ?_
        refine goesO_nil ?_
        obtain rfl := Option.some.inj H
        exact ends_cut (.cons rfl (.cons rfl (.cons rfl .nil)))
      · skip
        refine goG (op_fieldAddr rfl Try.underlying27 rfl tk25 (.t (has rfl))) rfl rfl rfl rfl hb4 ?_
        refine goG (op_load rfl fldDisk_Files tk25 (.t (has rfl)) (has rfl)) rfl rfl rfl rfl hb4 ?_
        refine goG (op_len rfl rfl Try.underlying25 (.t (has rfl))) rfl rfl rfl rfl hb4 ?_
        refine goG (op_icmp rfl rfl (.t (has rfl)) (.int _ _)) rfl rfl rfl rfl hb4 ?_
        refine go1 (op_pick_f rfl hb4 (.t (has rfl)) (.t (has rfl))) rfl ?_
        refine goesO_nil ?_
        obtain rfl := Option.some.inj H
        exact ends_cut (.cons rfl (.cons rfl (.cons rfl .nil)))
  refine ends_then ?_
  refine goes_if (.t (has rfl)) H (fun hb5 H => ?_) (fun hb5 H => ?_)
  · skip
    refine goes_seq ?_
    refine goes_region ?_
    refine go1 (op_assign rfl (.int _ _)) rfl ?_
    refine goesO_nil ?_
    refine ends_then ?_
    obtain rfl := Option.some.inj H
    exact goes_ret (ends_then_ret (ends_ret' rfl rfl (.t rfl (.nil _))))
  · skip
    refine goes_skip ?_
    refine ends_then ?_
    refine goes_seq ?_
    refine goes_region ?_
    refine go1 (op_build (pl := [(0, 1), (1, 1), (2, 1)]) rfl rfl Try.underlying47 (by kernel_rfl) zk47 (.nil _)) rfl ?_
    refine go3 (op_alloc 3 rfl zk47) rfl ?_
    refine go1 (op_store (Fld.whole kFile) tk47 (.t (has rfl)) (has rfl) (.t (has rfl))) rfl ?_
    refine goesO_nil ?_
    refine ends_then ?_
    refine goes_seq ?_
    refine goes_seq ?_
    refine goes_region ?_
    refine go1 (op_fieldAddr rfl Try.underlying27 rfl tk25 (.t (has rfl))) rfl ?_
    refine go1 (op_load rfl fldDisk_Files tk25 (.t (has rfl)) (has rfl)) rfl ?_
    refine go1 (op_len rfl rfl Try.underlying25 (.t (has rfl))) rfl ?_
    refine go1 (op_move rfl (.int _ _)) rfl ?_
    refine goesO_nil ?_
    refine ends_then ?_
    obtain ⟨o9, h8, H⟩ := bind_some H
    refine goes_cutR (o := o9) (fun s7 : Unit => []) (fun r a w => bodyPost Try.prog Try.f32 (CPost w0 S0 θ [VA.k (kint .i64) r]) .ret a w) ?_ ?_ ?_
    · replace H := h8; clear h8
      refine goes_block ?_
      refine goes_loop (fun s6 : File × Int => [Ent.t 1 (VA.ptr 1 0), Ent.t 3 (VA.ptr 3 0), Ent.t 22 (VA.k (kslice kFile) a0.Files), Ent.t 23 (VA.k (kint .i64) (a0.Files.length : Int)), Ent.t 24 (VA.k (kint .i64) s6.2), Ent.h 1 (HE.box 27 kDisk a0), Ent.h 3 (HE.box 47 kFile s6.1)]) (fun k s6 => disk_Check.l0 a0 k s6) (fun _ => rfl) H (.cons rfl (.cons rfl (.cons rfl (.cons rfl (.cons rfl (.cons rfl (.cons rfl .nil))))))) ?_
      intro k s6 H
      simp only [disk_Check.l0] at H
      refine goes_seq ?_
      refine goes_region ?_
      refine go1 (op_icmp rfl rfl (.t (has rfl)) (.t (has rfl))) rfl ?_
      refine goesO_nil ?_
      refine ends_then ?_
      refine goes_seq ?_
      refine goes_if (.t (has rfl)) H (fun hb10 H => ?_) (fun hb10 H => ?_)
      · skip
        refine goes_skip ?_
        refine ends_then ?_
        refine goes_seq ?_
        refine goes_block ?_
        refine goes_seq ?_
        refine goes_region ?_
        refine go1 (op_move rfl (.t (has rfl))) rfl ?_
        obtain ⟨x11, h12, H⟩ := bind_some H
        refine go1 (op_indexAddr rfl Try.underlying25 tk47 h12 (.t (has rfl)) (.t (has rfl))) rfl ?_
        refine go1 (op_loadp rfl tk47 (.t (has rfl))) rfl ?_
        refine go3 (op_alloc 5 rfl zk47) rfl ?_
        refine go1 (op_assign rfl (.t (has rfl))) rfl ?_
        refine go1 (op_store (Fld.whole kFile) tk47 (.t (has rfl)) (has rfl) (.t (has rfl))) rfl ?_
        refine goesO_nil ?_
        refine ends_then ?_
        refine goes_seq ?_
        refine goes_seq ?_
        obtain ⟨s13, h14, H⟩ := bind_some H
        refine goes_cut [Ent.t 1 (VA.ptr 1 0), Ent.t 3 (VA.ptr 3 0), Ent.t 5 (VA.ptr 5 0), Ent.t 22 (VA.k (kslice kFile) a0.Files), Ent.t 23 (VA.k (kint .i64) (a0.Files.length : Int)), Ent.t 24 (VA.k (kint .i64) s6.2), Ent.t 61 (VA.k kbool s13), Ent.h 1 (HE.box 27 kDisk a0), Ent.h 3 (HE.box 47 kFile s6.1), Ent.h 5 (HE.box 47 kFile x11)] ?_ ?_
        · replace H := h14; clear h14
          refine goes_region ?_
          refine go1 (op_fieldAddr rfl Try.underlying47 rfl tk9 (.t (has rfl))) rfl ?_
          refine go1 (op_load rfl fldFile_Name tk9 (.t (has rfl)) (has rfl)) rfl ?_
          obtain ⟨v15, h16, H⟩ := bind_some H
          refine go1 (op_call' rfl enters48 (disk_named.con _ _ _ h16) rfl (.cons (ArgP.k (.t (has rfl))) .nil)) rfl ?_
          refine go1 (op_not rfl (.t (has rfl))) rfl ?_
          refine go1 (op_move rfl (.t (has rfl))) rfl ?_
          refine goesO_split H (fun hb17 H => ?_) (fun hb17 H => ?_)
          · skip
            refine goS rfl rfl rfl rfl rfl rfl hb17 ?_
            refine goS rfl rfl rfl rfl rfl rfl hb17 ?_
            refine goS rfl rfl rfl rfl rfl rfl hb17 ?_
            refine goSU rfl rfl rfl rfl rfl rfl ?_
            refine goSU rfl rfl rfl rfl rfl rfl ?_
            refine goSU rfl rfl rfl rfl rfl rfl ?_
            refine goSU rfl rfl rfl rfl rfl rfl ?_
            refine goSU rfl rfl rfl rfl rfl rfl ?_
            refine goS rfl rfl rfl rfl rfl rfl hb17 ?_
            refine go1 (op_pick_t rfl hb17 (.t (has rfl)) (.bool _)) rfl ?_
            refine go1 (op_move rfl (.t (has rfl))) rfl ?_
            refine goS rfl rfl rfl rfl rfl rfl rfl ?_
            refine goS rfl rfl rfl rfl rfl rfl rfl ?_
            refine goS rfl rfl rfl rfl rfl rfl rfl ?_
            refine goS rfl rfl rfl rfl rfl rfl rfl ?_
            refine go1 (op_pick_t rfl rfl (.t (has rfl)) (.bool _)) rfl ?_
            refine go1 (op_move rfl (.t (has rfl))) rfl ?_
            refine goS rfl rfl rfl rfl rfl rfl rfl ?_
            refine goS rfl rfl rfl rfl rfl rfl rfl ?_
            refine goS rfl rfl rfl rfl rfl rfl rfl ?_
            refine go1 (op_pick_t rfl rfl (.t (has rfl)) (.bool _)) rfl ?_
            refine go1 (op_move rfl (.t (has rfl))) rfl ?_
            refine goS rfl rfl rfl rfl rfl rfl rfl ?_
            refine goS rfl rfl rfl rfl rfl rfl rfl ?_
            refine goS rfl rfl rfl rfl rfl rfl rfl ?_
            refine goS rfl rfl rfl rfl rfl rfl rfl ?_
            refine goS rfl rfl rfl rfl rfl rfl rfl ?_
            refine go1 (op_pick_t rfl rfl (.t (has rfl)) (.bool _)) rfl ?_
            refine goesO_nil ?_
            obtain rfl := Option.some.inj H
            exact ends_cut (.cons rfl (.cons rfl (.cons rfl (.cons rfl (.cons rfl (.cons rfl (.cons rfl (.cons rfl (.cons rfl (.cons rfl .nil))))))))))
          · skip
            refine goG (op_move rfl (.t (has rfl))) rfl rfl rfl rfl hb17 ?_
            refine goG (op_icmp rfl rfl (.t (has rfl)) (.int _ _)) rfl rfl rfl rfl hb17 ?_
            refine goG (op_move rfl (.t (has rfl))) rfl rfl rfl rfl hb17 ?_
            refine goesO_split H (fun hb18 H => ?_) (fun hb18 H => ?_)
            · skip
              refine goG (op_fieldAddr rfl Try.underlying47 rfl tk9 (.t (has rfl))) rfl rfl rfl rfl hb18 ?_
              refine goG (op_load rfl fldFile_Name tk9 (.t (has rfl)) (has rfl)) rfl rfl rfl rfl hb18 ?_
              refine goG (op_fieldAddr rfl Try.underlying47 rfl tk9 (.t (has rfl))) rfl rfl rfl rfl hb18 ?_
              refine goG (op_load rfl fldFile_Name tk9 (.t (has rfl)) (has rfl)) rfl rfl rfl rfl hb18 ?_
              refine goG (op_scmp rfl rfl (.t (has rfl)) (.t (has rfl))) rfl rfl rfl rfl hb18 ?_
              refine goG (op_pick_t rfl hb18 (.t (has rfl)) (.t (has rfl))) rfl rfl rfl rfl hb17 ?_
              refine go1 (op_pick_f rfl hb17 (.t (has rfl)) (.t (has rfl))) rfl ?_
              refine go1 (op_move rfl (.t (has rfl))) rfl ?_
              refine goesO_split H (fun hb19 H => ?_) (fun hb19 H => ?_)
              · skip
                refine goS rfl rfl rfl rfl rfl rfl hb19 ?_
                refine goS rfl rfl rfl rfl rfl rfl hb19 ?_
                refine goS rfl rfl rfl rfl rfl rfl hb19 ?_
                refine goS rfl rfl rfl rfl rfl rfl hb19 ?_
                refine go1 (op_pick_t rfl hb19 (.t (has rfl)) (.bool _)) rfl ?_
                refine go1 (op_move rfl (.t (has rfl))) rfl ?_
                refine goS rfl rfl rfl rfl rfl rfl rfl ?_
                refine goS rfl rfl rfl rfl rfl rfl rfl ?_
                refine goS rfl rfl rfl rfl rfl rfl rfl ?_
                refine go1 (op_pick_t rfl rfl (.t (has rfl)) (.bool _)) rfl ?_
                refine go1 (op_move rfl (.t (has rfl))) rfl ?_
                refine goS rfl rfl rfl rfl rfl rfl rfl ?_
                refine goS rfl rfl rfl rfl rfl rfl rfl ?_
                refine goS rfl rfl rfl rfl rfl rfl rfl ?_
                refine goS rfl rfl rfl rfl rfl rfl rfl ?_
                refine goS rfl rfl rfl rfl rfl rfl rfl ?_
                refine go1 (op_pick_t rfl rfl (.t (has rfl)) (.bool _)) rfl ?_
                refine goesO_nil ?_
                obtain rfl := Option.some.inj H
                exact ends_cut (.cons rfl (.cons rfl (.cons rfl (.cons rfl (.cons rfl (.cons rfl (.cons rfl (.cons rfl (.cons rfl (.cons rfl .nil))))))))))
              · skip
                refine goG (op_fieldAddr rfl Try.underlying47 rfl tk9 (.t (has rfl))) rfl rfl rfl rfl hb19 ?_
                refine goG (op_load rfl fldFile_Text tk9 (.t (has rfl)) (has rfl)) rfl rfl rfl rfl hb19 ?_
                refine goG (op_len_str rfl rfl Try.underlying9 (.t (has rfl))) rfl rfl rfl rfl hb19 ?_
                refine goG (op_icmp rfl rfl (.t (has rfl)) (.int _ _)) rfl rfl rfl rfl hb19 ?_
                refine go1 (op_pick_f rfl hb19 (.t (has rfl)) (.t (has rfl))) rfl ?_
                refine go1 (op_move rfl (.t (has rfl))) rfl ?_
                refine goesO_split H (fun hb20 H => ?_) (fun hb20 H => ?_)
                · skip
                  refine goS rfl rfl rfl rfl rfl rfl hb20 ?_
                  refine goS rfl rfl rfl rfl rfl rfl hb20 ?_
                  refine goS rfl rfl rfl rfl rfl rfl hb20 ?_
                  refine go1 (op_pick_t rfl hb20 (.t (has rfl)) (.bool _)) rfl ?_
                  refine go1 (op_move rfl (.t (has rfl))) rfl ?_
                  refine goS rfl rfl rfl rfl rfl rfl rfl ?_
                  refine goS rfl rfl rfl rfl rfl rfl rfl ?_
                  refine goS rfl rfl rfl rfl rfl rfl rfl ?_
                  refine goS rfl rfl rfl rfl rfl rfl rfl ?_
                  refine goS rfl rfl rfl rfl rfl rfl rfl ?_
                  refine go1 (op_pick_t rfl rfl (.t (has rfl)) (.bool _)) rfl ?_
                  refine goesO_nil ?_
                  obtain rfl := Option.some.inj H
                  exact ends_cut (.cons rfl (.cons rfl (.cons rfl (.cons rfl (.cons rfl (.cons rfl (.cons rfl (.cons rfl (.cons rfl (.cons rfl .nil))))))))))
                · skip
                  refine goG (op_fieldAddr rfl Try.underlying47 rfl tk3 (.t (has rfl))) rfl rfl rfl rfl hb20 ?_
                  refine goG (op_load rfl fldFile_Stamp tk3 (.t (has rfl)) (has rfl)) rfl rfl rfl rfl hb20 ?_
                  refine goG (op_icmp rfl rfl (.t (has rfl)) (.int _ _)) rfl rfl rfl rfl hb20 ?_
                  refine go1 (op_pick_f rfl hb20 (.t (has rfl)) (.t (has rfl))) rfl ?_
                  refine go1 (op_move rfl (.t (has rfl))) rfl ?_
                  refine goesO_split H (fun hb21 H => ?_) (fun hb21 H => ?_)
                  · skip
                    refine goS rfl rfl rfl rfl rfl rfl hb21 ?_
                    refine goS rfl rfl rfl rfl rfl rfl hb21 ?_
                    refine goS rfl rfl rfl rfl rfl rfl hb21 ?_
                    refine goS rfl rfl rfl rfl rfl rfl hb21 ?_
                    refine goS rfl rfl rfl rfl rfl rfl hb21 ?_
                    refine go1 (op_pick_t rfl hb21 (.t (has rfl)) (.bool _)) rfl ?_
                    refine goesO_nil ?_
                    obtain rfl := Option.some.inj H
                    exact ends_cut (.cons rfl (.cons rfl (.cons rfl (.cons rfl (.cons rfl (.cons rfl (.cons rfl (.cons rfl (.cons rfl (.cons rfl .nil))))))))))
                  · skip
                    refine goG (op_fieldAddr rfl Try.underlying47 rfl tk3 (.t (has rfl))) rfl rfl rfl rfl hb21 ?_
                    refine goG (op_load rfl fldFile_Stamp tk3 (.t (has rfl)) (has rfl)) rfl rfl rfl rfl hb21 ?_
                    refine goG (op_fieldAddr rfl Try.underlying27 rfl tk3 (.t (has rfl))) rfl rfl rfl rfl hb21 ?_
                    refine goG (op_load rfl fldDisk_Clock tk3 (.t (has rfl)) (has rfl)) rfl rfl rfl rfl hb21 ?_
                    refine goG (op_icmp rfl rfl (.t (has rfl)) (.t (has rfl))) rfl rfl rfl rfl hb21 ?_
                    refine go1 (op_pick_f rfl hb21 (.t (has rfl)) (.t (has rfl))) rfl ?_
                    refine goesO_nil ?_
                    obtain rfl := Option.some.inj H
                    exact ends_cut (.cons rfl (.cons rfl (.cons rfl (.cons rfl (.cons rfl (.cons rfl (.cons rfl (.cons rfl (.cons rfl (.cons rfl .nil))))))))))
            · skip
              refine goS rfl rfl rfl rfl rfl rfl hb18 ?_
              refine goS rfl rfl rfl rfl rfl rfl hb18 ?_
              refine goS rfl rfl rfl rfl rfl rfl hb18 ?_
              refine goS rfl rfl rfl rfl rfl rfl hb18 ?_
              refine goS rfl rfl rfl rfl rfl rfl hb18 ?_
              refine goG (op_pick_f rfl hb18 (.t (has rfl)) (.bool _)) rfl rfl rfl rfl hb17 ?_
              refine go1 (op_pick_f rfl hb17 (.t (has rfl)) (.t (has rfl))) rfl ?_
              refine go1 (op_move rfl (.t (has rfl))) rfl ?_
              refine goG (op_fieldAddr rfl Try.underlying47 rfl tk9 (.t (has rfl))) rfl rfl rfl rfl rfl ?_
              refine goG (op_load rfl fldFile_Text tk9 (.t (has rfl)) (has rfl)) rfl rfl rfl rfl rfl ?_
              refine goG (op_len_str rfl rfl Try.underlying9 (.t (has rfl))) rfl rfl rfl rfl rfl ?_
              refine goG (op_icmp rfl rfl (.t (has rfl)) (.int _ _)) rfl rfl rfl rfl rfl ?_
              refine go1 (op_pick_f rfl rfl (.t (has rfl)) (.t (has rfl))) rfl ?_
              refine go1 (op_move rfl (.t (has rfl))) rfl ?_
              refine goesO_split H (fun hb22 H => ?_) (fun hb22 H => ?_)
              · skip
                refine goS rfl rfl rfl rfl rfl rfl hb22 ?_
                refine goS rfl rfl rfl rfl rfl rfl hb22 ?_
                refine goS rfl rfl rfl rfl rfl rfl hb22 ?_
                refine go1 (op_pick_t rfl hb22 (.t (has rfl)) (.bool _)) rfl ?_
                refine go1 (op_move rfl (.t (has rfl))) rfl ?_
                refine goS rfl rfl rfl rfl rfl rfl rfl ?_
                refine goS rfl rfl rfl rfl rfl rfl rfl ?_
                refine goS rfl rfl rfl rfl rfl rfl rfl ?_
                refine goS rfl rfl rfl rfl rfl rfl rfl ?_
                refine goS rfl rfl rfl rfl rfl rfl rfl ?_
                refine go1 (op_pick_t rfl rfl (.t (has rfl)) (.bool _)) rfl ?_
                refine goesO_nil ?_
                obtain rfl := Option.some.inj H
                exact ends_cut (.cons rfl (.cons rfl (.cons rfl (.cons rfl (.cons rfl (.cons rfl (.cons rfl (.cons rfl (.cons rfl (.cons rfl .nil))))))))))
              · skip
                refine goG (op_fieldAddr rfl Try.underlying47 rfl tk3 (.t (has rfl))) rfl rfl rfl rfl hb22 ?_
                refine goG (op_load rfl fldFile_Stamp tk3 (.t (has rfl)) (has rfl)) rfl rfl rfl rfl hb22 ?_
                refine goG (op_icmp rfl rfl (.t (has rfl)) (.int _ _)) rfl rfl rfl rfl hb22 ?_
                refine go1 (op_pick_f rfl hb22 (.t (has rfl)) (.t (has rfl))) rfl ?_
                refine go1 (op_move rfl (.t (has rfl))) rfl ?_
                refine goesO_split H (fun hb23 H => ?_) (fun hb23 H => ?_)
                · skip
                  refine goS rfl rfl rfl rfl rfl rfl hb23 ?_
                  refine goS rfl rfl rfl rfl rfl rfl hb23 ?_
                  refine goS rfl rfl rfl rfl rfl rfl hb23 ?_
                  refine goS rfl rfl rfl rfl rfl rfl hb23 ?_
                  refine goS rfl rfl rfl rfl rfl rfl hb23 ?_
                  refine go1 (op_pick_t rfl hb23 (.t (has rfl)) (.bool _)) rfl ?_
                  refine goesO_nil ?_
                  obtain rfl := Option.some.inj H
                  exact ends_cut (.cons rfl (.cons rfl (.cons rfl (.cons rfl (.cons rfl (.cons rfl (.cons rfl (.cons rfl (.cons rfl (.cons rfl .nil))))))))))
                · skip
                  refine goG (op_fieldAddr rfl Try.underlying47 rfl tk3 (.t (has rfl))) rfl rfl rfl rfl hb23 ?_
                  refine goG (op_load rfl fldFile_Stamp tk3 (.t (has rfl)) (has rfl)) rfl rfl rfl rfl hb23 ?_
                  refine goG (op_fieldAddr rfl Try.underlying27 rfl tk3 (.t (has rfl))) rfl rfl rfl rfl hb23 ?_
                  refine goG (op_load rfl fldDisk_Clock tk3 (.t (has rfl)) (has rfl)) rfl rfl rfl rfl hb23 ?_
                  refine goG (op_icmp rfl rfl (.t (has rfl)) (.t (has rfl))) rfl rfl rfl rfl hb23 ?_
                  refine go1 (op_pick_f rfl hb23 (.t (has rfl)) (.t (has rfl))) rfl ?_
                  refine goesO_nil ?_
                  obtain rfl := Option.some.inj H
                  exact ends_cut (.cons rfl (.cons rfl (.cons rfl (.cons rfl (.cons rfl (.cons rfl (.cons rfl (.cons rfl (.cons rfl (.cons rfl .nil))))))))))
        refine ends_then ?_
        refine goes_if (.t (has rfl)) H (fun hb24 H => ?_) (fun hb24 H => ?_)
        · skip
          refine goes_seq ?_
          refine goes_region ?_
          refine go1 (op_assign rfl (.int _ _)) rfl ?_
          refine goesO_nil ?_
          refine ends_then ?_
          obtain rfl := Option.some.inj H
          refine goes_ret (ends_then_ret (ends_block_ret (ends_then_ret (ends_then_ret (ends_block_ret (ends_cutR_ret rfl ?_))))))
          exact ends_ret' rfl rfl (.t rfl (.nil _))
        · skip
          refine goes_skip ?_
          refine ends_then ?_
          refine goes_region ?_
          refine go1 (op_load rfl (Fld.whole kFile) tk47 (.t (has rfl)) (has rfl)) rfl ?_
          refine go1 (op_store (Fld.whole kFile) tk47 (.t (has rfl)) (has rfl) (.t (has rfl))) rfl ?_
          refine goesO_nil ?_
          refine ends_block ?_
          refine ends_then ?_
          refine goes_region ?_
          refine go1 (op_add rfl (.t (has rfl)) (.int _ _)) rfl ?_
          refine go1 (op_move rfl (.t (has rfl))) rfl ?_
          refine goesO_nil ?_
          exact loop_next _ H (.cons rfl (.cons rfl (.cons rfl (.cons rfl (.cons rfl (.cons rfl (.cons rfl .nil)))))))
      · skip
        refine goes_exit (ends_then_exit (ends_then_exit (ends_block_exit ?_)))
        obtain rfl := Option.some.inj H
        exact ends_cutR rfl .nil
    · rintro s7 rfl
      clear h8
      dsimp only at H
      refine ends_then ?_
      refine goes_seq ?_
      refine goes_region ?_
      refine go1 (op_assign rfl (.int _ _)) rfl ?_
      refine goesO_nil ?_
      refine ends_then ?_
      obtain rfl := Option.some.inj H
      exact goes_ret (ends_ret' rfl rfl (.t rfl (.nil _)))
    · rintro r' rfl a w hr
      obtain rfl := Option.some.inj H
      exact hr
theorem disk_Check.conF (k : Nat) (a0 : Disk) (r : Int) (H : disk_Check.f k a0 = some r) : ConF Try.prog 32 [VA.k kDisk a0] [VA.k (kint .i64) r] := (disk_Check.con k a0 r H).freeL (.cons (KFree.k (KFree.int .i64) _) .nil)
/-! slices.Clone[[]string,string] -/
def slices_Clone_string_string.f (a0 : List ByteArray) : Option (List ByteArray) := (app 16 ([] : List ByteArray) a0).bind fun x1 => some x1
set_option maxRecDepth 100000 in
set_option maxHeartbeats 4000000 in
theorem slices_Clone_string_string.con (a0 : List ByteArray) (r : List ByteArray) (H : slices_Clone_string_string.f a0 = some r) : Con Try.prog 34 [VA.k (kslice kstr) a0] [VA.own 9 kstr r] := by
  unfold slices_Clone_string_string.f at H
  refine con_enter Try.func34 rfl rfl rfl (fun w0 S0 θ => ?_)
  refine goes_seq ?_
  refine goes_region ?_
  refine go1 (op_assign_nil 9 kstr (.inr rfl) rfl) rfl ?_
  refine goesO_nil ?_
  refine ends_then ?_
  refine goes_seq ?_
  refine goes_seq ?_
  refine goes_region ?_
  refine go1 (op_move rfl (.t (has rfl))) rfl ?_
  refine go1 (op_isnil rfl Try.underlying22 (.t (has rfl))) rfl ?_
  refine goesO_nil ?_
  refine ends_then ?_
  refine goes_ifnil (.t (has rfl)) (fun hnil => ?_) ?_
  · skip
    replace H : (some ([] : List ByteArray)) = some r := by subst hnil; simpa [app, room] using H
    refine goes_seq ?_
    refine goes_region ?_
    refine go1 (op_assign_nil 9 kstr (.inr rfl) rfl) rfl ?_
    refine goesO_nil ?_
    refine ends_then ?_
    obtain rfl := Option.some.inj H
    exact goes_ret (ends_then_ret (ends_ret' rfl rfl (.t rfl (.nil _))))
  · skip
    refine goes_skip ?_
    refine ends_then ?_
    refine goes_seq ?_
    refine goes_region ?_
    refine go1 (op_buildSlice0 rfl at22) rfl ?_
    refine go1 (op_move rfl (.t (has rfl))) rfl ?_
    obtain ⟨x1, h2, H⟩ := bind_some H
    refine go2 (op_append rfl rfl at22 h2 (has rfl) (ReadsArg.k (.t (has rfl)))) rfl ?_
    refine go2 (op_mv (.inr rfl) rfl rfl (has rfl)) rfl ?_
    refine goesO_nil ?_
    refine ends_then ?_
    obtain rfl := Option.some.inj H
    exact goes_ret (ends_ret' rfl rfl (.t rfl (.nil _)))
theorem slices_Clone_string_string.conF (a0 : List ByteArray) (r : List ByteArray) (H : slices_Clone_string_string.f a0 = some r) : ConF Try.prog 34 [VA.k (kslice kstr) a0] [VA.own 9 kstr r] := (slices_Clone_string_string.con a0 r H).freeL (.cons (KFree.own KFree.str _ _) .nil)
/-! smithy/stale.Would$1 -/
def stale_Would_1.f (a0 : ByteArray) (c0 : GM Bool) : Option Bool := (gget c0 false a0).bind fun x1 => some (!x1)
set_option maxRecDepth 100000 in
set_option maxHeartbeats 4000000 in
theorem stale_Would_1.con (a0 : ByteArray) (c0 : GM Bool) (r : Bool) (H : stale_Would_1.f a0 c0 = some r) : Con Try.prog 35 [VA.k kstr a0, VA.pt (kmap Try.prog 9 kbool) c0] [VA.k kbool r] := by
  unfold stale_Would_1.f at H
  refine con_enter Try.func35 rfl rfl rfl (fun w0 S0 θ => ?_)
  refine goes_seq ?_
  refine goes_region ?_
  refine go1 (op_assign rfl (.bool _)) rfl ?_
  refine goesO_nil ?_
  refine ends_then ?_
  refine goes_seq ?_
  refine goes_region ?_
  refine go1 (op_loadp rfl tk71 (.t (has rfl))) rfl ?_
  refine go1 (op_move rfl (.t (has rfl))) rfl ?_
  obtain ⟨x1, h2, H⟩ := bind_some H
  refine go1 (op_lookup_k rfl xmt71 h2 (.t (has rfl)) (.t (has rfl))) rfl ?_
  refine go1 (op_not rfl (.t (has rfl))) rfl ?_
  refine go1 (op_assign rfl (.t (has rfl))) rfl ?_
  refine goesO_nil ?_
  refine ends_then ?_
  obtain rfl := Option.some.inj H
  exact goes_ret (ends_ret' rfl rfl (.t rfl (.nil _)))
theorem stale_Would_1.conF (a0 : ByteArray) (c0 : GM Bool) (r : Bool) (H : stale_Would_1.f a0 c0 = some r) : ConF Try.prog 35 [VA.k kstr a0, VA.pt (kmap Try.prog 9 kbool) c0] [VA.k kbool r] := (stale_Would_1.con a0 c0 r H).freeL (.cons (KFree.k KFree.bool _) .nil)
/-! slices.DeleteFunc[[]string,string] -/
def slices_DeleteFunc_string_string.l0 (a1 : ByteArray → Option Bool) : Nat → ((List ByteArray) × Int × Int) → Option ((List ByteArray) × Int)
  | 0, _ => none
  | k + 1, s4 => bif icmp .lss s4.2.2 (s4.1.length : Int) then (((idx s4.1 s4.2.2).bind fun x10 => (a1 x10).bind fun v12 => bif !v12 then ((idx s4.1 s4.2.1).bind fun x15 => some (s4.1.set s4.2.1.toNat x10, IntKind.i64.wrap (s4.2.1 + (1 : Int)))) else (some (s4.1, s4.2.1))).bind fun s8 => slices_DeleteFunc_string_string.l0 a1 k (s8.1, s8.2, IntKind.i64.wrap (s4.2.2 + (1 : Int)))) else (some (s4.1, s4.2.1))
def slices_DeleteFunc_string_string.f (k : Nat) (a0 : List ByteArray) (a1 : ByteArray → Option Bool) : Option (List ByteArray) := (slices_IndexFunc_string_string.f k a0 a1).bind fun v1 => bif icmp .eql v1 (-1 : Int) then (some a0) else ((slices_DeleteFunc_string_string.l0 a1 k (a0, v1, IntKind.i64.wrap (v1 + (1 : Int)))).bind fun s5 => (inrow s5.1 s5.2).bind fun z17 => (inrow (s5.1.take (Int.toNat s5.2) ++ List.replicate (s5.1.length - Int.toNat s5.2) ByteArray.empty) s5.2).bind fun z19 => some ((s5.1.take (Int.toNat s5.2) ++ List.replicate (s5.1.length - Int.toNat s5.2) ByteArray.empty).take s5.2.toNat))
set_option maxRecDepth 100000 in
set_option maxHeartbeats 4000000 in
theorem slices_DeleteFunc_string_string.con (F1 : FuncId) (pre1 caps1 : List VA) (k : Nat) (a0 : List ByteArray) (a1 : ByteArray → Option Bool) (hE1 : Enters Try.prog F1) (hp1 : ∀ (z0 : ByteArray) r, a1 z0 = some r → Con Try.prog F1 (pre1 ++ ([VA.k kstr z0] ++ caps1)) [VA.k kbool r]) (r : List ByteArray) (H : slices_DeleteFunc_string_string.f k a0 a1 = some r) : ConE Try.prog 33 [] [Ent.r 900 9 kstr a0] [VA.rw 900 (a0).length, VA.clo F1 pre1 caps1] [VA.own 9 kstr r] [] := by
  unfold slices_DeleteFunc_string_string.f at H
  refine con_enterE Try.func33 rfl rfl rfl rfl rfl (fun w0 S0 X β => ?_)
  refine goes_release 0 900 rfl rfl rfl ?_
  refine goes_seq ?_
  refine goes_region ?_
  refine go1 (op_assign_nil 9 kstr (.inr rfl) rfl) rfl ?_
  refine goesO_nil ?_
  refine ends_then ?_
  refine goes_seq ?_
  refine goes_region ?_
  refine go1 (op_same (.inl rfl) rfl rfl) rfl ?_
  refine go1 (op_moveA rfl plain_clo (.t (has rfl))) rfl ?_
  obtain ⟨v1, h2, H⟩ := bind_some H
  refine go1 (op_callF' rfl enters49 (slices_IndexFunc_string_string.conF F1 pre1 caps1 _ _ a1 hE1 hp1 _ h2) rfl (.cons (ArgB.owns rfl (has rfl) (has rfl)) (.cons (ArgB.clo (.t (has rfl))) .nil))) rfl ?_
  refine go1 (op_assign rfl (.t (has rfl))) rfl ?_
  refine goesO_nil ?_
  refine ends_then ?_
  refine goes_seq ?_
  refine goes_seq ?_
  refine goes_region ?_
  refine go1 (op_move rfl (.t (has rfl))) rfl ?_
  refine go1 (op_icmp rfl rfl (.t (has rfl)) (.int _ _)) rfl ?_
  refine goesO_nil ?_
  refine ends_then ?_
  refine goes_if (.t (has rfl)) H (fun hb3 H => ?_) (fun hb3 H => ?_)
  · skip
    refine goes_seq ?_
    refine goes_region ?_
    refine go2 (op_mv (.inl rfl) rfl rfl (has rfl)) rfl ?_
    refine go2 (op_mv (.inr rfl) rfl rfl (has rfl)) rfl ?_
    refine goesO_nil ?_
    refine ends_then ?_
    obtain rfl := Option.some.inj H
    exact goes_ret (ends_then_ret (ends_retE rfl .nil (.t rfl (.post .nil rfl))))
  · skip
    refine goes_skip ?_
    refine ends_then ?_
    refine goes_seq ?_
    refine goes_seq ?_
    refine goes_region ?_
    refine go1 (op_move rfl (.t (has rfl))) rfl ?_
    refine go1 (op_add rfl (.t (has rfl)) (.int _ _)) rfl ?_
    refine go1 (op_assign rfl (.t (has rfl))) rfl ?_
    refine goesO_nil ?_
    refine ends_then ?_
    obtain ⟨s5, h6, H⟩ := bind_some H
    refine goes_cut [Ent.t 0 (VA.own 9 kstr s5.1), Ent.t 5 (VA.k (kint .i64) s5.2)] ?_ ?_
    · replace H := h6; clear h6
      refine goes_block ?_
      refine goes_loop (fun s4 : (List ByteArray) × Int × Int => [Ent.t 0 (VA.own 9 kstr s4.1), Ent.t 1 (VA.clo F1 pre1 caps1), Ent.t 5 (VA.k (kint .i64) s4.2.1), Ent.t 6 (VA.k (kint .i64) s4.2.2)]) (fun k s4 => slices_DeleteFunc_string_string.l0 a1 k s4) (fun _ => rfl) H (.cons rfl (.cons rfl (.cons rfl (.cons rfl .nil)))) ?_
      intro k s4 H
      simp only [slices_DeleteFunc_string_string.l0] at H
      refine goes_seq ?_
      refine goes_seq ?_
      refine goes_region ?_
      refine go1 (op_move rfl (.t (has rfl))) rfl ?_
      refine go1 (op_same (.inl rfl) rfl rfl) rfl ?_
      refine go1 (op_len_own rfl rfl Try.underlying22 (.same (has rfl) (has rfl))) rfl ?_
      refine go1 (op_icmp rfl rfl (.t (has rfl)) (.t (has rfl))) rfl ?_
      refine goesO_nil ?_
      refine ends_then ?_
      refine goes_if (.t (has rfl)) H (fun hb7 H => ?_) (fun hb7 H => ?_)
      · skip
        refine goes_skip ?_
        refine ends_then ?_
        refine goes_seq ?_
        obtain ⟨s8, h9, H⟩ := bind_some H
        refine goes_cut [Ent.t 0 (VA.own 9 kstr s8.1), Ent.t 1 (VA.clo F1 pre1 caps1), Ent.t 5 (VA.k (kint .i64) s8.2), Ent.t 6 (VA.k (kint .i64) s4.2.2)] ?_ ?_
        · replace H := h9; clear h9
          refine goes_block ?_
          refine goes_seq ?_
          refine goes_region ?_
          refine go1 (op_same (.inl rfl) rfl rfl) rfl ?_
          refine go1 (op_move rfl (.t (has rfl))) rfl ?_
          obtain ⟨x10, h11, H⟩ := bind_some H
          refine go1 (op_indexAddr_own rfl rfl Try.underlying22 tk9 h11 (.same (has rfl)) (has rfl) (.t (has rfl))) rfl ?_
          refine go1 (op_load_oe (off := 0) rfl (Fld.whole kstr) tk9 h11 (has rfl) (has rfl)) rfl ?_
          refine go1 (op_assign rfl (.t (has rfl))) rfl ?_
          refine goesO_nil ?_
          refine ends_then ?_
          refine goes_seq ?_
          refine goes_region ?_
          refine go1 (op_moveA rfl plain_clo (.t (has rfl))) rfl ?_
          refine go1 (op_move rfl (.t (has rfl))) rfl ?_
          obtain ⟨v12, h13, H⟩ := bind_some H
          refine go1 (op_callv rfl (.t (has rfl)) hE1 (hp1 _ _ h13) rfl (.cons (ArgP.k (.t (has rfl))) .nil)) rfl ?_
          refine go1 (op_not rfl (.t (has rfl))) rfl ?_
          refine goesO_nil ?_
          refine ends_then ?_
          refine goes_if (.t (has rfl)) H (fun hb14 H => ?_) (fun hb14 H => ?_)
          · skip
            refine goes_seq ?_
            refine goes_region ?_
            refine go1 (op_same (.inl rfl) rfl rfl) rfl ?_
            refine go1 (op_move rfl (.t (has rfl))) rfl ?_
            refine go1 (op_move rfl (.t (has rfl))) rfl ?_
            obtain ⟨x15, h16, H⟩ := bind_some H
            refine go1 (op_indexAddr_own rfl rfl Try.underlying22 tk9 h16 (.same (has rfl)) (has rfl) (.t (has rfl))) rfl ?_
            refine go1 (op_store_oe (off := 0) (Fld.whole kstr) tk9 h16 (has rfl) (has rfl) (.t (has rfl))) rfl ?_
            refine goesO_nil ?_
            refine ends_then ?_
            refine goes_region ?_
            refine go1 (op_move rfl (.t (has rfl))) rfl ?_
            refine go1 (op_add rfl (.t (has rfl)) (.int _ _)) rfl ?_
            refine go1 (op_assign rfl (.t (has rfl))) rfl ?_
            refine goesO_nil ?_
            refine ends_block ?_
            obtain rfl := Option.some.inj H
            exact ends_cut (.cons rfl (.cons rfl (.cons rfl (.cons rfl .nil))))
          · skip
            refine goes_skip ?_
            refine ends_block ?_
            obtain rfl := Option.some.inj H
            exact ends_cut (.cons rfl (.cons rfl (.cons rfl (.cons rfl .nil))))
        refine ends_then ?_
        refine goes_region ?_
        refine go1 (op_move rfl (.t (has rfl))) rfl ?_
        refine go1 (op_add rfl (.t (has rfl)) (.int _ _)) rfl ?_
        refine go1 (op_assign rfl (.t (has rfl))) rfl ?_
        refine goesO_nil ?_
        exact loop_next _ H (.cons rfl (.cons rfl (.cons rfl (.cons rfl .nil))))
      · skip
        refine goes_exit (ends_then_exit (ends_then_exit (ends_block_exit ?_)))
        obtain rfl := Option.some.inj H
        exact ends_cut (.cons rfl (.cons rfl .nil))
    refine ends_then ?_
    refine goes_seq ?_
    refine goes_region ?_
    refine go1 (op_same (.inl rfl) rfl rfl) rfl ?_
    refine go1 (op_move rfl (.t (has rfl))) rfl ?_
    obtain ⟨z17, h18, H⟩ := bind_some H
    refine go1 (op_slice_tail rfl rfl Try.underlying22 tk9 (inrow_spec h18).1 (inrow_spec h18).2 (.same (has rfl)) (has rfl) (.t (has rfl))) rfl ?_
    refine go1 (op_clear_tail rfl ⟨_, at22⟩ zk9 (has rfl) (has rfl) tk9) rfl ?_
    refine goesO_nil ?_
    refine ends_then ?_
    refine goes_seq ?_
    refine goes_region ?_
    refine go1 (op_same (.inl rfl) rfl rfl) rfl ?_
    refine go1 (op_move rfl (.t (has rfl))) rfl ?_
    obtain ⟨z19, h20, H⟩ := bind_some H
    refine go2 (op_slice_own rfl rfl Try.underlying22 tk9 (inrow_spec h20).1 (inrow_spec h20).2 (.same (has rfl)) (has rfl) (.t (has rfl))) rfl ?_
    refine go2 (op_mv (.inr rfl) rfl rfl (has rfl)) rfl ?_
    refine goesO_nil ?_
    refine ends_then ?_
    obtain rfl := Option.some.inj H
    exact goes_ret (ends_retE rfl .nil (.t rfl (.post .nil rfl)))
theorem slices_DeleteFunc_string_string.conF (F1 : FuncId) (pre1 caps1 : List VA) (k : Nat) (a0 : List ByteArray) (a1 : ByteArray → Option Bool) (hE1 : Enters Try.prog F1) (hp1 : ∀ (z0 : ByteArray) r, a1 z0 = some r → Con Try.prog F1 (pre1 ++ ([VA.k kstr z0] ++ caps1)) [VA.k kbool r]) (r : List ByteArray) (H : slices_DeleteFunc_string_string.f k a0 a1 = some r) : ConEF Try.prog 33 [] [Ent.r 900 9 kstr a0] [VA.rw 900 (a0).length, VA.clo F1 pre1 caps1] [VA.own 9 kstr r] [] := (slices_DeleteFunc_string_string.con F1 pre1 caps1 k a0 a1 hE1 hp1 r H).freeL (.cons (KFree.own KFree.str _ _) .nil) (fun e he => by cases he)
/-! smithy/disk.asked -/
def disk_asked.f (k : Nat) (a0 : Disk) (a1 : ByteArray) : Option Int := (disk_Check.f k a0).bind fun v1 => bif icmp .neq v1 (0 : Int) then (some v1) else ((disk_named.f k a1).bind fun v4 => bif !v4 then (some (3 : Int)) else (some (0 : Int)))
set_option maxRecDepth 100000 in
set_option maxHeartbeats 4000000 in
theorem disk_asked.con (k : Nat) (a0 : Disk) (a1 : ByteArray) (r : Int) (H : disk_asked.f k a0 a1 = some r) : Con Try.prog 60 [VA.k kDisk a0, VA.k kstr a1] [VA.k (kint .i64) r] := by
  unfold disk_asked.f at H
  refine con_enter Try.func60 rfl rfl rfl (fun w0 S0 θ => ?_)
  refine goes_seq ?_
  refine goes_region ?_
  refine go3 (op_box 2 rfl (fun h => by first | rfl | cases h) (.t (has rfl))) rfl ?_
  refine go1 (op_assign rfl (.int _ _)) rfl ?_
  refine goesO_nil ?_
  refine ends_then ?_
  refine goes_seq ?_
  refine goes_seq ?_
  refine goes_region ?_
  refine go1 (op_load rfl (Fld.whole kDisk) tk27 (.t (has rfl)) (has rfl)) rfl ?_
  obtain ⟨v1, h2, H⟩ := bind_some H
  refine go1 (op_call' rfl enters32 (disk_Check.con _ _ _ h2) rfl (.cons (ArgP.k (.t (has rfl))) .nil)) rfl ?_
  refine go1 (op_assign rfl (.t (has rfl))) rfl ?_
  refine goesO_nil ?_
  refine ends_then ?_
  refine goes_seq ?_
  refine goes_region ?_
  refine go1 (op_move rfl (.t (has rfl))) rfl ?_
  refine go1 (op_icmp rfl rfl (.t (has rfl)) (.int _ _)) rfl ?_
  refine goesO_nil ?_
  refine ends_then ?_
  refine goes_if (.t (has rfl)) H (fun hb3 H => ?_) (fun hb3 H => ?_)
  · skip
    refine goes_seq ?_
    refine goes_region ?_
    refine go1 (op_move rfl (.t (has rfl))) rfl ?_
    refine go1 (op_assign rfl (.t (has rfl))) rfl ?_
    refine goesO_nil ?_
    refine ends_then ?_
    obtain rfl := Option.some.inj H
    exact goes_ret (ends_then_ret (ends_ret' rfl rfl (.t rfl (.nil _))))
  · skip
    refine goes_skip ?_
    refine ends_then ?_
    refine goes_seq ?_
    refine goes_seq ?_
    refine goes_region ?_
    refine go1 (op_move rfl (.t (has rfl))) rfl ?_
    obtain ⟨v4, h5, H⟩ := bind_some H
    refine go1 (op_call' rfl enters48 (disk_named.con _ _ _ h5) rfl (.cons (ArgP.k (.t (has rfl))) .nil)) rfl ?_
    refine go1 (op_not rfl (.t (has rfl))) rfl ?_
    refine goesO_nil ?_
    refine ends_then ?_
    refine goes_if (.t (has rfl)) H (fun hb6 H => ?_) (fun hb6 H => ?_)
    · skip
      refine goes_seq ?_
      refine goes_region ?_
      refine go1 (op_assign rfl (.int _ _)) rfl ?_
      refine goesO_nil ?_
      refine ends_then ?_
      obtain rfl := Option.some.inj H
      exact goes_ret (ends_then_ret (ends_ret' rfl rfl (.t rfl (.nil _))))
    · skip
      refine goes_skip ?_
      refine ends_then ?_
      refine goes_seq ?_
      refine goes_region ?_
      refine go1 (op_assign rfl (.int _ _)) rfl ?_
      refine goesO_nil ?_
      refine ends_then ?_
      obtain rfl := Option.some.inj H
      exact goes_ret (ends_ret' rfl rfl (.t rfl (.nil _)))
theorem disk_asked.conF (k : Nat) (a0 : Disk) (a1 : ByteArray) (r : Int) (H : disk_asked.f k a0 a1 = some r) : ConF Try.prog 60 [VA.k kDisk a0, VA.k kstr a1] [VA.k (kint .i64) r] := (disk_asked.con k a0 a1 r H).freeL (.cons (KFree.k (KFree.int .i64) _) .nil)
/-! slices.BinarySearchFunc[[]smithy/api.File,smithy/api.File,string] -/
def slices_BinarySearchFunc_api_File_api_File_string.l0 (a0 : List File) (a1 : ByteArray) (a2 : File → ByteArray → Option Int) : Nat → (Int × Int) → Option Int
  | 0, _ => none
  | k + 1, s1 => bif icmp .lss s1.1 s1.2 then ((idx a0 (IntKind.i64.wrap ((IntKind.u64.wrap (IntKind.i64.wrap (s1.1 + s1.2))) / 2 ^ (Int.toNat (1 : Int))))).bind fun x5 => (a2 x5 a1).bind fun v7 => bif icmp .lss v7 (0 : Int) then (slices_BinarySearchFunc_api_File_api_File_string.l0 a0 a1 a2 k (IntKind.i64.wrap (IntKind.i64.wrap ((IntKind.u64.wrap (IntKind.i64.wrap (s1.1 + s1.2))) / 2 ^ (Int.toNat (1 : Int))) + (1 : Int)), s1.2)) else (slices_BinarySearchFunc_api_File_api_File_string.l0 a0 a1 a2 k (s1.1, IntKind.i64.wrap ((IntKind.u64.wrap (IntKind.i64.wrap (s1.1 + s1.2))) / 2 ^ (Int.toNat (1 : Int)))))) else (some s1.1)
def slices_BinarySearchFunc_api_File_api_File_string.f (k : Nat) (a0 : List File) (a1 : ByteArray) (a2 : File → ByteArray → Option Int) : Option (Int × Bool) := (slices_BinarySearchFunc_api_File_api_File_string.l0 a0 a1 a2 k ((0 : Int), (a0.length : Int))).bind fun s2 => (bif icmp .lss s2 (a0.length : Int) then ((idx a0 s2).bind fun x13 => (a2 x13 a1).bind fun v15 => some (icmp .eql v15 (0 : Int))) else (some false)).bind fun s10 => some (s2, s10)
set_option maxRecDepth 100000 in
set_option maxHeartbeats 4000000 in
theorem slices_BinarySearchFunc_api_File_api_File_string.con (F2 : FuncId) (pre2 caps2 : List VA) (k : Nat) (a0 : List File) (a1 : ByteArray) (a2 : File → ByteArray → Option Int) (hE2 : Enters Try.prog F2) (hp2 : ∀ (z0 : File) (z1 : ByteArray) r, a2 z0 z1 = some r → Con Try.prog F2 (pre2 ++ ([VA.k kFile z0, VA.k kstr z1] ++ caps2)) [VA.k (kint .i64) r]) (r : Int × Bool) (H : slices_BinarySearchFunc_api_File_api_File_string.f k a0 a1 a2 = some r) : Con Try.prog 64 [VA.k (kslice kFile) a0, VA.k kstr a1, VA.clo F2 pre2 caps2] [VA.k (kint .i64) r.1, VA.k kbool r.2] := by
  unfold slices_BinarySearchFunc_api_File_api_File_string.f at H
  refine con_enter Try.func64 rfl rfl rfl (fun w0 S0 θ => ?_)
  refine goes_seq ?_
  refine goes_region ?_
  refine go1 (op_assign rfl (.int _ _)) rfl ?_
  refine go1 (op_assign rfl (.bool _)) rfl ?_
  refine goesO_nil ?_
  refine ends_then ?_
  refine goes_seq ?_
  refine goes_region ?_
  refine go1 (op_move rfl (.t (has rfl))) rfl ?_
  refine go1 (op_len rfl rfl Try.underlying25 (.t (has rfl))) rfl ?_
  refine go1 (op_assign rfl (.t (has rfl))) rfl ?_
  refine goesO_nil ?_
  refine ends_then ?_
  refine goes_seq ?_
  refine goes_region ?_
  refine go1 (op_move rfl (.t (has rfl))) rfl ?_
  refine go1 (op_assign rfl (.int _ _)) rfl ?_
  refine go1 (op_assign rfl (.t (has rfl))) rfl ?_
  refine goesO_nil ?_
  refine ends_then ?_
  refine goes_seq ?_
  obtain ⟨s2, h3, H⟩ := bind_some H
  refine goes_cut [Ent.t 0 (VA.k (kslice kFile) a0), Ent.t 1 (VA.k kstr a1), Ent.t 2 (VA.clo F2 pre2 caps2), Ent.t 8 (VA.k (kint .i64) (a0.length : Int)), Ent.t 9 (VA.k (kint .i64) s2)] ?_ ?_
  · replace H := h3; clear h3
    refine goes_block ?_
    refine goes_loop (fun s1 : Int × Int => [Ent.t 0 (VA.k (kslice kFile) a0), Ent.t 1 (VA.k kstr a1), Ent.t 2 (VA.clo F2 pre2 caps2), Ent.t 8 (VA.k (kint .i64) (a0.length : Int)), Ent.t 9 (VA.k (kint .i64) s1.1), Ent.t 10 (VA.k (kint .i64) s1.2)]) (fun k s1 => slices_BinarySearchFunc_api_File_api_File_string.l0 a0 a1 a2 k s1) (fun _ => rfl) H (.cons rfl (.cons rfl (.cons rfl (.cons rfl (.cons rfl (.cons rfl .nil)))))) ?_
    intro k s1 H
    simp only [slices_BinarySearchFunc_api_File_api_File_string.l0] at H
    refine goes_seq ?_
    refine goes_seq ?_
    refine goes_region ?_
    refine go1 (op_move rfl (.t (has rfl))) rfl ?_
    refine go1 (op_move rfl (.t (has rfl))) rfl ?_
    refine go1 (op_icmp rfl rfl (.t (has rfl)) (.t (has rfl))) rfl ?_
    refine goesO_nil ?_
    refine ends_then ?_
    refine goes_if (.t (has rfl)) H (fun hb4 H => ?_) (fun hb4 H => ?_)
    · skip
      refine goes_skip ?_
      refine ends_then ?_
      refine goes_block ?_
      refine goes_seq ?_
      refine goes_region ?_
      refine go1 (op_move rfl (.t (has rfl))) rfl ?_
      refine go1 (op_move rfl (.t (has rfl))) rfl ?_
      refine go1 (op_add rfl (.t (has rfl)) (.t (has rfl))) rfl ?_
      refine go1 (op_conv rfl Try.underlying3 Try.underlying99 (.t (has rfl))) rfl ?_
      refine go1 (op_shr rfl (by decide) (by decide) (.t (has rfl)) (.int _ _)) rfl ?_
      refine go1 (op_conv rfl Try.underlying99 Try.underlying3 (.t (has rfl))) rfl ?_
      refine go1 (op_assign rfl (.t (has rfl))) rfl ?_
      refine goesO_nil ?_
      refine ends_then ?_
      refine goes_seq ?_
      refine goes_region ?_
      refine go1 (op_moveA rfl plain_clo (.t (has rfl))) rfl ?_
      refine go1 (op_move rfl (.t (has rfl))) rfl ?_
      refine go1 (op_move rfl (.t (has rfl))) rfl ?_
      obtain ⟨x5, h6, H⟩ := bind_some H
      refine go1 (op_indexAddr rfl Try.underlying25 tk47 h6 (.t (has rfl)) (.t (has rfl))) rfl ?_
      refine go1 (op_loadp rfl tk47 (.t (has rfl))) rfl ?_
      refine go1 (op_move rfl (.t (has rfl))) rfl ?_
      obtain ⟨v7, h8, H⟩ := bind_some H
      refine go1 (op_callv rfl (.t (has rfl)) hE2 (hp2 _ _ _ h8) rfl (.cons (ArgP.k (.t (has rfl))) (.cons (ArgP.k (.t (has rfl))) .nil))) rfl ?_
      refine go1 (op_icmp rfl rfl (.t (has rfl)) (.int _ _)) rfl ?_
      refine goesO_nil ?_
      refine ends_then ?_
      refine goes_if (.t (has rfl)) H (fun hb9 H => ?_) (fun hb9 H => ?_)
      · skip
        refine goes_region ?_
        refine go1 (op_move rfl (.t (has rfl))) rfl ?_
        refine go1 (op_add rfl (.t (has rfl)) (.int _ _)) rfl ?_
        refine go1 (op_assign rfl (.t (has rfl))) rfl ?_
        refine goesO_nil ?_
        refine ends_block ?_
        exact loop_next _ H (.cons rfl (.cons rfl (.cons rfl (.cons rfl (.cons rfl (.cons rfl .nil))))))
      · skip
        refine goes_region ?_
        refine go1 (op_move rfl (.t (has rfl))) rfl ?_
        refine go1 (op_assign rfl (.t (has rfl))) rfl ?_
        refine goesO_nil ?_
        refine ends_block ?_
        exact loop_next _ H (.cons rfl (.cons rfl (.cons rfl (.cons rfl (.cons rfl (.cons rfl .nil))))))
    · skip
      refine goes_exit (ends_then_exit (ends_then_exit (ends_block_exit ?_)))
      obtain rfl := Option.some.inj H
      exact ends_cut (.cons rfl (.cons rfl (.cons rfl (.cons rfl (.cons rfl .nil)))))
  refine ends_then ?_
  refine goes_seq ?_
  obtain ⟨s10, h11, H⟩ := bind_some H
  refine goes_cut [Ent.t 6 (VA.k (kint .i64) s2), Ent.t 7 (VA.k kbool s10)] ?_ ?_
  · replace H := h11; clear h11
    refine goes_region ?_
    refine go1 (op_move rfl (.t (has rfl))) rfl ?_
    refine go1 (op_move rfl (.t (has rfl))) rfl ?_
    refine go1 (op_move rfl (.t (has rfl))) rfl ?_
    refine go1 (op_icmp rfl rfl (.t (has rfl)) (.t (has rfl))) rfl ?_
    refine go1 (op_move rfl (.t (has rfl))) rfl ?_
    refine goesO_split H (fun hb12 H => ?_) (fun hb12 H => ?_)
    · skip
      refine goG (op_moveA rfl plain_clo (.t (has rfl))) rfl rfl rfl rfl hb12 ?_
      refine goG (op_move rfl (.t (has rfl))) rfl rfl rfl rfl hb12 ?_
      refine goG (op_move rfl (.t (has rfl))) rfl rfl rfl rfl hb12 ?_
      obtain ⟨x13, h14, H⟩ := bind_some H
      refine goG (op_indexAddr rfl Try.underlying25 tk47 h14 (.t (has rfl)) (.t (has rfl))) rfl rfl rfl rfl hb12 ?_
      refine goG (op_loadp rfl tk47 (.t (has rfl))) rfl rfl rfl rfl hb12 ?_
      refine goG (op_move rfl (.t (has rfl))) rfl rfl rfl rfl hb12 ?_
      obtain ⟨v15, h16, H⟩ := bind_some H
      refine goG (op_callv rfl (.t (has rfl)) hE2 (hp2 _ _ _ h16) rfl (.cons (ArgP.k (.t (has rfl))) (.cons (ArgP.k (.t (has rfl))) .nil))) rfl rfl rfl rfl hb12 ?_
      refine goG (op_icmp rfl rfl (.t (has rfl)) (.int _ _)) rfl rfl rfl rfl hb12 ?_
      refine go1 (op_pick_t rfl hb12 (.t (has rfl)) (.t (has rfl))) rfl ?_
      refine go1 (op_assign rfl (.t (has rfl))) rfl ?_
      refine go1 (op_assign rfl (.t (has rfl))) rfl ?_
      refine goesO_nil ?_
      obtain rfl := Option.some.inj H
      exact ends_cut (.cons rfl (.cons rfl .nil))
    · skip
      refine goS rfl rfl rfl rfl rfl rfl hb12 ?_
      refine goS rfl rfl rfl rfl rfl rfl hb12 ?_
      refine goS rfl rfl rfl rfl rfl rfl hb12 ?_
      refine goS rfl rfl rfl rfl rfl rfl hb12 ?_
      refine goS rfl rfl rfl rfl rfl rfl hb12 ?_
      refine goS rfl rfl rfl rfl rfl rfl hb12 ?_
      refine goS rfl rfl rfl rfl rfl rfl hb12 ?_
      refine goS rfl rfl rfl rfl rfl rfl hb12 ?_
      refine go1 (op_pick_f rfl hb12 (.t (has rfl)) (.bool _)) rfl ?_
      refine go1 (op_assign rfl (.t (has rfl))) rfl ?_
      refine go1 (op_assign rfl (.t (has rfl))) rfl ?_
      refine goesO_nil ?_
      obtain rfl := Option.some.inj H
      exact ends_cut (.cons rfl (.cons rfl .nil))
  refine ends_then ?_
  obtain rfl := Option.some.inj H
  exact goes_ret (ends_ret' rfl rfl (.t rfl (.t rfl (.nil _))))
theorem slices_BinarySearchFunc_api_File_api_File_string.conF (F2 : FuncId) (pre2 caps2 : List VA) (k : Nat) (a0 : List File) (a1 : ByteArray) (a2 : File → ByteArray → Option Int) (hE2 : Enters Try.prog F2) (hp2 : ∀ (z0 : File) (z1 : ByteArray) r, a2 z0 z1 = some r → Con Try.prog F2 (pre2 ++ ([VA.k kFile z0, VA.k kstr z1] ++ caps2)) [VA.k (kint .i64) r]) (r : Int × Bool) (H : slices_BinarySearchFunc_api_File_api_File_string.f k a0 a1 a2 = some r) : ConF Try.prog 64 [VA.k (kslice kFile) a0, VA.k kstr a1, VA.clo F2 pre2 caps2] [VA.k (kint .i64) r.1, VA.k kbool r.2] := (slices_BinarySearchFunc_api_File_api_File_string.con F2 pre2 caps2 k a0 a1 a2 hE2 hp2 r H).freeL (.cons (KFree.k (KFree.int .i64) _) (.cons (KFree.k KFree.bool _) .nil))
/-! strings.Compare -/
def strings_Compare.f (a0 : ByteArray) (a1 : ByteArray) : Option Int := some (Lib.compareBytes a0.data.toList a1.data.toList)
theorem strings_Compare.con (a0 : ByteArray) (a1 : ByteArray) (r : Int) (H : strings_Compare.f a0 a1 = some r) : Con Try.prog 66 [VA.k kstr a0, VA.k kstr a1] [VA.k (kint .i64) r] := by
  obtain rfl := Option.some.inj H
  refine con_plain fun θ S w vs h => ?_
  match vs, h with
  | [v0, v1], h =>
    obtain ⟨h0, h1, _⟩ := h
    obtain rfl := arg_str h0
    obtain rfl := arg_str h1
    exact ⟨_, Try.strings_Compare a0 a1 w, va_int _ _⟩
theorem strings_Compare.conF (a0 : ByteArray) (a1 : ByteArray) (r : Int) (H : strings_Compare.f a0 a1 = some r) : ConF Try.prog 66 [VA.k kstr a0, VA.k kstr a1] [VA.k (kint .i64) r] := (strings_Compare.con a0 a1 r H).freeL (.cons (KFree.k (KFree.int .i64) _) .nil)
/-! smithy/disk.place$1 -/
def disk_place_1.f (a0 : File) (a1 : ByteArray) : Option Int := (strings_Compare.f a0.Name a1).bind fun v1 => some v1
set_option maxRecDepth 100000 in
set_option maxHeartbeats 4000000 in
theorem disk_place_1.con (a0 : File) (a1 : ByteArray) (r : Int) (H : disk_place_1.f a0 a1 = some r) : Con Try.prog 65 [VA.k kFile a0, VA.k kstr a1] [VA.k (kint .i64) r] := by
  unfold disk_place_1.f at H
  refine con_enter Try.func65 rfl rfl rfl (fun w0 S0 θ => ?_)
  refine goes_seq ?_
  refine goes_region ?_
  refine go3 (op_box 2 rfl (fun h => by first | rfl | cases h) (.t (has rfl))) rfl ?_
  refine go1 (op_assign rfl (.int _ _)) rfl ?_
  refine goesO_nil ?_
  refine ends_then ?_
  refine goes_seq ?_
  refine goes_region ?_
  refine go1 (op_fieldAddr rfl Try.underlying47 rfl tk9 (.t (has rfl))) rfl ?_
  refine go1 (op_load rfl fldFile_Name tk9 (.t (has rfl)) (has rfl)) rfl ?_
  refine go1 (op_move rfl (.t (has rfl))) rfl ?_
  obtain ⟨v1, h2, H⟩ := bind_some H
  refine go1 (op_call' rfl enters66 (strings_Compare.con _ _ _ h2) rfl (.cons (ArgP.k (.t (has rfl))) (.cons (ArgP.k (.t (has rfl))) .nil))) rfl ?_
  refine go1 (op_assign rfl (.t (has rfl))) rfl ?_
  refine goesO_nil ?_
  refine ends_then ?_
  obtain rfl := Option.some.inj H
  exact goes_ret (ends_ret' rfl rfl (.t rfl (.nil _)))
theorem disk_place_1.conF (a0 : File) (a1 : ByteArray) (r : Int) (H : disk_place_1.f a0 a1 = some r) : ConF Try.prog 65 [VA.k kFile a0, VA.k kstr a1] [VA.k (kint .i64) r] := (disk_place_1.con a0 a1 r H).freeL (.cons (KFree.k (KFree.int .i64) _) .nil)
/-! smithy/disk.place -/
def disk_place.f (k : Nat) (a0 : Disk) (a1 : ByteArray) : Option (Int × Bool) := (slices_BinarySearchFunc_api_File_api_File_string.f k a0.Files a1 (fun (z0 : File) (z1 : ByteArray) => disk_place_1.f z0 z1)).bind fun v1 => some (v1.1, v1.2)
set_option maxRecDepth 100000 in
set_option maxHeartbeats 4000000 in
theorem disk_place.con (k : Nat) (a0 : Disk) (a1 : ByteArray) (r : Int × Bool) (H : disk_place.f k a0 a1 = some r) : Con Try.prog 59 [VA.k kDisk a0, VA.k kstr a1] [VA.k (kint .i64) r.1, VA.k kbool r.2] := by
  unfold disk_place.f at H
  refine con_enter Try.func59 rfl rfl rfl (fun w0 S0 θ => ?_)
  refine goes_seq ?_
  refine goes_region ?_
  refine go3 (op_box 2 rfl (fun h => by first | rfl | cases h) (.t (has rfl))) rfl ?_
  refine go1 (op_assign rfl (.int _ _)) rfl ?_
  refine go1 (op_assign rfl (.bool _)) rfl ?_
  refine goesO_nil ?_
  refine ends_then ?_
  refine goes_seq ?_
  refine goes_region ?_
  refine go1 (op_fieldAddr rfl Try.underlying27 rfl tk25 (.t (has rfl))) rfl ?_
  refine go1 (op_load rfl fldDisk_Files tk25 (.t (has rfl)) (has rfl)) rfl ?_
  refine go1 (op_move rfl (.t (has rfl))) rfl ?_
  obtain ⟨v1, h2, H⟩ := bind_some H
  refine goN (op_calls' rfl enters64 (slices_BinarySearchFunc_api_File_api_File_string.con 65 ([]) ([]) _ _ _ (fun (z0 : File) (z1 : ByteArray) => disk_place_1.f z0 z1) enters65 (fun z0 z1 r h => disk_place_1.con z0 z1 r h) _ h2) rfl rfl (.cons (ArgP.k (.t (has rfl))) (.cons (ArgP.k (.t (has rfl))) (.cons ArgP.fn .nil)))) rfl ?_
  refine go1 (op_extract rfl plain_k (has rfl)) rfl ?_
  refine go1 (op_extract rfl plain_k (has rfl)) rfl ?_
  refine go1 (op_assign rfl (.t (has rfl))) rfl ?_
  refine go1 (op_assign rfl (.t (has rfl))) rfl ?_
  refine goesO_nil ?_
  refine ends_then ?_
  obtain rfl := Option.some.inj H
  exact goes_ret (ends_ret' rfl rfl (.t rfl (.t rfl (.nil _))))
theorem disk_place.conF (k : Nat) (a0 : Disk) (a1 : ByteArray) (r : Int × Bool) (H : disk_place.f k a0 a1 = some r) : ConF Try.prog 59 [VA.k kDisk a0, VA.k kstr a1] [VA.k (kint .i64) r.1, VA.k kbool r.2] := (disk_place.con k a0 a1 r H).freeL (.cons (KFree.k (KFree.int .i64) _) (.cons (KFree.k KFree.bool _) .nil))
/-! smithy/disk.Find -/
def disk_Find.f (k : Nat) (a0 : Disk) (a1 : ByteArray) : Option (File × Int) := (disk_asked.f k a0 a1).bind fun v1 => bif icmp .neq v1 (0 : Int) then (some ((⟨ByteArray.empty, ByteArray.empty, (0 : Int)⟩ : File), v1)) else ((disk_place.f k a0 a1).bind fun v4 => bif !v4.2 then (some ((⟨ByteArray.empty, ByteArray.empty, (0 : Int)⟩ : File), (21 : Int))) else ((idx a0.Files v4.1).bind fun x7 => some (x7, (0 : Int))))
set_option maxRecDepth 100000 in
set_option maxHeartbeats 4000000 in
theorem disk_Find.con (k : Nat) (a0 : Disk) (a1 : ByteArray) (r : File × Int) (H : disk_Find.f k a0 a1 = some r) : Con Try.prog 51 [VA.k kDisk a0, VA.k kstr a1] [VA.k kFile r.1, VA.k (kint .i64) r.2] := by
  unfold disk_Find.f at H
  refine con_enter Try.func51 rfl rfl rfl (fun w0 S0 θ => ?_)
  refine goes_seq ?_
  refine goes_region ?_
  refine go3 (op_box 2 rfl (fun h => by first | rfl | cases h) (.t (has rfl))) rfl ?_
  refine go3 (op_alloc 4 rfl zk47) rfl ?_
  refine go1 (op_assign rfl (.int _ _)) rfl ?_
  refine goesO_nil ?_
  refine ends_then ?_
  refine goes_seq ?_
  refine goes_seq ?_
  refine goes_region ?_
  refine go1 (op_load rfl (Fld.whole kDisk) tk27 (.t (has rfl)) (has rfl)) rfl ?_
  refine go1 (op_move rfl (.t (has rfl))) rfl ?_
  obtain ⟨v1, h2, H⟩ := bind_some H
  refine go1 (op_call' rfl enters60 (disk_asked.con _ _ _ _ h2) rfl (.cons (ArgP.k (.t (has rfl))) (.cons (ArgP.k (.t (has rfl))) .nil))) rfl ?_
  refine go1 (op_assign rfl (.t (has rfl))) rfl ?_
  refine goesO_nil ?_
  refine ends_then ?_
  refine goes_seq ?_
  refine goes_region ?_
  refine go1 (op_move rfl (.t (has rfl))) rfl ?_
  refine go1 (op_icmp rfl rfl (.t (has rfl)) (.int _ _)) rfl ?_
  refine goesO_nil ?_
  refine ends_then ?_
  refine goes_if (.t (has rfl)) H (fun hb3 H => ?_) (fun hb3 H => ?_)
  · skip
    refine goes_seq ?_
    refine goes_region ?_
    refine go1 (op_build (pl := [(0, 1), (1, 1), (2, 1)]) rfl rfl Try.underlying47 (by kernel_rfl) zk47 (.nil _)) rfl ?_
    refine go1 (op_move rfl (.t (has rfl))) rfl ?_
    refine go1 (op_store (Fld.whole kFile) tk47 (.t (has rfl)) (has rfl) (.t (has rfl))) rfl ?_
    refine go1 (op_assign rfl (.t (has rfl))) rfl ?_
    refine goesO_nil ?_
    refine ends_then ?_
    obtain rfl := Option.some.inj H
    exact goes_ret (ends_then_ret (ends_ret' rfl rfl (.c rfl rfl tk47 (.t rfl (.nil _)))))
  · skip
    refine goes_skip ?_
    refine ends_then ?_
    refine goes_seq ?_
    refine goes_region ?_
    refine go1 (op_load rfl (Fld.whole kDisk) tk27 (.t (has rfl)) (has rfl)) rfl ?_
    refine go1 (op_move rfl (.t (has rfl))) rfl ?_
    obtain ⟨v4, h5, H⟩ := bind_some H
    refine goN (op_calls' rfl enters59 (disk_place.con _ _ _ _ h5) rfl rfl (.cons (ArgP.k (.t (has rfl))) (.cons (ArgP.k (.t (has rfl))) .nil))) rfl ?_
    refine go1 (op_same (.inl rfl) rfl rfl) rfl ?_
    refine go1 (op_extract_same rfl plain_k (has rfl) (has rfl)) rfl ?_
    refine go1 (op_extract_same rfl plain_k (has rfl) (has rfl)) rfl ?_
    refine go1 (op_assign rfl (.t (has rfl))) rfl ?_
    refine go1 (op_assign rfl (.t (has rfl))) rfl ?_
    refine goesO_nil ?_
    refine ends_then ?_
    refine goes_seq ?_
    refine goes_seq ?_
    refine goes_region ?_
    refine go1 (op_move rfl (.t (has rfl))) rfl ?_
    refine go1 (op_not rfl (.t (has rfl))) rfl ?_
    refine goesO_nil ?_
    refine ends_then ?_
    refine goes_if (.t (has rfl)) H (fun hb6 H => ?_) (fun hb6 H => ?_)
    · skip
      refine goes_seq ?_
      refine goes_region ?_
      refine go1 (op_build (pl := [(0, 1), (1, 1), (2, 1)]) rfl rfl Try.underlying47 (by kernel_rfl) zk47 (.nil _)) rfl ?_
      refine go1 (op_store (Fld.whole kFile) tk47 (.t (has rfl)) (has rfl) (.t (has rfl))) rfl ?_
      refine go1 (op_assign rfl (.int _ _)) rfl ?_
      refine goesO_nil ?_
      refine ends_then ?_
      obtain rfl := Option.some.inj H
      exact goes_ret (ends_then_ret (ends_ret' rfl rfl (.c rfl rfl tk47 (.t rfl (.nil _)))))
    · skip
      refine goes_skip ?_
      refine ends_then ?_
      refine goes_seq ?_
      refine goes_region ?_
      refine go1 (op_fieldAddr rfl Try.underlying27 rfl tk25 (.t (has rfl))) rfl ?_
      refine go1 (op_load rfl fldDisk_Files tk25 (.t (has rfl)) (has rfl)) rfl ?_
      refine go1 (op_move rfl (.t (has rfl))) rfl ?_
      obtain ⟨x7, h8, H⟩ := bind_some H
      refine go1 (op_indexAddr rfl Try.underlying25 tk47 h8 (.t (has rfl)) (.t (has rfl))) rfl ?_
      refine go1 (op_loadp rfl tk47 (.t (has rfl))) rfl ?_
      refine go1 (op_store (Fld.whole kFile) tk47 (.t (has rfl)) (has rfl) (.t (has rfl))) rfl ?_
      refine go1 (op_assign rfl (.int _ _)) rfl ?_
      refine goesO_nil ?_
      refine ends_then ?_
      obtain rfl := Option.some.inj H
      exact goes_ret (ends_ret' rfl rfl (.c rfl rfl tk47 (.t rfl (.nil _))))
theorem disk_Find.conF (k : Nat) (a0 : Disk) (a1 : ByteArray) (r : File × Int) (H : disk_Find.f k a0 a1 = some r) : ConF Try.prog 51 [VA.k kDisk a0, VA.k kstr a1] [VA.k kFile r.1, VA.k (kint .i64) r.2] := (disk_Find.con k a0 a1 r H).freeL (.cons (KFree.k kfreeFile _) (.cons (KFree.k (KFree.int .i64) _) .nil))
/-! smithy/stale.file -/
def stale_file.f (k : Nat) (a0 : Disk) (a1 : ByteArray) : Option (File × Bool) := (disk_Find.f k a0 a1).bind fun v1 => some (v1.1, icmp .eql v1.2 (0 : Int))
set_option maxRecDepth 100000 in
set_option maxHeartbeats 4000000 in
theorem stale_file.con (k : Nat) (a0 : Disk) (a1 : ByteArray) (r : File × Bool) (H : stale_file.f k a0 a1 = some r) : Con Try.prog 40 [VA.k kDisk a0, VA.k kstr a1] [VA.k kFile r.1, VA.k kbool r.2] := by
  unfold stale_file.f at H
  refine con_enter Try.func40 rfl rfl rfl (fun w0 S0 θ => ?_)
  refine goes_seq ?_
  refine goes_region ?_
  refine go3 (op_box 2 rfl (fun h => by first | rfl | cases h) (.t (has rfl))) rfl ?_
  refine go3 (op_alloc 4 rfl zk47) rfl ?_
  refine go1 (op_assign rfl (.bool _)) rfl ?_
  refine goesO_nil ?_
  refine ends_then ?_
  refine goes_seq ?_
  refine goes_region ?_
  refine go1 (op_load rfl (Fld.whole kDisk) tk27 (.t (has rfl)) (has rfl)) rfl ?_
  refine go1 (op_move rfl (.t (has rfl))) rfl ?_
  obtain ⟨v1, h2, H⟩ := bind_some H
  refine goN (op_calls' rfl enters51 (disk_Find.con _ _ _ _ h2) rfl rfl (.cons (ArgP.k (.t (has rfl))) (.cons (ArgP.k (.t (has rfl))) .nil))) rfl ?_
  refine go1 (op_same (.inl rfl) rfl rfl) rfl ?_
  refine go1 (op_extract_same rfl plain_k (has rfl) (has rfl)) rfl ?_
  refine go1 (op_extract_same rfl plain_k (has rfl) (has rfl)) rfl ?_
  refine go3 (op_alloc 6 rfl zk47) rfl ?_
  refine go1 (op_store (Fld.whole kFile) tk47 (.t (has rfl)) (has rfl) (.t (has rfl))) rfl ?_
  refine go1 (op_assign rfl (.t (has rfl))) rfl ?_
  refine goesO_nil ?_
  refine ends_then ?_
  refine goes_seq ?_
  refine goes_region ?_
  refine go1 (op_load rfl (Fld.whole kFile) tk47 (.t (has rfl)) (has rfl)) rfl ?_
  refine go1 (op_move rfl (.t (has rfl))) rfl ?_
  refine go1 (op_icmp rfl rfl (.t (has rfl)) (.int _ _)) rfl ?_
  refine go1 (op_store (Fld.whole kFile) tk47 (.t (has rfl)) (has rfl) (.t (has rfl))) rfl ?_
  refine go1 (op_assign rfl (.t (has rfl))) rfl ?_
  refine goesO_nil ?_
  refine ends_then ?_
  obtain rfl := Option.some.inj H
  exact goes_ret (ends_ret' rfl rfl (.c rfl rfl tk47 (.t rfl (.nil _))))
theorem stale_file.conF (k : Nat) (a0 : Disk) (a1 : ByteArray) (r : File × Bool) (H : stale_file.f k a0 a1 = some r) : ConF Try.prog 40 [VA.k kDisk a0, VA.k kstr a1] [VA.k kFile r.1, VA.k kbool r.2] := (stale_file.con k a0 a1 r H).freeL (.cons (KFree.k kfreeFile _) (.cons (KFree.k KFree.bool _) .nil))
/-! smithy/stale.why -/
def stale_why.l0 (a0 : Node) (a1 : Disk) (a2 : List ByteArray) (v2 : File × Bool) : Nat → (ByteArray × Int) → Option (Except (Int × ByteArray) ByteArray)
  | 0, _ => none
  | k + 1, s5 => bif icmp .lss s5.2 (a0.Needs.length : Int) then (((idx a0.Needs s5.2).bind fun x13 => (stale_file.f k a1 x13).bind fun v15 => (bif !v15.2 then (some true) else ((slices_Contains_string_string.f k a2 x13).bind fun v20 => some v20)).bind fun s17 => bif s17 then (some (Except.error ((3 : Int), x13))) else ((bif icmp .gtr v15.1.Stamp v2.1.Stamp then (some (scmp .eql s5.1 (⟨#[]⟩ : ByteArray))) else (some false)).bind fun s23 => bif s23 then (some (Except.ok x13)) else (some (Except.ok s5.1)))).bind fun o12 => match o12 with | .error r' => some (Except.error r') | .ok s10 => (stale_why.l0 a0 a1 a2 v2 k (s10, IntKind.i64.wrap (s5.2 + (1 : Int))))) else (some (Except.ok s5.1))
def stale_why.f (k : Nat) (a0 : Node) (a1 : Disk) (a2 : List ByteArray) : Option (Int × ByteArray) := bif a0.Phony then (some ((1 : Int), (⟨#[]⟩ : ByteArray))) else ((stale_file.f k a1 a0.Target).bind fun v2 => bif !v2.2 then (some ((2 : Int), (⟨#[]⟩ : ByteArray))) else ((stale_why.l0 a0 a1 a2 v2 k ((⟨#[]⟩ : ByteArray), (0 : Int))).bind fun o8 => match o8 with | .error r' => some r' | .ok s6 => (bif scmp .neq s6 (⟨#[]⟩ : ByteArray) then (some ((4 : Int), s6)) else (some ((0 : Int), (⟨#[]⟩ : ByteArray))))))
set_option maxRecDepth 100000 in
set_option maxHeartbeats 4000000 in
theorem stale_why.con (k : Nat) (a0 : Node) (a1 : Disk) (a2 : List ByteArray) (r : Int × ByteArray) (H : stale_why.f k a0 a1 a2 = some r) : Con Try.prog 27 [VA.k kNode a0, VA.k kDisk a1, VA.k (kslice kstr) a2] [VA.k (kint .i64) r.1, VA.k kstr r.2] := by
  unfold stale_why.f at H
  refine con_enter Try.func27 rfl rfl rfl (fun w0 S0 θ => ?_)
  refine goes_seq ?_
  refine goes_region ?_
  refine go3 (op_box 3 rfl (fun h => by first | rfl | cases h) (.t (has rfl))) rfl ?_
  refine go3 (op_box 4 rfl (fun h => by first | rfl | cases h) (.t (has rfl))) rfl ?_
  refine go1 (op_assign rfl (.int _ _)) rfl ?_
  refine go1 (op_assign rfl (.str _)) rfl ?_
  refine goesO_nil ?_
  refine ends_then ?_
  refine goes_seq ?_
  refine goes_seq ?_
  refine goes_region ?_
  refine go1 (op_fieldAddr rfl Try.underlying24 rfl tk4 (.t (has rfl))) rfl ?_
  refine go1 (op_load rfl fldNode_Phony tk4 (.t (has rfl)) (has rfl)) rfl ?_
  refine goesO_nil ?_
  refine ends_then ?_
  refine goes_if (.t (has rfl)) H (fun hb1 H => ?_) (fun hb1 H => ?_)
  · skip
    refine goes_seq ?_
    refine goes_region ?_
    refine go1 (op_assign rfl (.int _ _)) rfl ?_
    refine go1 (op_assign rfl (.str _)) rfl ?_
    refine goesO_nil ?_
    refine ends_then ?_
    obtain rfl := Option.some.inj H
    exact goes_ret (ends_then_ret (ends_ret' rfl rfl (.t rfl (.t rfl (.nil _)))))
  · skip
    refine goes_skip ?_
    refine ends_then ?_
    refine goes_seq ?_
    refine goes_region ?_
    refine go1 (op_load rfl (Fld.whole kDisk) tk27 (.t (has rfl)) (has rfl)) rfl ?_
    refine go1 (op_fieldAddr rfl Try.underlying24 rfl tk9 (.t (has rfl))) rfl ?_
    refine go1 (op_load rfl fldNode_Target tk9 (.t (has rfl)) (has rfl)) rfl ?_
    obtain ⟨v2, h3, H⟩ := bind_some H
    refine goN (op_calls' rfl enters40 (stale_file.con _ _ _ _ h3) rfl rfl (.cons (ArgP.k (.t (has rfl))) (.cons (ArgP.k (.t (has rfl))) .nil))) rfl ?_
    refine go1 (op_same (.inl rfl) rfl rfl) rfl ?_
    refine go1 (op_extract_same rfl plain_k (has rfl) (has rfl)) rfl ?_
    refine go1 (op_extract_same rfl plain_k (has rfl) (has rfl)) rfl ?_
    refine go3 (op_alloc 8 rfl zk47) rfl ?_
    refine go1 (op_store (Fld.whole kFile) tk47 (.t (has rfl)) (has rfl) (.t (has rfl))) rfl ?_
    refine go1 (op_assign rfl (.t (has rfl))) rfl ?_
    refine goesO_nil ?_
    refine ends_then ?_
    refine goes_seq ?_
    refine goes_seq ?_
    refine goes_region ?_
    refine go1 (op_move rfl (.t (has rfl))) rfl ?_
    refine go1 (op_not rfl (.t (has rfl))) rfl ?_
    refine goesO_nil ?_
    refine ends_then ?_
    refine goes_if (.t (has rfl)) H (fun hb4 H => ?_) (fun hb4 H => ?_)
    · skip
      refine goes_seq ?_
      refine goes_region ?_
      refine go1 (op_assign rfl (.int _ _)) rfl ?_
      refine go1 (op_assign rfl (.str _)) rfl ?_
      refine goesO_nil ?_
      refine ends_then ?_
      obtain rfl := Option.some.inj H
      exact goes_ret (ends_then_ret (ends_ret' rfl rfl (.t rfl (.t rfl (.nil _)))))
    · skip
      refine goes_skip ?_
      refine ends_then ?_
      refine goes_seq ?_
      refine goes_region ?_
      refine go1 (op_assign rfl (.str _)) rfl ?_
      refine goesO_nil ?_
      refine ends_then ?_
      refine goes_seq ?_
      refine goes_seq ?_
      refine goes_region ?_
      refine go1 (op_fieldAddr rfl Try.underlying24 rfl tk22 (.t (has rfl))) rfl ?_
      refine go1 (op_load rfl fldNode_Needs tk22 (.t (has rfl)) (has rfl)) rfl ?_
      refine go1 (op_len rfl rfl Try.underlying22 (.t (has rfl))) rfl ?_
      refine go1 (op_move rfl (.int _ _)) rfl ?_
      refine goesO_nil ?_
      refine ends_then ?_
      obtain ⟨o8, h7, H⟩ := bind_some H
      refine goes_cutR (o := o8) (fun s6 : ByteArray => [Ent.t 10 (VA.k kstr s6)]) (fun r a w => bodyPost Try.prog Try.f27 (CPost w0 S0 θ [VA.k (kint .i64) r.1, VA.k kstr r.2]) .ret a w) ?_ ?_ ?_
      · replace H := h7; clear h7
        refine goes_block ?_
        refine goes_loop (fun s5 : ByteArray × Int => [Ent.t 2 (VA.k (kslice kstr) a2), Ent.t 4 (VA.ptr 4 0), Ent.t 8 (VA.ptr 8 0), Ent.t 10 (VA.k kstr s5.1), Ent.t 27 (VA.k (kslice kstr) a0.Needs), Ent.t 28 (VA.k (kint .i64) (a0.Needs.length : Int)), Ent.t 29 (VA.k (kint .i64) s5.2), Ent.h 4 (HE.box 27 kDisk a1), Ent.h 8 (HE.box 47 kFile v2.1)]) (fun k s5 => stale_why.l0 a0 a1 a2 v2 k s5) (fun _ => rfl) H (.cons rfl (.cons rfl (.cons rfl (.cons rfl (.cons rfl (.cons rfl (.cons rfl (.cons rfl (.cons rfl .nil))))))))) ?_
        intro k s5 H
        simp only [stale_why.l0] at H
        refine goes_seq ?_
        refine goes_region ?_
        refine go1 (op_icmp rfl rfl (.t (has rfl)) (.t (has rfl))) rfl ?_
        refine goesO_nil ?_
        refine ends_then ?_
        refine goes_seq ?_
        refine goes_if (.t (has rfl)) H (fun hb9 H => ?_) (fun hb9 H => ?_)
        · skip
          refine goes_skip ?_
          refine ends_then ?_
          refine goes_seq ?_
          obtain ⟨o12, h11, H⟩ := bind_some H
          refine goes_cutR (o := o12) (fun s10 : ByteArray => [Ent.t 2 (VA.k (kslice kstr) a2), Ent.t 4 (VA.ptr 4 0), Ent.t 8 (VA.ptr 8 0), Ent.t 10 (VA.k kstr s10), Ent.t 27 (VA.k (kslice kstr) a0.Needs), Ent.t 28 (VA.k (kint .i64) (a0.Needs.length : Int)), Ent.t 29 (VA.k (kint .i64) s5.2), Ent.h 4 (HE.box 27 kDisk a1), Ent.h 8 (HE.box 47 kFile v2.1)]) (fun r a w => bodyPost Try.prog Try.f27 (CPost w0 S0 θ [VA.k (kint .i64) r.1, VA.k kstr r.2]) .ret a w) ?_ ?_ ?_
          · replace H := h11; clear h11
            refine goes_block ?_
            refine goes_seq ?_
            refine goes_region ?_
            obtain ⟨x13, h14, H⟩ := bind_some H
            refine go1 (op_indexAddr rfl Try.underlying22 tk9 h14 (.t (has rfl)) (.t (has rfl))) rfl ?_
            refine go1 (op_loadp rfl tk9 (.t (has rfl))) rfl ?_
            refine go1 (op_assign rfl (.t (has rfl))) rfl ?_
            refine goesO_nil ?_
            refine ends_then ?_
            refine goes_seq ?_
            refine goes_region ?_
            refine go1 (op_load rfl (Fld.whole kDisk) tk27 (.t (has rfl)) (has rfl)) rfl ?_
            refine go1 (op_move rfl (.t (has rfl))) rfl ?_
            obtain ⟨v15, h16, H⟩ := bind_some H
            refine goN (op_calls' rfl enters40 (stale_file.con _ _ _ _ h16) rfl rfl (.cons (ArgP.k (.t (has rfl))) (.cons (ArgP.k (.t (has rfl))) .nil))) rfl ?_
            refine go1 (op_same (.inl rfl) rfl rfl) rfl ?_
            refine go1 (op_extract_same rfl plain_k (has rfl) (has rfl)) rfl ?_
            refine go1 (op_extract_same rfl plain_k (has rfl) (has rfl)) rfl ?_
            refine go3 (op_alloc 13 rfl zk47) rfl ?_
            refine go1 (op_store (Fld.whole kFile) tk47 (.t (has rfl)) (has rfl) (.t (has rfl))) rfl ?_
            refine go1 (op_assign rfl (.t (has rfl))) rfl ?_
            refine goesO_nil ?_
            refine ends_then ?_
            refine goes_seq ?_
            refine goes_seq ?_
            obtain ⟨s17, h18, H⟩ := bind_some H
            refine goes_cut [Ent.t 2 (VA.k (kslice kstr) a2), Ent.t 4 (VA.ptr 4 0), Ent.t 8 (VA.ptr 8 0), Ent.t 10 (VA.k kstr s5.1), Ent.t 12 (VA.k kstr x13), Ent.t 13 (VA.ptr 13 0), Ent.t 27 (VA.k (kslice kstr) a0.Needs), Ent.t 28 (VA.k (kint .i64) (a0.Needs.length : Int)), Ent.t 29 (VA.k (kint .i64) s5.2), Ent.t 45 (VA.k kbool s17), Ent.h 4 (HE.box 27 kDisk a1), Ent.h 8 (HE.box 47 kFile v2.1), Ent.h 13 (HE.box 47 kFile v15.1)] ?_ ?_
            · replace H := h18; clear h18
              refine goes_region ?_
              refine go1 (op_move rfl (.t (has rfl))) rfl ?_
              refine go1 (op_not rfl (.t (has rfl))) rfl ?_
              refine go1 (op_move rfl (.t (has rfl))) rfl ?_
              refine goesO_split H (fun hb19 H => ?_) (fun hb19 H => ?_)
              · skip
                refine goS rfl rfl rfl rfl rfl rfl hb19 ?_
                refine goS rfl rfl rfl rfl rfl rfl hb19 ?_
                refine goS rfl rfl rfl rfl rfl rfl hb19 ?_
                refine go1 (op_pick_t rfl hb19 (.t (has rfl)) (.bool _)) rfl ?_
                refine goesO_nil ?_
                obtain rfl := Option.some.inj H
                exact ends_cut (.cons rfl (.cons rfl (.cons rfl (.cons rfl (.cons rfl (.cons rfl (.cons rfl (.cons rfl (.cons rfl (.cons rfl (.cons rfl (.cons rfl (.cons rfl .nil)))))))))))))
              · skip
                refine goG (op_move rfl (.t (has rfl))) rfl rfl rfl rfl hb19 ?_
                refine goG (op_move rfl (.t (has rfl))) rfl rfl rfl rfl hb19 ?_
                obtain ⟨v20, h21, H⟩ := bind_some H
                refine goG (op_call' rfl enters42 (slices_Contains_string_string.con _ _ _ _ h21) rfl (.cons (ArgP.k (.t (has rfl))) (.cons (ArgP.k (.t (has rfl))) .nil))) rfl rfl rfl rfl hb19 ?_
                refine go1 (op_pick_f rfl hb19 (.t (has rfl)) (.t (has rfl))) rfl ?_
                refine goesO_nil ?_
                obtain rfl := Option.some.inj H
                exact ends_cut (.cons rfl (.cons rfl (.cons rfl (.cons rfl (.cons rfl (.cons rfl (.cons rfl (.cons rfl (.cons rfl (.cons rfl (.cons rfl (.cons rfl (.cons rfl .nil)))))))))))))
            refine ends_then ?_
            refine goes_if (.t (has rfl)) H (fun hb22 H => ?_) (fun hb22 H => ?_)
            · skip
              refine goes_seq ?_
              refine goes_region ?_
              refine go1 (op_move rfl (.t (has rfl))) rfl ?_
              refine go1 (op_assign rfl (.int _ _)) rfl ?_
              refine go1 (op_assign rfl (.t (has rfl))) rfl ?_
              refine goesO_nil ?_
              refine ends_then ?_
              obtain rfl := Option.some.inj H
              refine goes_ret (ends_then_ret (ends_block_ret (ends_cutR_ret rfl ?_)))
              exact ends_ret' rfl rfl (.t rfl (.t rfl (.nil _)))
            · skip
              refine goes_skip ?_
              refine ends_then ?_
              refine goes_seq ?_
              obtain ⟨s23, h24, H⟩ := bind_some H
              refine goes_cut [Ent.t 2 (VA.k (kslice kstr) a2), Ent.t 4 (VA.ptr 4 0), Ent.t 8 (VA.ptr 8 0), Ent.t 10 (VA.k kstr s5.1), Ent.t 12 (VA.k kstr x13), Ent.t 27 (VA.k (kslice kstr) a0.Needs), Ent.t 28 (VA.k (kint .i64) (a0.Needs.length : Int)), Ent.t 29 (VA.k (kint .i64) s5.2), Ent.t 55 (VA.k kbool s23), Ent.h 4 (HE.box 27 kDisk a1), Ent.h 8 (HE.box 47 kFile v2.1)] ?_ ?_
              · replace H := h24; clear h24
                refine goes_region ?_
                refine go1 (op_fieldAddr rfl Try.underlying47 rfl tk3 (.t (has rfl))) rfl ?_
                refine go1 (op_load rfl fldFile_Stamp tk3 (.t (has rfl)) (has rfl)) rfl ?_
                refine go1 (op_fieldAddr rfl Try.underlying47 rfl tk3 (.t (has rfl))) rfl ?_
                refine go1 (op_load rfl fldFile_Stamp tk3 (.t (has rfl)) (has rfl)) rfl ?_
                refine go1 (op_icmp rfl rfl (.t (has rfl)) (.t (has rfl))) rfl ?_
                refine go1 (op_move rfl (.t (has rfl))) rfl ?_
                refine goesO_split H (fun hb25 H => ?_) (fun hb25 H => ?_)
                · skip
                  refine goG (op_move rfl (.t (has rfl))) rfl rfl rfl rfl hb25 ?_
                  refine goG (op_scmp rfl rfl (.t (has rfl)) (.str _)) rfl rfl rfl rfl hb25 ?_
                  refine go1 (op_pick_t rfl hb25 (.t (has rfl)) (.t (has rfl))) rfl ?_
                  refine goesO_nil ?_
                  obtain rfl := Option.some.inj H
                  exact ends_cut (.cons rfl (.cons rfl (.cons rfl (.cons rfl (.cons rfl (.cons rfl (.cons rfl (.cons rfl (.cons rfl (.cons rfl (.cons rfl .nil)))))))))))
                · skip
                  refine goS rfl rfl rfl rfl rfl rfl hb25 ?_
                  refine goS rfl rfl rfl rfl rfl rfl hb25 ?_
                  refine go1 (op_pick_f rfl hb25 (.t (has rfl)) (.bool _)) rfl ?_
                  refine goesO_nil ?_
                  obtain rfl := Option.some.inj H
                  exact ends_cut (.cons rfl (.cons rfl (.cons rfl (.cons rfl (.cons rfl (.cons rfl (.cons rfl (.cons rfl (.cons rfl (.cons rfl (.cons rfl .nil)))))))))))
              refine ends_then ?_
              refine goes_if (.t (has rfl)) H (fun hb26 H => ?_) (fun hb26 H => ?_)
              · skip
                refine goes_region ?_
                refine go1 (op_move rfl (.t (has rfl))) rfl ?_
                refine go1 (op_assign rfl (.t (has rfl))) rfl ?_
                refine goesO_nil ?_
                refine ends_block ?_
                obtain rfl := Option.some.inj H
                exact ends_cutR rfl (.cons rfl (.cons rfl (.cons rfl (.cons rfl (.cons rfl (.cons rfl (.cons rfl (.cons rfl (.cons rfl .nil)))))))))
              · skip
                refine goes_skip ?_
                refine ends_block ?_
                obtain rfl := Option.some.inj H
                exact ends_cutR rfl (.cons rfl (.cons rfl (.cons rfl (.cons rfl (.cons rfl (.cons rfl (.cons rfl (.cons rfl (.cons rfl .nil)))))))))
          · rintro s10 rfl
            clear h11
            dsimp only at H
            refine ends_then ?_
            refine goes_region ?_
            refine go1 (op_add rfl (.t (has rfl)) (.int _ _)) rfl ?_
            refine go1 (op_move rfl (.t (has rfl))) rfl ?_
            refine goesO_nil ?_
            exact loop_next _ H (.cons rfl (.cons rfl (.cons rfl (.cons rfl (.cons rfl (.cons rfl (.cons rfl (.cons rfl (.cons rfl .nil)))))))))
          · rintro r' rfl a w hr
            obtain rfl := Option.some.inj H
            exact ⟨_, rfl, hr⟩
        · skip
          refine goes_exit (ends_then_exit (ends_then_exit (ends_block_exit ?_)))
          obtain rfl := Option.some.inj H
          exact ends_cutR rfl (.cons rfl .nil)
      · rintro s6 rfl
        clear h7
        dsimp only at H
        refine ends_then ?_
        refine goes_seq ?_
        refine goes_seq ?_
        refine goes_region ?_
        refine go1 (op_move rfl (.t (has rfl))) rfl ?_
        refine go1 (op_scmp rfl rfl (.t (has rfl)) (.str _)) rfl ?_
        refine goesO_nil ?_
        refine ends_then ?_
        refine goes_if (.t (has rfl)) H (fun hb27 H => ?_) (fun hb27 H => ?_)
        · skip
          refine goes_seq ?_
          refine goes_region ?_
          refine go1 (op_move rfl (.t (has rfl))) rfl ?_
          refine go1 (op_assign rfl (.int _ _)) rfl ?_
          refine go1 (op_assign rfl (.t (has rfl))) rfl ?_
          refine goesO_nil ?_
          refine ends_then ?_
          obtain rfl := Option.some.inj H
          exact goes_ret (ends_then_ret (ends_ret' rfl rfl (.t rfl (.t rfl (.nil _)))))
        · skip
          refine goes_skip ?_
          refine ends_then ?_
          refine goes_seq ?_
          refine goes_region ?_
          refine go1 (op_assign rfl (.int _ _)) rfl ?_
          refine go1 (op_assign rfl (.str _)) rfl ?_
          refine goesO_nil ?_
          refine ends_then ?_
          obtain rfl := Option.some.inj H
          exact goes_ret (ends_ret' rfl rfl (.t rfl (.t rfl (.nil _))))
      · rintro r' rfl a w hr
        obtain rfl := Option.some.inj H
        exact hr
theorem stale_why.conF (k : Nat) (a0 : Node) (a1 : Disk) (a2 : List ByteArray) (r : Int × ByteArray) (H : stale_why.f k a0 a1 a2 = some r) : ConF Try.prog 27 [VA.k kNode a0, VA.k kDisk a1, VA.k (kslice kstr) a2] [VA.k (kint .i64) r.1, VA.k kstr r.2] := (stale_why.con k a0 a1 a2 r H).freeL (.cons (KFree.k (KFree.int .i64) _) (.cons (KFree.k KFree.str _) .nil))
/-! smithy/stale.Would -/
def stale_Would.l0 (a0 : Plan) (a1 : Disk) : Nat → ((GM Bool) × (List ByteArray) × Int) → Option (List ByteArray)
  | 0, _ => none
  | k + 1, s7 => bif icmp .lss s7.2.2 (a0.Nodes.length : Int) then ((idx a0.Nodes s7.2.2).bind fun x11 => (slices_Clone_string_string.f x11.Needs).bind fun v13 => (slices_DeleteFunc_string_string.f k v13 (fun (z0 : ByteArray) => stale_Would_1.f z0 s7.1)).bind fun v15 => (stale_why.f k x11 a1 v15).bind fun v17 => (bif icmp .neq v17.1 (0 : Int) then (some (icmp .gtr (x11.Recipe.length : Int) (0 : Int))) else (some false)).bind fun s19 => (bif s19 then ((app 16 s7.2.1 ([x11.Target])).bind fun x25 => (gput s7.1 x11.Target true).bind fun x27 => some (x25, x27)) else (some (s7.2.1, s7.1))).bind fun s22 => ((gget s22.2 false x11.Target).bind fun x31 => bif x31 then ((gput s22.2 x11.Target true).bind fun x34 => some x34) else ((gput s22.2 x11.Target x11.Phony).bind fun x36 => some x36)).bind fun s29 => stale_Would.l0 a0 a1 k (s29, s22.1, IntKind.i64.wrap (s7.2.2 + (1 : Int)))) else (some s7.2.1)
def stale_Would.f (k : Nat) (a0 : Plan) (a1 : Disk) : Option ((List ByteArray) × Int) := (resolve_Check.f k a0).bind fun v1 => bif icmp .neq v1 (0 : Int) then (some (([] : List ByteArray), v1)) else ((disk_Check.f k a1).bind fun v4 => bif icmp .neq v4 (0 : Int) then (some (([] : List ByteArray), v4)) else ((stale_Would.l0 a0 a1 k ((gempty : GM Bool), ([] : List ByteArray), (0 : Int))).bind fun s8 => some (s8, (0 : Int))))
set_option maxRecDepth 100000 in
set_option maxHeartbeats 4000000 in
theorem stale_Would.con (k : Nat) (a0 : Plan) (a1 : Disk) (r : (List ByteArray) × Int) (H : stale_Would.f k a0 a1 = some r) : Con Try.prog 20 [VA.k kPlan a0, VA.k kDisk a1] [VA.own 9 kstr r.1, VA.k (kint .i64) r.2] := by
  unfold stale_Would.f at H
  refine con_enter Try.func20 rfl rfl rfl (fun w0 S0 θ => ?_)
  refine goes_seq ?_
  refine goes_region ?_
  refine go3 (op_box 2 rfl (fun h => by first | rfl | cases h) (.t (has rfl))) rfl ?_
  refine go3 (op_box 3 rfl (fun h => by first | rfl | cases h) (.t (has rfl))) rfl ?_
  refine go1 (op_assign_nil 9 kstr (.inr rfl) rfl) rfl ?_
  refine go1 (op_assign rfl (.int _ _)) rfl ?_
  refine goesO_nil ?_
  refine ends_then ?_
  refine goes_seq ?_
  refine goes_seq ?_
  refine goes_region ?_
  refine go1 (op_load rfl (Fld.whole kPlan) tk57 (.t (has rfl)) (has rfl)) rfl ?_
  obtain ⟨v1, h2, H⟩ := bind_some H
  refine go1 (op_call' rfl enters31 (resolve_Check.con _ _ _ h2) rfl (.cons (ArgP.k (.t (has rfl))) .nil)) rfl ?_
  refine go1 (op_assign rfl (.t (has rfl))) rfl ?_
  refine goesO_nil ?_
  refine ends_then ?_
  refine goes_seq ?_
  refine goes_region ?_
  refine go1 (op_move rfl (.t (has rfl))) rfl ?_
  refine go1 (op_icmp rfl rfl (.t (has rfl)) (.int _ _)) rfl ?_
  refine goesO_nil ?_
  refine ends_then ?_
  refine goes_if (.t (has rfl)) H (fun hb3 H => ?_) (fun hb3 H => ?_)
  · skip
    refine goes_seq ?_
    refine goes_region ?_
    refine go1 (op_move rfl (.t (has rfl))) rfl ?_
    refine go1 (op_assign_nil 9 kstr (.inr rfl) rfl) rfl ?_
    refine go1 (op_assign rfl (.t (has rfl))) rfl ?_
    refine goesO_nil ?_
    refine ends_then ?_
    obtain rfl := Option.some.inj H
    exact goes_ret (ends_then_ret (ends_ret' rfl rfl (.t rfl (.t rfl (.nil _)))))
  · skip
    refine goes_skip ?_
    refine ends_then ?_
    refine goes_seq ?_
    refine goes_seq ?_
    refine goes_region ?_
    refine go1 (op_load rfl (Fld.whole kDisk) tk27 (.t (has rfl)) (has rfl)) rfl ?_
    obtain ⟨v4, h5, H⟩ := bind_some H
    refine go1 (op_call' rfl enters32 (disk_Check.con _ _ _ h5) rfl (.cons (ArgP.k (.t (has rfl))) .nil)) rfl ?_
    refine go1 (op_assign rfl (.t (has rfl))) rfl ?_
    refine goesO_nil ?_
    refine ends_then ?_
    refine goes_seq ?_
    refine goes_region ?_
    refine go1 (op_move rfl (.t (has rfl))) rfl ?_
    refine go1 (op_icmp rfl rfl (.t (has rfl)) (.int _ _)) rfl ?_
    refine goesO_nil ?_
    refine ends_then ?_
    refine goes_if (.t (has rfl)) H (fun hb6 H => ?_) (fun hb6 H => ?_)
    · skip
      refine goes_seq ?_
      refine goes_region ?_
      refine go1 (op_move rfl (.t (has rfl))) rfl ?_
      refine go1 (op_assign_nil 9 kstr (.inr rfl) rfl) rfl ?_
      refine go1 (op_assign rfl (.t (has rfl))) rfl ?_
      refine goesO_nil ?_
      refine ends_then ?_
      obtain rfl := Option.some.inj H
      exact goes_ret (ends_then_ret (ends_ret' rfl rfl (.t rfl (.t rfl (.nil _)))))
    · skip
      refine goes_skip ?_
      refine ends_then ?_
      refine goes_seq ?_
      refine goes_region ?_
      refine go3 (op_makeMap 9 kbool 25 rfl) rfl ?_
      refine go3 (op_alloc_raw 8 rfl xaz71 rfl) rfl ?_
      refine go1 (op_store_mp xmz71 (.inl rfl) (.t (has rfl)) (has rfl) (.t (has rfl))) rfl ?_
      refine goesO_nil ?_
      refine ends_then ?_
      refine goes_seq ?_
      refine goes_region ?_
      refine go1 (op_assign_nil 9 kstr (.inr rfl) rfl) rfl ?_
      refine goesO_nil ?_
      refine ends_then ?_
      refine goes_seq ?_
      refine goes_seq ?_
      refine goes_region ?_
      refine go1 (op_fieldAddr rfl Try.underlying57 rfl tk55 (.t (has rfl))) rfl ?_
      refine go1 (op_load rfl fldPlan_Nodes tk55 (.t (has rfl)) (has rfl)) rfl ?_
      refine go1 (op_len rfl rfl Try.underlying55 (.t (has rfl))) rfl ?_
      refine go1 (op_move rfl (.int _ _)) rfl ?_
      refine goesO_nil ?_
      refine ends_then ?_
      obtain ⟨s8, h9, H⟩ := bind_some H
      refine goes_cut [Ent.t 9 (VA.own 9 kstr s8)] ?_ ?_
      · replace H := h9; clear h9
        refine goes_block ?_
        refine goes_loop (fun s7 : (GM Bool) × (List ByteArray) × Int => [Ent.t 3 (VA.ptr 3 0), Ent.t 8 (VA.ptr 8 0), Ent.t 9 (VA.own 9 kstr s7.2.1), Ent.t 27 (VA.k (kslice kNode) a0.Nodes), Ent.t 28 (VA.k (kint .i64) (a0.Nodes.length : Int)), Ent.t 29 (VA.k (kint .i64) s7.2.2), Ent.h 3 (HE.box 27 kDisk a1), Ent.h 8 (HE.boxm 71 25), Ent.h 25 (HE.map Try.prog 9 kbool s7.1)]) (fun k s7 => stale_Would.l0 a0 a1 k s7) (fun _ => rfl) H (.cons rfl (.cons rfl (.cons rfl (.cons rfl (.cons rfl (.cons rfl (.cons rfl (.cons rfl (.cons rfl .nil))))))))) ?_
        intro k s7 H
        simp only [stale_Would.l0] at H
        refine goes_seq ?_
        refine goes_region ?_
        refine go1 (op_icmp rfl rfl (.t (has rfl)) (.t (has rfl))) rfl ?_
        refine goesO_nil ?_
        refine ends_then ?_
        refine goes_seq ?_
        refine goes_if (.t (has rfl)) H (fun hb10 H => ?_) (fun hb10 H => ?_)
        · skip
          refine goes_skip ?_
          refine ends_then ?_
          refine goes_seq ?_
          refine goes_block ?_
          refine goes_seq ?_
          refine goes_region ?_
          obtain ⟨x11, h12, H⟩ := bind_some H
          refine go1 (op_indexAddr rfl Try.underlying55 tk24 h12 (.t (has rfl)) (.t (has rfl))) rfl ?_
          refine go1 (op_loadp rfl tk24 (.t (has rfl))) rfl ?_
          refine go3 (op_alloc 11 rfl zk24) rfl ?_
          refine go1 (op_store (Fld.whole kNode) tk24 (.t (has rfl)) (has rfl) (.t (has rfl))) rfl ?_
          refine goesO_nil ?_
          refine ends_then ?_
          refine goes_seq ?_
          refine goes_region ?_
          refine go1 (op_fieldAddr rfl Try.underlying24 rfl tk22 (.t (has rfl))) rfl ?_
          refine go1 (op_load rfl fldNode_Needs tk22 (.t (has rfl)) (has rfl)) rfl ?_
          obtain ⟨v13, h14, H⟩ := bind_some H
          refine go1 (op_call' rfl enters34 (slices_Clone_string_string.con _ _ h14) rfl (.cons (ArgP.k (.t (has rfl))) .nil)) rfl ?_
          refine go1 (op_makeFunc (ys := []) (xs := [8]) rfl rfl rfl rfl) rfl ?_
          refine goesO_number 35 900 rfl rfl rfl ?_
          obtain ⟨v15, h16, H⟩ := bind_some H
          refine goN (op_callEF [5000900] [] rfl enters33 (slices_DeleteFunc_string_string.conF 35 ([]) ([VA.pt (kmap Try.prog 9 kbool) s7.1]) _ _ (fun (z0 : ByteArray) => stale_Would_1.f z0 s7.1) enters35 (fun z0 r h => stale_Would_1.con z0 s7.1 r h) _ h16) rfl (.cons (has rfl) .nil) (.cons (ArgR.a plain_rw (.t (NR.mk (has rfl) rfl))) (.cons (ArgR.mf rfl rfl (NR.mk (has rfl) rfl) .nil (.cons (ArgR.ptmm (.t (NR.mk (has rfl) rfl)) (NR.mk (has rfl) rfl) (NR.mk (has rfl) rfl)) .nil)) .nil))) rfl ?_
          refine go2 (op_mv (.inr rfl) rfl rfl (has rfl)) rfl ?_
          refine goesO_nil ?_
          refine ends_then ?_
          refine goes_seq ?_
          refine goes_seq ?_
          refine goes_region ?_
          refine go1 (op_load rfl (Fld.whole kNode) tk24 (.t (has rfl)) (has rfl)) rfl ?_
          refine go1 (op_load rfl (Fld.whole kDisk) tk27 (.t (has rfl)) (has rfl)) rfl ?_
          refine goesO_settle 12 rfl rfl ?_
          refine go1 (op_move rfl (.t (has rfl))) rfl ?_
          obtain ⟨v17, h18, H⟩ := bind_some H
          refine goN (op_calls' rfl enters27 (stale_why.con _ _ _ _ _ h18) rfl rfl (.cons (ArgP.k (.t (has rfl))) (.cons (ArgP.k (.t (has rfl))) (.cons (ArgP.k (.t (has rfl))) .nil)))) rfl ?_
          refine go1 (op_same (.inl rfl) rfl rfl) rfl ?_
          refine go1 (op_extract_same rfl plain_k (has rfl) (has rfl)) rfl ?_
          refine go1 (op_extract_same rfl plain_k (has rfl) (has rfl)) rfl ?_
          refine go1 (op_assign rfl (.t (has rfl))) rfl ?_
          refine go1 (op_assign rfl (.t (has rfl))) rfl ?_
          refine goesO_nil ?_
          refine ends_then ?_
          refine goes_seq ?_
          obtain ⟨s19, h20, H⟩ := bind_some H
          refine goes_cut [Ent.t 3 (VA.ptr 3 0), Ent.t 8 (VA.ptr 8 0), Ent.t 9 (VA.own 9 kstr s7.2.1), Ent.t 11 (VA.ptr 11 0), Ent.t 27 (VA.k (kslice kNode) a0.Nodes), Ent.t 28 (VA.k (kint .i64) (a0.Nodes.length : Int)), Ent.t 29 (VA.k (kint .i64) s7.2.2), Ent.t 52 (VA.k kbool s19), Ent.h 3 (HE.box 27 kDisk a1), Ent.h 8 (HE.boxm 71 25), Ent.h 11 (HE.box 24 kNode x11), Ent.h 25 (HE.map Try.prog 9 kbool s7.1)] ?_ ?_
          · replace H := h20; clear h20
            refine goes_region ?_
            refine go1 (op_move rfl (.t (has rfl))) rfl ?_
            refine go1 (op_icmp rfl rfl (.t (has rfl)) (.int _ _)) rfl ?_
            refine go1 (op_move rfl (.t (has rfl))) rfl ?_
            refine goesO_split H (fun hb21 H => ?_) (fun hb21 H => ?_)
            · skip
              refine goG (op_fieldAddr rfl Try.underlying24 rfl tk22 (.t (has rfl))) rfl rfl rfl rfl hb21 ?_
              refine goG (op_load rfl fldNode_Recipe tk22 (.t (has rfl)) (has rfl)) rfl rfl rfl rfl hb21 ?_
              refine goG (op_len rfl rfl Try.underlying22 (.t (has rfl))) rfl rfl rfl rfl hb21 ?_
              refine goG (op_icmp rfl rfl (.t (has rfl)) (.int _ _)) rfl rfl rfl rfl hb21 ?_
              refine go1 (op_pick_t rfl hb21 (.t (has rfl)) (.t (has rfl))) rfl ?_
              refine goesO_nil ?_
              obtain rfl := Option.some.inj H
              exact ends_cut (.cons rfl (.cons rfl (.cons rfl (.cons rfl (.cons rfl (.cons rfl (.cons rfl (.cons rfl (.cons rfl (.cons rfl (.cons rfl (.cons rfl .nil))))))))))))
            · skip
              refine goS rfl rfl rfl rfl rfl rfl hb21 ?_
              refine goS rfl rfl rfl rfl rfl rfl hb21 ?_
              refine goS rfl rfl rfl rfl rfl rfl hb21 ?_
              refine goS rfl rfl rfl rfl rfl rfl hb21 ?_
              refine go1 (op_pick_f rfl hb21 (.t (has rfl)) (.bool _)) rfl ?_
              refine goesO_nil ?_
              obtain rfl := Option.some.inj H
              exact ends_cut (.cons rfl (.cons rfl (.cons rfl (.cons rfl (.cons rfl (.cons rfl (.cons rfl (.cons rfl (.cons rfl (.cons rfl (.cons rfl (.cons rfl .nil))))))))))))
          refine ends_then ?_
          obtain ⟨s22, h23, H⟩ := bind_some H
          refine goes_cut [Ent.t 3 (VA.ptr 3 0), Ent.t 8 (VA.ptr 8 0), Ent.t 9 (VA.own 9 kstr s22.1), Ent.t 11 (VA.ptr 11 0), Ent.t 27 (VA.k (kslice kNode) a0.Nodes), Ent.t 28 (VA.k (kint .i64) (a0.Nodes.length : Int)), Ent.t 29 (VA.k (kint .i64) s7.2.2), Ent.h 3 (HE.box 27 kDisk a1), Ent.h 8 (HE.boxm 71 25), Ent.h 11 (HE.box 24 kNode x11), Ent.h 25 (HE.map Try.prog 9 kbool s22.2)] ?_ ?_
          · replace H := h23; clear h23
            refine goes_if (.t (has rfl)) H (fun hb24 H => ?_) (fun hb24 H => ?_)
            · skip
              refine goes_seq ?_
              refine goes_region ?_
              refine go2 (op_mv (.inl rfl) rfl rfl (has rfl)) rfl ?_
              refine go1 (op_fieldAddr rfl Try.underlying24 rfl tk9 (.t (has rfl))) rfl ?_
              refine go1 (op_load rfl fldNode_Target tk9 (.t (has rfl)) (has rfl)) rfl ?_
              refine go1 (op_buildSlice rfl at22 (fun h => by first | rfl | cases h) rfl rfl rfl (.cons (.t (has rfl)) (.nil _))) rfl ?_
              obtain ⟨x25, h26, H⟩ := bind_some H
              refine go2 (op_append rfl rfl at22 h26 (has rfl) (ReadsArg.own (.t (has rfl)))) rfl ?_
              refine go2 (op_mv (.inr rfl) rfl rfl (has rfl)) rfl ?_
              refine goesO_nil ?_
              refine ends_then ?_
              refine goes_region ?_
              refine go1 (op_load_mp rfl xmz71 (.t (has rfl)) (has rfl)) rfl ?_
              refine go1 (op_fieldAddr rfl Try.underlying24 rfl tk9 (.t (has rfl))) rfl ?_
              refine go1 (op_load rfl fldNode_Target tk9 (.t (has rfl)) (has rfl)) rfl ?_
              obtain ⟨x27, h28, H⟩ := bind_some H
              refine go1 (op_mapUpdate xmt71 h28 (.t (has rfl)) (has rfl) (.t (has rfl)) (.bool _)) rfl ?_
              refine goesO_nil ?_
              obtain rfl := Option.some.inj H
              exact ends_cut (.cons rfl (.cons rfl (.cons rfl (.cons rfl (.cons rfl (.cons rfl (.cons rfl (.cons rfl (.cons rfl (.cons rfl (.cons rfl .nil)))))))))))
            · skip
              refine goes_skip ?_
              obtain rfl := Option.some.inj H
              exact ends_cut (.cons rfl (.cons rfl (.cons rfl (.cons rfl (.cons rfl (.cons rfl (.cons rfl (.cons rfl (.cons rfl (.cons rfl (.cons rfl .nil)))))))))))
          refine ends_then ?_
          obtain ⟨s29, h30, H⟩ := bind_some H
          refine goes_cut [Ent.t 3 (VA.ptr 3 0), Ent.t 8 (VA.ptr 8 0), Ent.t 9 (VA.own 9 kstr s22.1), Ent.t 27 (VA.k (kslice kNode) a0.Nodes), Ent.t 28 (VA.k (kint .i64) (a0.Nodes.length : Int)), Ent.t 29 (VA.k (kint .i64) s7.2.2), Ent.h 3 (HE.box 27 kDisk a1), Ent.h 8 (HE.boxm 71 25), Ent.h 25 (HE.map Try.prog 9 kbool s29)] ?_ ?_
          · replace H := h30; clear h30
            refine goes_region ?_
            refine go1 (op_load_mp rfl xmz71 (.t (has rfl)) (has rfl)) rfl ?_
            refine go1 (op_fieldAddr rfl Try.underlying24 rfl tk9 (.t (has rfl))) rfl ?_
            refine go1 (op_load rfl fldNode_Target tk9 (.t (has rfl)) (has rfl)) rfl ?_
            refine go1 (op_load_mp rfl xmz71 (.t (has rfl)) (has rfl)) rfl ?_
            refine go1 (op_fieldAddr rfl Try.underlying24 rfl tk9 (.t (has rfl))) rfl ?_
            refine go1 (op_load rfl fldNode_Target tk9 (.t (has rfl)) (has rfl)) rfl ?_
            obtain ⟨x31, h32, H⟩ := bind_some H
            refine go1 (op_lookup rfl xmt71 h32 (.t (has rfl)) (has rfl) (.t (has rfl))) rfl ?_
            refine go1 (op_move rfl (.t (has rfl))) rfl ?_
            refine goesO_split H (fun hb33 H => ?_) (fun hb33 H => ?_)
            · skip
              refine goS rfl rfl rfl rfl rfl rfl hb33 ?_
              refine goS rfl rfl rfl rfl rfl rfl hb33 ?_
              refine go1 (op_pick_t rfl hb33 (.t (has rfl)) (.bool _)) rfl ?_
              obtain ⟨x34, h35, H⟩ := bind_some H
              refine go1 (op_mapUpdate xmt71 h35 (.t (has rfl)) (has rfl) (.t (has rfl)) (.t (has rfl))) rfl ?_
              refine goesO_nil ?_
              obtain rfl := Option.some.inj H
              exact ends_cut (.cons rfl (.cons rfl (.cons rfl (.cons rfl (.cons rfl (.cons rfl (.cons rfl (.cons rfl (.cons rfl .nil)))))))))
            · skip
              refine goG (op_fieldAddr rfl Try.underlying24 rfl tk4 (.t (has rfl))) rfl rfl rfl rfl hb33 ?_
              refine goG (op_load rfl fldNode_Phony tk4 (.t (has rfl)) (has rfl)) rfl rfl rfl rfl hb33 ?_
              refine go1 (op_pick_f rfl hb33 (.t (has rfl)) (.t (has rfl))) rfl ?_
              obtain ⟨x36, h37, H⟩ := bind_some H
              refine go1 (op_mapUpdate xmt71 h37 (.t (has rfl)) (has rfl) (.t (has rfl)) (.t (has rfl))) rfl ?_
              refine goesO_nil ?_
              obtain rfl := Option.some.inj H
              exact ends_cut (.cons rfl (.cons rfl (.cons rfl (.cons rfl (.cons rfl (.cons rfl (.cons rfl (.cons rfl (.cons rfl .nil)))))))))
          refine ends_block ?_
          refine ends_then ?_
          refine goes_region ?_
          refine go1 (op_add rfl (.t (has rfl)) (.int _ _)) rfl ?_
          refine go1 (op_move rfl (.t (has rfl))) rfl ?_
          refine goesO_nil ?_
          exact loop_next _ H (.cons rfl (.cons rfl (.cons rfl (.cons rfl (.cons rfl (.cons rfl (.cons rfl (.cons rfl (.cons rfl .nil)))))))))
        · skip
          refine goes_exit (ends_then_exit (ends_then_exit (ends_block_exit ?_)))
          obtain rfl := Option.some.inj H
          exact ends_cut (.cons rfl .nil)
      refine ends_then ?_
      refine goes_seq ?_
      refine goes_region ?_
      refine go2 (op_mv (.inl rfl) rfl rfl (has rfl)) rfl ?_
      refine go2 (op_mv (.inr rfl) rfl rfl (has rfl)) rfl ?_
      refine go1 (op_assign rfl (.int _ _)) rfl ?_
      refine goesO_nil ?_
      refine ends_then ?_
      obtain rfl := Option.some.inj H
      exact goes_ret (ends_ret' rfl rfl (.t rfl (.t rfl (.nil _))))
theorem stale_Would.conF (k : Nat) (a0 : Plan) (a1 : Disk) (r : (List ByteArray) × Int) (H : stale_Would.f k a0 a1 = some r) : ConF Try.prog 20 [VA.k kPlan a0, VA.k kDisk a1] [VA.own 9 kstr r.1, VA.k (kint .i64) r.2] := (stale_Would.con k a0 a1 r H).freeL (.cons (KFree.own KFree.str _ _) (.cons (KFree.k (KFree.int .i64) _) .nil))
/-! smithy/smithyref02.Name -/
def smithyref02_Name.l0 (a0 : ByteArray) : Nat → Int → Option (Except Bool Unit)
  | 0, _ => none
  | k + 1, s1 => bif icmp .lss s1 (a0.size : Int) then ((bidx a0 s1).bind fun x6 => (bif icmp .geq x6 (97 : Int) then (bif icmp .leq x6 (122 : Int) then (some true) else (bif icmp .geq x6 (65 : Int) then (bif icmp .leq x6 (90 : Int) then (some true) else (bif icmp .geq x6 (48 : Int) then (some (icmp .leq x6 (57 : Int))) else (some false))) else (bif icmp .geq x6 (48 : Int) then (some (icmp .leq x6 (57 : Int))) else (some false)))) else (bif icmp .geq x6 (65 : Int) then (bif icmp .leq x6 (90 : Int) then (some true) else (bif icmp .geq x6 (48 : Int) then (some (icmp .leq x6 (57 : Int))) else (some false))) else (bif icmp .geq x6 (48 : Int) then (some (icmp .leq x6 (57 : Int))) else (some false)))).bind fun s8 => (bif !s8 then (bif icmp .neq x6 (95 : Int) then (bif icmp .neq x6 (45 : Int) then (bif icmp .neq x6 (46 : Int) then (bif icmp .neq x6 (47 : Int) then (some (icmp .neq x6 (43 : Int))) else (some false)) else (some false)) else (some false)) else (some false)) else (some false)).bind fun s20 => bif s20 then (some (Except.error false)) else (smithyref02_Name.l0 a0 k (IntKind.i64.wrap (s1 + (1 : Int))))) else (some (Except.ok ()))
def smithyref02_Name.f (k : Nat) (a0 : ByteArray) : Option Bool := (smithyref02_Name.l0 a0 k (0 : Int)).bind fun o4 => match o4 with | .error r' => some r' | .ok s2 => ((bif icmp .gtr (a0.size : Int) (0 : Int) then (some (icmp .leq (a0.size : Int) (64 : Int))) else (some false)).bind fun s28 => some s28)
set_option maxRecDepth 100000 in
set_option maxHeartbeats 4000000 in
theorem smithyref02_Name.con (k : Nat) (a0 : ByteArray) (r : Bool) (H : smithyref02_Name.f k a0 = some r) : Con Try.prog 28 [VA.k kstr a0] [VA.k kbool r] := by
  unfold smithyref02_Name.f at H
  refine con_enter Try.func28 rfl rfl rfl (fun w0 S0 θ => ?_)
  refine goes_seq ?_
  refine goes_region ?_
  refine go1 (op_assign rfl (.bool _)) rfl ?_
  refine goesO_nil ?_
  refine ends_then ?_
  refine goes_seq ?_
  refine goes_seq ?_
  refine goes_region ?_
  refine go1 (op_assign rfl (.int _ _)) rfl ?_
  refine goesO_nil ?_
  refine ends_then ?_
  obtain ⟨o4, h3, H⟩ := bind_some H
  refine goes_cutR (o := o4) (fun s2 : Unit => [Ent.t 0 (VA.k kstr a0)]) (fun r a w => bodyPost Try.prog Try.f28 (CPost w0 S0 θ [VA.k kbool r]) .ret a w) ?_ ?_ ?_
  · replace H := h3; clear h3
    refine goes_block ?_
    refine goes_loop (fun s1 : Int => [Ent.t 0 (VA.k kstr a0), Ent.t 3 (VA.k (kint .i64) s1)]) (fun k s1 => smithyref02_Name.l0 a0 k s1) (fun _ => rfl) H (.cons rfl (.cons rfl .nil)) ?_
    intro k s1 H
    simp only [smithyref02_Name.l0] at H
    refine goes_seq ?_
    refine goes_seq ?_
    refine goes_region ?_
    refine go1 (op_move rfl (.t (has rfl))) rfl ?_
    refine go1 (op_move rfl (.t (has rfl))) rfl ?_
    refine go1 (op_len_str rfl rfl Try.underlying9 (.t (has rfl))) rfl ?_
    refine go1 (op_icmp rfl rfl (.t (has rfl)) (.t (has rfl))) rfl ?_
    refine goesO_nil ?_
    refine ends_then ?_
    refine goes_if (.t (has rfl)) H (fun hb5 H => ?_) (fun hb5 H => ?_)
    · skip
      refine goes_skip ?_
      refine ends_then ?_
      refine goes_seq ?_
      refine goes_block ?_
      refine goes_seq ?_
      refine goes_region ?_
      refine go1 (op_move rfl (.t (has rfl))) rfl ?_
      refine go1 (op_move rfl (.t (has rfl))) rfl ?_
      obtain ⟨x6, h7, H⟩ := bind_some H
      refine go1 (op_index_str rfl Try.underlying9 h7 (.t (has rfl)) (.t (has rfl))) rfl ?_
      refine go1 (op_assign rfl (.t (has rfl))) rfl ?_
      refine goesO_nil ?_
      refine ends_then ?_
      refine goes_seq ?_
      obtain ⟨s8, h9, H⟩ := bind_some H
      refine goes_cut [Ent.t 0 (VA.k kstr a0), Ent.t 3 (VA.k (kint .i64) s1), Ent.t 4 (VA.k (kint .u8) x6), Ent.t 5 (VA.k kbool s8)] ?_ ?_
      · replace H := h9; clear h9
        refine goes_region ?_
        refine go1 (op_move rfl (.t (has rfl))) rfl ?_
        refine go1 (op_icmp rfl rfl (.t (has rfl)) (.int _ _)) rfl ?_
        refine go1 (op_move rfl (.t (has rfl))) rfl ?_
        refine goesO_split H (fun hb10 H => ?_) (fun hb10 H => ?_)
        · skip
          refine goG (op_move rfl (.t (has rfl))) rfl rfl rfl rfl hb10 ?_
          refine goG (op_icmp rfl rfl (.t (has rfl)) (.int _ _)) rfl rfl rfl rfl hb10 ?_
          refine go1 (op_pick_t rfl hb10 (.t (has rfl)) (.t (has rfl))) rfl ?_
          refine go1 (op_move rfl (.t (has rfl))) rfl ?_
          refine goesO_split H (fun hb11 H => ?_) (fun hb11 H => ?_)
          · skip
            refine goS rfl rfl rfl rfl rfl rfl hb11 ?_
            refine goS rfl rfl rfl rfl rfl rfl hb11 ?_
            refine goS rfl rfl rfl rfl rfl rfl hb11 ?_
            refine goSU rfl rfl rfl rfl rfl rfl ?_
            refine goSU rfl rfl rfl rfl rfl rfl ?_
            refine goS rfl rfl rfl rfl rfl rfl hb11 ?_
            refine go1 (op_pick_t rfl hb11 (.t (has rfl)) (.bool _)) rfl ?_
            refine go1 (op_move rfl (.t (has rfl))) rfl ?_
            refine goS rfl rfl rfl rfl rfl rfl rfl ?_
            refine goS rfl rfl rfl rfl rfl rfl rfl ?_
            refine goS rfl rfl rfl rfl rfl rfl rfl ?_
            refine goSU rfl rfl rfl rfl rfl rfl ?_
            refine goSU rfl rfl rfl rfl rfl rfl ?_
            refine goS rfl rfl rfl rfl rfl rfl rfl ?_
            refine go1 (op_pick_t rfl rfl (.t (has rfl)) (.bool _)) rfl ?_
            refine go1 (op_assign rfl (.t (has rfl))) rfl ?_
            refine goesO_nil ?_
            obtain rfl := Option.some.inj H
            exact ends_cut (.cons rfl (.cons rfl (.cons rfl (.cons rfl .nil))))
          · skip
            refine goG (op_move rfl (.t (has rfl))) rfl rfl rfl rfl hb11 ?_
            refine goG (op_icmp rfl rfl (.t (has rfl)) (.int _ _)) rfl rfl rfl rfl hb11 ?_
            refine goG (op_move rfl (.t (has rfl))) rfl rfl rfl rfl hb11 ?_
            refine goesO_split H (fun hb12 H => ?_) (fun hb12 H => ?_)
            · skip
              refine goG (op_move rfl (.t (has rfl))) rfl rfl rfl rfl hb12 ?_
              refine goG (op_icmp rfl rfl (.t (has rfl)) (.int _ _)) rfl rfl rfl rfl hb12 ?_
              refine goG (op_pick_t rfl hb12 (.t (has rfl)) (.t (has rfl))) rfl rfl rfl rfl hb11 ?_
              refine go1 (op_pick_f rfl hb11 (.t (has rfl)) (.t (has rfl))) rfl ?_
              refine go1 (op_move rfl (.t (has rfl))) rfl ?_
              refine goesO_split H (fun hb13 H => ?_) (fun hb13 H => ?_)
              · skip
                refine goS rfl rfl rfl rfl rfl rfl hb13 ?_
                refine goS rfl rfl rfl rfl rfl rfl hb13 ?_
                refine goS rfl rfl rfl rfl rfl rfl hb13 ?_
                refine goSU rfl rfl rfl rfl rfl rfl ?_
                refine goSU rfl rfl rfl rfl rfl rfl ?_
                refine goS rfl rfl rfl rfl rfl rfl hb13 ?_
                refine go1 (op_pick_t rfl hb13 (.t (has rfl)) (.bool _)) rfl ?_
                refine go1 (op_assign rfl (.t (has rfl))) rfl ?_
                refine goesO_nil ?_
                obtain rfl := Option.some.inj H
                exact ends_cut (.cons rfl (.cons rfl (.cons rfl (.cons rfl .nil))))
              · skip
                refine goG (op_move rfl (.t (has rfl))) rfl rfl rfl rfl hb13 ?_
                refine goG (op_icmp rfl rfl (.t (has rfl)) (.int _ _)) rfl rfl rfl rfl hb13 ?_
                refine goG (op_move rfl (.t (has rfl))) rfl rfl rfl rfl hb13 ?_
                refine goesO_split H (fun hb14 H => ?_) (fun hb14 H => ?_)
                · skip
                  refine goG (op_move rfl (.t (has rfl))) rfl rfl rfl rfl hb14 ?_
                  refine goG (op_icmp rfl rfl (.t (has rfl)) (.int _ _)) rfl rfl rfl rfl hb14 ?_
                  refine goG (op_pick_t rfl hb14 (.t (has rfl)) (.t (has rfl))) rfl rfl rfl rfl hb13 ?_
                  refine go1 (op_pick_f rfl hb13 (.t (has rfl)) (.t (has rfl))) rfl ?_
                  refine go1 (op_assign rfl (.t (has rfl))) rfl ?_
                  refine goesO_nil ?_
                  obtain rfl := Option.some.inj H
                  exact ends_cut (.cons rfl (.cons rfl (.cons rfl (.cons rfl .nil))))
                · skip
                  refine goS rfl rfl rfl rfl rfl rfl hb14 ?_
                  refine goS rfl rfl rfl rfl rfl rfl hb14 ?_
                  refine goG (op_pick_f rfl hb14 (.t (has rfl)) (.bool _)) rfl rfl rfl rfl hb13 ?_
                  refine go1 (op_pick_f rfl hb13 (.t (has rfl)) (.t (has rfl))) rfl ?_
                  refine go1 (op_assign rfl (.t (has rfl))) rfl ?_
                  refine goesO_nil ?_
                  obtain rfl := Option.some.inj H
                  exact ends_cut (.cons rfl (.cons rfl (.cons rfl (.cons rfl .nil))))
            · skip
              refine goS rfl rfl rfl rfl rfl rfl hb12 ?_
              refine goS rfl rfl rfl rfl rfl rfl hb12 ?_
              refine goG (op_pick_f rfl hb12 (.t (has rfl)) (.bool _)) rfl rfl rfl rfl hb11 ?_
              refine go1 (op_pick_f rfl hb11 (.t (has rfl)) (.t (has rfl))) rfl ?_
              refine go1 (op_move rfl (.t (has rfl))) rfl ?_
              refine goG (op_move rfl (.t (has rfl))) rfl rfl rfl rfl rfl ?_
              refine goG (op_icmp rfl rfl (.t (has rfl)) (.int _ _)) rfl rfl rfl rfl rfl ?_
              refine goG (op_move rfl (.t (has rfl))) rfl rfl rfl rfl rfl ?_
              refine goesO_split H (fun hb15 H => ?_) (fun hb15 H => ?_)
              · skip
                refine goG (op_move rfl (.t (has rfl))) rfl rfl rfl rfl hb15 ?_
                refine goG (op_icmp rfl rfl (.t (has rfl)) (.int _ _)) rfl rfl rfl rfl hb15 ?_
                refine goG (op_pick_t rfl hb15 (.t (has rfl)) (.t (has rfl))) rfl rfl rfl rfl rfl ?_
                refine go1 (op_pick_f rfl rfl (.t (has rfl)) (.t (has rfl))) rfl ?_
                refine go1 (op_assign rfl (.t (has rfl))) rfl ?_
                refine goesO_nil ?_
                obtain rfl := Option.some.inj H
                exact ends_cut (.cons rfl (.cons rfl (.cons rfl (.cons rfl .nil))))
              · skip
                refine goS rfl rfl rfl rfl rfl rfl hb15 ?_
                refine goS rfl rfl rfl rfl rfl rfl hb15 ?_
                refine goG (op_pick_f rfl hb15 (.t (has rfl)) (.bool _)) rfl rfl rfl rfl rfl ?_
                refine go1 (op_pick_f rfl rfl (.t (has rfl)) (.t (has rfl))) rfl ?_
                refine go1 (op_assign rfl (.t (has rfl))) rfl ?_
                refine goesO_nil ?_
                obtain rfl := Option.some.inj H
                exact ends_cut (.cons rfl (.cons rfl (.cons rfl (.cons rfl .nil))))
        · skip
          refine goS rfl rfl rfl rfl rfl rfl hb10 ?_
          refine goS rfl rfl rfl rfl rfl rfl hb10 ?_
          refine go1 (op_pick_f rfl hb10 (.t (has rfl)) (.bool _)) rfl ?_
          refine go1 (op_move rfl (.t (has rfl))) rfl ?_
          refine goG (op_move rfl (.t (has rfl))) rfl rfl rfl rfl rfl ?_
          refine goG (op_icmp rfl rfl (.t (has rfl)) (.int _ _)) rfl rfl rfl rfl rfl ?_
          refine goG (op_move rfl (.t (has rfl))) rfl rfl rfl rfl rfl ?_
          refine goesO_split H (fun hb16 H => ?_) (fun hb16 H => ?_)
          · skip
            refine goG (op_move rfl (.t (has rfl))) rfl rfl rfl rfl hb16 ?_
            refine goG (op_icmp rfl rfl (.t (has rfl)) (.int _ _)) rfl rfl rfl rfl hb16 ?_
            refine goG (op_pick_t rfl hb16 (.t (has rfl)) (.t (has rfl))) rfl rfl rfl rfl rfl ?_
            refine go1 (op_pick_f rfl rfl (.t (has rfl)) (.t (has rfl))) rfl ?_
            refine go1 (op_move rfl (.t (has rfl))) rfl ?_
            refine goesO_split H (fun hb17 H => ?_) (fun hb17 H => ?_)
            · skip
              refine goS rfl rfl rfl rfl rfl rfl hb17 ?_
              refine goS rfl rfl rfl rfl rfl rfl hb17 ?_
              refine goS rfl rfl rfl rfl rfl rfl hb17 ?_
              refine goSU rfl rfl rfl rfl rfl rfl ?_
              refine goSU rfl rfl rfl rfl rfl rfl ?_
              refine goS rfl rfl rfl rfl rfl rfl hb17 ?_
              refine go1 (op_pick_t rfl hb17 (.t (has rfl)) (.bool _)) rfl ?_
              refine go1 (op_assign rfl (.t (has rfl))) rfl ?_
              refine goesO_nil ?_
              obtain rfl := Option.some.inj H
              exact ends_cut (.cons rfl (.cons rfl (.cons rfl (.cons rfl .nil))))
            · skip
              refine goG (op_move rfl (.t (has rfl))) rfl rfl rfl rfl hb17 ?_
              refine goG (op_icmp rfl rfl (.t (has rfl)) (.int _ _)) rfl rfl rfl rfl hb17 ?_
              refine goG (op_move rfl (.t (has rfl))) rfl rfl rfl rfl hb17 ?_
              refine goesO_split H (fun hb18 H => ?_) (fun hb18 H => ?_)
              · skip
                refine goG (op_move rfl (.t (has rfl))) rfl rfl rfl rfl hb18 ?_
                refine goG (op_icmp rfl rfl (.t (has rfl)) (.int _ _)) rfl rfl rfl rfl hb18 ?_
                refine goG (op_pick_t rfl hb18 (.t (has rfl)) (.t (has rfl))) rfl rfl rfl rfl hb17 ?_
                refine go1 (op_pick_f rfl hb17 (.t (has rfl)) (.t (has rfl))) rfl ?_
                refine go1 (op_assign rfl (.t (has rfl))) rfl ?_
                refine goesO_nil ?_
                obtain rfl := Option.some.inj H
                exact ends_cut (.cons rfl (.cons rfl (.cons rfl (.cons rfl .nil))))
              · skip
                refine goS rfl rfl rfl rfl rfl rfl hb18 ?_
                refine goS rfl rfl rfl rfl rfl rfl hb18 ?_
                refine goG (op_pick_f rfl hb18 (.t (has rfl)) (.bool _)) rfl rfl rfl rfl hb17 ?_
                refine go1 (op_pick_f rfl hb17 (.t (has rfl)) (.t (has rfl))) rfl ?_
                refine go1 (op_assign rfl (.t (has rfl))) rfl ?_
                refine goesO_nil ?_
                obtain rfl := Option.some.inj H
                exact ends_cut (.cons rfl (.cons rfl (.cons rfl (.cons rfl .nil))))
          · skip
            refine goS rfl rfl rfl rfl rfl rfl hb16 ?_
            refine goS rfl rfl rfl rfl rfl rfl hb16 ?_
            refine goG (op_pick_f rfl hb16 (.t (has rfl)) (.bool _)) rfl rfl rfl rfl rfl ?_
            refine go1 (op_pick_f rfl rfl (.t (has rfl)) (.t (has rfl))) rfl ?_
            refine go1 (op_move rfl (.t (has rfl))) rfl ?_
            refine goG (op_move rfl (.t (has rfl))) rfl rfl rfl rfl rfl ?_
            refine goG (op_icmp rfl rfl (.t (has rfl)) (.int _ _)) rfl rfl rfl rfl rfl ?_
            refine goG (op_move rfl (.t (has rfl))) rfl rfl rfl rfl rfl ?_
            refine goesO_split H (fun hb19 H => ?_) (fun hb19 H => ?_)
            · skip
              refine goG (op_move rfl (.t (has rfl))) rfl rfl rfl rfl hb19 ?_
              refine goG (op_icmp rfl rfl (.t (has rfl)) (.int _ _)) rfl rfl rfl rfl hb19 ?_
              refine goG (op_pick_t rfl hb19 (.t (has rfl)) (.t (has rfl))) rfl rfl rfl rfl rfl ?_
              refine go1 (op_pick_f rfl rfl (.t (has rfl)) (.t (has rfl))) rfl ?_
              refine go1 (op_assign rfl (.t (has rfl))) rfl ?_
              refine goesO_nil ?_
              obtain rfl := Option.some.inj H
              exact ends_cut (.cons rfl (.cons rfl (.cons rfl (.cons rfl .nil))))
            · skip
              refine goS rfl rfl rfl rfl rfl rfl hb19 ?_
              refine goS rfl rfl rfl rfl rfl rfl hb19 ?_
              refine goG (op_pick_f rfl hb19 (.t (has rfl)) (.bool _)) rfl rfl rfl rfl rfl ?_
              refine go1 (op_pick_f rfl rfl (.t (has rfl)) (.t (has rfl))) rfl ?_
              refine go1 (op_assign rfl (.t (has rfl))) rfl ?_
              refine goesO_nil ?_
              obtain rfl := Option.some.inj H
              exact ends_cut (.cons rfl (.cons rfl (.cons rfl (.cons rfl .nil))))
      refine ends_then ?_
      refine goes_seq ?_
      obtain ⟨s20, h21, H⟩ := bind_some H
      refine goes_cut [Ent.t 0 (VA.k kstr a0), Ent.t 3 (VA.k (kint .i64) s1), Ent.t 58 (VA.k kbool s20)] ?_ ?_
      · replace H := h21; clear h21
        refine goes_region ?_
        refine go1 (op_move rfl (.t (has rfl))) rfl ?_
        refine go1 (op_not rfl (.t (has rfl))) rfl ?_
        refine go1 (op_move rfl (.t (has rfl))) rfl ?_
        refine goesO_split H (fun hb22 H => ?_) (fun hb22 H => ?_)
        · skip
          refine goG (op_move rfl (.t (has rfl))) rfl rfl rfl rfl hb22 ?_
          refine goG (op_icmp rfl rfl (.t (has rfl)) (.int _ _)) rfl rfl rfl rfl hb22 ?_
          refine go1 (op_pick_t rfl hb22 (.t (has rfl)) (.t (has rfl))) rfl ?_
          refine go1 (op_move rfl (.t (has rfl))) rfl ?_
          refine goesO_split H (fun hb23 H => ?_) (fun hb23 H => ?_)
          · skip
            refine goG (op_move rfl (.t (has rfl))) rfl rfl rfl rfl hb23 ?_
            refine goG (op_icmp rfl rfl (.t (has rfl)) (.int _ _)) rfl rfl rfl rfl hb23 ?_
            refine go1 (op_pick_t rfl hb23 (.t (has rfl)) (.t (has rfl))) rfl ?_
            refine go1 (op_move rfl (.t (has rfl))) rfl ?_
            refine goesO_split H (fun hb24 H => ?_) (fun hb24 H => ?_)
            · skip
              refine goG (op_move rfl (.t (has rfl))) rfl rfl rfl rfl hb24 ?_
              refine goG (op_icmp rfl rfl (.t (has rfl)) (.int _ _)) rfl rfl rfl rfl hb24 ?_
              refine go1 (op_pick_t rfl hb24 (.t (has rfl)) (.t (has rfl))) rfl ?_
              refine go1 (op_move rfl (.t (has rfl))) rfl ?_
              refine goesO_split H (fun hb25 H => ?_) (fun hb25 H => ?_)
              · skip
                refine goG (op_move rfl (.t (has rfl))) rfl rfl rfl rfl hb25 ?_
                refine goG (op_icmp rfl rfl (.t (has rfl)) (.int _ _)) rfl rfl rfl rfl hb25 ?_
                refine go1 (op_pick_t rfl hb25 (.t (has rfl)) (.t (has rfl))) rfl ?_
                refine go1 (op_move rfl (.t (has rfl))) rfl ?_
                refine goesO_split H (fun hb26 H => ?_) (fun hb26 H => ?_)
                · skip
                  refine goG (op_move rfl (.t (has rfl))) rfl rfl rfl rfl hb26 ?_
                  refine goG (op_icmp rfl rfl (.t (has rfl)) (.int _ _)) rfl rfl rfl rfl hb26 ?_
                  refine go1 (op_pick_t rfl hb26 (.t (has rfl)) (.t (has rfl))) rfl ?_
                  refine goesO_nil ?_
                  obtain rfl := Option.some.inj H
                  exact ends_cut (.cons rfl (.cons rfl (.cons rfl .nil)))
                · skip
                  refine goS rfl rfl rfl rfl rfl rfl hb26 ?_
                  refine goS rfl rfl rfl rfl rfl rfl hb26 ?_
                  refine go1 (op_pick_f rfl hb26 (.t (has rfl)) (.bool _)) rfl ?_
                  refine goesO_nil ?_
                  obtain rfl := Option.some.inj H
                  exact ends_cut (.cons rfl (.cons rfl (.cons rfl .nil)))
              · skip
                refine goS rfl rfl rfl rfl rfl rfl hb25 ?_
                refine goS rfl rfl rfl rfl rfl rfl hb25 ?_
                refine go1 (op_pick_f rfl hb25 (.t (has rfl)) (.bool _)) rfl ?_
                refine go1 (op_move rfl (.t (has rfl))) rfl ?_
                refine goS rfl rfl rfl rfl rfl rfl rfl ?_
                refine goS rfl rfl rfl rfl rfl rfl rfl ?_
                refine go1 (op_pick_f rfl rfl (.t (has rfl)) (.bool _)) rfl ?_
                refine goesO_nil ?_
                obtain rfl := Option.some.inj H
                exact ends_cut (.cons rfl (.cons rfl (.cons rfl .nil)))
            · skip
              refine goS rfl rfl rfl rfl rfl rfl hb24 ?_
              refine goS rfl rfl rfl rfl rfl rfl hb24 ?_
              refine go1 (op_pick_f rfl hb24 (.t (has rfl)) (.bool _)) rfl ?_
              refine go1 (op_move rfl (.t (has rfl))) rfl ?_
              refine goS rfl rfl rfl rfl rfl rfl rfl ?_
              refine goS rfl rfl rfl rfl rfl rfl rfl ?_
              refine go1 (op_pick_f rfl rfl (.t (has rfl)) (.bool _)) rfl ?_
              refine go1 (op_move rfl (.t (has rfl))) rfl ?_
              refine goS rfl rfl rfl rfl rfl rfl rfl ?_
              refine goS rfl rfl rfl rfl rfl rfl rfl ?_
              refine go1 (op_pick_f rfl rfl (.t (has rfl)) (.bool _)) rfl ?_
              refine goesO_nil ?_
              obtain rfl := Option.some.inj H
              exact ends_cut (.cons rfl (.cons rfl (.cons rfl .nil)))
          · skip
            refine goS rfl rfl rfl rfl rfl rfl hb23 ?_
            refine goS rfl rfl rfl rfl rfl rfl hb23 ?_
            refine go1 (op_pick_f rfl hb23 (.t (has rfl)) (.bool _)) rfl ?_
            refine go1 (op_move rfl (.t (has rfl))) rfl ?_
            refine goS rfl rfl rfl rfl rfl rfl rfl ?_
            refine goS rfl rfl rfl rfl rfl rfl rfl ?_
            refine go1 (op_pick_f rfl rfl (.t (has rfl)) (.bool _)) rfl ?_
            refine go1 (op_move rfl (.t (has rfl))) rfl ?_
            refine goS rfl rfl rfl rfl rfl rfl rfl ?_
            refine goS rfl rfl rfl rfl rfl rfl rfl ?_
            refine go1 (op_pick_f rfl rfl (.t (has rfl)) (.bool _)) rfl ?_
            refine go1 (op_move rfl (.t (has rfl))) rfl ?_
            refine goS rfl rfl rfl rfl rfl rfl rfl ?_
            refine goS rfl rfl rfl rfl rfl rfl rfl ?_
            refine go1 (op_pick_f rfl rfl (.t (has rfl)) (.bool _)) rfl ?_
            refine goesO_nil ?_
            obtain rfl := Option.some.inj H
            exact ends_cut (.cons rfl (.cons rfl (.cons rfl .nil)))
        · skip
          refine goS rfl rfl rfl rfl rfl rfl hb22 ?_
          refine goS rfl rfl rfl rfl rfl rfl hb22 ?_
          refine go1 (op_pick_f rfl hb22 (.t (has rfl)) (.bool _)) rfl ?_
          refine go1 (op_move rfl (.t (has rfl))) rfl ?_
          refine goS rfl rfl rfl rfl rfl rfl rfl ?_
          refine goS rfl rfl rfl rfl rfl rfl rfl ?_
          refine go1 (op_pick_f rfl rfl (.t (has rfl)) (.bool _)) rfl ?_
          refine go1 (op_move rfl (.t (has rfl))) rfl ?_
          refine goS rfl rfl rfl rfl rfl rfl rfl ?_
          refine goS rfl rfl rfl rfl rfl rfl rfl ?_
          refine go1 (op_pick_f rfl rfl (.t (has rfl)) (.bool _)) rfl ?_
          refine go1 (op_move rfl (.t (has rfl))) rfl ?_
          refine goS rfl rfl rfl rfl rfl rfl rfl ?_
          refine goS rfl rfl rfl rfl rfl rfl rfl ?_
          refine go1 (op_pick_f rfl rfl (.t (has rfl)) (.bool _)) rfl ?_
          refine go1 (op_move rfl (.t (has rfl))) rfl ?_
          refine goS rfl rfl rfl rfl rfl rfl rfl ?_
          refine goS rfl rfl rfl rfl rfl rfl rfl ?_
          refine go1 (op_pick_f rfl rfl (.t (has rfl)) (.bool _)) rfl ?_
          refine goesO_nil ?_
          obtain rfl := Option.some.inj H
          exact ends_cut (.cons rfl (.cons rfl (.cons rfl .nil)))
      refine ends_then ?_
      refine goes_if (.t (has rfl)) H (fun hb27 H => ?_) (fun hb27 H => ?_)
      · skip
        refine goes_seq ?_
        refine goes_region ?_
        refine go1 (op_assign rfl (.bool _)) rfl ?_
        refine goesO_nil ?_
        refine ends_then ?_
        obtain rfl := Option.some.inj H
        refine goes_ret (ends_block_ret (ends_then_ret (ends_then_ret (ends_block_ret (ends_cutR_ret rfl ?_)))))
        exact ends_ret' rfl rfl (.t rfl (.nil _))
      · skip
        refine goes_skip ?_
        refine ends_block ?_
        refine ends_then ?_
        refine goes_region ?_
        refine go1 (op_move rfl (.t (has rfl))) rfl ?_
        refine go1 (op_add rfl (.t (has rfl)) (.int _ _)) rfl ?_
        refine go1 (op_assign rfl (.t (has rfl))) rfl ?_
        refine goesO_nil ?_
        exact loop_next _ H (.cons rfl (.cons rfl .nil))
    · skip
      refine goes_exit (ends_then_exit (ends_then_exit (ends_block_exit ?_)))
      obtain rfl := Option.some.inj H
      exact ends_cutR rfl (.cons rfl .nil)
  · rintro s2 rfl
    clear h3
    dsimp only at H
    refine ends_then ?_
    refine goes_seq ?_
    obtain ⟨s28, h29, H⟩ := bind_some H
    refine goes_cut [Ent.t 2 (VA.k kbool s28)] ?_ ?_
    · replace H := h29; clear h29
      refine goes_region ?_
      refine go1 (op_move rfl (.t (has rfl))) rfl ?_
      refine go1 (op_len_str rfl rfl Try.underlying9 (.t (has rfl))) rfl ?_
      refine go1 (op_icmp rfl rfl (.t (has rfl)) (.int _ _)) rfl ?_
      refine go1 (op_move rfl (.t (has rfl))) rfl ?_
      refine goesO_split H (fun hb30 H => ?_) (fun hb30 H => ?_)
      · skip
        refine goG (op_move rfl (.t (has rfl))) rfl rfl rfl rfl hb30 ?_
        refine goG (op_len_str rfl rfl Try.underlying9 (.t (has rfl))) rfl rfl rfl rfl hb30 ?_
        refine goG (op_icmp rfl rfl (.t (has rfl)) (.int _ _)) rfl rfl rfl rfl hb30 ?_
        refine go1 (op_pick_t rfl hb30 (.t (has rfl)) (.t (has rfl))) rfl ?_
        refine go1 (op_assign rfl (.t (has rfl))) rfl ?_
        refine goesO_nil ?_
        obtain rfl := Option.some.inj H
        exact ends_cut (.cons rfl .nil)
      · skip
        refine goS rfl rfl rfl rfl rfl rfl hb30 ?_
        refine goS rfl rfl rfl rfl rfl rfl hb30 ?_
        refine goS rfl rfl rfl rfl rfl rfl hb30 ?_
        refine go1 (op_pick_f rfl hb30 (.t (has rfl)) (.bool _)) rfl ?_
        refine go1 (op_assign rfl (.t (has rfl))) rfl ?_
        refine goesO_nil ?_
        obtain rfl := Option.some.inj H
        exact ends_cut (.cons rfl .nil)
    refine ends_then ?_
    obtain rfl := Option.some.inj H
    exact goes_ret (ends_ret' rfl rfl (.t rfl (.nil _)))
  · rintro r' rfl a w hr
    obtain rfl := Option.some.inj H
    exact hr
theorem smithyref02_Name.conF (k : Nat) (a0 : ByteArray) (r : Bool) (H : smithyref02_Name.f k a0 = some r) : ConF Try.prog 28 [VA.k kstr a0] [VA.k kbool r] := (smithyref02_Name.con k a0 r H).freeL (.cons (KFree.k KFree.bool _) .nil)
/-! smithy/smithyref03.Has -/
def smithyref03_Has.l0 (a0 : List ByteArray) (a1 : ByteArray) : Nat → Int → Option (Except Bool Unit)
  | 0, _ => none
  | k + 1, s1 => bif icmp .lss s1 (a0.length : Int) then ((idx a0 s1).bind fun x6 => bif scmp .eql x6 a1 then (some (Except.error true)) else (smithyref03_Has.l0 a0 a1 k (IntKind.i64.wrap (s1 + (1 : Int))))) else (some (Except.ok ()))
def smithyref03_Has.f (k : Nat) (a0 : List ByteArray) (a1 : ByteArray) : Option Bool := (smithyref03_Has.l0 a0 a1 k (0 : Int)).bind fun o4 => match o4 with | .error r' => some r' | .ok s2 => (some false)
set_option maxRecDepth 100000 in
set_option maxHeartbeats 4000000 in
theorem smithyref03_Has.con (k : Nat) (a0 : List ByteArray) (a1 : ByteArray) (r : Bool) (H : smithyref03_Has.f k a0 a1 = some r) : Con Try.prog 17 [VA.k (kslice kstr) a0, VA.k kstr a1] [VA.k kbool r] := by
  unfold smithyref03_Has.f at H
  refine con_enter Try.func17 rfl rfl rfl (fun w0 S0 θ => ?_)
  refine goes_seq ?_
  refine goes_region ?_
  refine go1 (op_assign rfl (.bool _)) rfl ?_
  refine goesO_nil ?_
  refine ends_then ?_
  refine goes_seq ?_
  refine goes_seq ?_
  refine goes_region ?_
  refine go1 (op_move rfl (.t (has rfl))) rfl ?_
  refine go1 (op_len rfl rfl Try.underlying22 (.t (has rfl))) rfl ?_
  refine go1 (op_move rfl (.int _ _)) rfl ?_
  refine goesO_nil ?_
  refine ends_then ?_
  obtain ⟨o4, h3, H⟩ := bind_some H
  refine goes_cutR (o := o4) (fun s2 : Unit => []) (fun r a w => bodyPost Try.prog Try.f17 (CPost w0 S0 θ [VA.k kbool r]) .ret a w) ?_ ?_ ?_
  · replace H := h3; clear h3
    refine goes_block ?_
    refine goes_loop (fun s1 : Int => [Ent.t 1 (VA.k kstr a1), Ent.t 7 (VA.k (kslice kstr) a0), Ent.t 8 (VA.k (kint .i64) (a0.length : Int)), Ent.t 9 (VA.k (kint .i64) s1)]) (fun k s1 => smithyref03_Has.l0 a0 a1 k s1) (fun _ => rfl) H (.cons rfl (.cons rfl (.cons rfl (.cons rfl .nil)))) ?_
    intro k s1 H
    simp only [smithyref03_Has.l0] at H
    refine goes_seq ?_
    refine goes_region ?_
    refine go1 (op_icmp rfl rfl (.t (has rfl)) (.t (has rfl))) rfl ?_
    refine goesO_nil ?_
    refine ends_then ?_
    refine goes_seq ?_
    refine goes_if (.t (has rfl)) H (fun hb5 H => ?_) (fun hb5 H => ?_)
    · skip
      refine goes_skip ?_
      refine ends_then ?_
      refine goes_seq ?_
      refine goes_block ?_
      refine goes_seq ?_
      refine goes_region ?_
      obtain ⟨x6, h7, H⟩ := bind_some H
      refine go1 (op_indexAddr rfl Try.underlying22 tk9 h7 (.t (has rfl)) (.t (has rfl))) rfl ?_
      refine go1 (op_loadp rfl tk9 (.t (has rfl))) rfl ?_
      refine go1 (op_assign rfl (.t (has rfl))) rfl ?_
      refine goesO_nil ?_
      refine ends_then ?_
      refine goes_seq ?_
      refine goes_region ?_
      refine go1 (op_move rfl (.t (has rfl))) rfl ?_
      refine go1 (op_move rfl (.t (has rfl))) rfl ?_
      refine go1 (op_scmp rfl rfl (.t (has rfl)) (.t (has rfl))) rfl ?_
      refine goesO_nil ?_
      refine ends_then ?_
      refine goes_if (.t (has rfl)) H (fun hb8 H => ?_) (fun hb8 H => ?_)
      · skip
        refine goes_seq ?_
        refine goes_region ?_
        refine go1 (op_assign rfl (.bool _)) rfl ?_
        refine goesO_nil ?_
        refine ends_then ?_
        obtain rfl := Option.some.inj H
        refine goes_ret (ends_block_ret (ends_then_ret (ends_then_ret (ends_block_ret (ends_cutR_ret rfl ?_)))))
        exact ends_ret' rfl rfl (.t rfl (.nil _))
      · skip
        refine goes_skip ?_
        refine ends_block ?_
        refine ends_then ?_
        refine goes_region ?_
        refine go1 (op_add rfl (.t (has rfl)) (.int _ _)) rfl ?_
        refine go1 (op_move rfl (.t (has rfl))) rfl ?_
        refine goesO_nil ?_
        exact loop_next _ H (.cons rfl (.cons rfl (.cons rfl (.cons rfl .nil))))
    · skip
      refine goes_exit (ends_then_exit (ends_then_exit (ends_block_exit ?_)))
      obtain rfl := Option.some.inj H
      exact ends_cutR rfl .nil
  · rintro s2 rfl
    clear h3
    dsimp only at H
    refine ends_then ?_
    refine goes_seq ?_
    refine goes_region ?_
    refine go1 (op_assign rfl (.bool _)) rfl ?_
    refine goesO_nil ?_
    refine ends_then ?_
    obtain rfl := Option.some.inj H
    exact goes_ret (ends_ret' rfl rfl (.t rfl (.nil _)))
  · rintro r' rfl a w hr
    obtain rfl := Option.some.inj H
    exact hr
theorem smithyref03_Has.conF (k : Nat) (a0 : List ByteArray) (a1 : ByteArray) (r : Bool) (H : smithyref03_Has.f k a0 a1 = some r) : ConF Try.prog 17 [VA.k (kslice kstr) a0, VA.k kstr a1] [VA.k kbool r] := (smithyref03_Has.con k a0 a1 r H).freeL (.cons (KFree.k KFree.bool _) .nil)
end Go.Proofs.Ytoemgemfgaooeaa.F
