import Derived.Test.YtoemgemfgaooeaaFIx4
set_option linter.unusedVariables false
set_option linter.unusedSimpArgs false
set_option linter.unnecessarySimpa false
set_option linter.deprecated false
namespace Go.Proofs.Ytoemgemfgaooeaa.F
open Go Go.RowKit Go.Proofs.Ytoemgemfgaooeaa.Sl
/-! smithy/smithyref02.Check -/
def smithyref02_Check.l0 (a0 : Disk) : Nat → Int → Option (Except Int Unit)
  | 0, _ => none
  | k + 1, s6 => bif icmp .lss s6 (a0.Files.length : Int) then ((idx a0.Files s6).bind fun x11 => ((smithyref02_Name.f k x11.Name).bind fun v15 => bif !v15 then (some true) else (bif icmp .gtr (x11.Text.size : Int) (4096 : Int) then (some true) else (bif icmp .lss x11.Stamp (0 : Int) then (some true) else (some (icmp .gtr x11.Stamp a0.Clock))))).bind fun s13 => bif s13 then (some (Except.error (4 : Int))) else ((bif icmp .gtr s6 (0 : Int) then ((idx a0.Files (IntKind.i64.wrap (s6 - (1 : Int)))).bind fun x24 => some (scmp .geq x24.Name x11.Name)) else (some false)).bind fun s21 => bif s21 then (some (Except.error (4 : Int))) else (smithyref02_Check.l0 a0 k (IntKind.i64.wrap (s6 + (1 : Int)))))) else (some (Except.ok ()))
def smithyref02_Check.f (k : Nat) (a0 : Disk) : Option Int := (bif icmp .lss a0.Clock (0 : Int) then (some true) else (bif icmp .gtr a0.Clock (1099511627776 : Int) then (some true) else (some (icmp .gtr (a0.Files.length : Int) (256 : Int))))).bind fun s1 => bif s1 then (some (4 : Int)) else ((smithyref02_Check.l0 a0 k (0 : Int)).bind fun o9 => match o9 with | .error r' => some r' | .ok s7 => (some (0 : Int)))
set_option maxRecDepth 100000 in
set_option maxHeartbeats 4000000 in
theorem smithyref02_Check.con (k : Nat) (a0 : Disk) (r : Int) (H : smithyref02_Check.f k a0 = some r) : Con Try.prog 37 [VA.k kDisk a0] [VA.k (kint .i64) r] := by
  unfold smithyref02_Check.f at H
  refine con_enter Try.func37 rfl rfl rfl (fun w0 S0 θ => ?_)
  refine goes_seq ?_
  refine goes_region ?_
  refine go3 (op_box 1 rfl (fun h => by first | rfl | cases h) (.t (has rfl))) rfl ?_
  refine go1 (op_assign rfl (.int _ _)) rfl ?_
  refine goesO_nil ?_
  refine ends_then ?_
  refine goes_seq ?_
  refine goes_seq ?_
  obtain ⟨s1, h2, H⟩ := bind_some H
  refine goes_cut [Ent.t 1 (VA.ptr 1 0), Ent.t 18 (VA.k kbool s1), Ent.h 1 (HE.box 27 kDisk a0)] ?_ ?_
  · replace H := h2; clear h2
    refine goes_region ?_
    refine go1 (op_fieldAddr rfl Try.underlying27 rfl tk3 (.t (has rfl))) rfl ?_
    refine go1 (op_load rfl fldDisk_Clock tk3 (.t (has rfl)) (has rfl)) rfl ?_
    refine go1 (op_icmp rfl rfl (.t (has rfl)) (.int _ _)) rfl ?_
    refine go1 (op_move rfl (.t (has rfl))) rfl ?_
    refine goesO_split H (fun hb3 H => ?_) (fun hb3 H => ?_)
    · skip
      refine goS rfl rfl rfl rfl rfl rfl hb3 ?_
      refine goS rfl rfl rfl rfl rfl rfl hb3 ?_
      refine goS rfl rfl rfl rfl rfl rfl hb3 ?_
      refine go1 (op_pick_t rfl hb3 (.t (has rfl)) (.bool _)) rfl ?_
      refine go1 (op_move rfl (.t (has rfl))) rfl ?_
      refine goS rfl rfl rfl rfl rfl rfl rfl ?_
      refine goS rfl rfl rfl rfl rfl rfl rfl ?_
      refine goS rfl rfl rfl rfl rfl rfl rfl ?_
      refine goS rfl rfl rfl rfl rfl rfl rfl ?_
      refine go1 (op_pick_t rfl rfl (.t (has rfl)) (.bool _)) rfl ?_
      refine goesO_nil ?_
      obtain rfl := Option.some.inj H
      exact ends_cut (.cons rfl (.cons rfl (.cons rfl .nil)))
    · skip
      refine goG (op_fieldAddr rfl Try.underlying27 rfl tk3 (.t (has rfl))) rfl rfl rfl rfl hb3 ?_
      refine goG (op_load rfl fldDisk_Clock tk3 (.t (has rfl)) (has rfl)) rfl rfl rfl rfl hb3 ?_
      refine goG (op_icmp rfl rfl (.t (has rfl)) (.int _ _)) rfl rfl rfl rfl hb3 ?_
      refine go1 (op_pick_f rfl hb3 (.t (has rfl)) (.t (has rfl))) rfl ?_
      refine go1 (op_move rfl (.t (has rfl))) rfl ?_
      refine goesO_split H (fun hb4 H => ?_) (fun hb4 H => ?_)
      · skip
        refine goS rfl rfl rfl rfl rfl rfl hb4 ?_
        refine goS rfl rfl rfl rfl rfl rfl hb4 ?_
        refine goS rfl rfl rfl rfl rfl rfl hb4 ?_
        refine goS rfl rfl rfl rfl rfl rfl hb4 ?_
        refine go1 (op_pick_t rfl hb4 (.t (has rfl)) (.bool _)) rfl ?_
        refine goesO_nil ?_
        obtain rfl := Option.some.inj H
        exact ends_cut (.cons rfl (.cons rfl (.cons rfl .nil)))
      · skip
        refine goG (op_fieldAddr rfl Try.underlying27 rfl tk25 (.t (has rfl))) rfl rfl rfl rfl hb4 ?_
        refine goG (op_load rfl fldDisk_Files tk25 (.t (has rfl)) (has rfl)) rfl rfl rfl rfl hb4 ?_
        refine goG (op_len rfl rfl Try.underlying25 (.t (has rfl))) rfl rfl rfl rfl hb4 ?_
        refine goG (op_icmp rfl rfl (.t (has rfl)) (.int _ _)) rfl rfl rfl rfl hb4 ?_
        refine go1 (op_pick_f rfl hb4 (.t (has rfl)) (.t (has rfl))) rfl ?_
        refine goesO_nil ?_
        obtain rfl := Option.some.inj H
        exact ends_cut (.cons rfl (.cons rfl (.cons rfl .nil)))
  refine ends_then ?_
  refine goes_if (.t (has rfl)) H (fun hb5 H => ?_) (fun hb5 H => ?_)
  · skip
    refine goes_seq ?_
    refine goes_region ?_
    refine go1 (op_assign rfl (.int _ _)) rfl ?_
    refine goesO_nil ?_
    refine ends_then ?_
    obtain rfl := Option.some.inj H
    exact goes_ret (ends_then_ret (ends_ret' rfl rfl (.t rfl (.nil _))))
  · skip
    refine goes_skip ?_
    refine ends_then ?_
    refine goes_seq ?_
    refine goes_seq ?_
    refine goes_region ?_
    refine go1 (op_assign rfl (.int _ _)) rfl ?_
    refine goesO_nil ?_
    refine ends_then ?_
    obtain ⟨o9, h8, H⟩ := bind_some H
    refine goes_cutR (o := o9) (fun s7 : Unit => []) (fun r a w => bodyPost Try.prog Try.f37 (CPost w0 S0 θ [VA.k (kint .i64) r]) .ret a w) ?_ ?_ ?_
    · replace H := h8; clear h8
      refine goes_block ?_
      refine goes_loop (fun s6 : Int => [Ent.t 1 (VA.ptr 1 0), Ent.t 3 (VA.k (kint .i64) s6), Ent.h 1 (HE.box 27 kDisk a0)]) (fun k s6 => smithyref02_Check.l0 a0 k s6) (fun _ => rfl) H (.cons rfl (.cons rfl (.cons rfl .nil))) ?_
      intro k s6 H
      simp only [smithyref02_Check.l0] at H
      refine goes_seq ?_
      refine goes_seq ?_
      refine goes_region ?_
      refine go1 (op_move rfl (.t (has rfl))) rfl ?_
      refine go1 (op_fieldAddr rfl Try.underlying27 rfl tk25 (.t (has rfl))) rfl ?_
      refine go1 (op_load rfl fldDisk_Files tk25 (.t (has rfl)) (has rfl)) rfl ?_
      refine go1 (op_len rfl rfl Try.underlying25 (.t (has rfl))) rfl ?_
      refine go1 (op_icmp rfl rfl (.t (has rfl)) (.t (has rfl))) rfl ?_
      refine goesO_nil ?_
      refine ends_then ?_
      refine goes_if (.t (has rfl)) H (fun hb10 H => ?_) (fun hb10 H => ?_)
      · skip
        refine goes_skip ?_
        refine ends_then ?_
        refine goes_seq ?_
        refine goes_block ?_
        refine goes_seq ?_
        refine goes_region ?_
        refine go1 (op_fieldAddr rfl Try.underlying27 rfl tk25 (.t (has rfl))) rfl ?_
        refine go1 (op_load rfl fldDisk_Files tk25 (.t (has rfl)) (has rfl)) rfl ?_
        refine go1 (op_move rfl (.t (has rfl))) rfl ?_
        obtain ⟨x11, h12, H⟩ := bind_some H
        refine go1 (op_indexAddr rfl Try.underlying25 tk47 h12 (.t (has rfl)) (.t (has rfl))) rfl ?_
        refine go1 (op_loadp rfl tk47 (.t (has rfl))) rfl ?_
        refine go3 (op_alloc 4 rfl zk47) rfl ?_
        refine go1 (op_store (Fld.whole kFile) tk47 (.t (has rfl)) (has rfl) (.t (has rfl))) rfl ?_
        refine goesO_nil ?_
        refine ends_then ?_
        refine goes_seq ?_
        refine goes_seq ?_
        obtain ⟨s13, h14, H⟩ := bind_some H
        refine goes_cut [Ent.t 1 (VA.ptr 1 0), Ent.t 3 (VA.k (kint .i64) s6), Ent.t 4 (VA.ptr 4 0), Ent.t 52 (VA.k kbool s13), Ent.h 1 (HE.box 27 kDisk a0), Ent.h 4 (HE.box 47 kFile x11)] ?_ ?_
        · replace H := h14; clear h14
          refine goes_region ?_
          refine go1 (op_fieldAddr rfl Try.underlying47 rfl tk9 (.t (has rfl))) rfl ?_
          refine go1 (op_load rfl fldFile_Name tk9 (.t (has rfl)) (has rfl)) rfl ?_
          obtain ⟨v15, h16, H⟩ := bind_some H
          refine go1 (op_call' rfl enters28 (smithyref02_Name.con _ _ _ h16) rfl (.cons (ArgP.k (.t (has rfl))) .nil)) rfl ?_
          refine go1 (op_not rfl (.t (has rfl))) rfl ?_
          refine go1 (op_move rfl (.t (has rfl))) rfl ?_
          refine goesO_split H (fun hb17 H => ?_) (fun hb17 H => ?_)
          · skip
            refine goS rfl rfl rfl rfl rfl rfl hb17 ?_
            refine goS rfl rfl rfl rfl rfl rfl hb17 ?_
            refine goS rfl rfl rfl rfl rfl rfl hb17 ?_
            refine goS rfl rfl rfl rfl rfl rfl hb17 ?_
            refine go1 (op_pick_t rfl hb17 (.t (has rfl)) (.bool _)) rfl ?_
            refine go1 (op_move rfl (.t (has rfl))) rfl ?_
            refine goS rfl rfl rfl rfl rfl rfl rfl ?_
            refine goS rfl rfl rfl rfl rfl rfl rfl ?_
            refine goS rfl rfl rfl rfl rfl rfl rfl ?_
            refine go1 (op_pick_t rfl rfl (.t (has rfl)) (.bool _)) rfl ?_
            refine go1 (op_move rfl (.t (has rfl))) rfl ?_
            refine goS rfl rfl rfl rfl rfl rfl rfl ?_
            refine goS rfl rfl rfl rfl rfl rfl rfl ?_
            refine goS rfl rfl rfl rfl rfl rfl rfl ?_
            refine goS rfl rfl rfl rfl rfl rfl rfl ?_
            refine goS rfl rfl rfl rfl rfl rfl rfl ?_
            refine go1 (op_pick_t rfl rfl (.t (has rfl)) (.bool _)) rfl ?_
            refine goesO_nil ?_
            obtain rfl := Option.some.inj H
            exact ends_cut (.cons rfl (.cons rfl (.cons rfl (.cons rfl (.cons rfl (.cons rfl .nil))))))
          · skip
            refine goG (op_fieldAddr rfl Try.underlying47 rfl tk9 (.t (has rfl))) rfl rfl rfl rfl hb17 ?_
            refine goG (op_load rfl fldFile_Text tk9 (.t (has rfl)) (has rfl)) rfl rfl rfl rfl hb17 ?_
            refine goG (op_len_str rfl rfl Try.underlying9 (.t (has rfl))) rfl rfl rfl rfl hb17 ?_
            refine goG (op_icmp rfl rfl (.t (has rfl)) (.int _ _)) rfl rfl rfl rfl hb17 ?_
            refine go1 (op_pick_f rfl hb17 (.t (has rfl)) (.t (has rfl))) rfl ?_
            refine go1 (op_move rfl (.t (has rfl))) rfl ?_
            refine goesO_split H (fun hb18 H => ?_) (fun hb18 H => ?_)
            · skip
              refine goS rfl rfl rfl rfl rfl rfl hb18 ?_
              refine goS rfl rfl rfl rfl rfl rfl hb18 ?_
              refine goS rfl rfl rfl rfl rfl rfl hb18 ?_
              refine go1 (op_pick_t rfl hb18 (.t (has rfl)) (.bool _)) rfl ?_
              refine go1 (op_move rfl (.t (has rfl))) rfl ?_
              refine goS rfl rfl rfl rfl rfl rfl rfl ?_
              refine goS rfl rfl rfl rfl rfl rfl rfl ?_
              refine goS rfl rfl rfl rfl rfl rfl rfl ?_
              refine goS rfl rfl rfl rfl rfl rfl rfl ?_
              refine goS rfl rfl rfl rfl rfl rfl rfl ?_
              refine go1 (op_pick_t rfl rfl (.t (has rfl)) (.bool _)) rfl ?_
              refine goesO_nil ?_
              obtain rfl := Option.some.inj H
              exact ends_cut (.cons rfl (.cons rfl (.cons rfl (.cons rfl (.cons rfl (.cons rfl .nil))))))
            · skip
              refine goG (op_fieldAddr rfl Try.underlying47 rfl tk3 (.t (has rfl))) rfl rfl rfl rfl hb18 ?_
              refine goG (op_load rfl fldFile_Stamp tk3 (.t (has rfl)) (has rfl)) rfl rfl rfl rfl hb18 ?_
              refine goG (op_icmp rfl rfl (.t (has rfl)) (.int _ _)) rfl rfl rfl rfl hb18 ?_
              refine go1 (op_pick_f rfl hb18 (.t (has rfl)) (.t (has rfl))) rfl ?_
              refine go1 (op_move rfl (.t (has rfl))) rfl ?_
              refine goesO_split H (fun hb19 H => ?_) (fun hb19 H => ?_)
              · skip
                refine goS rfl rfl rfl rfl rfl rfl hb19 ?_
                refine goS rfl rfl rfl rfl rfl rfl hb19 ?_
                refine goS rfl rfl rfl rfl rfl rfl hb19 ?_
                refine goS rfl rfl rfl rfl rfl rfl hb19 ?_
                refine goS rfl rfl rfl rfl rfl rfl hb19 ?_
                refine go1 (op_pick_t rfl hb19 (.t (has rfl)) (.bool _)) rfl ?_
                refine goesO_nil ?_
                obtain rfl := Option.some.inj H
                exact ends_cut (.cons rfl (.cons rfl (.cons rfl (.cons rfl (.cons rfl (.cons rfl .nil))))))
              · skip
                refine goG (op_fieldAddr rfl Try.underlying47 rfl tk3 (.t (has rfl))) rfl rfl rfl rfl hb19 ?_
                refine goG (op_load rfl fldFile_Stamp tk3 (.t (has rfl)) (has rfl)) rfl rfl rfl rfl hb19 ?_
                refine goG (op_fieldAddr rfl Try.underlying27 rfl tk3 (.t (has rfl))) rfl rfl rfl rfl hb19 ?_
                refine goG (op_load rfl fldDisk_Clock tk3 (.t (has rfl)) (has rfl)) rfl rfl rfl rfl hb19 ?_
                refine goG (op_icmp rfl rfl (.t (has rfl)) (.t (has rfl))) rfl rfl rfl rfl hb19 ?_
                refine go1 (op_pick_f rfl hb19 (.t (has rfl)) (.t (has rfl))) rfl ?_
                refine goesO_nil ?_
                obtain rfl := Option.some.inj H
                exact ends_cut (.cons rfl (.cons rfl (.cons rfl (.cons rfl (.cons rfl (.cons rfl .nil))))))
        refine ends_then ?_
        refine goes_if (.t (has rfl)) H (fun hb20 H => ?_) (fun hb20 H => ?_)
        · skip
          refine goes_seq ?_
          refine goes_region ?_
          refine go1 (op_assign rfl (.int _ _)) rfl ?_
          refine goesO_nil ?_
          refine ends_then ?_
          obtain rfl := Option.some.inj H
          refine goes_ret (ends_then_ret (ends_block_ret (ends_then_ret (ends_then_ret (ends_block_ret (ends_cutR_ret rfl ?_))))))
          exact ends_ret' rfl rfl (.t rfl (.nil _))
        · skip
          refine goes_skip ?_
          refine ends_then ?_
          refine goes_seq ?_
          obtain ⟨s21, h22, H⟩ := bind_some H
          refine goes_cut [Ent.t 1 (VA.ptr 1 0), Ent.t 3 (VA.k (kint .i64) s6), Ent.t 66 (VA.k kbool s21), Ent.h 1 (HE.box 27 kDisk a0)] ?_ ?_
          · replace H := h22; clear h22
            refine goes_split H (fun hb23 H => ?_) (fun hb23 H => ?_)
            · skip
              obtain ⟨x24, h25, H⟩ := bind_some H
              refine goes_drawn [[Ent.t 53 (VA.k (kint .i64) s6)], [Ent.t 54 (VA.k kbool (icmp .gtr s6 (0 : Int)))], [Ent.t 55 (VA.k kbool (icmp .gtr s6 (0 : Int)))], [Ent.t 56 (VA.ptr 1 1)], [Ent.t 57 (VA.k (kslice kFile) a0.Files)], [Ent.t 58 (VA.k (kint .i64) s6)], [Ent.t 59 (VA.k (kint .i64) (IntKind.i64.wrap (s6 - (1 : Int))))], [Ent.t 60 (VA.pt kFile x24)], [Ent.t 61 (VA.pt kstr x24.Name)], [Ent.t 62 (VA.k kstr x24.Name)], [Ent.t 63 (VA.ptr 4 0)], [Ent.t 64 (VA.k kstr x11.Name)], [Ent.t 65 (VA.k kbool (scmp .geq x24.Name x11.Name))], [Ent.t 66 (VA.k kbool (scmp .geq x24.Name x11.Name))]] mixed (by kernel_rfl) (by kernel_rfl) (.cons [(none, Ent.t 3 (VA.k (kint .i64) s6))] (OpSpec.run rfl rfl (op_move rfl (.t NL.h0)) rfl) (.cons (has rfl) .nil) (by kernel_rfl) (.cons [(some 0, Ent.t 53 (VA.k (kint .i64) s6))] (OpSpec.run rfl rfl (op_icmp rfl rfl (.t NL.h0) (.int _ _)) rfl) (.cons (has rfl) .nil) (by kernel_rfl) (.cons [(some 1, Ent.t 54 (VA.k kbool (icmp .gtr s6 (0 : Int))))] (OpSpec.run rfl rfl (op_move rfl (.t NL.h0)) rfl) (.cons (has rfl) .nil) (by kernel_rfl) (.cons [(some 2, Ent.t 55 (VA.k kbool (icmp .gtr s6 (0 : Int)))), (none, Ent.t 1 (VA.ptr 1 0))] (OpSpec.runG rfl rfl rfl rfl NL.h0 hb23 (op_fieldAddr rfl Try.underlying27 rfl tk25 (.t (NL.hs NL.h0))) rfl) (.cons (has rfl) (.cons (has rfl) .nil)) (by kernel_rfl) (.cons [(some 2, Ent.t 55 (VA.k kbool (icmp .gtr s6 (0 : Int)))), (some 3, Ent.t 56 (VA.ptr 1 1)), (none, Ent.h 1 (HE.box 27 kDisk a0))] (OpSpec.runG rfl rfl rfl rfl NL.h0 hb23 (op_load rfl fldDisk_Files tk25 (.t (NL.hs NL.h0)) (NL.hs (NL.hs NL.h0))) rfl) (.cons (has rfl) (.cons (has rfl) (.cons (has rfl) .nil))) (by kernel_rfl) (.cons [(some 2, Ent.t 55 (VA.k kbool (icmp .gtr s6 (0 : Int)))), (none, Ent.t 3 (VA.k (kint .i64) s6))] (OpSpec.runG rfl rfl rfl rfl NL.h0 hb23 (op_move rfl (.t (NL.hs NL.h0))) rfl) (.cons (has rfl) (.cons (has rfl) .nil)) (by kernel_rfl) (.cons [(some 2, Ent.t 55 (VA.k kbool (icmp .gtr s6 (0 : Int)))), (some 5, Ent.t 58 (VA.k (kint .i64) s6))] (OpSpec.runG rfl rfl rfl rfl NL.h0 hb23 (op_sub rfl (.t (NL.hs NL.h0)) (.int _ _)) rfl) (.cons (has rfl) (.cons (has rfl) .nil)) (by kernel_rfl) (.cons [(some 2, Ent.t 55 (VA.k kbool (icmp .gtr s6 (0 : Int)))), (some 4, Ent.t 57 (VA.k (kslice kFile) a0.Files)), (some 6, Ent.t 59 (VA.k (kint .i64) (IntKind.i64.wrap (s6 - (1 : Int)))))] (OpSpec.runG rfl rfl rfl rfl NL.h0 hb23 (op_indexAddr rfl Try.underlying25 tk47 h25 (.t (NL.hs NL.h0)) (.t (NL.hs (NL.hs NL.h0)))) rfl) (.cons (has rfl) (.cons (has rfl) (.cons (has rfl) .nil))) (by kernel_rfl) (.cons [(some 2, Ent.t 55 (VA.k kbool (icmp .gtr s6 (0 : Int)))), (some 7, Ent.t 60 (VA.pt kFile x24))] (OpSpec.runG rfl rfl rfl rfl NL.h0 hb23 (op_fieldAddrp rfl fldFile_Name Try.underlying47 rfl tk9 (.t (NL.hs NL.h0))) rfl) (.cons (has rfl) (.cons (has rfl) .nil)) (by kernel_rfl) (.cons [(some 2, Ent.t 55 (VA.k kbool (icmp .gtr s6 (0 : Int)))), (some 8, Ent.t 61 (VA.pt kstr x24.Name))] (OpSpec.runG rfl rfl rfl rfl NL.h0 hb23 (op_loadp rfl tk9 (.t (NL.hs NL.h0))) rfl) (.cons (has rfl) (.cons (has rfl) .nil)) (by kernel_rfl) (.cons [(some 2, Ent.t 55 (VA.k kbool (icmp .gtr s6 (0 : Int)))), (none, Ent.t 4 (VA.ptr 4 0))] (OpSpec.runG rfl rfl rfl rfl NL.h0 hb23 (op_fieldAddr rfl Try.underlying47 rfl tk9 (.t (NL.hs NL.h0))) rfl) (.cons (has rfl) (.cons (has rfl) .nil)) (by kernel_rfl) (.cons [(some 2, Ent.t 55 (VA.k kbool (icmp .gtr s6 (0 : Int)))), (some 10, Ent.t 63 (VA.ptr 4 0)), (none, Ent.h 4 (HE.box 47 kFile x11))] (OpSpec.runG rfl rfl rfl rfl NL.h0 hb23 (op_load rfl fldFile_Name tk9 (.t (NL.hs NL.h0)) (NL.hs (NL.hs NL.h0))) rfl) (.cons (has rfl) (.cons (has rfl) (.cons (has rfl) .nil))) (by kernel_rfl) (.cons [(some 2, Ent.t 55 (VA.k kbool (icmp .gtr s6 (0 : Int)))), (some 9, Ent.t 62 (VA.k kstr x24.Name)), (some 11, Ent.t 64 (VA.k kstr x11.Name))] (OpSpec.runG rfl rfl rfl rfl NL.h0 hb23 (op_scmp rfl rfl (.t (NL.hs NL.h0)) (.t (NL.hs (NL.hs NL.h0)))) rfl) (.cons (has rfl) (.cons (has rfl) (.cons (has rfl) .nil))) (by kernel_rfl) (.cons [(some 2, Ent.t 55 (VA.k kbool (icmp .gtr s6 (0 : Int)))), (some 12, Ent.t 65 (VA.k kbool (scmp .geq x24.Name x11.Name)))] (OpSpec.run rfl rfl (op_pick_t rfl hb23 (.t NL.h0) (.t (NL.hs NL.h0))) rfl) (.cons (has rfl) (.cons (has rfl) .nil)) (by kernel_rfl) (.nil _))))))))))))))) ?_
              refine ends_sub [Ent.t 1 (VA.ptr 1 0), Ent.t 3 (VA.k (kint .i64) s6), Ent.t 56 (VA.ptr 1 1), Ent.t 57 (VA.k (kslice kFile) a0.Files), Ent.t 58 (VA.k (kint .i64) s6), Ent.t 59 (VA.k (kint .i64) (IntKind.i64.wrap (s6 - (1 : Int)))), Ent.t 60 (VA.pt kFile x24), Ent.t 61 (VA.pt kstr x24.Name), Ent.t 62 (VA.k kstr x24.Name), Ent.t 63 (VA.ptr 4 0), Ent.t 64 (VA.k kstr x11.Name), Ent.t 65 (VA.k kbool (scmp .geq x24.Name x11.Name)), Ent.t 66 (VA.k kbool (scmp .geq x24.Name x11.Name)), Ent.h 1 (HE.box 27 kDisk a0), Ent.h 4 (HE.box 47 kFile x11)] (.cons rfl (.cons rfl (.cons rfl (.cons rfl (.cons rfl (.cons rfl (.cons rfl (.cons rfl (.cons rfl (.cons rfl (.cons rfl (.cons rfl (.cons rfl (.cons rfl (.cons rfl .nil))))))))))))))) ?_
              obtain rfl := Option.some.inj H
              exact ends_cut (.cons rfl (.cons rfl (.cons rfl (.cons rfl .nil))))
            · skip
              refine goes_drawn [[Ent.t 53 (VA.k (kint .i64) s6)], [Ent.t 54 (VA.k kbool (icmp .gtr s6 (0 : Int)))], [Ent.t 55 (VA.k kbool (icmp .gtr s6 (0 : Int)))], [Ent.t 56 (VA.v undef)], [Ent.t 57 (VA.v undef)], [Ent.t 58 (VA.v undef)], [Ent.t 59 (VA.v undef)], [Ent.t 60 (VA.v undef)], [Ent.t 61 (VA.v undef)], [Ent.t 62 (VA.v undef)], [Ent.t 63 (VA.v undef)], [Ent.t 64 (VA.v undef)], [Ent.t 65 (VA.v undef)], [Ent.t 66 (VA.k kbool false)]] mixed (by kernel_rfl) (by kernel_rfl) (.cons [(none, Ent.t 3 (VA.k (kint .i64) s6))] (OpSpec.run rfl rfl (op_move rfl (.t NL.h0)) rfl) (.cons (has rfl) .nil) (by kernel_rfl) (.cons [(some 0, Ent.t 53 (VA.k (kint .i64) s6))] (OpSpec.run rfl rfl (op_icmp rfl rfl (.t NL.h0) (.int _ _)) rfl) (.cons (has rfl) .nil) (by kernel_rfl) (.cons [(some 1, Ent.t 54 (VA.k kbool (icmp .gtr s6 (0 : Int))))] (OpSpec.run rfl rfl (op_move rfl (.t NL.h0)) rfl) (.cons (has rfl) .nil) (by kernel_rfl) (.cons [(some 2, Ent.t 55 (VA.k kbool (icmp .gtr s6 (0 : Int))))] (run_skip rfl rfl rfl rfl rfl rfl NL.h0 hb23) (.cons (has rfl) .nil) (by kernel_rfl) (.cons [(some 2, Ent.t 55 (VA.k kbool (icmp .gtr s6 (0 : Int))))] (run_skip rfl rfl rfl rfl rfl rfl NL.h0 hb23) (.cons (has rfl) .nil) (by kernel_rfl) (.cons [(some 2, Ent.t 55 (VA.k kbool (icmp .gtr s6 (0 : Int))))] (run_skip rfl rfl rfl rfl rfl rfl NL.h0 hb23) (.cons (has rfl) .nil) (by kernel_rfl) (.cons [(some 2, Ent.t 55 (VA.k kbool (icmp .gtr s6 (0 : Int))))] (run_skip rfl rfl rfl rfl rfl rfl NL.h0 hb23) (.cons (has rfl) .nil) (by kernel_rfl) (.cons [(some 2, Ent.t 55 (VA.k kbool (icmp .gtr s6 (0 : Int))))] (run_skip rfl rfl rfl rfl rfl rfl NL.h0 hb23) (.cons (has rfl) .nil) (by kernel_rfl) (.cons [(some 2, Ent.t 55 (VA.k kbool (icmp .gtr s6 (0 : Int))))] (run_skip rfl rfl rfl rfl rfl rfl NL.h0 hb23) (.cons (has rfl) .nil) (by kernel_rfl) (.cons [(some 2, Ent.t 55 (VA.k kbool (icmp .gtr s6 (0 : Int))))] (run_skip rfl rfl rfl rfl rfl rfl NL.h0 hb23) (.cons (has rfl) .nil) (by kernel_rfl) (.cons [(some 2, Ent.t 55 (VA.k kbool (icmp .gtr s6 (0 : Int))))] (run_skip rfl rfl rfl rfl rfl rfl NL.h0 hb23) (.cons (has rfl) .nil) (by kernel_rfl) (.cons [(some 2, Ent.t 55 (VA.k kbool (icmp .gtr s6 (0 : Int))))] (run_skip rfl rfl rfl rfl rfl rfl NL.h0 hb23) (.cons (has rfl) .nil) (by kernel_rfl) (.cons [(some 2, Ent.t 55 (VA.k kbool (icmp .gtr s6 (0 : Int))))] (run_skip rfl rfl rfl rfl rfl rfl NL.h0 hb23) (.cons (has rfl) .nil) (by kernel_rfl) (.cons [(some 2, Ent.t 55 (VA.k kbool (icmp .gtr s6 (0 : Int))))] (OpSpec.run rfl rfl (op_pick_f rfl hb23 (.t NL.h0) (.bool _)) rfl) (.cons (has rfl) .nil) (by kernel_rfl) (.nil _))))))))))))))) ?_
              refine ends_sub [Ent.t 1 (VA.ptr 1 0), Ent.t 3 (VA.k (kint .i64) s6), Ent.t 66 (VA.k kbool false), Ent.h 1 (HE.box 27 kDisk a0)] (.cons rfl (.cons rfl (.cons rfl (.cons rfl .nil)))) ?_
              obtain rfl := Option.some.inj H
              exact ends_cut (.cons rfl (.cons rfl (.cons rfl (.cons rfl .nil))))
          refine ends_then ?_
          refine goes_if (.t (has rfl)) H (fun hb26 H => ?_) (fun hb26 H => ?_)
          · skip
            refine goes_seq ?_
            refine goes_region ?_
            refine go1 (op_assign rfl (.int _ _)) rfl ?_
            refine goesO_nil ?_
            refine ends_then ?_
            obtain rfl := Option.some.inj H
            refine goes_ret (ends_block_ret (ends_then_ret (ends_then_ret (ends_block_ret (ends_cutR_ret rfl ?_)))))
            exact ends_ret' rfl rfl (.t rfl (.nil _))
          · skip
            refine goes_skip ?_
            refine ends_block ?_
            refine ends_then ?_
            refine goes_region ?_
            refine go1 (op_move rfl (.t (has rfl))) rfl ?_
            refine go1 (op_add rfl (.t (has rfl)) (.int _ _)) rfl ?_
            refine go1 (op_assign rfl (.t (has rfl))) rfl ?_
            refine goesO_nil ?_
            exact loop_next _ H (.cons rfl (.cons rfl (.cons rfl .nil)))
      · skip
        refine goes_exit (ends_then_exit (ends_then_exit (ends_block_exit ?_)))
        obtain rfl := Option.some.inj H
        exact ends_cutR rfl .nil
    · rintro s7 rfl
      clear h8
      dsimp only at H
      refine ends_then ?_
      refine goes_seq ?_
      refine goes_region ?_
      refine go1 (op_assign rfl (.int _ _)) rfl ?_
      refine goesO_nil ?_
      refine ends_then ?_
      obtain rfl := Option.some.inj H
      exact goes_ret (ends_ret' rfl rfl (.t rfl (.nil _)))
    · rintro r' rfl a w hr
      obtain rfl := Option.some.inj H
      exact hr
theorem smithyref02_Check.conF (k : Nat) (a0 : Disk) (r : Int) (H : smithyref02_Check.f k a0 = some r) : ConF Try.prog 37 [VA.k kDisk a0] [VA.k (kint .i64) r] := (smithyref02_Check.con k a0 r H).freeL (.cons (KFree.k (KFree.int .i64) _) .nil)
/-! smithy/smithyref02.fit -/
def smithyref02_fit.f (k : Nat) (a0 : Disk) (a1 : ByteArray) : Option Int := (smithyref02_Check.f k a0).bind fun v1 => bif icmp .neq v1 (0 : Int) then (some (4 : Int)) else ((smithyref02_Name.f k a1).bind fun v4 => bif !v4 then (some (3 : Int)) else (some (0 : Int)))
set_option maxRecDepth 100000 in
set_option maxHeartbeats 4000000 in
theorem smithyref02_fit.con (k : Nat) (a0 : Disk) (a1 : ByteArray) (r : Int) (H : smithyref02_fit.f k a0 a1 = some r) : Con Try.prog 29 [VA.k kDisk a0, VA.k kstr a1] [VA.k (kint .i64) r] := by
  unfold smithyref02_fit.f at H
  refine con_enter Try.func29 rfl rfl rfl (fun w0 S0 θ => ?_)
  refine goes_seq ?_
  refine goes_region ?_
  refine go3 (op_box 2 rfl (fun h => by first | rfl | cases h) (.t (has rfl))) rfl ?_
  refine go1 (op_assign rfl (.int _ _)) rfl ?_
  refine goesO_nil ?_
  refine ends_then ?_
  refine goes_seq ?_
  refine goes_seq ?_
  refine goes_region ?_
  refine go1 (op_load rfl (Fld.whole kDisk) tk27 (.t (has rfl)) (has rfl)) rfl ?_
  obtain ⟨v1, h2, H⟩ := bind_some H
  refine go1 (op_call' rfl enters37 (smithyref02_Check.con _ _ _ h2) rfl (.cons (ArgP.k (.t (has rfl))) .nil)) rfl ?_
  refine go1 (op_icmp rfl rfl (.t (has rfl)) (.int _ _)) rfl ?_
  refine goesO_nil ?_
  refine ends_then ?_
  refine goes_if (.t (has rfl)) H (fun hb3 H => ?_) (fun hb3 H => ?_)
  · skip
    refine goes_seq ?_
    refine goes_region ?_
    refine go1 (op_assign rfl (.int _ _)) rfl ?_
    refine goesO_nil ?_
    refine ends_then ?_
    obtain rfl := Option.some.inj H
    exact goes_ret (ends_then_ret (ends_ret' rfl rfl (.t rfl (.nil _))))
  · skip
    refine goes_skip ?_
    refine ends_then ?_
    refine goes_seq ?_
    refine goes_seq ?_
    refine goes_region ?_
    refine go1 (op_move rfl (.t (has rfl))) rfl ?_
    obtain ⟨v4, h5, H⟩ := bind_some H
    refine go1 (op_call' rfl enters28 (smithyref02_Name.con _ _ _ h5) rfl (.cons (ArgP.k (.t (has rfl))) .nil)) rfl ?_
    refine go1 (op_not rfl (.t (has rfl))) rfl ?_
    refine goesO_nil ?_
    refine ends_then ?_
    refine goes_if (.t (has rfl)) H (fun hb6 H => ?_) (fun hb6 H => ?_)
    · skip
      refine goes_seq ?_
      refine goes_region ?_
      refine go1 (op_assign rfl (.int _ _)) rfl ?_
      refine goesO_nil ?_
      refine ends_then ?_
      obtain rfl := Option.some.inj H
      exact goes_ret (ends_then_ret (ends_ret' rfl rfl (.t rfl (.nil _))))
    · skip
      refine goes_skip ?_
      refine ends_then ?_
      refine goes_seq ?_
      refine goes_region ?_
      refine go1 (op_assign rfl (.int _ _)) rfl ?_
      refine goesO_nil ?_
      refine ends_then ?_
      obtain rfl := Option.some.inj H
      exact goes_ret (ends_ret' rfl rfl (.t rfl (.nil _)))
theorem smithyref02_fit.conF (k : Nat) (a0 : Disk) (a1 : ByteArray) (r : Int) (H : smithyref02_fit.f k a0 a1 = some r) : ConF Try.prog 29 [VA.k kDisk a0, VA.k kstr a1] [VA.k (kint .i64) r] := (smithyref02_fit.con k a0 a1 r H).freeL (.cons (KFree.k (KFree.int .i64) _) .nil)
/-! smithy/smithyref02.place -/
def smithyref02_place.l0 (a0 : Disk) (a1 : ByteArray) : Nat → Int → Option (Except Int Unit)
  | 0, _ => none
  | k + 1, s1 => bif icmp .lss s1 (a0.Files.length : Int) then ((idx a0.Files s1).bind fun x6 => bif scmp .eql x6.Name a1 then (some (Except.error s1)) else (smithyref02_place.l0 a0 a1 k (IntKind.i64.wrap (s1 + (1 : Int))))) else (some (Except.ok ()))
def smithyref02_place.f (k : Nat) (a0 : Disk) (a1 : ByteArray) : Option Int := (smithyref02_place.l0 a0 a1 k (0 : Int)).bind fun o4 => match o4 with | .error r' => some r' | .ok s2 => (some (-1 : Int))
set_option maxRecDepth 100000 in
set_option maxHeartbeats 4000000 in
theorem smithyref02_place.con (k : Nat) (a0 : Disk) (a1 : ByteArray) (r : Int) (H : smithyref02_place.f k a0 a1 = some r) : Con Try.prog 45 [VA.k kDisk a0, VA.k kstr a1] [VA.k (kint .i64) r] := by
  unfold smithyref02_place.f at H
  refine con_enter Try.func45 rfl rfl rfl (fun w0 S0 θ => ?_)
  refine goes_seq ?_
  refine goes_region ?_
  refine go3 (op_box 2 rfl (fun h => by first | rfl | cases h) (.t (has rfl))) rfl ?_
  refine go1 (op_assign rfl (.int _ _)) rfl ?_
  refine goesO_nil ?_
  refine ends_then ?_
  refine goes_seq ?_
  refine goes_seq ?_
  refine goes_region ?_
  refine go1 (op_assign rfl (.int _ _)) rfl ?_
  refine goesO_nil ?_
  refine ends_then ?_
  obtain ⟨o4, h3, H⟩ := bind_some H
  refine goes_cutR (o := o4) (fun s2 : Unit => []) (fun r a w => bodyPost Try.prog Try.f45 (CPost w0 S0 θ [VA.k (kint .i64) r]) .ret a w) ?_ ?_ ?_
  · replace H := h3; clear h3
    refine goes_block ?_
    refine goes_loop (fun s1 : Int => [Ent.t 1 (VA.k kstr a1), Ent.t 2 (VA.ptr 2 0), Ent.t 5 (VA.k (kint .i64) s1), Ent.h 2 (HE.box 27 kDisk a0)]) (fun k s1 => smithyref02_place.l0 a0 a1 k s1) (fun _ => rfl) H (.cons rfl (.cons rfl (.cons rfl (.cons rfl .nil)))) ?_
    intro k s1 H
    simp only [smithyref02_place.l0] at H
    refine goes_seq ?_
    refine goes_seq ?_
    refine goes_region ?_
    refine go1 (op_move rfl (.t (has rfl))) rfl ?_
    refine go1 (op_fieldAddr rfl Try.underlying27 rfl tk25 (.t (has rfl))) rfl ?_
    refine go1 (op_load rfl fldDisk_Files tk25 (.t (has rfl)) (has rfl)) rfl ?_
    refine go1 (op_len rfl rfl Try.underlying25 (.t (has rfl))) rfl ?_
    refine go1 (op_icmp rfl rfl (.t (has rfl)) (.t (has rfl))) rfl ?_
    refine goesO_nil ?_
    refine ends_then ?_
    refine goes_if (.t (has rfl)) H (fun hb5 H => ?_) (fun hb5 H => ?_)
    · skip
      refine goes_skip ?_
      refine ends_then ?_
      refine goes_seq ?_
      refine goes_block ?_
      refine goes_seq ?_
      refine goes_region ?_
      refine go1 (op_fieldAddr rfl Try.underlying27 rfl tk25 (.t (has rfl))) rfl ?_
      refine go1 (op_load rfl fldDisk_Files tk25 (.t (has rfl)) (has rfl)) rfl ?_
      refine go1 (op_move rfl (.t (has rfl))) rfl ?_
      obtain ⟨x6, h7, H⟩ := bind_some H
      refine go1 (op_indexAddr rfl Try.underlying25 tk47 h7 (.t (has rfl)) (.t (has rfl))) rfl ?_
      refine go1 (op_fieldAddrp rfl fldFile_Name Try.underlying47 rfl tk9 (.t (has rfl))) rfl ?_
      refine go1 (op_loadp rfl tk9 (.t (has rfl))) rfl ?_
      refine go1 (op_move rfl (.t (has rfl))) rfl ?_
      refine go1 (op_scmp rfl rfl (.t (has rfl)) (.t (has rfl))) rfl ?_
      refine goesO_nil ?_
      refine ends_then ?_
      refine goes_if (.t (has rfl)) H (fun hb8 H => ?_) (fun hb8 H => ?_)
      · skip
        refine goes_seq ?_
        refine goes_region ?_
        refine go1 (op_move rfl (.t (has rfl))) rfl ?_
        refine go1 (op_assign rfl (.t (has rfl))) rfl ?_
        refine goesO_nil ?_
        refine ends_then ?_
        obtain rfl := Option.some.inj H
        refine goes_ret (ends_block_ret (ends_then_ret (ends_then_ret (ends_block_ret (ends_cutR_ret rfl ?_)))))
        exact ends_ret' rfl rfl (.t rfl (.nil _))
      · skip
        refine goes_skip ?_
        refine ends_block ?_
        refine ends_then ?_
        refine goes_region ?_
        refine go1 (op_move rfl (.t (has rfl))) rfl ?_
        refine go1 (op_add rfl (.t (has rfl)) (.int _ _)) rfl ?_
        refine go1 (op_assign rfl (.t (has rfl))) rfl ?_
        refine goesO_nil ?_
        exact loop_next _ H (.cons rfl (.cons rfl (.cons rfl (.cons rfl .nil))))
    · skip
      refine goes_exit (ends_then_exit (ends_then_exit (ends_block_exit ?_)))
      obtain rfl := Option.some.inj H
      exact ends_cutR rfl .nil
  · rintro s2 rfl
    clear h3
    dsimp only at H
    refine ends_then ?_
    refine goes_seq ?_
    refine goes_region ?_
    refine go1 (op_assign rfl (.int _ _)) rfl ?_
    refine goesO_nil ?_
    refine ends_then ?_
    obtain rfl := Option.some.inj H
    exact goes_ret (ends_ret' rfl rfl (.t rfl (.nil _)))
  · rintro r' rfl a w hr
    obtain rfl := Option.some.inj H
    exact hr
theorem smithyref02_place.conF (k : Nat) (a0 : Disk) (a1 : ByteArray) (r : Int) (H : smithyref02_place.f k a0 a1 = some r) : ConF Try.prog 45 [VA.k kDisk a0, VA.k kstr a1] [VA.k (kint .i64) r] := (smithyref02_place.con k a0 a1 r H).freeL (.cons (KFree.k (KFree.int .i64) _) .nil)
/-! smithy/smithyref02.laid -/
def smithyref02_laid.l0 (a0 : Disk) (a1 : File) : Nat → ((List File) × Bool × Int) → Option (Bool × (List File))
  | 0, _ => none
  | k + 1, s1 => bif icmp .lss s1.2.2 (a0.Files.length : Int) then (((idx a0.Files s1.2.2).bind fun x7 => (bif !s1.2.1 then (some (scmp .geq x7.Name a1.Name)) else (some false)).bind fun s9 => (bif s9 then ((app 40 s1.1 ([a1])).bind fun x15 => some (true, x15)) else (some (s1.2.1, s1.1))).bind fun s12 => bif scmp .neq x7.Name a1.Name then ((app 40 s12.2 ([x7])).bind fun x18 => some (s12.1, x18)) else (some (s12.1, s12.2))).bind fun s5 => smithyref02_laid.l0 a0 a1 k (s5.2, s5.1, IntKind.i64.wrap (s1.2.2 + (1 : Int)))) else (some (s1.2.1, s1.1))
def smithyref02_laid.f (k : Nat) (a0 : Disk) (a1 : File) : Option Disk := (smithyref02_laid.l0 a0 a1 k (([] : List File), false, (0 : Int))).bind fun s2 => (bif !s2.1 then ((app 40 s2.2 ([a1])).bind fun x23 => some x23) else (some s2.2)).bind fun s20 => some (⟨a0.Clock, s20⟩ : Disk)
set_option maxRecDepth 100000 in
set_option maxHeartbeats 4000000 in
theorem smithyref02_laid.con (k : Nat) (a0 : Disk) (a1 : File) (r : Disk) (H : smithyref02_laid.f k a0 a1 = some r) : Con Try.prog 46 [VA.k kDisk a0, VA.k kFile a1] [VA.k kDisk r] := by
  unfold smithyref02_laid.f at H
  refine con_enter Try.func46 rfl rfl rfl (fun w0 S0 θ => ?_)
  refine goes_seq ?_
  refine goes_region ?_
  refine go3 (op_box 2 rfl (fun h => by first | rfl | cases h) (.t (has rfl))) rfl ?_
  refine go3 (op_box 3 rfl (fun h => by first | rfl | cases h) (.t (has rfl))) rfl ?_
  refine go3 (op_alloc 4 rfl zk27) rfl ?_
  refine goesO_nil ?_
  refine ends_then ?_
  refine goes_seq ?_
  refine goes_region ?_
  refine go1 (op_fieldAddr rfl Try.underlying27 rfl tk3 (.t (has rfl))) rfl ?_
  refine go1 (op_load rfl fldDisk_Clock tk3 (.t (has rfl)) (has rfl)) rfl ?_
  refine go1 (op_build_fl (pl := [(0, 1), (1, 1)]) rfl Try.underlying27 (by kernel_rfl) xzf27_1 (.cons [] (FA.k 0 (kint .i64) a0.Clock) [FA.v 1 (.slice none 0 0)] rfl rfl rfl rfl (gives_k tk3) rfl (.t (has rfl)) (.nil _))) rfl ?_
  refine go3 (op_alloc_raw 5 rfl xaz27 rfl) rfl ?_
  refine goesO_by (fun a w hi => inv_raw 5 rfl hi) ?_
  refine go1 (op_store_fl (cellsOf_tk tk27) rfl (tk27).size (.t (has rfl)) (has rfl) (.t (has rfl))) rfl ?_
  refine goesO_by (fun a w hi => inv_split 5 rfl hi) ?_
  refine goesO_by (fun a w hi => inv_nilrow' 5 [FA.k 0 (kint .i64) a0.Clock] 1 [] 100501 47 kFile rfl rfl rfl rfl rfl hi) ?_
  refine goesO_nil ?_
  refine ends_then ?_
  refine goes_seq ?_
  refine goes_region ?_
  refine go1 (op_assign rfl (.bool _)) rfl ?_
  refine goesO_nil ?_
  refine ends_then ?_
  refine goes_seq ?_
  refine goes_seq ?_
  refine goes_region ?_
  refine go1 (op_assign rfl (.int _ _)) rfl ?_
  refine goesO_nil ?_
  refine ends_then ?_
  obtain ⟨s2, h3, H⟩ := bind_some H
  refine goes_cut [Ent.t 3 (VA.ptr 3 0), Ent.t 4 (VA.ptr 4 0), Ent.t 5 (VA.ptr 5 0), Ent.t 6 (VA.k kbool s2.1), Ent.h 3 (HE.box 47 kFile a1), Ent.h 4 (HE.box 27 kDisk zeroDisk), Ent.h 5 (HE.boxf 27 2 [FA.k 0 (kint .i64) a0.Clock, FA.rw 1 100501 (s2.2).length]), Ent.r 100501 47 kFile s2.2] ?_ ?_
  · replace H := h3; clear h3
    refine goes_block ?_
    refine goes_loop (fun s1 : (List File) × Bool × Int => [Ent.t 2 (VA.ptr 2 0), Ent.t 3 (VA.ptr 3 0), Ent.t 4 (VA.ptr 4 0), Ent.t 5 (VA.ptr 5 0), Ent.t 6 (VA.k kbool s1.2.1), Ent.t 7 (VA.k (kint .i64) s1.2.2), Ent.h 2 (HE.box 27 kDisk a0), Ent.h 3 (HE.box 47 kFile a1), Ent.h 4 (HE.box 27 kDisk zeroDisk), Ent.h 5 (HE.boxf 27 2 [FA.k 0 (kint .i64) a0.Clock, FA.rw 1 100501 (s1.1).length]), Ent.r 100501 47 kFile s1.1]) (fun k s1 => smithyref02_laid.l0 a0 a1 k s1) (fun _ => rfl) H (.cons rfl (.cons rfl (.cons rfl (.cons rfl (.cons rfl (.cons rfl (.cons rfl (.cons rfl (.cons rfl (.cons rfl (.cons rfl .nil))))))))))) ?_
    intro k s1 H
    simp only [smithyref02_laid.l0] at H
    refine goes_seq ?_
    refine goes_seq ?_
    refine goes_region ?_
    refine go1 (op_move rfl (.t (has rfl))) rfl ?_
    refine go1 (op_fieldAddr rfl Try.underlying27 rfl tk25 (.t (has rfl))) rfl ?_
    refine go1 (op_load rfl fldDisk_Files tk25 (.t (has rfl)) (has rfl)) rfl ?_
    refine go1 (op_len rfl rfl Try.underlying25 (.t (has rfl))) rfl ?_
    refine go1 (op_icmp rfl rfl (.t (has rfl)) (.t (has rfl))) rfl ?_
    refine goesO_nil ?_
    refine ends_then ?_
    refine goes_if (.t (has rfl)) H (fun hb4 H => ?_) (fun hb4 H => ?_)
    · skip
      refine goes_skip ?_
      refine ends_then ?_
      refine goes_seq ?_
      obtain ⟨s5, h6, H⟩ := bind_some H
      refine goes_cut [Ent.t 2 (VA.ptr 2 0), Ent.t 3 (VA.ptr 3 0), Ent.t 4 (VA.ptr 4 0), Ent.t 5 (VA.ptr 5 0), Ent.t 6 (VA.k kbool s5.1), Ent.t 7 (VA.k (kint .i64) s1.2.2), Ent.h 2 (HE.box 27 kDisk a0), Ent.h 3 (HE.box 47 kFile a1), Ent.h 4 (HE.box 27 kDisk zeroDisk), Ent.h 5 (HE.boxf 27 2 [FA.k 0 (kint .i64) a0.Clock, FA.rw 1 100501 (s5.2).length]), Ent.r 100501 47 kFile s5.2] ?_ ?_
      · replace H := h6; clear h6
        refine goes_block ?_
        refine goes_seq ?_
        refine goes_region ?_
        refine go1 (op_fieldAddr rfl Try.underlying27 rfl tk25 (.t (has rfl))) rfl ?_
        refine go1 (op_load rfl fldDisk_Files tk25 (.t (has rfl)) (has rfl)) rfl ?_
        refine go1 (op_move rfl (.t (has rfl))) rfl ?_
        obtain ⟨x7, h8, H⟩ := bind_some H
        refine go1 (op_indexAddr rfl Try.underlying25 tk47 h8 (.t (has rfl)) (.t (has rfl))) rfl ?_
        refine go1 (op_loadp rfl tk47 (.t (has rfl))) rfl ?_
        refine go3 (op_alloc 8 rfl zk47) rfl ?_
        refine go1 (op_store (Fld.whole kFile) tk47 (.t (has rfl)) (has rfl) (.t (has rfl))) rfl ?_
        refine goesO_nil ?_
        refine ends_then ?_
        refine goes_seq ?_
        refine goes_seq ?_
        obtain ⟨s9, h10, H⟩ := bind_some H
        refine goes_cut [Ent.t 2 (VA.ptr 2 0), Ent.t 3 (VA.ptr 3 0), Ent.t 4 (VA.ptr 4 0), Ent.t 5 (VA.ptr 5 0), Ent.t 6 (VA.k kbool s1.2.1), Ent.t 7 (VA.k (kint .i64) s1.2.2), Ent.t 8 (VA.ptr 8 0), Ent.t 32 (VA.k kbool s9), Ent.h 2 (HE.box 27 kDisk a0), Ent.h 3 (HE.box 47 kFile a1), Ent.h 4 (HE.box 27 kDisk zeroDisk), Ent.h 5 (HE.boxf 27 2 [FA.k 0 (kint .i64) a0.Clock, FA.rw 1 100501 (s1.1).length]), Ent.h 8 (HE.box 47 kFile x7), Ent.r 100501 47 kFile s1.1] ?_ ?_
        · replace H := h10; clear h10
          refine goes_region ?_
          refine go1 (op_move rfl (.t (has rfl))) rfl ?_
          refine go1 (op_not rfl (.t (has rfl))) rfl ?_
          refine go1 (op_move rfl (.t (has rfl))) rfl ?_
          refine goesO_split H (fun hb11 H => ?_) (fun hb11 H => ?_)
          · skip
            refine goG (op_fieldAddr rfl Try.underlying47 rfl tk9 (.t (has rfl))) rfl rfl rfl rfl hb11 ?_
            refine goG (op_load rfl fldFile_Name tk9 (.t (has rfl)) (has rfl)) rfl rfl rfl rfl hb11 ?_
            refine goG (op_fieldAddr rfl Try.underlying47 rfl tk9 (.t (has rfl))) rfl rfl rfl rfl hb11 ?_
            refine goG (op_load rfl fldFile_Name tk9 (.t (has rfl)) (has rfl)) rfl rfl rfl rfl hb11 ?_
            refine goG (op_scmp rfl rfl (.t (has rfl)) (.t (has rfl))) rfl rfl rfl rfl hb11 ?_
            refine go1 (op_pick_t rfl hb11 (.t (has rfl)) (.t (has rfl))) rfl ?_
            refine goesO_nil ?_
            obtain rfl := Option.some.inj H
            exact ends_cut (.cons rfl (.cons rfl (.cons rfl (.cons rfl (.cons rfl (.cons rfl (.cons rfl (.cons rfl (.cons rfl (.cons rfl (.cons rfl (.cons rfl (.cons rfl (.cons rfl .nil))))))))))))))
          · skip
            refine goS rfl rfl rfl rfl rfl rfl hb11 ?_
            refine goS rfl rfl rfl rfl rfl rfl hb11 ?_
            refine goS rfl rfl rfl rfl rfl rfl hb11 ?_
            refine goS rfl rfl rfl rfl rfl rfl hb11 ?_
            refine goS rfl rfl rfl rfl rfl rfl hb11 ?_
            refine go1 (op_pick_f rfl hb11 (.t (has rfl)) (.bool _)) rfl ?_
            refine goesO_nil ?_
            obtain rfl := Option.some.inj H
            exact ends_cut (.cons rfl (.cons rfl (.cons rfl (.cons rfl (.cons rfl (.cons rfl (.cons rfl (.cons rfl (.cons rfl (.cons rfl (.cons rfl (.cons rfl (.cons rfl (.cons rfl .nil))))))))))))))
        refine ends_then ?_
        obtain ⟨s12, h13, H⟩ := bind_some H
        refine goes_cut [Ent.t 2 (VA.ptr 2 0), Ent.t 3 (VA.ptr 3 0), Ent.t 4 (VA.ptr 4 0), Ent.t 5 (VA.ptr 5 0), Ent.t 6 (VA.k kbool s12.1), Ent.t 7 (VA.k (kint .i64) s1.2.2), Ent.t 8 (VA.ptr 8 0), Ent.h 2 (HE.box 27 kDisk a0), Ent.h 3 (HE.box 47 kFile a1), Ent.h 4 (HE.box 27 kDisk zeroDisk), Ent.h 5 (HE.boxf 27 2 [FA.k 0 (kint .i64) a0.Clock, FA.rw 1 100501 (s12.2).length]), Ent.h 8 (HE.box 47 kFile x7), Ent.r 100501 47 kFile s12.2] ?_ ?_
        · replace H := h13; clear h13
          refine goes_if (.t (has rfl)) H (fun hb14 H => ?_) (fun hb14 H => ?_)
          · skip
            refine goes_seq ?_
            refine goes_region ?_
            refine go1 (op_fieldAddr rfl Try.underlying27 rfl tk25 (.t (has rfl))) rfl ?_
            refine go1 (op_loadf_rw (K := kFile) rfl tk25 (.t (has rfl)) (has rfl) (.tail _ (.head _))) rfl ?_
            refine go1 (op_load rfl (Fld.whole kFile) tk47 (.t (has rfl)) (has rfl)) rfl ?_
            refine go1 (op_buildSlice rfl at25 (fun h => by first | rfl | cases h) rfl rfl rfl (.cons (.t (has rfl)) (.nil _))) rfl ?_
            refine goesO_release 34 100501 rfl rfl rfl ?_
            obtain ⟨x15, h16, H⟩ := bind_some H
            refine go2 (op_append rfl rfl at25 h16 (has rfl) (ReadsArg.own (.t (has rfl)))) rfl ?_
            refine go1 (op_fieldAddr rfl Try.underlying27 rfl tk25 (.t (has rfl))) rfl ?_
            refine goesO_by (fun a w hi => inv_boxw (fs' := [FA.k 0 (kint .i64) a0.Clock, FA.any 1 1]) 5 rfl (.keep (.head _) (.any (f := FA.rw 1 100501 (s1.1).length) (.tail _ (.head _)) .nil)) hi) ?_
            refine goesO_number 37 100501 rfl rfl rfl ?_
            refine go1 (op_storef_rw (K := kFile) (f := FA.any 1 1) (off := 1) (id := 5) [FA.k 0 (kint .i64) a0.Clock] [] tk25 rfl rfl rfl (.t (has rfl)) (has rfl) (.t (has rfl))) rfl ?_
            refine goesO_nil ?_
            refine ends_then ?_
            refine goes_region ?_
            refine go1 (op_assign rfl (.bool _)) rfl ?_
            refine goesO_nil ?_
            obtain rfl := Option.some.inj H
            exact ends_cut (.cons rfl (.cons rfl (.cons rfl (.cons rfl (.cons rfl (.cons rfl (.cons rfl (.cons rfl (.cons rfl (.cons rfl (.cons rfl (.cons rfl (.cons rfl .nil)))))))))))))
          · skip
            refine goes_skip ?_
            obtain rfl := Option.some.inj H
            exact ends_cut (.cons rfl (.cons rfl (.cons rfl (.cons rfl (.cons rfl (.cons rfl (.cons rfl (.cons rfl (.cons rfl (.cons rfl (.cons rfl (.cons rfl (.cons rfl .nil)))))))))))))
        refine ends_then ?_
        refine goes_seq ?_
        refine goes_region ?_
        refine go1 (op_fieldAddr rfl Try.underlying47 rfl tk9 (.t (has rfl))) rfl ?_
        refine go1 (op_load rfl fldFile_Name tk9 (.t (has rfl)) (has rfl)) rfl ?_
        refine go1 (op_fieldAddr rfl Try.underlying47 rfl tk9 (.t (has rfl))) rfl ?_
        refine go1 (op_load rfl fldFile_Name tk9 (.t (has rfl)) (has rfl)) rfl ?_
        refine go1 (op_scmp rfl rfl (.t (has rfl)) (.t (has rfl))) rfl ?_
        refine goesO_nil ?_
        refine ends_then ?_
        refine goes_if (.t (has rfl)) H (fun hb17 H => ?_) (fun hb17 H => ?_)
        · skip
          refine goes_region ?_
          refine go1 (op_fieldAddr rfl Try.underlying27 rfl tk25 (.t (has rfl))) rfl ?_
          refine go1 (op_loadf_rw (K := kFile) rfl tk25 (.t (has rfl)) (has rfl) (.tail _ (.head _))) rfl ?_
          refine go1 (op_load rfl (Fld.whole kFile) tk47 (.t (has rfl)) (has rfl)) rfl ?_
          refine go1 (op_buildSlice rfl at25 (fun h => by first | rfl | cases h) rfl rfl rfl (.cons (.t (has rfl)) (.nil _))) rfl ?_
          refine goesO_release 45 100501 rfl rfl rfl ?_
          obtain ⟨x18, h19, H⟩ := bind_some H
          refine go2 (op_append rfl rfl at25 h19 (has rfl) (ReadsArg.own (.t (has rfl)))) rfl ?_
          refine go1 (op_fieldAddr rfl Try.underlying27 rfl tk25 (.t (has rfl))) rfl ?_
          refine goesO_by (fun a w hi => inv_boxw (fs' := [FA.k 0 (kint .i64) a0.Clock, FA.any 1 1]) 5 rfl (.keep (.head _) (.any (f := FA.rw 1 100501 (s12.2).length) (.tail _ (.head _)) .nil)) hi) ?_
          refine goesO_number 48 100501 rfl rfl rfl ?_
          refine go1 (op_storef_rw (K := kFile) (f := FA.any 1 1) (off := 1) (id := 5) [FA.k 0 (kint .i64) a0.Clock] [] tk25 rfl rfl rfl (.t (has rfl)) (has rfl) (.t (has rfl))) rfl ?_
          refine goesO_nil ?_
          refine ends_block ?_
          obtain rfl := Option.some.inj H
          exact ends_cut (.cons rfl (.cons rfl (.cons rfl (.cons rfl (.cons rfl (.cons rfl (.cons rfl (.cons rfl (.cons rfl (.cons rfl (.cons rfl .nil)))))))))))
        · skip
          refine goes_skip ?_
          refine ends_block ?_
          obtain rfl := Option.some.inj H
          exact ends_cut (.cons rfl (.cons rfl (.cons rfl (.cons rfl (.cons rfl (.cons rfl (.cons rfl (.cons rfl (.cons rfl (.cons rfl (.cons rfl .nil)))))))))))
      refine ends_then ?_
      refine goes_region ?_
      refine go1 (op_move rfl (.t (has rfl))) rfl ?_
      refine go1 (op_add rfl (.t (has rfl)) (.int _ _)) rfl ?_
      refine go1 (op_assign rfl (.t (has rfl))) rfl ?_
      refine goesO_nil ?_
      exact loop_next _ H (.cons rfl (.cons rfl (.cons rfl (.cons rfl (.cons rfl (.cons rfl (.cons rfl (.cons rfl (.cons rfl (.cons rfl (.cons rfl .nil)))))))))))
    · skip
      refine goes_exit (ends_then_exit (ends_then_exit (ends_block_exit ?_)))
      obtain rfl := Option.some.inj H
      exact ends_cut (.cons rfl (.cons rfl (.cons rfl (.cons rfl (.cons rfl (.cons rfl (.cons rfl (.cons rfl .nil))))))))
  refine ends_then ?_
  refine goes_seq ?_
  refine goes_seq ?_
  refine goes_region ?_
  refine go1 (op_move rfl (.t (has rfl))) rfl ?_
  refine go1 (op_not rfl (.t (has rfl))) rfl ?_
  refine goesO_nil ?_
  refine ends_then ?_
  obtain ⟨s20, h21, H⟩ := bind_some H
  refine goes_cut [Ent.t 4 (VA.ptr 4 0), Ent.t 5 (VA.ptr 5 0), Ent.h 4 (HE.box 27 kDisk zeroDisk), Ent.h 5 (HE.boxf 27 2 [FA.k 0 (kint .i64) a0.Clock, FA.rw 1 100501 (s20).length]), Ent.r 100501 47 kFile s20] ?_ ?_
  · replace H := h21; clear h21
    refine goes_if (.t (has rfl)) H (fun hb22 H => ?_) (fun hb22 H => ?_)
    · skip
      refine goes_region ?_
      refine go1 (op_fieldAddr rfl Try.underlying27 rfl tk25 (.t (has rfl))) rfl ?_
      refine go1 (op_loadf_rw (K := kFile) rfl tk25 (.t (has rfl)) (has rfl) (.tail _ (.head _))) rfl ?_
      refine go1 (op_load rfl (Fld.whole kFile) tk47 (.t (has rfl)) (has rfl)) rfl ?_
      refine go1 (op_buildSlice rfl at25 (fun h => by first | rfl | cases h) rfl rfl rfl (.cons (.t (has rfl)) (.nil _))) rfl ?_
      refine goesO_release 53 100501 rfl rfl rfl ?_
      obtain ⟨x23, h24, H⟩ := bind_some H
      refine go2 (op_append rfl rfl at25 h24 (has rfl) (ReadsArg.own (.t (has rfl)))) rfl ?_
      refine go1 (op_fieldAddr rfl Try.underlying27 rfl tk25 (.t (has rfl))) rfl ?_
      refine goesO_by (fun a w hi => inv_boxw (fs' := [FA.k 0 (kint .i64) a0.Clock, FA.any 1 1]) 5 rfl (.keep (.head _) (.any (f := FA.rw 1 100501 (s2.2).length) (.tail _ (.head _)) .nil)) hi) ?_
      refine goesO_number 56 100501 rfl rfl rfl ?_
      refine go1 (op_storef_rw (K := kFile) (f := FA.any 1 1) (off := 1) (id := 5) [FA.k 0 (kint .i64) a0.Clock] [] tk25 rfl rfl rfl (.t (has rfl)) (has rfl) (.t (has rfl))) rfl ?_
      refine goesO_nil ?_
      obtain rfl := Option.some.inj H
      exact ends_cut (.cons rfl (.cons rfl (.cons rfl (.cons rfl (.cons rfl .nil)))))
    · skip
      refine goes_skip ?_
      obtain rfl := Option.some.inj H
      exact ends_cut (.cons rfl (.cons rfl (.cons rfl (.cons rfl (.cons rfl .nil)))))
  refine ends_then ?_
  refine goes_seq ?_
  refine goes_region ?_
  refine goesO_by (fun a w hi => inv_settle_r' 100501 rfl rfl hi) ?_
  refine goesO_by (fun a w hi => inv_field_k' (xs := s20) 5 [FA.k 0 (kint .i64) a0.Clock] 1 100501 [] rfl rfl hi) ?_
  refine go1 (op_loadw (x := (⟨a0.Clock, s20⟩ : Disk)) rfl tk27 (.t (has rfl)) (has rfl) (.iso (.pair (la := [FA.k 0 (kint .i64) a0.Clock]) (lb := [FA.k 1 (kslice kFile) s20]) .leaf .leaf) rfl)) rfl ?_
  refine go1 (op_store (Fld.whole kDisk) tk27 (.t (has rfl)) (has rfl) (.t (has rfl))) rfl ?_
  refine goesO_nil ?_
  refine ends_then ?_
  obtain rfl := Option.some.inj H
  exact goes_ret (ends_ret' rfl rfl (.c rfl rfl tk27 (.nil _)))
/-! smithy/smithyref02.written -/
def smithyref02_written.f (k : Nat) (a0 : Disk) (a1 : ByteArray) (a2 : ByteArray) : Option (Disk × Int) := ((smithyref02_place.f k a0 a1).bind fun v3 => bif icmp .lss v3 (0 : Int) then (some (icmp .geq (a0.Files.length : Int) (256 : Int))) else (some false)).bind fun s1 => bif s1 then (some ((⟨(0 : Int), ([] : List File)⟩ : Disk), (22 : Int))) else (bif icmp .geq a0.Clock (1099511627776 : Int) then (some ((⟨(0 : Int), ([] : List File)⟩ : Disk), (23 : Int))) else ((smithyref02_laid.f k a0 (⟨a1, a2, IntKind.i64.wrap (a0.Clock + (1 : Int))⟩ : File)).bind fun v8 => some ({ v8 with Clock := IntKind.i64.wrap (a0.Clock + (1 : Int)) }, (0 : Int))))
set_option maxRecDepth 100000 in
set_option maxHeartbeats 4000000 in
theorem smithyref02_written.con (k : Nat) (a0 : Disk) (a1 : ByteArray) (a2 : ByteArray) (r : Disk × Int) (H : smithyref02_written.f k a0 a1 a2 = some r) : Con Try.prog 30 [VA.k kDisk a0, VA.k kstr a1, VA.k kstr a2] [VA.k kDisk r.1, VA.k (kint .i64) r.2] := by
  unfold smithyref02_written.f at H
  refine con_enter Try.func30 rfl rfl rfl (fun w0 S0 θ => ?_)
  refine goes_seq ?_
  refine goes_region ?_
  refine go3 (op_box 3 rfl (fun h => by first | rfl | cases h) (.t (has rfl))) rfl ?_
  refine go3 (op_alloc 6 rfl zk27) rfl ?_
  refine go1 (op_assign rfl (.int _ _)) rfl ?_
  refine goesO_nil ?_
  refine ends_then ?_
  refine goes_seq ?_
  refine goes_seq ?_
  obtain ⟨s1, h2, H⟩ := bind_some H
  refine goes_cut [Ent.t 1 (VA.k kstr a1), Ent.t 2 (VA.k kstr a2), Ent.t 3 (VA.ptr 3 0), Ent.t 6 (VA.ptr 6 0), Ent.t 18 (VA.k kbool s1), Ent.h 3 (HE.box 27 kDisk a0), Ent.h 6 (HE.box 27 kDisk zeroDisk)] ?_ ?_
  · replace H := h2; clear h2
    refine goes_region ?_
    refine go1 (op_load rfl (Fld.whole kDisk) tk27 (.t (has rfl)) (has rfl)) rfl ?_
    refine go1 (op_move rfl (.t (has rfl))) rfl ?_
    obtain ⟨v3, h4, H⟩ := bind_some H
    refine go1 (op_call' rfl enters45 (smithyref02_place.con _ _ _ _ h4) rfl (.cons (ArgP.k (.t (has rfl))) (.cons (ArgP.k (.t (has rfl))) .nil))) rfl ?_
    refine go1 (op_icmp rfl rfl (.t (has rfl)) (.int _ _)) rfl ?_
    refine go1 (op_move rfl (.t (has rfl))) rfl ?_
    refine goesO_split H (fun hb5 H => ?_) (fun hb5 H => ?_)
    · skip
      refine goG (op_fieldAddr rfl Try.underlying27 rfl tk25 (.t (has rfl))) rfl rfl rfl rfl hb5 ?_
      refine goG (op_load rfl fldDisk_Files tk25 (.t (has rfl)) (has rfl)) rfl rfl rfl rfl hb5 ?_
      refine goG (op_len rfl rfl Try.underlying25 (.t (has rfl))) rfl rfl rfl rfl hb5 ?_
      refine goG (op_icmp rfl rfl (.t (has rfl)) (.int _ _)) rfl rfl rfl rfl hb5 ?_
      refine go1 (op_pick_t rfl hb5 (.t (has rfl)) (.t (has rfl))) rfl ?_
      refine goesO_nil ?_
      obtain rfl := Option.some.inj H
      exact ends_cut (.cons rfl (.cons rfl (.cons rfl (.cons rfl (.cons rfl (.cons rfl (.cons rfl .nil)))))))
    · skip
      refine goS rfl rfl rfl rfl rfl rfl hb5 ?_
      refine goS rfl rfl rfl rfl rfl rfl hb5 ?_
      refine goS rfl rfl rfl rfl rfl rfl hb5 ?_
      refine goS rfl rfl rfl rfl rfl rfl hb5 ?_
      refine go1 (op_pick_f rfl hb5 (.t (has rfl)) (.bool _)) rfl ?_
      refine goesO_nil ?_
      obtain rfl := Option.some.inj H
      exact ends_cut (.cons rfl (.cons rfl (.cons rfl (.cons rfl (.cons rfl (.cons rfl (.cons rfl .nil)))))))
  refine ends_then ?_
  refine goes_if (.t (has rfl)) H (fun hb6 H => ?_) (fun hb6 H => ?_)
  · skip
    refine goes_seq ?_
    refine goes_region ?_
    refine go1 (op_build (pl := [(0, 1), (1, 1)]) rfl rfl Try.underlying27 (by kernel_rfl) zk27 (.nil _)) rfl ?_
    refine go1 (op_store (Fld.whole kDisk) tk27 (.t (has rfl)) (has rfl) (.t (has rfl))) rfl ?_
    refine go1 (op_assign rfl (.int _ _)) rfl ?_
    refine goesO_nil ?_
    refine ends_then ?_
    obtain rfl := Option.some.inj H
    exact goes_ret (ends_then_ret (ends_ret' rfl rfl (.c rfl rfl tk27 (.t rfl (.nil _)))))
  · skip
    refine goes_skip ?_
    refine ends_then ?_
    refine goes_seq ?_
    refine goes_seq ?_
    refine goes_region ?_
    refine go1 (op_fieldAddr rfl Try.underlying27 rfl tk3 (.t (has rfl))) rfl ?_
    refine go1 (op_load rfl fldDisk_Clock tk3 (.t (has rfl)) (has rfl)) rfl ?_
    refine go1 (op_icmp rfl rfl (.t (has rfl)) (.int _ _)) rfl ?_
    refine goesO_nil ?_
    refine ends_then ?_
    refine goes_if (.t (has rfl)) H (fun hb7 H => ?_) (fun hb7 H => ?_)
    · skip
      refine goes_seq ?_
      refine goes_region ?_
      refine go1 (op_build (pl := [(0, 1), (1, 1)]) rfl rfl Try.underlying27 (by kernel_rfl) zk27 (.nil _)) rfl ?_
      refine go1 (op_store (Fld.whole kDisk) tk27 (.t (has rfl)) (has rfl) (.t (has rfl))) rfl ?_
      refine go1 (op_assign rfl (.int _ _)) rfl ?_
      refine goesO_nil ?_
      refine ends_then ?_
      obtain rfl := Option.some.inj H
      exact goes_ret (ends_then_ret (ends_ret' rfl rfl (.c rfl rfl tk27 (.t rfl (.nil _)))))
    · skip
      refine goes_skip ?_
      refine ends_then ?_
      refine goes_seq ?_
      refine goes_region ?_
      refine go1 (op_load rfl (Fld.whole kDisk) tk27 (.t (has rfl)) (has rfl)) rfl ?_
      refine go1 (op_move rfl (.t (has rfl))) rfl ?_
      refine go1 (op_move rfl (.t (has rfl))) rfl ?_
      refine go1 (op_fieldAddr rfl Try.underlying27 rfl tk3 (.t (has rfl))) rfl ?_
      refine go1 (op_load rfl fldDisk_Clock tk3 (.t (has rfl)) (has rfl)) rfl ?_
      refine go1 (op_add rfl (.t (has rfl)) (.int _ _)) rfl ?_
      refine go1 (op_build (pl := [(0, 1), (1, 1), (2, 1)]) rfl rfl Try.underlying47 (by kernel_rfl) zk47 (.cons rfl tk9 fldFile_Name (.t (has rfl)) (.cons rfl tk9 fldFile_Text (.t (has rfl)) (.cons rfl tk3 fldFile_Stamp (.t (has rfl)) (.nil _))))) rfl ?_
      obtain ⟨v8, h9, H⟩ := bind_some H
      refine go1 (op_call' rfl enters46 (smithyref02_laid.con _ _ _ _ h9) rfl (.cons (ArgP.k (.t (has rfl))) (.cons (ArgP.k (.t (has rfl))) .nil))) rfl ?_
      refine go3 (op_alloc 8 rfl zk27) rfl ?_
      refine go1 (op_store (Fld.whole kDisk) tk27 (.t (has rfl)) (has rfl) (.t (has rfl))) rfl ?_
      refine goesO_nil ?_
      refine ends_then ?_
      refine goes_seq ?_
      refine goes_region ?_
      refine go1 (op_fieldAddr rfl Try.underlying27 rfl tk3 (.t (has rfl))) rfl ?_
      refine go1 (op_load rfl fldDisk_Clock tk3 (.t (has rfl)) (has rfl)) rfl ?_
      refine go1 (op_add rfl (.t (has rfl)) (.int _ _)) rfl ?_
      refine go1 (op_fieldAddr rfl Try.underlying27 rfl tk3 (.t (has rfl))) rfl ?_
      refine go1 (op_store fldDisk_Clock tk3 (.t (has rfl)) (has rfl) (.t (has rfl))) rfl ?_
      refine goesO_nil ?_
      refine ends_then ?_
      refine goes_seq ?_
      refine goes_region ?_
      refine go1 (op_load rfl (Fld.whole kDisk) tk27 (.t (has rfl)) (has rfl)) rfl ?_
      refine go1 (op_store (Fld.whole kDisk) tk27 (.t (has rfl)) (has rfl) (.t (has rfl))) rfl ?_
      refine go1 (op_assign rfl (.int _ _)) rfl ?_
      refine goesO_nil ?_
      refine ends_then ?_
      obtain rfl := Option.some.inj H
      exact goes_ret (ends_ret' rfl rfl (.c rfl rfl tk27 (.t rfl (.nil _))))
/-! smithy/smithyref02.Write -/
def smithyref02_Write.f (k : Nat) (a0 : Disk) (a1 : ByteArray) (a2 : ByteArray) : Option (Disk × Int) := (smithyref02_fit.f k a0 a1).bind fun v1 => bif icmp .neq v1 (0 : Int) then (some ((⟨(0 : Int), ([] : List File)⟩ : Disk), v1)) else (bif icmp .gtr (a2.size : Int) (4096 : Int) then (some ((⟨(0 : Int), ([] : List File)⟩ : Disk), (20 : Int))) else ((smithyref02_written.f k a0 a1 a2).bind fun v5 => some (v5.1, v5.2)))
set_option maxRecDepth 100000 in
set_option maxHeartbeats 4000000 in
theorem smithyref02_Write.con (k : Nat) (a0 : Disk) (a1 : ByteArray) (a2 : ByteArray) (r : Disk × Int) (H : smithyref02_Write.f k a0 a1 a2 = some r) : Con Try.prog 19 [VA.k kDisk a0, VA.k kstr a1, VA.k kstr a2] [VA.k kDisk r.1, VA.k (kint .i64) r.2] := by
  unfold smithyref02_Write.f at H
  refine con_enter Try.func19 rfl rfl rfl (fun w0 S0 θ => ?_)
  refine goes_seq ?_
  refine goes_region ?_
  refine go3 (op_box 3 rfl (fun h => by first | rfl | cases h) (.t (has rfl))) rfl ?_
  refine go3 (op_alloc 6 rfl zk27) rfl ?_
  refine go1 (op_assign rfl (.int _ _)) rfl ?_
  refine goesO_nil ?_
  refine ends_then ?_
  refine goes_seq ?_
  refine goes_region ?_
  refine go1 (op_load rfl (Fld.whole kDisk) tk27 (.t (has rfl)) (has rfl)) rfl ?_
  refine go1 (op_move rfl (.t (has rfl))) rfl ?_
  obtain ⟨v1, h2, H⟩ := bind_some H
  refine go1 (op_call' rfl enters29 (smithyref02_fit.con _ _ _ _ h2) rfl (.cons (ArgP.k (.t (has rfl))) (.cons (ArgP.k (.t (has rfl))) .nil))) rfl ?_
  refine go1 (op_assign rfl (.t (has rfl))) rfl ?_
  refine goesO_nil ?_
  refine ends_then ?_
  refine goes_seq ?_
  refine goes_seq ?_
  refine goes_region ?_
  refine go1 (op_move rfl (.t (has rfl))) rfl ?_
  refine go1 (op_icmp rfl rfl (.t (has rfl)) (.int _ _)) rfl ?_
  refine goesO_nil ?_
  refine ends_then ?_
  refine goes_if (.t (has rfl)) H (fun hb3 H => ?_) (fun hb3 H => ?_)
  · skip
    refine goes_seq ?_
    refine goes_region ?_
    refine go1 (op_build (pl := [(0, 1), (1, 1)]) rfl rfl Try.underlying27 (by kernel_rfl) zk27 (.nil _)) rfl ?_
    refine go1 (op_move rfl (.t (has rfl))) rfl ?_
    refine go1 (op_store (Fld.whole kDisk) tk27 (.t (has rfl)) (has rfl) (.t (has rfl))) rfl ?_
    refine go1 (op_assign rfl (.t (has rfl))) rfl ?_
    refine goesO_nil ?_
    refine ends_then ?_
    obtain rfl := Option.some.inj H
    exact goes_ret (ends_then_ret (ends_ret' rfl rfl (.c rfl rfl tk27 (.t rfl (.nil _)))))
  · skip
    refine goes_skip ?_
    refine ends_then ?_
    refine goes_seq ?_
    refine goes_seq ?_
    refine goes_region ?_
    refine go1 (op_move rfl (.t (has rfl))) rfl ?_
    refine go1 (op_len_str rfl rfl Try.underlying9 (.t (has rfl))) rfl ?_
    refine go1 (op_icmp rfl rfl (.t (has rfl)) (.int _ _)) rfl ?_
    refine goesO_nil ?_
    refine ends_then ?_
    refine goes_if (.t (has rfl)) H (fun hb4 H => ?_) (fun hb4 H => ?_)
    · skip
      refine goes_seq ?_
      refine goes_region ?_
      refine go1 (op_build (pl := [(0, 1), (1, 1)]) rfl rfl Try.underlying27 (by kernel_rfl) zk27 (.nil _)) rfl ?_
      refine go1 (op_store (Fld.whole kDisk) tk27 (.t (has rfl)) (has rfl) (.t (has rfl))) rfl ?_
      refine go1 (op_assign rfl (.int _ _)) rfl ?_
      refine goesO_nil ?_
      refine ends_then ?_
      obtain rfl := Option.some.inj H
      exact goes_ret (ends_then_ret (ends_ret' rfl rfl (.c rfl rfl tk27 (.t rfl (.nil _)))))
    · skip
      refine goes_skip ?_
      refine ends_then ?_
      refine goes_seq ?_
      refine goes_region ?_
      refine go1 (op_load rfl (Fld.whole kDisk) tk27 (.t (has rfl)) (has rfl)) rfl ?_
      refine go1 (op_move rfl (.t (has rfl))) rfl ?_
      refine go1 (op_move rfl (.t (has rfl))) rfl ?_
      obtain ⟨v5, h6, H⟩ := bind_some H
      refine goN (op_calls' rfl enters30 (smithyref02_written.con _ _ _ _ _ h6) rfl rfl (.cons (ArgP.k (.t (has rfl))) (.cons (ArgP.k (.t (has rfl))) (.cons (ArgP.k (.t (has rfl))) .nil)))) rfl ?_
      refine go1 (op_extract rfl plain_k (has rfl)) rfl ?_
      refine go1 (op_extract rfl plain_k (has rfl)) rfl ?_
      refine go1 (op_store (Fld.whole kDisk) tk27 (.t (has rfl)) (has rfl) (.t (has rfl))) rfl ?_
      refine go1 (op_assign rfl (.t (has rfl))) rfl ?_
      refine goesO_nil ?_
      refine ends_then ?_
      obtain rfl := Option.some.inj H
      exact goes_ret (ends_ret' rfl rfl (.c rfl rfl tk27 (.t rfl (.nil _))))
/-! smithy/smithylaw13.StaleMore -/
def smithylaw13_StaleMore.f (k : Nat) (a0 : Law13Case) (a1 : ByteArray) : Option Bool := (stale_Is.f k a0.N a0.D a0.Made).bind fun v1 => (bif icmp .neq v1.2 (0 : Int) then (some true) else (some (!v1.1))).bind fun s3 => bif s3 then ((smithylaw13_small.f k).bind fun v7 => some v7) else ((app 16 a0.N.Needs ([a1])).bind fun x9 => (stale_Is.f k ({ a0.N with Needs := x9 }) a0.D a0.Made).bind fun v11 => ((smithyref12_Node.f k ({ a0.N with Needs := x9 })).bind fun v15 => bif icmp .eql v15 (0 : Int) then (bif icmp .neq v11.2 (0 : Int) then (some true) else (some (!v11.1))) else (some false)).bind fun s13 => bif s13 then (some false) else ((app 16 a0.Made ([a1])).bind fun x20 => (stale_Is.f k a0.N a0.D x20).bind fun v22 => (bif icmp .eql v22.2 (0 : Int) then (some (!v22.1)) else (some false)).bind fun s24 => bif s24 then (some false) else ((smithyref03_Has.f k a0.N.Needs a1).bind fun v28 => bif !v28 then ((smithylaw13_small.f k).bind fun v31 => some v31) else ((smithyref02_Write.f k a0.D a1 (⟨#[]⟩ : ByteArray)).bind fun v33 => bif icmp .neq v33.2 (0 : Int) then ((smithylaw13_small.f k).bind fun v36 => some v36) else ((stale_Is.f k a0.N v33.1 a0.Made).bind fun v38 => (bif icmp .eql v38.2 (0 : Int) then (bif v38.1 then ((smithylaw13_small.f k).bind fun v44 => some v44) else (bif scmp .eql a1 a0.N.Target then ((smithylaw13_small.f k).bind fun v47 => some v47) else (some false))) else (some false)).bind fun s40 => some s40)))))
set_option maxRecDepth 100000 in
set_option maxHeartbeats 4000000 in
theorem smithylaw13_StaleMore.con (k : Nat) (a0 : Law13Case) (a1 : ByteArray) (r : Bool) (H : smithylaw13_StaleMore.f k a0 a1 = some r) : Con Try.prog 5 [VA.k kLaw13Case a0, VA.k kstr a1] [VA.k kbool r] := by
  unfold smithylaw13_StaleMore.f at H
  refine con_enter Try.func5 rfl rfl rfl (fun w0 S0 θ => ?_)
  refine goes_seq ?_
  refine goes_region ?_
  refine go3 (op_box 2 rfl (fun h => by first | rfl | cases h) (.t (has rfl))) rfl ?_
  refine go1 (op_assign rfl (.bool _)) rfl ?_
  refine goesO_nil ?_
  refine ends_then ?_
  refine goes_seq ?_
  refine goes_region ?_
  refine go1 (op_fieldAddr rfl Try.underlying29 rfl tk24 (.t (has rfl))) rfl ?_
  refine go1 (op_load rfl fldLaw13Case_N tk24 (.t (has rfl)) (has rfl)) rfl ?_
  refine go1 (op_fieldAddr rfl Try.underlying29 rfl tk27 (.t (has rfl))) rfl ?_
  refine go1 (op_load rfl fldLaw13Case_D tk27 (.t (has rfl)) (has rfl)) rfl ?_
  refine go1 (op_fieldAddr rfl Try.underlying29 rfl tk22 (.t (has rfl))) rfl ?_
  refine go1 (op_load rfl fldLaw13Case_Made tk22 (.t (has rfl)) (has rfl)) rfl ?_
  obtain ⟨v1, h2, H⟩ := bind_some H
  refine goN (op_calls' rfl enters10 (stale_Is.con _ _ _ _ _ h2) rfl rfl (.cons (ArgP.k (.t (has rfl))) (.cons (ArgP.k (.t (has rfl))) (.cons (ArgP.k (.t (has rfl))) .nil)))) rfl ?_
  refine go1 (op_same (.inl rfl) rfl rfl) rfl ?_
  refine go1 (op_extract_same rfl plain_k (has rfl) (has rfl)) rfl ?_
  refine go1 (op_extract_same rfl plain_k (has rfl) (has rfl)) rfl ?_
  refine go1 (op_assign rfl (.t (has rfl))) rfl ?_
  refine go1 (op_assign rfl (.t (has rfl))) rfl ?_
  refine goesO_nil ?_
  refine ends_then ?_
  refine goes_seq ?_
  refine goes_seq ?_
  obtain ⟨s3, h4, H⟩ := bind_some H
  refine goes_cut [Ent.t 1 (VA.k kstr a1), Ent.t 2 (VA.ptr 2 0), Ent.t 31 (VA.k kbool s3), Ent.h 2 (HE.box 29 kLaw13Case a0)] ?_ ?_
  · replace H := h4; clear h4
    refine goes_region ?_
    refine go1 (op_move rfl (.t (has rfl))) rfl ?_
    refine go1 (op_icmp rfl rfl (.t (has rfl)) (.int _ _)) rfl ?_
    refine go1 (op_move rfl (.t (has rfl))) rfl ?_
    refine goesO_split H (fun hb5 H => ?_) (fun hb5 H => ?_)
    · skip
      refine goS rfl rfl rfl rfl rfl rfl hb5 ?_
      refine goS rfl rfl rfl rfl rfl rfl hb5 ?_
      refine go1 (op_pick_t rfl hb5 (.t (has rfl)) (.bool _)) rfl ?_
      refine goesO_nil ?_
      obtain rfl := Option.some.inj H
      exact ends_cut (.cons rfl (.cons rfl (.cons rfl (.cons rfl .nil))))
    · skip
      refine goG (op_move rfl (.t (has rfl))) rfl rfl rfl rfl hb5 ?_
      refine goG (op_not rfl (.t (has rfl))) rfl rfl rfl rfl hb5 ?_
      refine go1 (op_pick_f rfl hb5 (.t (has rfl)) (.t (has rfl))) rfl ?_
      refine goesO_nil ?_
      obtain rfl := Option.some.inj H
      exact ends_cut (.cons rfl (.cons rfl (.cons rfl (.cons rfl .nil))))
  refine ends_then ?_
  refine goes_if (.t (has rfl)) H (fun hb6 H => ?_) (fun hb6 H => ?_)
  · skip
    refine goes_seq ?_
    refine goes_region ?_
    obtain ⟨v7, h8, H⟩ := bind_some H
    refine go1 (op_call' rfl enters15 (smithylaw13_small.con _  _ h8) rfl .nil) rfl ?_
    refine go1 (op_assign rfl (.t (has rfl))) rfl ?_
    refine goesO_nil ?_
    refine ends_then ?_
    obtain rfl := Option.some.inj H
    exact goes_ret (ends_then_ret (ends_ret' rfl rfl (.t rfl (.nil _))))
  · skip
    refine goes_skip ?_
    refine ends_then ?_
    refine goes_seq ?_
    refine goes_region ?_
    refine go1 (op_fieldAddr rfl Try.underlying29 rfl tk24 (.t (has rfl))) rfl ?_
    refine go1 (op_load rfl fldLaw13Case_N tk24 (.t (has rfl)) (has rfl)) rfl ?_
    refine go3 (op_alloc 7 rfl zk24) rfl ?_
    refine go1 (op_store (Fld.whole kNode) tk24 (.t (has rfl)) (has rfl) (.t (has rfl))) rfl ?_
    refine goesO_nil ?_
    refine ends_then ?_
    refine goes_seq ?_
    refine goes_region ?_
    refine go1 (op_fieldAddr rfl Try.underlying24 rfl tk22 (.t (has rfl))) rfl ?_
    refine go1 (op_load rfl fldNode_Needs tk22 (.t (has rfl)) (has rfl)) rfl ?_
    refine go1 (op_fieldAddr rfl Try.underlying24 rfl tk22 (.t (has rfl))) rfl ?_
    refine go1 (op_load rfl fldNode_Needs tk22 (.t (has rfl)) (has rfl)) rfl ?_
    refine go1 (op_len rfl rfl Try.underlying22 (.t (has rfl))) rfl ?_
    refine go1 (op_fieldAddr rfl Try.underlying24 rfl tk22 (.t (has rfl))) rfl ?_
    refine go1 (op_load rfl fldNode_Needs tk22 (.t (has rfl)) (has rfl)) rfl ?_
    refine go1 (op_len rfl rfl Try.underlying22 (.t (has rfl))) rfl ?_
    refine go1 (op_slice3 rfl Try.underlying22 tk9 (.t (has rfl)) (.t (has rfl)) (.t (has rfl))) rfl ?_
    refine go1 (op_move rfl (.t (has rfl))) rfl ?_
    refine go1 (op_buildSlice rfl at22 (fun h => by first | rfl | cases h) rfl rfl rfl (.cons (.t (has rfl)) (.nil _))) rfl ?_
    obtain ⟨x9, h10, H⟩ := bind_some H
    refine go1 (op_append_kc rfl at22 h10 (by exact Nat.succ_pos _) (.t (has rfl)) (ReadsArg.own (.t (has rfl)))) rfl ?_
    refine go1 (op_fieldAddr rfl Try.underlying24 rfl tk22 (.t (has rfl))) rfl ?_
    refine goesO_settle 46 rfl rfl ?_
    refine go1 (op_store fldNode_Needs tk22 (.t (has rfl)) (has rfl) (.t (has rfl))) rfl ?_
    refine goesO_nil ?_
    refine ends_then ?_
    refine goes_seq ?_
    refine goes_region ?_
    refine go1 (op_load rfl (Fld.whole kNode) tk24 (.t (has rfl)) (has rfl)) rfl ?_
    refine go1 (op_fieldAddr rfl Try.underlying29 rfl tk27 (.t (has rfl))) rfl ?_
    refine go1 (op_load rfl fldLaw13Case_D tk27 (.t (has rfl)) (has rfl)) rfl ?_
    refine go1 (op_fieldAddr rfl Try.underlying29 rfl tk22 (.t (has rfl))) rfl ?_
    refine go1 (op_load rfl fldLaw13Case_Made tk22 (.t (has rfl)) (has rfl)) rfl ?_
    obtain ⟨v11, h12, H⟩ := bind_some H
    refine goN (op_calls' rfl enters10 (stale_Is.con _ _ _ _ _ h12) rfl rfl (.cons (ArgP.k (.t (has rfl))) (.cons (ArgP.k (.t (has rfl))) (.cons (ArgP.k (.t (has rfl))) .nil)))) rfl ?_
    refine go1 (op_same (.inl rfl) rfl rfl) rfl ?_
    refine go1 (op_extract_same rfl plain_k (has rfl) (has rfl)) rfl ?_
    refine go1 (op_extract_same rfl plain_k (has rfl) (has rfl)) rfl ?_
    refine go1 (op_assign rfl (.t (has rfl))) rfl ?_
    refine go1 (op_assign rfl (.t (has rfl))) rfl ?_
    refine goesO_nil ?_
    refine ends_then ?_
    refine goes_seq ?_
    refine goes_seq ?_
    obtain ⟨s13, h14, H⟩ := bind_some H
    refine goes_cut [Ent.t 1 (VA.k kstr a1), Ent.t 2 (VA.ptr 2 0), Ent.t 67 (VA.k kbool s13), Ent.h 2 (HE.box 29 kLaw13Case a0)] ?_ ?_
    · replace H := h14; clear h14
      refine goes_region ?_
      refine go1 (op_load rfl (Fld.whole kNode) tk24 (.t (has rfl)) (has rfl)) rfl ?_
      obtain ⟨v15, h16, H⟩ := bind_some H
      refine go1 (op_call' rfl enters18 (smithyref12_Node.con _ _ _ h16) rfl (.cons (ArgP.k (.t (has rfl))) .nil)) rfl ?_
      refine go1 (op_icmp rfl rfl (.t (has rfl)) (.int _ _)) rfl ?_
      refine go1 (op_move rfl (.t (has rfl))) rfl ?_
      refine goesO_split H (fun hb17 H => ?_) (fun hb17 H => ?_)
      · skip
        refine goG (op_move rfl (.t (has rfl))) rfl rfl rfl rfl hb17 ?_
        refine goG (op_icmp rfl rfl (.t (has rfl)) (.int _ _)) rfl rfl rfl rfl hb17 ?_
        refine goG (op_move rfl (.t (has rfl))) rfl rfl rfl rfl hb17 ?_
        refine goesO_split H (fun hb18 H => ?_) (fun hb18 H => ?_)
        · skip
          refine goS rfl rfl rfl rfl rfl rfl hb18 ?_
          refine goS rfl rfl rfl rfl rfl rfl hb18 ?_
          refine goG (op_pick_t rfl hb18 (.t (has rfl)) (.bool _)) rfl rfl rfl rfl hb17 ?_
          refine go1 (op_pick_t rfl hb17 (.t (has rfl)) (.t (has rfl))) rfl ?_
          refine goesO_nil ?_
          obtain rfl := Option.some.inj H
          exact ends_cut (.cons rfl (.cons rfl (.cons rfl (.cons rfl .nil))))
        · skip
          refine goG (op_move rfl (.t (has rfl))) rfl rfl rfl rfl hb18 ?_
          refine goG (op_not rfl (.t (has rfl))) rfl rfl rfl rfl hb18 ?_
          refine goG (op_pick_f rfl hb18 (.t (has rfl)) (.t (has rfl))) rfl rfl rfl rfl hb17 ?_
          refine go1 (op_pick_t rfl hb17 (.t (has rfl)) (.t (has rfl))) rfl ?_
          refine goesO_nil ?_
          obtain rfl := Option.some.inj H
          exact ends_cut (.cons rfl (.cons rfl (.cons rfl (.cons rfl .nil))))
      · skip
        refine goS rfl rfl rfl rfl rfl rfl hb17 ?_
        refine goS rfl rfl rfl rfl rfl rfl hb17 ?_
        refine goS rfl rfl rfl rfl rfl rfl hb17 ?_
        refine goSU rfl rfl rfl rfl rfl rfl ?_
        refine goSU rfl rfl rfl rfl rfl rfl ?_
        refine goS rfl rfl rfl rfl rfl rfl hb17 ?_
        refine go1 (op_pick_f rfl hb17 (.t (has rfl)) (.bool _)) rfl ?_
        refine goesO_nil ?_
        obtain rfl := Option.some.inj H
        exact ends_cut (.cons rfl (.cons rfl (.cons rfl (.cons rfl .nil))))
    refine ends_then ?_
    refine goes_if (.t (has rfl)) H (fun hb19 H => ?_) (fun hb19 H => ?_)
    · skip
      refine goes_seq ?_
      refine goes_region ?_
      refine go1 (op_assign rfl (.bool _)) rfl ?_
      refine goesO_nil ?_
      refine ends_then ?_
      obtain rfl := Option.some.inj H
      exact goes_ret (ends_then_ret (ends_ret' rfl rfl (.t rfl (.nil _))))
    · skip
      refine goes_skip ?_
      refine ends_then ?_
      refine goes_seq ?_
      obtain ⟨x20, h21, H⟩ := bind_some H
      obtain ⟨v22, h23, H⟩ := bind_some H
      refine goes_drawn [[Ent.t 69 (VA.ptr 2 0)], [Ent.t 70 (VA.k kNode a0.N)], [Ent.t 71 (VA.ptr 2 10)], [Ent.t 72 (VA.k kDisk a0.D)], [Ent.t 73 (VA.ptr 2 12)], [Ent.t 74 (VA.k (kslice kstr) a0.Made)], [Ent.t 75 (VA.ptr 2 12)], [Ent.t 76 (VA.k (kslice kstr) a0.Made)], [Ent.t 77 (VA.k (kint .i64) (a0.Made.length : Int))], [Ent.t 78 (VA.ptr 2 12)], [Ent.t 79 (VA.k (kslice kstr) a0.Made)], [Ent.t 80 (VA.k (kint .i64) (a0.Made.length : Int))], [Ent.t 81 (VA.kc kstr a0.Made)], [Ent.t 82 (VA.k kstr a1)], [Ent.t 83 (VA.own 9 kstr ([a1]))], [Ent.t 84 (VA.own 9 kstr x20)], [Ent.c 85 0 (VA.k kbool v22.1), Ent.c 85 1 (VA.k (kint .i64) v22.2), Ent.t 85 (VA.any)], [Ent.same 68 85], [Ent.t 86 (VA.k kbool v22.1)], [Ent.t 87 (VA.k (kint .i64) v22.2)], [Ent.t 10 (VA.k kbool v22.1)], [Ent.t 11 (VA.k (kint .i64) v22.2)]] mixed (by kernel_rfl) (by kernel_rfl) (.cons [(none, Ent.t 2 (VA.ptr 2 0))] (OpSpec.run rfl rfl (op_fieldAddr rfl Try.underlying29 rfl tk24 (.t NL.h0)) rfl) (.cons (has rfl) .nil) (by kernel_rfl) (.cons [(some 0, Ent.t 69 (VA.ptr 2 0)), (none, Ent.h 2 (HE.box 29 kLaw13Case a0))] (OpSpec.run rfl rfl (op_load rfl fldLaw13Case_N tk24 (.t NL.h0) (NL.hs NL.h0)) rfl) (.cons (has rfl) (.cons (has rfl) .nil)) (by kernel_rfl) (.cons [(none, Ent.t 2 (VA.ptr 2 0))] (OpSpec.run rfl rfl (op_fieldAddr rfl Try.underlying29 rfl tk27 (.t NL.h0)) rfl) (.cons (has rfl) .nil) (by kernel_rfl) (.cons [(some 2, Ent.t 71 (VA.ptr 2 10)), (none, Ent.h 2 (HE.box 29 kLaw13Case a0))] (OpSpec.run rfl rfl (op_load rfl fldLaw13Case_D tk27 (.t NL.h0) (NL.hs NL.h0)) rfl) (.cons (has rfl) (.cons (has rfl) .nil)) (by kernel_rfl) (.cons [(none, Ent.t 2 (VA.ptr 2 0))] (OpSpec.run rfl rfl (op_fieldAddr rfl Try.underlying29 rfl tk22 (.t NL.h0)) rfl) (.cons (has rfl) .nil) (by kernel_rfl) (.cons [(some 4, Ent.t 73 (VA.ptr 2 12)), (none, Ent.h 2 (HE.box 29 kLaw13Case a0))] (OpSpec.run rfl rfl (op_load rfl fldLaw13Case_Made tk22 (.t NL.h0) (NL.hs NL.h0)) rfl) (.cons (has rfl) (.cons (has rfl) .nil)) (by kernel_rfl) (.cons [(none, Ent.t 2 (VA.ptr 2 0))] (OpSpec.run rfl rfl (op_fieldAddr rfl Try.underlying29 rfl tk22 (.t NL.h0)) rfl) (.cons (has rfl) .nil) (by kernel_rfl) (.cons [(some 6, Ent.t 75 (VA.ptr 2 12)), (none, Ent.h 2 (HE.box 29 kLaw13Case a0))] (OpSpec.run rfl rfl (op_load rfl fldLaw13Case_Made tk22 (.t NL.h0) (NL.hs NL.h0)) rfl) (.cons (has rfl) (.cons (has rfl) .nil)) (by kernel_rfl) (.cons [(some 7, Ent.t 76 (VA.k (kslice kstr) a0.Made))] (OpSpec.run rfl rfl (op_len rfl rfl Try.underlying22 (.t NL.h0)) rfl) (.cons (has rfl) .nil) (by kernel_rfl) (.cons [(none, Ent.t 2 (VA.ptr 2 0))] (OpSpec.run rfl rfl (op_fieldAddr rfl Try.underlying29 rfl tk22 (.t NL.h0)) rfl) (.cons (has rfl) .nil) (by kernel_rfl) (.cons [(some 9, Ent.t 78 (VA.ptr 2 12)), (none, Ent.h 2 (HE.box 29 kLaw13Case a0))] (OpSpec.run rfl rfl (op_load rfl fldLaw13Case_Made tk22 (.t NL.h0) (NL.hs NL.h0)) rfl) (.cons (has rfl) (.cons (has rfl) .nil)) (by kernel_rfl) (.cons [(some 10, Ent.t 79 (VA.k (kslice kstr) a0.Made))] (OpSpec.run rfl rfl (op_len rfl rfl Try.underlying22 (.t NL.h0)) rfl) (.cons (has rfl) .nil) (by kernel_rfl) (.cons [(some 5, Ent.t 74 (VA.k (kslice kstr) a0.Made)), (some 8, Ent.t 77 (VA.k (kint .i64) (a0.Made.length : Int))), (some 11, Ent.t 80 (VA.k (kint .i64) (a0.Made.length : Int)))] (OpSpec.run rfl rfl (op_slice3 rfl Try.underlying22 tk9 (.t NL.h0) (.t (NL.hs NL.h0)) (.t (NL.hs (NL.hs NL.h0)))) rfl) (.cons (has rfl) (.cons (has rfl) (.cons (has rfl) .nil))) (by kernel_rfl) (.cons [(none, Ent.t 1 (VA.k kstr a1))] (OpSpec.run rfl rfl (op_move rfl (.t NL.h0)) rfl) (.cons (has rfl) .nil) (by kernel_rfl) (.cons [(some 13, Ent.t 82 (VA.k kstr a1))] (OpSpec.run rfl rfl (op_buildSlice rfl at22 (fun h => by first | rfl | cases h) rfl rfl rfl (.cons (.t NL.h0) (.nil _))) rfl) (.cons (has rfl) .nil) (by kernel_rfl) (.cons [(some 14, Ent.t 83 (VA.own 9 kstr ([a1]))), (some 12, Ent.t 81 (VA.kc kstr a0.Made))] (OpSpec.run rfl rfl (op_append_kc rfl at22 h21 (by exact Nat.succ_pos _) (.t (NL.hs NL.h0)) (ReadsArg.own (.t NL.h0))) rfl) (.cons (has rfl) (.cons (has rfl) .nil)) (by kernel_rfl) (.cons [(some 1, Ent.t 70 (VA.k kNode a0.N)), (some 3, Ent.t 72 (VA.k kDisk a0.D)), (some 15, Ent.t 84 (VA.own 9 kstr x20))] (OpSpec.run rfl rfl (op_callsF' rfl enters10 (stale_Is.conF _ _ _ _ _ h23) rfl rfl (.cons (ArgB.k (.t NL.h0)) (.cons (ArgB.k (.t (NL.hs NL.h0))) (.cons (ArgB.own rfl (NL.hs (NL.hs NL.h0))) .nil)))) rfl) (.cons (has rfl) (.cons (has rfl) (.cons (has rfl) .nil))) (by kernel_rfl) (.cons [(some 16, Ent.t 85 (VA.any))] (OpSpec.run rfl rfl (op_same (.inl rfl) rfl rfl) rfl) (.cons (has rfl) .nil) (by kernel_rfl) (.cons [(some 17, Ent.same 68 85), (some 16, Ent.c 85 0 (VA.k kbool v22.1))] (OpSpec.run rfl rfl (op_extract_same rfl plain_k NL.h0 (NL.hs NL.h0)) rfl) (.cons (has rfl) (.cons (has rfl) .nil)) (by kernel_rfl) (.cons [(some 17, Ent.same 68 85), (some 16, Ent.c 85 1 (VA.k (kint .i64) v22.2))] (OpSpec.run rfl rfl (op_extract_same rfl plain_k NL.h0 (NL.hs NL.h0)) rfl) (.cons (has rfl) (.cons (has rfl) .nil)) (by kernel_rfl) (.cons [(some 18, Ent.t 86 (VA.k kbool v22.1))] (OpSpec.run rfl rfl (op_assign rfl (.t NL.h0)) rfl) (.cons (has rfl) .nil) (by kernel_rfl) (.cons [(some 19, Ent.t 87 (VA.k (kint .i64) v22.2))] (OpSpec.run rfl rfl (op_assign rfl (.t NL.h0)) rfl) (.cons (has rfl) .nil) (by kernel_rfl) (.nil _))))))))))))))))))))))) ?_
      refine ends_sub [Ent.t 1 (VA.k kstr a1), Ent.t 2 (VA.ptr 2 0), Ent.t 10 (VA.k kbool v22.1), Ent.t 11 (VA.k (kint .i64) v22.2), Ent.h 2 (HE.box 29 kLaw13Case a0)] (.cons rfl (.cons rfl (.cons rfl (.cons rfl (.cons rfl .nil))))) ?_
      refine ends_then ?_
      refine goes_seq ?_
      refine goes_seq ?_
      obtain ⟨s24, h25, H⟩ := bind_some H
      refine goes_cut [Ent.t 1 (VA.k kstr a1), Ent.t 2 (VA.ptr 2 0), Ent.t 93 (VA.k kbool s24), Ent.h 2 (HE.box 29 kLaw13Case a0)] ?_ ?_
      · replace H := h25; clear h25
        refine goes_region ?_
        refine go1 (op_move rfl (.t (has rfl))) rfl ?_
        refine go1 (op_icmp rfl rfl (.t (has rfl)) (.int _ _)) rfl ?_
        refine go1 (op_move rfl (.t (has rfl))) rfl ?_
        refine goesO_split H (fun hb26 H => ?_) (fun hb26 H => ?_)
        · skip
          refine goG (op_move rfl (.t (has rfl))) rfl rfl rfl rfl hb26 ?_
          refine goG (op_not rfl (.t (has rfl))) rfl rfl rfl rfl hb26 ?_
          refine go1 (op_pick_t rfl hb26 (.t (has rfl)) (.t (has rfl))) rfl ?_
          refine goesO_nil ?_
          obtain rfl := Option.some.inj H
          exact ends_cut (.cons rfl (.cons rfl (.cons rfl (.cons rfl .nil))))
        · skip
          refine goS rfl rfl rfl rfl rfl rfl hb26 ?_
          refine goS rfl rfl rfl rfl rfl rfl hb26 ?_
          refine go1 (op_pick_f rfl hb26 (.t (has rfl)) (.bool _)) rfl ?_
          refine goesO_nil ?_
          obtain rfl := Option.some.inj H
          exact ends_cut (.cons rfl (.cons rfl (.cons rfl (.cons rfl .nil))))
      refine ends_then ?_
      refine goes_if (.t (has rfl)) H (fun hb27 H => ?_) (fun hb27 H => ?_)
      · skip
        refine goes_seq ?_
        refine goes_region ?_
        refine go1 (op_assign rfl (.bool _)) rfl ?_
        refine goesO_nil ?_
        refine ends_then ?_
        obtain rfl := Option.some.inj H
        exact goes_ret (ends_then_ret (ends_ret' rfl rfl (.t rfl (.nil _))))
      · skip
        refine goes_skip ?_
        refine ends_then ?_
        refine goes_seq ?_
        refine goes_seq ?_
        refine goes_region ?_
        refine go1 (op_fieldAddr rfl Try.underlying29 rfl tk24 (.t (has rfl))) rfl ?_
        refine go1 (op_fieldAddr rfl Try.underlying24 rfl tk22 (.t (has rfl))) rfl ?_
        refine go1 (op_load rfl (Fld.comp fldLaw13Case_N fldNode_Needs) tk22 (.t (has rfl)) (has rfl)) rfl ?_
        refine go1 (op_move rfl (.t (has rfl))) rfl ?_
        obtain ⟨v28, h29, H⟩ := bind_some H
        refine go1 (op_call' rfl enters17 (smithyref03_Has.con _ _ _ _ h29) rfl (.cons (ArgP.k (.t (has rfl))) (.cons (ArgP.k (.t (has rfl))) .nil))) rfl ?_
        refine go1 (op_not rfl (.t (has rfl))) rfl ?_
        refine goesO_nil ?_
        refine ends_then ?_
        refine goes_if (.t (has rfl)) H (fun hb30 H => ?_) (fun hb30 H => ?_)
        · skip
          refine goes_seq ?_
          refine goes_region ?_
          obtain ⟨v31, h32, H⟩ := bind_some H
          refine go1 (op_call' rfl enters15 (smithylaw13_small.con _  _ h32) rfl .nil) rfl ?_
          refine go1 (op_assign rfl (.t (has rfl))) rfl ?_
          refine goesO_nil ?_
          refine ends_then ?_
          obtain rfl := Option.some.inj H
          exact goes_ret (ends_then_ret (ends_ret' rfl rfl (.t rfl (.nil _))))
        · skip
          refine goes_skip ?_
          refine ends_then ?_
          refine goes_seq ?_
          refine goes_region ?_
          refine go1 (op_fieldAddr rfl Try.underlying29 rfl tk27 (.t (has rfl))) rfl ?_
          refine go1 (op_load rfl fldLaw13Case_D tk27 (.t (has rfl)) (has rfl)) rfl ?_
          refine go1 (op_move rfl (.t (has rfl))) rfl ?_
          obtain ⟨v33, h34, H⟩ := bind_some H
          refine goN (op_calls' rfl enters19 (smithyref02_Write.con _ _ _ _ _ h34) rfl rfl (.cons (ArgP.k (.t (has rfl))) (.cons (ArgP.k (.t (has rfl))) (.cons (ArgP.k (.str _)) .nil)))) rfl ?_
          refine go1 (op_same (.inl rfl) rfl rfl) rfl ?_
          refine go1 (op_extract_same rfl plain_k (has rfl) (has rfl)) rfl ?_
          refine go1 (op_extract_same rfl plain_k (has rfl) (has rfl)) rfl ?_
          refine go3 (op_alloc 12 rfl zk27) rfl ?_
          refine go1 (op_store (Fld.whole kDisk) tk27 (.t (has rfl)) (has rfl) (.t (has rfl))) rfl ?_
          refine go1 (op_assign rfl (.t (has rfl))) rfl ?_
          refine goesO_nil ?_
          refine ends_then ?_
          refine goes_seq ?_
          refine goes_seq ?_
          refine goes_region ?_
          refine go1 (op_move rfl (.t (has rfl))) rfl ?_
          refine go1 (op_icmp rfl rfl (.t (has rfl)) (.int _ _)) rfl ?_
          refine goesO_nil ?_
          refine ends_then ?_
          refine goes_if (.t (has rfl)) H (fun hb35 H => ?_) (fun hb35 H => ?_)
          · skip
            refine goes_seq ?_
            refine goes_region ?_
            obtain ⟨v36, h37, H⟩ := bind_some H
            refine go1 (op_call' rfl enters15 (smithylaw13_small.con _  _ h37) rfl .nil) rfl ?_
            refine go1 (op_assign rfl (.t (has rfl))) rfl ?_
            refine goesO_nil ?_
            refine ends_then ?_
            obtain rfl := Option.some.inj H
            exact goes_ret (ends_then_ret (ends_ret' rfl rfl (.t rfl (.nil _))))
          · skip
            refine goes_skip ?_
            refine ends_then ?_
            refine goes_seq ?_
            refine goes_region ?_
            refine go1 (op_fieldAddr rfl Try.underlying29 rfl tk24 (.t (has rfl))) rfl ?_
            refine go1 (op_load rfl fldLaw13Case_N tk24 (.t (has rfl)) (has rfl)) rfl ?_
            refine go1 (op_load rfl (Fld.whole kDisk) tk27 (.t (has rfl)) (has rfl)) rfl ?_
            refine go1 (op_fieldAddr rfl Try.underlying29 rfl tk22 (.t (has rfl))) rfl ?_
            refine go1 (op_load rfl fldLaw13Case_Made tk22 (.t (has rfl)) (has rfl)) rfl ?_
            obtain ⟨v38, h39, H⟩ := bind_some H
            refine goN (op_calls' rfl enters10 (stale_Is.con _ _ _ _ _ h39) rfl rfl (.cons (ArgP.k (.t (has rfl))) (.cons (ArgP.k (.t (has rfl))) (.cons (ArgP.k (.t (has rfl))) .nil)))) rfl ?_
            refine go1 (op_same (.inl rfl) rfl rfl) rfl ?_
            refine go1 (op_extract_same rfl plain_k (has rfl) (has rfl)) rfl ?_
            refine go1 (op_extract_same rfl plain_k (has rfl) (has rfl)) rfl ?_
            refine go1 (op_assign rfl (.t (has rfl))) rfl ?_
            refine go1 (op_assign rfl (.t (has rfl))) rfl ?_
            refine goesO_nil ?_
            refine ends_then ?_
            refine goes_seq ?_
            obtain ⟨s40, h41, H⟩ := bind_some H
            refine goes_cut [Ent.t 4 (VA.k kbool s40)] ?_ ?_
            · replace H := h41; clear h41
              refine goes_region ?_
              refine go1 (op_move rfl (.t (has rfl))) rfl ?_
              refine go1 (op_icmp rfl rfl (.t (has rfl)) (.int _ _)) rfl ?_
              refine go1 (op_move rfl (.t (has rfl))) rfl ?_
              refine goesO_split H (fun hb42 H => ?_) (fun hb42 H => ?_)
              · skip
                refine goG (op_move rfl (.t (has rfl))) rfl rfl rfl rfl hb42 ?_
                refine goG (op_move rfl (.t (has rfl))) rfl rfl rfl rfl hb42 ?_
                refine goesO_split H (fun hb43 H => ?_) (fun hb43 H => ?_)
                · skip
                  refine goS rfl rfl rfl rfl rfl rfl hb43 ?_
                  refine goS rfl rfl rfl rfl rfl rfl hb43 ?_
                  refine goS rfl rfl rfl rfl rfl rfl hb43 ?_
                  refine goS rfl rfl rfl rfl rfl rfl hb43 ?_
                  refine goS rfl rfl rfl rfl rfl rfl hb43 ?_
                  refine goG (op_pick_t rfl hb43 (.t (has rfl)) (.bool _)) rfl rfl rfl rfl hb42 ?_
                  refine go1 (op_pick_t rfl hb42 (.t (has rfl)) (.t (has rfl))) rfl ?_
                  refine go1 (op_move rfl (.t (has rfl))) rfl ?_
                  obtain ⟨v44, h45, H⟩ := bind_some H
                  refine goG (op_call' rfl enters15 (smithylaw13_small.con _  _ h45) rfl .nil) rfl rfl rfl rfl rfl ?_
                  refine go1 (op_pick_t rfl rfl (.t (has rfl)) (.t (has rfl))) rfl ?_
                  refine go1 (op_assign rfl (.t (has rfl))) rfl ?_
                  refine goesO_nil ?_
                  obtain rfl := Option.some.inj H
                  exact ends_cut (.cons rfl .nil)
                · skip
                  refine goG (op_move rfl (.t (has rfl))) rfl rfl rfl rfl hb43 ?_
                  refine goG (op_fieldAddr rfl Try.underlying29 rfl tk24 (.t (has rfl))) rfl rfl rfl rfl hb43 ?_
                  refine goG (op_fieldAddr rfl Try.underlying24 rfl tk9 (.t (has rfl))) rfl rfl rfl rfl hb43 ?_
                  refine goG (op_load rfl (Fld.comp fldLaw13Case_N fldNode_Target) tk9 (.t (has rfl)) (has rfl)) rfl rfl rfl rfl hb43 ?_
                  refine goG (op_scmp rfl rfl (.t (has rfl)) (.t (has rfl))) rfl rfl rfl rfl hb43 ?_
                  refine goG (op_pick_f rfl hb43 (.t (has rfl)) (.t (has rfl))) rfl rfl rfl rfl hb42 ?_
                  refine go1 (op_pick_t rfl hb42 (.t (has rfl)) (.t (has rfl))) rfl ?_
                  refine go1 (op_move rfl (.t (has rfl))) rfl ?_
                  refine goesO_split H (fun hb46 H => ?_) (fun hb46 H => ?_)
                  · skip
                    obtain ⟨v47, h48, H⟩ := bind_some H
                    refine goG (op_call' rfl enters15 (smithylaw13_small.con _  _ h48) rfl .nil) rfl rfl rfl rfl hb46 ?_
                    refine go1 (op_pick_t rfl hb46 (.t (has rfl)) (.t (has rfl))) rfl ?_
                    refine go1 (op_assign rfl (.t (has rfl))) rfl ?_
                    refine goesO_nil ?_
                    obtain rfl := Option.some.inj H
                    exact ends_cut (.cons rfl .nil)
                  · skip
                    refine goS rfl rfl rfl rfl rfl rfl hb46 ?_
                    refine go1 (op_pick_f rfl hb46 (.t (has rfl)) (.bool _)) rfl ?_
                    refine go1 (op_assign rfl (.t (has rfl))) rfl ?_
                    refine goesO_nil ?_
                    obtain rfl := Option.some.inj H
                    exact ends_cut (.cons rfl .nil)
              · skip
                refine goS rfl rfl rfl rfl rfl rfl hb42 ?_
                refine goS rfl rfl rfl rfl rfl rfl hb42 ?_
                refine goSU rfl rfl rfl rfl rfl rfl ?_
                refine goSU rfl rfl rfl rfl rfl rfl ?_
                refine goSU rfl rfl rfl rfl rfl rfl ?_
                refine goSU rfl rfl rfl rfl rfl rfl ?_
                refine goSU rfl rfl rfl rfl rfl rfl ?_
                refine goS rfl rfl rfl rfl rfl rfl hb42 ?_
                refine go1 (op_pick_f rfl hb42 (.t (has rfl)) (.bool _)) rfl ?_
                refine go1 (op_move rfl (.t (has rfl))) rfl ?_
                refine goS rfl rfl rfl rfl rfl rfl rfl ?_
                refine go1 (op_pick_f rfl rfl (.t (has rfl)) (.bool _)) rfl ?_
                refine go1 (op_assign rfl (.t (has rfl))) rfl ?_
                refine goesO_nil ?_
                obtain rfl := Option.some.inj H
                exact ends_cut (.cons rfl .nil)
            refine ends_then ?_
            obtain rfl := Option.some.inj H
            exact goes_ret (ends_ret' rfl rfl (.t rfl (.nil _)))
theorem smithylaw13_StaleMore.conF (k : Nat) (a0 : Law13Case) (a1 : ByteArray) (r : Bool) (H : smithylaw13_StaleMore.f k a0 a1 = some r) : ConF Try.prog 5 [VA.k kLaw13Case a0, VA.k kstr a1] [VA.k kbool r] := (smithylaw13_StaleMore.con k a0 a1 r H).freeL (.cons (KFree.k KFree.bool _) .nil)
/-! smithy/stale.Would$1 -/
def stale_Would_1.f (a0 : ByteArray) (c0 : GM Bool) : Option Bool := (gget c0 false a0).bind fun x1 => some (!x1)
set_option maxRecDepth 100000 in
set_option maxHeartbeats 4000000 in
theorem stale_Would_1.con (a0 : ByteArray) (c0 : GM Bool) (r : Bool) (H : stale_Would_1.f a0 c0 = some r) : Con Try.prog 35 [VA.k kstr a0, VA.pt (kmap Try.prog 9 kbool) c0] [VA.k kbool r] := by
  unfold stale_Would_1.f at H
  refine con_enter Try.func35 rfl rfl rfl (fun w0 S0 θ => ?_)
  refine goes_seq ?_
  refine goes_region ?_
  refine go1 (op_assign rfl (.bool _)) rfl ?_
  refine goesO_nil ?_
  refine ends_then ?_
  refine goes_seq ?_
  refine goes_region ?_
  refine go1 (op_loadp rfl tk71 (.t (has rfl))) rfl ?_
  refine go1 (op_move rfl (.t (has rfl))) rfl ?_
  obtain ⟨x1, h2, H⟩ := bind_some H
  refine go1 (op_lookup_k rfl xmt71 h2 (.t (has rfl)) (.t (has rfl))) rfl ?_
  refine go1 (op_not rfl (.t (has rfl))) rfl ?_
  refine go1 (op_assign rfl (.t (has rfl))) rfl ?_
  refine goesO_nil ?_
  refine ends_then ?_
  obtain rfl := Option.some.inj H
  exact goes_ret (ends_ret' rfl rfl (.t rfl (.nil _)))
theorem stale_Would_1.conF (a0 : ByteArray) (c0 : GM Bool) (r : Bool) (H : stale_Would_1.f a0 c0 = some r) : ConF Try.prog 35 [VA.k kstr a0, VA.pt (kmap Try.prog 9 kbool) c0] [VA.k kbool r] := (stale_Would_1.con a0 c0 r H).freeL (.cons (KFree.k KFree.bool _) .nil)
/-! smithy/stale.Would -/
def stale_Would.l0 (a0 : Plan) (a1 : Disk) : Nat → ((GM Bool) × (List ByteArray) × Int) → Option (List ByteArray)
  | 0, _ => none
  | k + 1, s7 => bif icmp .lss s7.2.2 (a0.Nodes.length : Int) then ((idx a0.Nodes s7.2.2).bind fun x11 => (slices_Clone_string_string.f x11.Needs).bind fun v13 => (slices_DeleteFunc_string_string.f k v13 (fun (z0 : ByteArray) => stale_Would_1.f z0 s7.1)).bind fun v15 => (stale_why.f k x11 a1 v15).bind fun v17 => (bif icmp .neq v17.1 (0 : Int) then (some (icmp .gtr (x11.Recipe.length : Int) (0 : Int))) else (some false)).bind fun s19 => (bif s19 then ((app 16 s7.2.1 ([x11.Target])).bind fun x25 => (gput s7.1 x11.Target true).bind fun x27 => some (x25, x27)) else (some (s7.2.1, s7.1))).bind fun s22 => ((gget s22.2 false x11.Target).bind fun x31 => bif x31 then ((gput s22.2 x11.Target true).bind fun x34 => some x34) else ((gput s22.2 x11.Target x11.Phony).bind fun x36 => some x36)).bind fun s29 => stale_Would.l0 a0 a1 k (s29, s22.1, IntKind.i64.wrap (s7.2.2 + (1 : Int)))) else (some s7.2.1)
def stale_Would.f (k : Nat) (a0 : Plan) (a1 : Disk) : Option ((List ByteArray) × Int) := (resolve_Check.f k a0).bind fun v1 => bif icmp .neq v1 (0 : Int) then (some (([] : List ByteArray), v1)) else ((disk_Check.f k a1).bind fun v4 => bif icmp .neq v4 (0 : Int) then (some (([] : List ByteArray), v4)) else ((stale_Would.l0 a0 a1 k ((gempty : GM Bool), ([] : List ByteArray), (0 : Int))).bind fun s8 => some (s8, (0 : Int))))
set_option maxRecDepth 100000 in
set_option maxHeartbeats 4000000 in
theorem stale_Would.con (k : Nat) (a0 : Plan) (a1 : Disk) (r : (List ByteArray) × Int) (H : stale_Would.f k a0 a1 = some r) : Con Try.prog 20 [VA.k kPlan a0, VA.k kDisk a1] [VA.own 9 kstr r.1, VA.k (kint .i64) r.2] := by
  unfold stale_Would.f at H
  refine con_enter Try.func20 rfl rfl rfl (fun w0 S0 θ => ?_)
  refine goes_seq ?_
  refine goes_region ?_
  refine go3 (op_box 2 rfl (fun h => by first | rfl | cases h) (.t (has rfl))) rfl ?_
  refine go3 (op_box 3 rfl (fun h => by first | rfl | cases h) (.t (has rfl))) rfl ?_
  refine go1 (op_assign_nil 9 kstr (.inr rfl) rfl) rfl ?_
  refine go1 (op_assign rfl (.int _ _)) rfl ?_
  refine goesO_nil ?_
  refine ends_then ?_
  refine goes_seq ?_
  refine goes_seq ?_
  refine goes_region ?_
  refine go1 (op_load rfl (Fld.whole kPlan) tk57 (.t (has rfl)) (has rfl)) rfl ?_
  obtain ⟨v1, h2, H⟩ := bind_some H
  refine go1 (op_call' rfl enters31 (resolve_Check.con _ _ _ h2) rfl (.cons (ArgP.k (.t (has rfl))) .nil)) rfl ?_
  refine go1 (op_assign rfl (.t (has rfl))) rfl ?_
  refine goesO_nil ?_
  refine ends_then ?_
  refine goes_seq ?_
  refine goes_region ?_
  refine go1 (op_move rfl (.t (has rfl))) rfl ?_
  refine go1 (op_icmp rfl rfl (.t (has rfl)) (.int _ _)) rfl ?_
  refine goesO_nil ?_
  refine ends_then ?_
  refine goes_if (.t (has rfl)) H (fun hb3 H => ?_) (fun hb3 H => ?_)
  · skip
    refine goes_seq ?_
    refine goes_region ?_
    refine go1 (op_move rfl (.t (has rfl))) rfl ?_
    refine go1 (op_assign_nil 9 kstr (.inr rfl) rfl) rfl ?_
    refine go1 (op_assign rfl (.t (has rfl))) rfl ?_
    refine goesO_nil ?_
    refine ends_then ?_
    obtain rfl := Option.some.inj H
    exact goes_ret (ends_then_ret (ends_ret' rfl rfl (.t rfl (.t rfl (.nil _)))))
  · skip
    refine goes_skip ?_
    refine ends_then ?_
    refine goes_seq ?_
    refine goes_seq ?_
    refine goes_region ?_
    refine go1 (op_load rfl (Fld.whole kDisk) tk27 (.t (has rfl)) (has rfl)) rfl ?_
    obtain ⟨v4, h5, H⟩ := bind_some H
    refine go1 (op_call' rfl enters32 (disk_Check.con _ _ _ h5) rfl (.cons (ArgP.k (.t (has rfl))) .nil)) rfl ?_
    refine go1 (op_assign rfl (.t (has rfl))) rfl ?_
    refine goesO_nil ?_
    refine ends_then ?_
    refine goes_seq ?_
    refine goes_region ?_
    refine go1 (op_move rfl (.t (has rfl))) rfl ?_
    refine go1 (op_icmp rfl rfl (.t (has rfl)) (.int _ _)) rfl ?_
    refine goesO_nil ?_
    refine ends_then ?_
    refine goes_if (.t (has rfl)) H (fun hb6 H => ?_) (fun hb6 H => ?_)
    · skip
      refine goes_seq ?_
      refine goes_region ?_
      refine go1 (op_move rfl (.t (has rfl))) rfl ?_
      refine go1 (op_assign_nil 9 kstr (.inr rfl) rfl) rfl ?_
      refine go1 (op_assign rfl (.t (has rfl))) rfl ?_
      refine goesO_nil ?_
      refine ends_then ?_
      obtain rfl := Option.some.inj H
      exact goes_ret (ends_then_ret (ends_ret' rfl rfl (.t rfl (.t rfl (.nil _)))))
    · skip
      refine goes_skip ?_
      refine ends_then ?_
      refine goes_seq ?_
      refine goes_region ?_
      refine go3 (op_makeMap 9 kbool 25 rfl) rfl ?_
      refine go3 (op_alloc_raw 8 rfl xaz71 rfl) rfl ?_
      refine go1 (op_store_mp xmz71 (.inl rfl) (.t (has rfl)) (has rfl) (.t (has rfl))) rfl ?_
      refine goesO_nil ?_
      refine ends_then ?_
      refine goes_seq ?_
      refine goes_region ?_
      refine go1 (op_assign_nil 9 kstr (.inr rfl) rfl) rfl ?_
      refine goesO_nil ?_
      refine ends_then ?_
      refine goes_seq ?_
      refine goes_seq ?_
      refine goes_region ?_
      refine go1 (op_fieldAddr rfl Try.underlying57 rfl tk55 (.t (has rfl))) rfl ?_
      refine go1 (op_load rfl fldPlan_Nodes tk55 (.t (has rfl)) (has rfl)) rfl ?_
      refine go1 (op_len rfl rfl Try.underlying55 (.t (has rfl))) rfl ?_
      refine go1 (op_move rfl (.int _ _)) rfl ?_
      refine goesO_nil ?_
      refine ends_then ?_
      obtain ⟨s8, h9, H⟩ := bind_some H
      refine goes_cut [Ent.t 9 (VA.own 9 kstr s8)] ?_ ?_
      · replace H := h9; clear h9
        refine goes_block ?_
        refine goes_loop (fun s7 : (GM Bool) × (List ByteArray) × Int => [Ent.t 3 (VA.ptr 3 0), Ent.t 8 (VA.ptr 8 0), Ent.t 9 (VA.own 9 kstr s7.2.1), Ent.t 27 (VA.k (kslice kNode) a0.Nodes), Ent.t 28 (VA.k (kint .i64) (a0.Nodes.length : Int)), Ent.t 29 (VA.k (kint .i64) s7.2.2), Ent.h 3 (HE.box 27 kDisk a1), Ent.h 8 (HE.boxm 71 25), Ent.h 25 (HE.map Try.prog 9 kbool s7.1)]) (fun k s7 => stale_Would.l0 a0 a1 k s7) (fun _ => rfl) H (.cons rfl (.cons rfl (.cons rfl (.cons rfl (.cons rfl (.cons rfl (.cons rfl (.cons rfl (.cons rfl .nil))))))))) ?_
        intro k s7 H
        simp only [stale_Would.l0] at H
        refine goes_seq ?_
        refine goes_region ?_
        refine go1 (op_icmp rfl rfl (.t (has rfl)) (.t (has rfl))) rfl ?_
        refine goesO_nil ?_
        refine ends_then ?_
        refine goes_seq ?_
        refine goes_if (.t (has rfl)) H (fun hb10 H => ?_) (fun hb10 H => ?_)
        · skip
          refine goes_skip ?_
          refine ends_then ?_
          refine goes_seq ?_
          refine goes_block ?_
          refine goes_seq ?_
          refine goes_region ?_
          obtain ⟨x11, h12, H⟩ := bind_some H
          refine go1 (op_indexAddr rfl Try.underlying55 tk24 h12 (.t (has rfl)) (.t (has rfl))) rfl ?_
          refine go1 (op_loadp rfl tk24 (.t (has rfl))) rfl ?_
          refine go3 (op_alloc 11 rfl zk24) rfl ?_
          refine go1 (op_store (Fld.whole kNode) tk24 (.t (has rfl)) (has rfl) (.t (has rfl))) rfl ?_
          refine goesO_nil ?_
          refine ends_then ?_
          refine goes_seq ?_
          refine goes_region ?_
          refine go1 (op_fieldAddr rfl Try.underlying24 rfl tk22 (.t (has rfl))) rfl ?_
          refine go1 (op_load rfl fldNode_Needs tk22 (.t (has rfl)) (has rfl)) rfl ?_
          obtain ⟨v13, h14, H⟩ := bind_some H
          refine go1 (op_call' rfl enters34 (slices_Clone_string_string.con _ _ h14) rfl (.cons (ArgP.k (.t (has rfl))) .nil)) rfl ?_
          refine go1 (op_makeFunc (ys := []) (xs := [8]) rfl rfl rfl rfl) rfl ?_
          refine goesO_number 35 900 rfl rfl rfl ?_
          obtain ⟨v15, h16, H⟩ := bind_some H
          refine goN (op_callEF [5000900] [] rfl enters33 (slices_DeleteFunc_string_string.conF 35 ([]) ([VA.pt (kmap Try.prog 9 kbool) s7.1]) _ _ (fun (z0 : ByteArray) => stale_Would_1.f z0 s7.1) enters35 (fun z0 r h => stale_Would_1.con z0 s7.1 r h) _ h16) rfl (.cons (has rfl) .nil) (.cons (ArgR.a plain_rw (.t (NR.mk (has rfl) rfl))) (.cons (ArgR.mf rfl rfl (NR.mk (has rfl) rfl) .nil (.cons (ArgR.ptmm (.t (NR.mk (has rfl) rfl)) (NR.mk (has rfl) rfl) (NR.mk (has rfl) rfl)) .nil)) .nil))) rfl ?_
          refine go2 (op_mv (.inr rfl) rfl rfl (has rfl)) rfl ?_
          refine goesO_nil ?_
          refine ends_then ?_
          refine goes_seq ?_
          refine goes_seq ?_
          refine goes_region ?_
          refine go1 (op_load rfl (Fld.whole kNode) tk24 (.t (has rfl)) (has rfl)) rfl ?_
          refine go1 (op_load rfl (Fld.whole kDisk) tk27 (.t (has rfl)) (has rfl)) rfl ?_
          refine goesO_settle 12 rfl rfl ?_
          refine go1 (op_move rfl (.t (has rfl))) rfl ?_
          obtain ⟨v17, h18, H⟩ := bind_some H
          refine goN (op_calls' rfl enters27 (stale_why.con _ _ _ _ _ h18) rfl rfl (.cons (ArgP.k (.t (has rfl))) (.cons (ArgP.k (.t (has rfl))) (.cons (ArgP.k (.t (has rfl))) .nil)))) rfl ?_
          refine go1 (op_same (.inl rfl) rfl rfl) rfl ?_
          refine go1 (op_extract_same rfl plain_k (has rfl) (has rfl)) rfl ?_
          refine go1 (op_extract_same rfl plain_k (has rfl) (has rfl)) rfl ?_
          refine go1 (op_assign rfl (.t (has rfl))) rfl ?_
          refine go1 (op_assign rfl (.t (has rfl))) rfl ?_
          refine goesO_nil ?_
          refine ends_then ?_
          refine goes_seq ?_
          obtain ⟨s19, h20, H⟩ := bind_some H
          refine goes_cut [Ent.t 3 (VA.ptr 3 0), Ent.t 8 (VA.ptr 8 0), Ent.t 9 (VA.own 9 kstr s7.2.1), Ent.t 11 (VA.ptr 11 0), Ent.t 27 (VA.k (kslice kNode) a0.Nodes), Ent.t 28 (VA.k (kint .i64) (a0.Nodes.length : Int)), Ent.t 29 (VA.k (kint .i64) s7.2.2), Ent.t 52 (VA.k kbool s19), Ent.h 3 (HE.box 27 kDisk a1), Ent.h 8 (HE.boxm 71 25), Ent.h 11 (HE.box 24 kNode x11), Ent.h 25 (HE.map Try.prog 9 kbool s7.1)] ?_ ?_
          · replace H := h20; clear h20
            refine goes_region ?_
            refine go1 (op_move rfl (.t (has rfl))) rfl ?_
            refine go1 (op_icmp rfl rfl (.t (has rfl)) (.int _ _)) rfl ?_
            refine go1 (op_move rfl (.t (has rfl))) rfl ?_
            refine goesO_split H (fun hb21 H => ?_) (fun hb21 H => ?_)
            · skip
              refine goG (op_fieldAddr rfl Try.underlying24 rfl tk22 (.t (has rfl))) rfl rfl rfl rfl hb21 ?_
              refine goG (op_load rfl fldNode_Recipe tk22 (.t (has rfl)) (has rfl)) rfl rfl rfl rfl hb21 ?_
              refine goG (op_len rfl rfl Try.underlying22 (.t (has rfl))) rfl rfl rfl rfl hb21 ?_
              refine goG (op_icmp rfl rfl (.t (has rfl)) (.int _ _)) rfl rfl rfl rfl hb21 ?_
              refine go1 (op_pick_t rfl hb21 (.t (has rfl)) (.t (has rfl))) rfl ?_
              refine goesO_nil ?_
              obtain rfl := Option.some.inj H
              exact ends_cut (.cons rfl (.cons rfl (.cons rfl (.cons rfl (.cons rfl (.cons rfl (.cons rfl (.cons rfl (.cons rfl (.cons rfl (.cons rfl (.cons rfl .nil))))))))))))
            · skip
              refine goS rfl rfl rfl rfl rfl rfl hb21 ?_
              refine goS rfl rfl rfl rfl rfl rfl hb21 ?_
              refine goS rfl rfl rfl rfl rfl rfl hb21 ?_
              refine goS rfl rfl rfl rfl rfl rfl hb21 ?_
              refine go1 (op_pick_f rfl hb21 (.t (has rfl)) (.bool _)) rfl ?_
              refine goesO_nil ?_
              obtain rfl := Option.some.inj H
              exact ends_cut (.cons rfl (.cons rfl (.cons rfl (.cons rfl (.cons rfl (.cons rfl (.cons rfl (.cons rfl (.cons rfl (.cons rfl (.cons rfl (.cons rfl .nil))))))))))))
          refine ends_then ?_
          obtain ⟨s22, h23, H⟩ := bind_some H
          refine goes_cut [Ent.t 3 (VA.ptr 3 0), Ent.t 8 (VA.ptr 8 0), Ent.t 9 (VA.own 9 kstr s22.1), Ent.t 11 (VA.ptr 11 0), Ent.t 27 (VA.k (kslice kNode) a0.Nodes), Ent.t 28 (VA.k (kint .i64) (a0.Nodes.length : Int)), Ent.t 29 (VA.k (kint .i64) s7.2.2), Ent.h 3 (HE.box 27 kDisk a1), Ent.h 8 (HE.boxm 71 25), Ent.h 11 (HE.box 24 kNode x11), Ent.h 25 (HE.map Try.prog 9 kbool s22.2)] ?_ ?_
          · replace H := h23; clear h23
            refine goes_if (.t (has rfl)) H (fun hb24 H => ?_) (fun hb24 H => ?_)
            · skip
              refine goes_seq ?_
              refine goes_region ?_
              refine go2 (op_mv (.inl rfl) rfl rfl (has rfl)) rfl ?_
              refine go1 (op_fieldAddr rfl Try.underlying24 rfl tk9 (.t (has rfl))) rfl ?_
              refine go1 (op_load rfl fldNode_Target tk9 (.t (has rfl)) (has rfl)) rfl ?_
              refine go1 (op_buildSlice rfl at22 (fun h => by first | rfl | cases h) rfl rfl rfl (.cons (.t (has rfl)) (.nil _))) rfl ?_
              obtain ⟨x25, h26, H⟩ := bind_some H
              refine go2 (op_append rfl rfl at22 h26 (has rfl) (ReadsArg.own (.t (has rfl)))) rfl ?_
              refine go2 (op_mv (.inr rfl) rfl rfl (has rfl)) rfl ?_
              refine goesO_nil ?_
              refine ends_then ?_
              refine goes_region ?_
              refine go1 (op_load_mp rfl xmz71 (.t (has rfl)) (has rfl)) rfl ?_
              refine go1 (op_fieldAddr rfl Try.underlying24 rfl tk9 (.t (has rfl))) rfl ?_
              refine go1 (op_load rfl fldNode_Target tk9 (.t (has rfl)) (has rfl)) rfl ?_
              obtain ⟨x27, h28, H⟩ := bind_some H
              refine go1 (op_mapUpdate xmt71 h28 (.t (has rfl)) (has rfl) (.t (has rfl)) (.bool _)) rfl ?_
              refine goesO_nil ?_
              obtain rfl := Option.some.inj H
              exact ends_cut (.cons rfl (.cons rfl (.cons rfl (.cons rfl (.cons rfl (.cons rfl (.cons rfl (.cons rfl (.cons rfl (.cons rfl (.cons rfl .nil)))))))))))
            · skip
              refine goes_skip ?_
              obtain rfl := Option.some.inj H
              exact ends_cut (.cons rfl (.cons rfl (.cons rfl (.cons rfl (.cons rfl (.cons rfl (.cons rfl (.cons rfl (.cons rfl (.cons rfl (.cons rfl .nil)))))))))))
          refine ends_then ?_
          obtain ⟨s29, h30, H⟩ := bind_some H
          refine goes_cut [Ent.t 3 (VA.ptr 3 0), Ent.t 8 (VA.ptr 8 0), Ent.t 9 (VA.own 9 kstr s22.1), Ent.t 27 (VA.k (kslice kNode) a0.Nodes), Ent.t 28 (VA.k (kint .i64) (a0.Nodes.length : Int)), Ent.t 29 (VA.k (kint .i64) s7.2.2), Ent.h 3 (HE.box 27 kDisk a1), Ent.h 8 (HE.boxm 71 25), Ent.h 25 (HE.map Try.prog 9 kbool s29)] ?_ ?_
          · replace H := h30; clear h30
            refine goes_region ?_
            refine go1 (op_load_mp rfl xmz71 (.t (has rfl)) (has rfl)) rfl ?_
            refine go1 (op_fieldAddr rfl Try.underlying24 rfl tk9 (.t (has rfl))) rfl ?_
            refine go1 (op_load rfl fldNode_Target tk9 (.t (has rfl)) (has rfl)) rfl ?_
            refine go1 (op_load_mp rfl xmz71 (.t (has rfl)) (has rfl)) rfl ?_
            refine go1 (op_fieldAddr rfl Try.underlying24 rfl tk9 (.t (has rfl))) rfl ?_
            refine go1 (op_load rfl fldNode_Target tk9 (.t (has rfl)) (has rfl)) rfl ?_
            obtain ⟨x31, h32, H⟩ := bind_some H
            refine go1 (op_lookup rfl xmt71 h32 (.t (has rfl)) (has rfl) (.t (has rfl))) rfl ?_
            refine go1 (op_move rfl (.t (has rfl))) rfl ?_
            refine goesO_split H (fun hb33 H => ?_) (fun hb33 H => ?_)
            · skip
              refine goS rfl rfl rfl rfl rfl rfl hb33 ?_
              refine goS rfl rfl rfl rfl rfl rfl hb33 ?_
              refine go1 (op_pick_t rfl hb33 (.t (has rfl)) (.bool _)) rfl ?_
              obtain ⟨x34, h35, H⟩ := bind_some H
              refine go1 (op_mapUpdate xmt71 h35 (.t (has rfl)) (has rfl) (.t (has rfl)) (.t (has rfl))) rfl ?_
              refine goesO_nil ?_
              obtain rfl := Option.some.inj H
              exact ends_cut (.cons rfl (.cons rfl (.cons rfl (.cons rfl (.cons rfl (.cons rfl (.cons rfl (.cons rfl (.cons rfl .nil)))))))))
            · skip
              refine goG (op_fieldAddr rfl Try.underlying24 rfl tk4 (.t (has rfl))) rfl rfl rfl rfl hb33 ?_
              refine goG (op_load rfl fldNode_Phony tk4 (.t (has rfl)) (has rfl)) rfl rfl rfl rfl hb33 ?_
              refine go1 (op_pick_f rfl hb33 (.t (has rfl)) (.t (has rfl))) rfl ?_
              obtain ⟨x36, h37, H⟩ := bind_some H
              refine go1 (op_mapUpdate xmt71 h37 (.t (has rfl)) (has rfl) (.t (has rfl)) (.t (has rfl))) rfl ?_
              refine goesO_nil ?_
              obtain rfl := Option.some.inj H
              exact ends_cut (.cons rfl (.cons rfl (.cons rfl (.cons rfl (.cons rfl (.cons rfl (.cons rfl (.cons rfl (.cons rfl .nil)))))))))
          refine ends_block ?_
          refine ends_then ?_
          refine goes_region ?_
          refine go1 (op_add rfl (.t (has rfl)) (.int _ _)) rfl ?_
          refine go1 (op_move rfl (.t (has rfl))) rfl ?_
          refine goesO_nil ?_
          exact loop_next _ H (.cons rfl (.cons rfl (.cons rfl (.cons rfl (.cons rfl (.cons rfl (.cons rfl (.cons rfl (.cons rfl .nil)))))))))
        · skip
          refine goes_exit (ends_then_exit (ends_then_exit (ends_block_exit ?_)))
          obtain rfl := Option.some.inj H
          exact ends_cut (.cons rfl .nil)
      refine ends_then ?_
      refine goes_seq ?_
      refine goes_region ?_
      refine go2 (op_mv (.inl rfl) rfl rfl (has rfl)) rfl ?_
      refine go2 (op_mv (.inr rfl) rfl rfl (has rfl)) rfl ?_
      refine go1 (op_assign rfl (.int _ _)) rfl ?_
      refine goesO_nil ?_
      refine ends_then ?_
      obtain rfl := Option.some.inj H
      exact goes_ret (ends_ret' rfl rfl (.t rfl (.t rfl (.nil _))))
theorem stale_Would.conF (k : Nat) (a0 : Plan) (a1 : Disk) (r : (List ByteArray) × Int) (H : stale_Would.f k a0 a1 = some r) : ConF Try.prog 20 [VA.k kPlan a0, VA.k kDisk a1] [VA.own 9 kstr r.1, VA.k (kint .i64) r.2] := (stale_Would.con k a0 a1 r H).freeL (.cons (KFree.own KFree.str _ _) (.cons (KFree.k (KFree.int .i64) _) .nil))
end Go.Proofs.Ytoemgemfgaooeaa.F
