import Derived.Test.YtaeapobjhgakiaaFKx3
set_option linter.unusedVariables false
set_option linter.unusedSimpArgs false
set_option linter.unnecessarySimpa false
set_option linter.deprecated false
namespace Go.Proofs.Ytaeapobjhgakiaa.F
open Go Go.RowKit Go.Proofs.Ytaeapobjhgakiaa.Sl
/-! smithy/smithyref02.Changed -/
def smithyref02_Changed.l0 (a0 : Disk) (a1 : Disk) : Nat → ((List ByteArray) × Int × Int) → Option (List ByteArray)
  | 0, _ => none
  | k + 1, s9 => (bif icmp .lss s9.2.1 (a0.Files.length : Int) then (some true) else (some (icmp .lss s9.2.2 (a1.Files.length : Int)))).bind fun s12 => bif s12 then ((bif icmp .eql s9.2.2 (a1.Files.length : Int) then (some true) else (bif icmp .lss s9.2.1 (a0.Files.length : Int) then ((idx a0.Files s9.2.1).bind fun x20 => (idx a1.Files s9.2.2).bind fun x22 => some (scmp .lss x20.Name x22.Name)) else (some false))).bind fun s16 => bif s16 then ((idx a0.Files s9.2.1).bind fun x25 => (app 16 s9.1 ([x25.Name])).bind fun x27 => smithyref02_Changed.l0 a0 a1 k (x27, IntKind.i64.wrap (s9.2.1 + (1 : Int)), s9.2.2)) else ((bif icmp .eql s9.2.1 (a0.Files.length : Int) then (some true) else ((idx a1.Files s9.2.2).bind fun x32 => (idx a0.Files s9.2.1).bind fun x34 => some (scmp .lss x32.Name x34.Name))).bind fun s29 => bif s29 then ((idx a1.Files s9.2.2).bind fun x37 => (app 16 s9.1 ([x37.Name])).bind fun x39 => smithyref02_Changed.l0 a0 a1 k (x39, s9.2.1, IntKind.i64.wrap (s9.2.2 + (1 : Int)))) else ((idx a0.Files s9.2.1).bind fun x41 => (idx a1.Files s9.2.2).bind fun x43 => (bif scmp .neq x41.Text x43.Text then ((idx a0.Files s9.2.1).bind fun x48 => (app 16 s9.1 ([x48.Name])).bind fun x50 => some x50) else (some s9.1)).bind fun s45 => smithyref02_Changed.l0 a0 a1 k (s45, IntKind.i64.wrap (s9.2.1 + (1 : Int)), IntKind.i64.wrap (s9.2.2 + (1 : Int)))))) else (some s9.1)
def smithyref02_Changed.f (k : Nat) (a0 : Disk) (a1 : Disk) : Option ((List ByteArray) × Int) := ((smithyref02_Check.f k a0).bind fun v3 => bif icmp .neq v3 (0 : Int) then (some true) else ((smithyref02_Check.f k a1).bind fun v6 => some (icmp .neq v6 (0 : Int)))).bind fun s1 => bif s1 then (some (([] : List ByteArray), (4 : Int))) else ((smithyref02_Changed.l0 a0 a1 k (([] : List ByteArray), (0 : Int), (0 : Int))).bind fun s10 => some (s10, (0 : Int)))
set_option maxRecDepth 100000 in
set_option maxHeartbeats 4000000 in
theorem smithyref02_Changed.con (k : Nat) (a0 : Disk) (a1 : Disk) (r : (List ByteArray) × Int) (H : smithyref02_Changed.f k a0 a1 = some r) : Con Try.prog 32 [VA.k kDisk a0, VA.k kDisk a1] [VA.own 9 kstr r.1, VA.k (kint .i64) r.2] := by
  unfold smithyref02_Changed.f at H
  refine con_enter Try.func32 rfl rfl rfl (fun w0 S0 θ => ?_)
  refine goes_seq ?_
  refine goes_region ?_
  refine go3 (op_box 2 rfl (fun h => by first | rfl | cases h) (.t (has rfl))) rfl ?_
  refine go3 (op_box 3 rfl (fun h => by first | rfl | cases h) (.t (has rfl))) rfl ?_
  refine go1 (op_assign_nil 9 kstr (.inr rfl) rfl) rfl ?_
  refine go1 (op_assign rfl (.int _ _)) rfl ?_
  refine goesO_nil ?_
  refine ends_then ?_
  refine goes_seq ?_
  refine goes_seq ?_
  obtain ⟨s1, h2, H⟩ := bind_some H
  refine goes_cut [Ent.t 2 (VA.ptr 2 0), Ent.t 3 (VA.ptr 3 0), Ent.t 16 (VA.k kbool s1), Ent.h 2 (HE.box 24 kDisk a0), Ent.h 3 (HE.box 24 kDisk a1)] ?_ ?_
  · replace H := h2; clear h2
    refine goes_region ?_
    refine go1 (op_load rfl (Fld.whole kDisk) tk24 (.t (has rfl)) (has rfl)) rfl ?_
    obtain ⟨v3, h4, H⟩ := bind_some H
    refine go1 (op_call' rfl enters15 (smithyref02_Check.con _ _ _ h4) rfl (.cons (ArgP.k (.t (has rfl))) .nil)) rfl ?_
    refine go1 (op_icmp rfl rfl (.t (has rfl)) (.int _ _)) rfl ?_
    refine go1 (op_move rfl (.t (has rfl))) rfl ?_
    refine goesO_split H (fun hb5 H => ?_) (fun hb5 H => ?_)
    · skip
      refine goS rfl rfl rfl rfl rfl rfl hb5 ?_
      refine goS rfl rfl rfl rfl rfl rfl hb5 ?_
      refine goS rfl rfl rfl rfl rfl rfl hb5 ?_
      refine go1 (op_pick_t rfl hb5 (.t (has rfl)) (.bool _)) rfl ?_
      refine goesO_nil ?_
      obtain rfl := Option.some.inj H
      exact ends_cut (.cons rfl (.cons rfl (.cons rfl (.cons rfl (.cons rfl .nil)))))
    · skip
      refine goG (op_load rfl (Fld.whole kDisk) tk24 (.t (has rfl)) (has rfl)) rfl rfl rfl rfl hb5 ?_
      obtain ⟨v6, h7, H⟩ := bind_some H
      refine goG (op_call' rfl enters15 (smithyref02_Check.con _ _ _ h7) rfl (.cons (ArgP.k (.t (has rfl))) .nil)) rfl rfl rfl rfl hb5 ?_
      refine goG (op_icmp rfl rfl (.t (has rfl)) (.int _ _)) rfl rfl rfl rfl hb5 ?_
      refine go1 (op_pick_f rfl hb5 (.t (has rfl)) (.t (has rfl))) rfl ?_
      refine goesO_nil ?_
      obtain rfl := Option.some.inj H
      exact ends_cut (.cons rfl (.cons rfl (.cons rfl (.cons rfl (.cons rfl .nil)))))
  refine ends_then ?_
  refine goes_if (.t (has rfl)) H (fun hb8 H => ?_) (fun hb8 H => ?_)
  · skip
    refine goes_seq ?_
    refine goes_region ?_
    refine go1 (op_assign_nil 9 kstr (.inr rfl) rfl) rfl ?_
    refine go1 (op_assign rfl (.int _ _)) rfl ?_
    refine goesO_nil ?_
    refine ends_then ?_
    obtain rfl := Option.some.inj H
    exact goes_ret (ends_then_ret (ends_ret' rfl rfl (.t rfl (.t rfl (.nil _)))))
  · skip
    refine goes_skip ?_
    refine ends_then ?_
    refine goes_seq ?_
    refine goes_region ?_
    refine go1 (op_assign_nil 9 kstr (.inr rfl) rfl) rfl ?_
    refine goesO_nil ?_
    refine ends_then ?_
    refine goes_seq ?_
    refine goes_region ?_
    refine go1 (op_assign rfl (.int _ _)) rfl ?_
    refine go1 (op_assign rfl (.int _ _)) rfl ?_
    refine goesO_nil ?_
    refine ends_then ?_
    refine goes_seq ?_
    obtain ⟨s10, h11, H⟩ := bind_some H
    refine goes_cut [Ent.t 6 (VA.own 9 kstr s10)] ?_ ?_
    · replace H := h11; clear h11
      refine goes_block ?_
      refine goes_loop (fun s9 : (List ByteArray) × Int × Int => [Ent.t 2 (VA.ptr 2 0), Ent.t 3 (VA.ptr 3 0), Ent.t 6 (VA.own 9 kstr s9.1), Ent.t 7 (VA.k (kint .i64) s9.2.1), Ent.t 8 (VA.k (kint .i64) s9.2.2), Ent.h 2 (HE.box 24 kDisk a0), Ent.h 3 (HE.box 24 kDisk a1)]) (fun k s9 => smithyref02_Changed.l0 a0 a1 k s9) (fun _ => rfl) H (.cons rfl (.cons rfl (.cons rfl (.cons rfl (.cons rfl (.cons rfl (.cons rfl .nil))))))) ?_
      intro k s9 H
      simp only [smithyref02_Changed.l0] at H
      refine goes_seq ?_
      refine goes_seq ?_
      obtain ⟨s12, h13, H⟩ := bind_some H
      refine goes_cut [Ent.t 2 (VA.ptr 2 0), Ent.t 3 (VA.ptr 3 0), Ent.t 6 (VA.own 9 kstr s9.1), Ent.t 7 (VA.k (kint .i64) s9.2.1), Ent.t 8 (VA.k (kint .i64) s9.2.2), Ent.t 28 (VA.k kbool s12), Ent.h 2 (HE.box 24 kDisk a0), Ent.h 3 (HE.box 24 kDisk a1)] ?_ ?_
      · replace H := h13; clear h13
        refine goes_region ?_
        refine go1 (op_move rfl (.t (has rfl))) rfl ?_
        refine go1 (op_fieldAddr rfl Try.underlying24 rfl tk22 (.t (has rfl))) rfl ?_
        refine go1 (op_load rfl fldDisk_Files tk22 (.t (has rfl)) (has rfl)) rfl ?_
        refine go1 (op_len rfl rfl Try.underlying22 (.t (has rfl))) rfl ?_
        refine go1 (op_icmp rfl rfl (.t (has rfl)) (.t (has rfl))) rfl ?_
        refine go1 (op_move rfl (.t (has rfl))) rfl ?_
        refine goesO_split H (fun hb14 H => ?_) (fun hb14 H => ?_)
        · skip
          refine goS rfl rfl rfl rfl rfl rfl hb14 ?_
          refine goS rfl rfl rfl rfl rfl rfl hb14 ?_
          refine goS rfl rfl rfl rfl rfl rfl hb14 ?_
          refine goS rfl rfl rfl rfl rfl rfl hb14 ?_
          refine goS rfl rfl rfl rfl rfl rfl hb14 ?_
          refine go1 (op_pick_t rfl hb14 (.t (has rfl)) (.bool _)) rfl ?_
          refine goesO_nil ?_
          obtain rfl := Option.some.inj H
          exact ends_cut (.cons rfl (.cons rfl (.cons rfl (.cons rfl (.cons rfl (.cons rfl (.cons rfl (.cons rfl .nil))))))))
        · skip
          refine goG (op_move rfl (.t (has rfl))) rfl rfl rfl rfl hb14 ?_
          refine goG (op_fieldAddr rfl Try.underlying24 rfl tk22 (.t (has rfl))) rfl rfl rfl rfl hb14 ?_
          refine goG (op_load rfl fldDisk_Files tk22 (.t (has rfl)) (has rfl)) rfl rfl rfl rfl hb14 ?_
          refine goG (op_len rfl rfl Try.underlying22 (.t (has rfl))) rfl rfl rfl rfl hb14 ?_
          refine goG (op_icmp rfl rfl (.t (has rfl)) (.t (has rfl))) rfl rfl rfl rfl hb14 ?_
          refine go1 (op_pick_f rfl hb14 (.t (has rfl)) (.t (has rfl))) rfl ?_
          refine goesO_nil ?_
          obtain rfl := Option.some.inj H
          exact ends_cut (.cons rfl (.cons rfl (.cons rfl (.cons rfl (.cons rfl (.cons rfl (.cons rfl (.cons rfl .nil))))))))
      refine ends_then ?_
      refine goes_if (.t (has rfl)) H (fun hb15 H => ?_) (fun hb15 H => ?_)
      · skip
        refine goes_skip ?_
        refine ends_then ?_
        refine goes_block ?_
        refine goes_seq ?_
        refine goes_seq ?_
        obtain ⟨s16, h17, H⟩ := bind_some H
        refine goes_cut [Ent.t 2 (VA.ptr 2 0), Ent.t 3 (VA.ptr 3 0), Ent.t 6 (VA.own 9 kstr s9.1), Ent.t 7 (VA.k (kint .i64) s9.2.1), Ent.t 8 (VA.k (kint .i64) s9.2.2), Ent.t 55 (VA.k kbool s16), Ent.h 2 (HE.box 24 kDisk a0), Ent.h 3 (HE.box 24 kDisk a1)] ?_ ?_
        · replace H := h17; clear h17
          refine goes_split H (fun hb18 H => ?_) (fun hb18 H => ?_)
          · skip
            refine goes_drawn [[Ent.t 29 (VA.k (kint .i64) s9.2.2)], [Ent.t 30 (VA.ptr 3 1)], [Ent.t 31 (VA.k (kslice kFile) a1.Files)], [Ent.t 32 (VA.k (kint .i64) (a1.Files.length : Int))], [Ent.t 33 (VA.k kbool (icmp .eql s9.2.2 (a1.Files.length : Int)))], [Ent.t 34 (VA.k kbool (icmp .eql s9.2.2 (a1.Files.length : Int)))], [Ent.t 35 (VA.v undef)], [Ent.t 36 (VA.v undef)], [Ent.t 37 (VA.v undef)], [Ent.t 38 (VA.v undef)], [Ent.t 39 (VA.v undef)], [Ent.t 40 (VA.v undef)], [Ent.t 41 (VA.v undef)], [Ent.t 42 (VA.v undef)], [Ent.t 43 (VA.v undef)], [Ent.t 44 (VA.v undef)], [Ent.t 45 (VA.v undef)], [Ent.t 46 (VA.v undef)], [Ent.t 47 (VA.v undef)], [Ent.t 48 (VA.v undef)], [Ent.t 49 (VA.v undef)], [Ent.t 50 (VA.v undef)], [Ent.t 51 (VA.v undef)], [Ent.t 52 (VA.v undef)], [Ent.t 53 (VA.v undef)], [Ent.t 54 (VA.v undef)], [Ent.t 55 (VA.k kbool true)]] mixed (by kernel_rfl) (by kernel_rfl) (.cons [(none, Ent.t 8 (VA.k (kint .i64) s9.2.2))] (OpSpec.run rfl rfl (op_move rfl (.t NL.h0)) rfl) (.cons (has rfl) .nil) (by kernel_rfl) (.cons [(none, Ent.t 3 (VA.ptr 3 0))] (OpSpec.run rfl rfl (op_fieldAddr rfl Try.underlying24 rfl tk22 (.t NL.h0)) rfl) (.cons (has rfl) .nil) (by kernel_rfl) (.cons [(some 1, Ent.t 30 (VA.ptr 3 1)), (none, Ent.h 3 (HE.box 24 kDisk a1))] (OpSpec.run rfl rfl (op_load rfl fldDisk_Files tk22 (.t NL.h0) (NL.hs NL.h0)) rfl) (.cons (has rfl) (.cons (has rfl) .nil)) (by kernel_rfl) (.cons [(some 2, Ent.t 31 (VA.k (kslice kFile) a1.Files))] (OpSpec.run rfl rfl (op_len rfl rfl Try.underlying22 (.t NL.h0)) rfl) (.cons (has rfl) .nil) (by kernel_rfl) (.cons [(some 0, Ent.t 29 (VA.k (kint .i64) s9.2.2)), (some 3, Ent.t 32 (VA.k (kint .i64) (a1.Files.length : Int)))] (OpSpec.run rfl rfl (op_icmp rfl rfl (.t NL.h0) (.t (NL.hs NL.h0))) rfl) (.cons (has rfl) (.cons (has rfl) .nil)) (by kernel_rfl) (.cons [(some 4, Ent.t 33 (VA.k kbool (icmp .eql s9.2.2 (a1.Files.length : Int))))] (OpSpec.run rfl rfl (op_move rfl (.t NL.h0)) rfl) (.cons (has rfl) .nil) (by kernel_rfl) (.cons [(some 5, Ent.t 34 (VA.k kbool (icmp .eql s9.2.2 (a1.Files.length : Int))))] (run_skip rfl rfl rfl rfl rfl rfl NL.h0 hb18) (.cons (has rfl) .nil) (by kernel_rfl) (.cons [(some 5, Ent.t 34 (VA.k kbool (icmp .eql s9.2.2 (a1.Files.length : Int))))] (run_skip rfl rfl rfl rfl rfl rfl NL.h0 hb18) (.cons (has rfl) .nil) (by kernel_rfl) (.cons [(some 5, Ent.t 34 (VA.k kbool (icmp .eql s9.2.2 (a1.Files.length : Int))))] (run_skip rfl rfl rfl rfl rfl rfl NL.h0 hb18) (.cons (has rfl) .nil) (by kernel_rfl) (.cons [(some 5, Ent.t 34 (VA.k kbool (icmp .eql s9.2.2 (a1.Files.length : Int))))] (run_skip rfl rfl rfl rfl rfl rfl NL.h0 hb18) (.cons (has rfl) .nil) (by kernel_rfl) (.cons [(some 5, Ent.t 34 (VA.k kbool (icmp .eql s9.2.2 (a1.Files.length : Int))))] (run_skip rfl rfl rfl rfl rfl rfl NL.h0 hb18) (.cons (has rfl) .nil) (by kernel_rfl) (.cons [(some 5, Ent.t 34 (VA.k kbool (icmp .eql s9.2.2 (a1.Files.length : Int))))] (run_skip rfl rfl rfl rfl rfl rfl NL.h0 hb18) (.cons (has rfl) .nil) (by kernel_rfl) (.cons [(some 11, Ent.t 40 (VA.v undef))] (run_skipU rfl rfl rfl rfl rfl rfl NL.h0) (.cons (has rfl) .nil) (by kernel_rfl) (.cons [(some 11, Ent.t 40 (VA.v undef))] (run_skipU rfl rfl rfl rfl rfl rfl NL.h0) (.cons (has rfl) .nil) (by kernel_rfl) (.cons [(some 11, Ent.t 40 (VA.v undef))] (run_skipU rfl rfl rfl rfl rfl rfl NL.h0) (.cons (has rfl) .nil) (by kernel_rfl) (.cons [(some 11, Ent.t 40 (VA.v undef))] (run_skipU rfl rfl rfl rfl rfl rfl NL.h0) (.cons (has rfl) .nil) (by kernel_rfl) (.cons [(some 11, Ent.t 40 (VA.v undef))] (run_skipU rfl rfl rfl rfl rfl rfl NL.h0) (.cons (has rfl) .nil) (by kernel_rfl) (.cons [(some 11, Ent.t 40 (VA.v undef))] (run_skipU rfl rfl rfl rfl rfl rfl NL.h0) (.cons (has rfl) .nil) (by kernel_rfl) (.cons [(some 11, Ent.t 40 (VA.v undef))] (run_skipU rfl rfl rfl rfl rfl rfl NL.h0) (.cons (has rfl) .nil) (by kernel_rfl) (.cons [(some 11, Ent.t 40 (VA.v undef))] (run_skipU rfl rfl rfl rfl rfl rfl NL.h0) (.cons (has rfl) .nil) (by kernel_rfl) (.cons [(some 11, Ent.t 40 (VA.v undef))] (run_skipU rfl rfl rfl rfl rfl rfl NL.h0) (.cons (has rfl) .nil) (by kernel_rfl) (.cons [(some 11, Ent.t 40 (VA.v undef))] (run_skipU rfl rfl rfl rfl rfl rfl NL.h0) (.cons (has rfl) .nil) (by kernel_rfl) (.cons [(some 11, Ent.t 40 (VA.v undef))] (run_skipU rfl rfl rfl rfl rfl rfl NL.h0) (.cons (has rfl) .nil) (by kernel_rfl) (.cons [(some 11, Ent.t 40 (VA.v undef))] (run_skipU rfl rfl rfl rfl rfl rfl NL.h0) (.cons (has rfl) .nil) (by kernel_rfl) (.cons [(some 11, Ent.t 40 (VA.v undef))] (run_skipU rfl rfl rfl rfl rfl rfl NL.h0) (.cons (has rfl) .nil) (by kernel_rfl) (.cons [(some 5, Ent.t 34 (VA.k kbool (icmp .eql s9.2.2 (a1.Files.length : Int))))] (run_skip rfl rfl rfl rfl rfl rfl NL.h0 hb18) (.cons (has rfl) .nil) (by kernel_rfl) (.cons [(some 5, Ent.t 34 (VA.k kbool (icmp .eql s9.2.2 (a1.Files.length : Int))))] (OpSpec.run rfl rfl (op_pick_t rfl hb18 (.t NL.h0) (.bool _)) rfl) (.cons (has rfl) .nil) (by kernel_rfl) (.nil _)))))))))))))))))))))))))))) ?_
            refine ends_sub [Ent.t 2 (VA.ptr 2 0), Ent.t 3 (VA.ptr 3 0), Ent.t 6 (VA.own 9 kstr s9.1), Ent.t 7 (VA.k (kint .i64) s9.2.1), Ent.t 8 (VA.k (kint .i64) s9.2.2), Ent.t 55 (VA.k kbool true), Ent.h 2 (HE.box 24 kDisk a0), Ent.h 3 (HE.box 24 kDisk a1)] (.cons rfl (.cons rfl (.cons rfl (.cons rfl (.cons rfl (.cons rfl (.cons rfl (.cons rfl .nil)))))))) ?_
            obtain rfl := Option.some.inj H
            exact ends_cut (.cons rfl (.cons rfl (.cons rfl (.cons rfl (.cons rfl (.cons rfl (.cons rfl (.cons rfl .nil))))))))
          · skip
            refine goes_split H (fun hb19 H => ?_) (fun hb19 H => ?_)
            · skip
              obtain ⟨x20, h21, H⟩ := bind_some H
              obtain ⟨x22, h23, H⟩ := bind_some H
              refine goes_drawn [[Ent.t 29 (VA.k (kint .i64) s9.2.2)], [Ent.t 30 (VA.ptr 3 1)], [Ent.t 31 (VA.k (kslice kFile) a1.Files)], [Ent.t 32 (VA.k (kint .i64) (a1.Files.length : Int))], [Ent.t 33 (VA.k kbool (icmp .eql s9.2.2 (a1.Files.length : Int)))], [Ent.t 34 (VA.k kbool (icmp .eql s9.2.2 (a1.Files.length : Int)))], [Ent.t 35 (VA.k (kint .i64) s9.2.1)], [Ent.t 36 (VA.ptr 2 1)], [Ent.t 37 (VA.k (kslice kFile) a0.Files)], [Ent.t 38 (VA.k (kint .i64) (a0.Files.length : Int))], [Ent.t 39 (VA.k kbool (icmp .lss s9.2.1 (a0.Files.length : Int)))], [Ent.t 40 (VA.k kbool (icmp .lss s9.2.1 (a0.Files.length : Int)))], [Ent.t 41 (VA.ptr 2 1)], [Ent.t 42 (VA.k (kslice kFile) a0.Files)], [Ent.t 43 (VA.k (kint .i64) s9.2.1)], [Ent.t 44 (VA.pt kFile x20)], [Ent.t 45 (VA.pt kstr x20.Name)], [Ent.t 46 (VA.k kstr x20.Name)], [Ent.t 47 (VA.ptr 3 1)], [Ent.t 48 (VA.k (kslice kFile) a1.Files)], [Ent.t 49 (VA.k (kint .i64) s9.2.2)], [Ent.t 50 (VA.pt kFile x22)], [Ent.t 51 (VA.pt kstr x22.Name)], [Ent.t 52 (VA.k kstr x22.Name)], [Ent.t 53 (VA.k kbool (scmp .lss x20.Name x22.Name))], [Ent.t 54 (VA.k kbool (scmp .lss x20.Name x22.Name))], [Ent.t 55 (VA.k kbool (scmp .lss x20.Name x22.Name))]] mixed (by kernel_rfl) (by kernel_rfl) (.cons [(none, Ent.t 8 (VA.k (kint .i64) s9.2.2))] (OpSpec.run rfl rfl (op_move rfl (.t NL.h0)) rfl) (.cons (has rfl) .nil) (by kernel_rfl) (.cons [(none, Ent.t 3 (VA.ptr 3 0))] (OpSpec.run rfl rfl (op_fieldAddr rfl Try.underlying24 rfl tk22 (.t NL.h0)) rfl) (.cons (has rfl) .nil) (by kernel_rfl) (.cons [(some 1, Ent.t 30 (VA.ptr 3 1)), (none, Ent.h 3 (HE.box 24 kDisk a1))] (OpSpec.run rfl rfl (op_load rfl fldDisk_Files tk22 (.t NL.h0) (NL.hs NL.h0)) rfl) (.cons (has rfl) (.cons (has rfl) .nil)) (by kernel_rfl) (.cons [(some 2, Ent.t 31 (VA.k (kslice kFile) a1.Files))] (OpSpec.run rfl rfl (op_len rfl rfl Try.underlying22 (.t NL.h0)) rfl) (.cons (has rfl) .nil) (by kernel_rfl) (.cons [(some 0, Ent.t 29 (VA.k (kint .i64) s9.2.2)), (some 3, Ent.t 32 (VA.k (kint .i64) (a1.Files.length : Int)))] (OpSpec.run rfl rfl (op_icmp rfl rfl (.t NL.h0) (.t (NL.hs NL.h0))) rfl) (.cons (has rfl) (.cons (has rfl) .nil)) (by kernel_rfl) (.cons [(some 4, Ent.t 33 (VA.k kbool (icmp .eql s9.2.2 (a1.Files.length : Int))))] (OpSpec.run rfl rfl (op_move rfl (.t NL.h0)) rfl) (.cons (has rfl) .nil) (by kernel_rfl) (.cons [(some 5, Ent.t 34 (VA.k kbool (icmp .eql s9.2.2 (a1.Files.length : Int)))), (none, Ent.t 7 (VA.k (kint .i64) s9.2.1))] (OpSpec.runG rfl rfl rfl rfl NL.h0 hb18 (op_move rfl (.t (NL.hs NL.h0))) rfl) (.cons (has rfl) (.cons (has rfl) .nil)) (by kernel_rfl) (.cons [(some 5, Ent.t 34 (VA.k kbool (icmp .eql s9.2.2 (a1.Files.length : Int)))), (none, Ent.t 2 (VA.ptr 2 0))] (OpSpec.runG rfl rfl rfl rfl NL.h0 hb18 (op_fieldAddr rfl Try.underlying24 rfl tk22 (.t (NL.hs NL.h0))) rfl) (.cons (has rfl) (.cons (has rfl) .nil)) (by kernel_rfl) (.cons [(some 5, Ent.t 34 (VA.k kbool (icmp .eql s9.2.2 (a1.Files.length : Int)))), (some 7, Ent.t 36 (VA.ptr 2 1)), (none, Ent.h 2 (HE.box 24 kDisk a0))] (OpSpec.runG rfl rfl rfl rfl NL.h0 hb18 (op_load rfl fldDisk_Files tk22 (.t (NL.hs NL.h0)) (NL.hs (NL.hs NL.h0))) rfl) (.cons (has rfl) (.cons (has rfl) (.cons (has rfl) .nil))) (by kernel_rfl) (.cons [(some 5, Ent.t 34 (VA.k kbool (icmp .eql s9.2.2 (a1.Files.length : Int)))), (some 8, Ent.t 37 (VA.k (kslice kFile) a0.Files))] (OpSpec.runG rfl rfl rfl rfl NL.h0 hb18 (op_len rfl rfl Try.underlying22 (.t (NL.hs NL.h0))) rfl) (.cons (has rfl) (.cons (has rfl) .nil)) (by kernel_rfl) (.cons [(some 5, Ent.t 34 (VA.k kbool (icmp .eql s9.2.2 (a1.Files.length : Int)))), (some 6, Ent.t 35 (VA.k (kint .i64) s9.2.1)), (some 9, Ent.t 38 (VA.k (kint .i64) (a0.Files.length : Int)))] (OpSpec.runG rfl rfl rfl rfl NL.h0 hb18 (op_icmp rfl rfl (.t (NL.hs NL.h0)) (.t (NL.hs (NL.hs NL.h0)))) rfl) (.cons (has rfl) (.cons (has rfl) (.cons (has rfl) .nil))) (by kernel_rfl) (.cons [(some 5, Ent.t 34 (VA.k kbool (icmp .eql s9.2.2 (a1.Files.length : Int)))), (some 10, Ent.t 39 (VA.k kbool (icmp .lss s9.2.1 (a0.Files.length : Int))))] (OpSpec.runG rfl rfl rfl rfl NL.h0 hb18 (op_move rfl (.t (NL.hs NL.h0))) rfl) (.cons (has rfl) (.cons (has rfl) .nil)) (by kernel_rfl) (.cons [(some 11, Ent.t 40 (VA.k kbool (icmp .lss s9.2.1 (a0.Files.length : Int)))), (none, Ent.t 2 (VA.ptr 2 0))] (OpSpec.runG rfl rfl rfl rfl NL.h0 hb19 (op_fieldAddr rfl Try.underlying24 rfl tk22 (.t (NL.hs NL.h0))) rfl) (.cons (has rfl) (.cons (has rfl) .nil)) (by kernel_rfl) (.cons [(some 11, Ent.t 40 (VA.k kbool (icmp .lss s9.2.1 (a0.Files.length : Int)))), (some 12, Ent.t 41 (VA.ptr 2 1)), (none, Ent.h 2 (HE.box 24 kDisk a0))] (OpSpec.runG rfl rfl rfl rfl NL.h0 hb19 (op_load rfl fldDisk_Files tk22 (.t (NL.hs NL.h0)) (NL.hs (NL.hs NL.h0))) rfl) (.cons (has rfl) (.cons (has rfl) (.cons (has rfl) .nil))) (by kernel_rfl) (.cons [(some 11, Ent.t 40 (VA.k kbool (icmp .lss s9.2.1 (a0.Files.length : Int)))), (none, Ent.t 7 (VA.k (kint .i64) s9.2.1))] (OpSpec.runG rfl rfl rfl rfl NL.h0 hb19 (op_move rfl (.t (NL.hs NL.h0))) rfl) (.cons (has rfl) (.cons (has rfl) .nil)) (by kernel_rfl) (.cons [(some 11, Ent.t 40 (VA.k kbool (icmp .lss s9.2.1 (a0.Files.length : Int)))), (some 13, Ent.t 42 (VA.k (kslice kFile) a0.Files)), (some 14, Ent.t 43 (VA.k (kint .i64) s9.2.1))] (OpSpec.runG rfl rfl rfl rfl NL.h0 hb19 (op_indexAddr rfl Try.underlying22 tk26 h21 (.t (NL.hs NL.h0)) (.t (NL.hs (NL.hs NL.h0)))) rfl) (.cons (has rfl) (.cons (has rfl) (.cons (has rfl) .nil))) (by kernel_rfl) (.cons [(some 11, Ent.t 40 (VA.k kbool (icmp .lss s9.2.1 (a0.Files.length : Int)))), (some 15, Ent.t 44 (VA.pt kFile x20))] (OpSpec.runG rfl rfl rfl rfl NL.h0 hb19 (op_fieldAddrp rfl fldFile_Name Try.underlying26 rfl tk9 (.t (NL.hs NL.h0))) rfl) (.cons (has rfl) (.cons (has rfl) .nil)) (by kernel_rfl) (.cons [(some 11, Ent.t 40 (VA.k kbool (icmp .lss s9.2.1 (a0.Files.length : Int)))), (some 16, Ent.t 45 (VA.pt kstr x20.Name))] (OpSpec.runG rfl rfl rfl rfl NL.h0 hb19 (op_loadp rfl tk9 (.t (NL.hs NL.h0))) rfl) (.cons (has rfl) (.cons (has rfl) .nil)) (by kernel_rfl) (.cons [(some 11, Ent.t 40 (VA.k kbool (icmp .lss s9.2.1 (a0.Files.length : Int)))), (none, Ent.t 3 (VA.ptr 3 0))] (OpSpec.runG rfl rfl rfl rfl NL.h0 hb19 (op_fieldAddr rfl Try.underlying24 rfl tk22 (.t (NL.hs NL.h0))) rfl) (.cons (has rfl) (.cons (has rfl) .nil)) (by kernel_rfl) (.cons [(some 11, Ent.t 40 (VA.k kbool (icmp .lss s9.2.1 (a0.Files.length : Int)))), (some 18, Ent.t 47 (VA.ptr 3 1)), (none, Ent.h 3 (HE.box 24 kDisk a1))] (OpSpec.runG rfl rfl rfl rfl NL.h0 hb19 (op_load rfl fldDisk_Files tk22 (.t (NL.hs NL.h0)) (NL.hs (NL.hs NL.h0))) rfl) (.cons (has rfl) (.cons (has rfl) (.cons (has rfl) .nil))) (by kernel_rfl) (.cons [(some 11, Ent.t 40 (VA.k kbool (icmp .lss s9.2.1 (a0.Files.length : Int)))), (none, Ent.t 8 (VA.k (kint .i64) s9.2.2))] (OpSpec.runG rfl rfl rfl rfl NL.h0 hb19 (op_move rfl (.t (NL.hs NL.h0))) rfl) (.cons (has rfl) (.cons (has rfl) .nil)) (by kernel_rfl) (.cons [(some 11, Ent.t 40 (VA.k kbool (icmp .lss s9.2.1 (a0.Files.length : Int)))), (some 19, Ent.t 48 (VA.k (kslice kFile) a1.Files)), (some 20, Ent.t 49 (VA.k (kint .i64) s9.2.2))] (OpSpec.runG rfl rfl rfl rfl NL.h0 hb19 (op_indexAddr rfl Try.underlying22 tk26 h23 (.t (NL.hs NL.h0)) (.t (NL.hs (NL.hs NL.h0)))) rfl) (.cons (has rfl) (.cons (has rfl) (.cons (has rfl) .nil))) (by kernel_rfl) (.cons [(some 11, Ent.t 40 (VA.k kbool (icmp .lss s9.2.1 (a0.Files.length : Int)))), (some 21, Ent.t 50 (VA.pt kFile x22))] (OpSpec.runG rfl rfl rfl rfl NL.h0 hb19 (op_fieldAddrp rfl fldFile_Name Try.underlying26 rfl tk9 (.t (NL.hs NL.h0))) rfl) (.cons (has rfl) (.cons (has rfl) .nil)) (by kernel_rfl) (.cons [(some 11, Ent.t 40 (VA.k kbool (icmp .lss s9.2.1 (a0.Files.length : Int)))), (some 22, Ent.t 51 (VA.pt kstr x22.Name))] (OpSpec.runG rfl rfl rfl rfl NL.h0 hb19 (op_loadp rfl tk9 (.t (NL.hs NL.h0))) rfl) (.cons (has rfl) (.cons (has rfl) .nil)) (by kernel_rfl) (.cons [(some 11, Ent.t 40 (VA.k kbool (icmp .lss s9.2.1 (a0.Files.length : Int)))), (some 17, Ent.t 46 (VA.k kstr x20.Name)), (some 23, Ent.t 52 (VA.k kstr x22.Name))] (OpSpec.runG rfl rfl rfl rfl NL.h0 hb19 (op_scmp rfl rfl (.t (NL.hs NL.h0)) (.t (NL.hs (NL.hs NL.h0)))) rfl) (.cons (has rfl) (.cons (has rfl) (.cons (has rfl) .nil))) (by kernel_rfl) (.cons [(some 5, Ent.t 34 (VA.k kbool (icmp .eql s9.2.2 (a1.Files.length : Int)))), (some 11, Ent.t 40 (VA.k kbool (icmp .lss s9.2.1 (a0.Files.length : Int)))), (some 24, Ent.t 53 (VA.k kbool (scmp .lss x20.Name x22.Name)))] (OpSpec.runG rfl rfl rfl rfl NL.h0 hb18 (op_pick_t rfl hb19 (.t (NL.hs NL.h0)) (.t (NL.hs (NL.hs NL.h0)))) rfl) (.cons (has rfl) (.cons (has rfl) (.cons (has rfl) .nil))) (by kernel_rfl) (.cons [(some 5, Ent.t 34 (VA.k kbool (icmp .eql s9.2.2 (a1.Files.length : Int)))), (some 25, Ent.t 54 (VA.k kbool (scmp .lss x20.Name x22.Name)))] (OpSpec.run rfl rfl (op_pick_f rfl hb18 (.t NL.h0) (.t (NL.hs NL.h0))) rfl) (.cons (has rfl) (.cons (has rfl) .nil)) (by kernel_rfl) (.nil _)))))))))))))))))))))))))))) ?_
              refine ends_sub [Ent.t 2 (VA.ptr 2 0), Ent.t 3 (VA.ptr 3 0), Ent.t 6 (VA.own 9 kstr s9.1), Ent.t 7 (VA.k (kint .i64) s9.2.1), Ent.t 8 (VA.k (kint .i64) s9.2.2), Ent.t 35 (VA.k (kint .i64) s9.2.1), Ent.t 36 (VA.ptr 2 1), Ent.t 37 (VA.k (kslice kFile) a0.Files), Ent.t 38 (VA.k (kint .i64) (a0.Files.length : Int)), Ent.t 39 (VA.k kbool (icmp .lss s9.2.1 (a0.Files.length : Int))), Ent.t 40 (VA.k kbool (icmp .lss s9.2.1 (a0.Files.length : Int))), Ent.t 41 (VA.ptr 2 1), Ent.t 42 (VA.k (kslice kFile) a0.Files), Ent.t 43 (VA.k (kint .i64) s9.2.1), Ent.t 44 (VA.pt kFile x20), Ent.t 45 (VA.pt kstr x20.Name), Ent.t 46 (VA.k kstr x20.Name), Ent.t 47 (VA.ptr 3 1), Ent.t 48 (VA.k (kslice kFile) a1.Files), Ent.t 49 (VA.k (kint .i64) s9.2.2), Ent.t 50 (VA.pt kFile x22), Ent.t 51 (VA.pt kstr x22.Name), Ent.t 52 (VA.k kstr x22.Name), Ent.t 53 (VA.k kbool (scmp .lss x20.Name x22.Name)), Ent.t 54 (VA.k kbool (scmp .lss x20.Name x22.Name)), Ent.t 55 (VA.k kbool (scmp .lss x20.Name x22.Name)), Ent.h 2 (HE.box 24 kDisk a0), Ent.h 3 (HE.box 24 kDisk a1)] (.cons rfl (.cons rfl (.cons rfl (.cons rfl (.cons rfl (.cons rfl (.cons rfl (.cons rfl (.cons rfl (.cons rfl (.cons rfl (.cons rfl (.cons rfl (.cons rfl (.cons rfl (.cons rfl (.cons rfl (.cons rfl (.cons rfl (.cons rfl (.cons rfl (.cons rfl (.cons rfl (.cons rfl (.cons rfl (.cons rfl (.cons rfl (.cons rfl .nil)))))))))))))))))))))))))))) ?_
              obtain rfl := Option.some.inj H
              exact ends_cut (.cons rfl (.cons rfl (.cons rfl (.cons rfl (.cons rfl (.cons rfl (.cons rfl (.cons rfl .nil))))))))
            · skip
              refine goes_drawn [[Ent.t 29 (VA.k (kint .i64) s9.2.2)], [Ent.t 30 (VA.ptr 3 1)], [Ent.t 31 (VA.k (kslice kFile) a1.Files)], [Ent.t 32 (VA.k (kint .i64) (a1.Files.length : Int))], [Ent.t 33 (VA.k kbool (icmp .eql s9.2.2 (a1.Files.length : Int)))], [Ent.t 34 (VA.k kbool (icmp .eql s9.2.2 (a1.Files.length : Int)))], [Ent.t 35 (VA.k (kint .i64) s9.2.1)], [Ent.t 36 (VA.ptr 2 1)], [Ent.t 37 (VA.k (kslice kFile) a0.Files)], [Ent.t 38 (VA.k (kint .i64) (a0.Files.length : Int))], [Ent.t 39 (VA.k kbool (icmp .lss s9.2.1 (a0.Files.length : Int)))], [Ent.t 40 (VA.k kbool (icmp .lss s9.2.1 (a0.Files.length : Int)))], [Ent.t 41 (VA.v undef)], [Ent.t 42 (VA.v undef)], [Ent.t 43 (VA.v undef)], [Ent.t 44 (VA.v undef)], [Ent.t 45 (VA.v undef)], [Ent.t 46 (VA.v undef)], [Ent.t 47 (VA.v undef)], [Ent.t 48 (VA.v undef)], [Ent.t 49 (VA.v undef)], [Ent.t 50 (VA.v undef)], [Ent.t 51 (VA.v undef)], [Ent.t 52 (VA.v undef)], [Ent.t 53 (VA.v undef)], [Ent.t 54 (VA.k kbool false)], [Ent.t 55 (VA.k kbool false)]] mixed (by kernel_rfl) (by kernel_rfl) (.cons [(none, Ent.t 8 (VA.k (kint .i64) s9.2.2))] (OpSpec.run rfl rfl (op_move rfl (.t NL.h0)) rfl) (.cons (has rfl) .nil) (by kernel_rfl) (.cons [(none, Ent.t 3 (VA.ptr 3 0))] (OpSpec.run rfl rfl (op_fieldAddr rfl Try.underlying24 rfl tk22 (.t NL.h0)) rfl) (.cons (has rfl) .nil) (by kernel_rfl) (.cons [(some 1, Ent.t 30 (VA.ptr 3 1)), (none, Ent.h 3 (HE.box 24 kDisk a1))] (OpSpec.run rfl rfl (op_load rfl fldDisk_Files tk22 (.t NL.h0) (NL.hs NL.h0)) rfl) (.cons (has rfl) (.cons (has rfl) .nil)) (by kernel_rfl) (.cons [(some 2, Ent.t 31 (VA.k (kslice kFile) a1.Files))] (OpSpec.run rfl rfl (op_len rfl rfl Try.underlying22 (.t NL.h0)) rfl) (.cons (has rfl) .nil) (by kernel_rfl) (.cons [(some 0, Ent.t 29 (VA.k (kint .i64) s9.2.2)), (some 3, Ent.t 32 (VA.k (kint .i64) (a1.Files.length : Int)))] (OpSpec.run rfl rfl (op_icmp rfl rfl (.t NL.h0) (.t (NL.hs NL.h0))) rfl) (.cons (has rfl) (.cons (has rfl) .nil)) (by kernel_rfl) (.cons [(some 4, Ent.t 33 (VA.k kbool (icmp .eql s9.2.2 (a1.Files.length : Int))))] (OpSpec.run rfl rfl (op_move rfl (.t NL.h0)) rfl) (.cons (has rfl) .nil) (by kernel_rfl) (.cons [(some 5, Ent.t 34 (VA.k kbool (icmp .eql s9.2.2 (a1.Files.length : Int)))), (none, Ent.t 7 (VA.k (kint .i64) s9.2.1))] (OpSpec.runG rfl rfl rfl rfl NL.h0 hb18 (op_move rfl (.t (NL.hs NL.h0))) rfl) (.cons (has rfl) (.cons (has rfl) .nil)) (by kernel_rfl) (.cons [(some 5, Ent.t 34 (VA.k kbool (icmp .eql s9.2.2 (a1.Files.length : Int)))), (none, Ent.t 2 (VA.ptr 2 0))] (OpSpec.runG rfl rfl rfl rfl NL.h0 hb18 (op_fieldAddr rfl Try.underlying24 rfl tk22 (.t (NL.hs NL.h0))) rfl) (.cons (has rfl) (.cons (has rfl) .nil)) (by kernel_rfl) (.cons [(some 5, Ent.t 34 (VA.k kbool (icmp .eql s9.2.2 (a1.Files.length : Int)))), (some 7, Ent.t 36 (VA.ptr 2 1)), (none, Ent.h 2 (HE.box 24 kDisk a0))] (OpSpec.runG rfl rfl rfl rfl NL.h0 hb18 (op_load rfl fldDisk_Files tk22 (.t (NL.hs NL.h0)) (NL.hs (NL.hs NL.h0))) rfl) (.cons (has rfl) (.cons (has rfl) (.cons (has rfl) .nil))) (by kernel_rfl) (.cons [(some 5, Ent.t 34 (VA.k kbool (icmp .eql s9.2.2 (a1.Files.length : Int)))), (some 8, Ent.t 37 (VA.k (kslice kFile) a0.Files))] (OpSpec.runG rfl rfl rfl rfl NL.h0 hb18 (op_len rfl rfl Try.underlying22 (.t (NL.hs NL.h0))) rfl) (.cons (has rfl) (.cons (has rfl) .nil)) (by kernel_rfl) (.cons [(some 5, Ent.t 34 (VA.k kbool (icmp .eql s9.2.2 (a1.Files.length : Int)))), (some 6, Ent.t 35 (VA.k (kint .i64) s9.2.1)), (some 9, Ent.t 38 (VA.k (kint .i64) (a0.Files.length : Int)))] (OpSpec.runG rfl rfl rfl rfl NL.h0 hb18 (op_icmp rfl rfl (.t (NL.hs NL.h0)) (.t (NL.hs (NL.hs NL.h0)))) rfl) (.cons (has rfl) (.cons (has rfl) (.cons (has rfl) .nil))) (by kernel_rfl) (.cons [(some 5, Ent.t 34 (VA.k kbool (icmp .eql s9.2.2 (a1.Files.length : Int)))), (some 10, Ent.t 39 (VA.k kbool (icmp .lss s9.2.1 (a0.Files.length : Int))))] (OpSpec.runG rfl rfl rfl rfl NL.h0 hb18 (op_move rfl (.t (NL.hs NL.h0))) rfl) (.cons (has rfl) (.cons (has rfl) .nil)) (by kernel_rfl) (.cons [(some 11, Ent.t 40 (VA.k kbool (icmp .lss s9.2.1 (a0.Files.length : Int))))] (run_skip rfl rfl rfl rfl rfl rfl NL.h0 hb19) (.cons (has rfl) .nil) (by kernel_rfl) (.cons [(some 11, Ent.t 40 (VA.k kbool (icmp .lss s9.2.1 (a0.Files.length : Int))))] (run_skip rfl rfl rfl rfl rfl rfl NL.h0 hb19) (.cons (has rfl) .nil) (by kernel_rfl) (.cons [(some 11, Ent.t 40 (VA.k kbool (icmp .lss s9.2.1 (a0.Files.length : Int))))] (run_skip rfl rfl rfl rfl rfl rfl NL.h0 hb19) (.cons (has rfl) .nil) (by kernel_rfl) (.cons [(some 11, Ent.t 40 (VA.k kbool (icmp .lss s9.2.1 (a0.Files.length : Int))))] (run_skip rfl rfl rfl rfl rfl rfl NL.h0 hb19) (.cons (has rfl) .nil) (by kernel_rfl) (.cons [(some 11, Ent.t 40 (VA.k kbool (icmp .lss s9.2.1 (a0.Files.length : Int))))] (run_skip rfl rfl rfl rfl rfl rfl NL.h0 hb19) (.cons (has rfl) .nil) (by kernel_rfl) (.cons [(some 11, Ent.t 40 (VA.k kbool (icmp .lss s9.2.1 (a0.Files.length : Int))))] (run_skip rfl rfl rfl rfl rfl rfl NL.h0 hb19) (.cons (has rfl) .nil) (by kernel_rfl) (.cons [(some 11, Ent.t 40 (VA.k kbool (icmp .lss s9.2.1 (a0.Files.length : Int))))] (run_skip rfl rfl rfl rfl rfl rfl NL.h0 hb19) (.cons (has rfl) .nil) (by kernel_rfl) (.cons [(some 11, Ent.t 40 (VA.k kbool (icmp .lss s9.2.1 (a0.Files.length : Int))))] (run_skip rfl rfl rfl rfl rfl rfl NL.h0 hb19) (.cons (has rfl) .nil) (by kernel_rfl) (.cons [(some 11, Ent.t 40 (VA.k kbool (icmp .lss s9.2.1 (a0.Files.length : Int))))] (run_skip rfl rfl rfl rfl rfl rfl NL.h0 hb19) (.cons (has rfl) .nil) (by kernel_rfl) (.cons [(some 11, Ent.t 40 (VA.k kbool (icmp .lss s9.2.1 (a0.Files.length : Int))))] (run_skip rfl rfl rfl rfl rfl rfl NL.h0 hb19) (.cons (has rfl) .nil) (by kernel_rfl) (.cons [(some 11, Ent.t 40 (VA.k kbool (icmp .lss s9.2.1 (a0.Files.length : Int))))] (run_skip rfl rfl rfl rfl rfl rfl NL.h0 hb19) (.cons (has rfl) .nil) (by kernel_rfl) (.cons [(some 11, Ent.t 40 (VA.k kbool (icmp .lss s9.2.1 (a0.Files.length : Int))))] (run_skip rfl rfl rfl rfl rfl rfl NL.h0 hb19) (.cons (has rfl) .nil) (by kernel_rfl) (.cons [(some 11, Ent.t 40 (VA.k kbool (icmp .lss s9.2.1 (a0.Files.length : Int))))] (run_skip rfl rfl rfl rfl rfl rfl NL.h0 hb19) (.cons (has rfl) .nil) (by kernel_rfl) (.cons [(some 5, Ent.t 34 (VA.k kbool (icmp .eql s9.2.2 (a1.Files.length : Int)))), (some 11, Ent.t 40 (VA.k kbool (icmp .lss s9.2.1 (a0.Files.length : Int))))] (OpSpec.runG rfl rfl rfl rfl NL.h0 hb18 (op_pick_f rfl hb19 (.t (NL.hs NL.h0)) (.bool _)) rfl) (.cons (has rfl) (.cons (has rfl) .nil)) (by kernel_rfl) (.cons [(some 5, Ent.t 34 (VA.k kbool (icmp .eql s9.2.2 (a1.Files.length : Int)))), (some 25, Ent.t 54 (VA.k kbool false))] (OpSpec.run rfl rfl (op_pick_f rfl hb18 (.t NL.h0) (.t (NL.hs NL.h0))) rfl) (.cons (has rfl) (.cons (has rfl) .nil)) (by kernel_rfl) (.nil _)))))))))))))))))))))))))))) ?_
              refine ends_sub [Ent.t 2 (VA.ptr 2 0), Ent.t 3 (VA.ptr 3 0), Ent.t 6 (VA.own 9 kstr s9.1), Ent.t 7 (VA.k (kint .i64) s9.2.1), Ent.t 8 (VA.k (kint .i64) s9.2.2), Ent.t 35 (VA.k (kint .i64) s9.2.1), Ent.t 36 (VA.ptr 2 1), Ent.t 37 (VA.k (kslice kFile) a0.Files), Ent.t 38 (VA.k (kint .i64) (a0.Files.length : Int)), Ent.t 39 (VA.k kbool (icmp .lss s9.2.1 (a0.Files.length : Int))), Ent.t 40 (VA.k kbool (icmp .lss s9.2.1 (a0.Files.length : Int))), Ent.t 54 (VA.k kbool false), Ent.t 55 (VA.k kbool false), Ent.h 2 (HE.box 24 kDisk a0), Ent.h 3 (HE.box 24 kDisk a1)] (.cons rfl (.cons rfl (.cons rfl (.cons rfl (.cons rfl (.cons rfl (.cons rfl (.cons rfl (.cons rfl (.cons rfl (.cons rfl (.cons rfl (.cons rfl (.cons rfl (.cons rfl .nil))))))))))))))) ?_
              obtain rfl := Option.some.inj H
              exact ends_cut (.cons rfl (.cons rfl (.cons rfl (.cons rfl (.cons rfl (.cons rfl (.cons rfl (.cons rfl .nil))))))))
        refine ends_then ?_
        refine goes_if (.t (has rfl)) H (fun hb24 H => ?_) (fun hb24 H => ?_)
        · skip
          refine goes_seq ?_
          refine goes_region ?_
          refine go2 (op_mv (.inl rfl) rfl rfl (has rfl)) rfl ?_
          refine go1 (op_fieldAddr rfl Try.underlying24 rfl tk22 (.t (has rfl))) rfl ?_
          refine go1 (op_load rfl fldDisk_Files tk22 (.t (has rfl)) (has rfl)) rfl ?_
          refine go1 (op_move rfl (.t (has rfl))) rfl ?_
          obtain ⟨x25, h26, H⟩ := bind_some H
          refine go1 (op_indexAddr rfl Try.underlying22 tk26 h26 (.t (has rfl)) (.t (has rfl))) rfl ?_
          refine go1 (op_fieldAddrp rfl fldFile_Name Try.underlying26 rfl tk9 (.t (has rfl))) rfl ?_
          refine go1 (op_loadp rfl tk9 (.t (has rfl))) rfl ?_
          refine go1 (op_buildSlice rfl at32 (fun h => by first | rfl | cases h) rfl rfl rfl (.cons (.t (has rfl)) (.nil _))) rfl ?_
          obtain ⟨x27, h28, H⟩ := bind_some H
          refine go2 (op_append rfl rfl at32 h28 (has rfl) (ReadsArg.own (.t (has rfl)))) rfl ?_
          refine go2 (op_mv (.inr rfl) rfl rfl (has rfl)) rfl ?_
          refine goesO_nil ?_
          refine ends_then ?_
          refine goes_seq ?_
          refine goes_region ?_
          refine go1 (op_move rfl (.t (has rfl))) rfl ?_
          refine go1 (op_add rfl (.t (has rfl)) (.int _ _)) rfl ?_
          refine go1 (op_assign rfl (.t (has rfl))) rfl ?_
          refine goesO_nil ?_
          refine ends_then ?_
          refine goes_exit (ends_then_exit (ends_block_exit ?_))
          exact loop_next _ H (.cons rfl (.cons rfl (.cons rfl (.cons rfl (.cons rfl (.cons rfl (.cons rfl .nil)))))))
        · skip
          refine goes_skip ?_
          refine ends_then ?_
          refine goes_seq ?_
          refine goes_seq ?_
          obtain ⟨s29, h30, H⟩ := bind_some H
          refine goes_cut [Ent.t 2 (VA.ptr 2 0), Ent.t 3 (VA.ptr 3 0), Ent.t 6 (VA.own 9 kstr s9.1), Ent.t 7 (VA.k (kint .i64) s9.2.1), Ent.t 8 (VA.k (kint .i64) s9.2.2), Ent.t 86 (VA.k kbool s29), Ent.h 2 (HE.box 24 kDisk a0), Ent.h 3 (HE.box 24 kDisk a1)] ?_ ?_
          · replace H := h30; clear h30
            refine goes_split H (fun hb31 H => ?_) (fun hb31 H => ?_)
            · skip
              refine goes_drawn [[Ent.t 67 (VA.k (kint .i64) s9.2.1)], [Ent.t 68 (VA.ptr 2 1)], [Ent.t 69 (VA.k (kslice kFile) a0.Files)], [Ent.t 70 (VA.k (kint .i64) (a0.Files.length : Int))], [Ent.t 71 (VA.k kbool (icmp .eql s9.2.1 (a0.Files.length : Int)))], [Ent.t 72 (VA.k kbool (icmp .eql s9.2.1 (a0.Files.length : Int)))], [Ent.t 73 (VA.v undef)], [Ent.t 74 (VA.v undef)], [Ent.t 75 (VA.v undef)], [Ent.t 76 (VA.v undef)], [Ent.t 77 (VA.v undef)], [Ent.t 78 (VA.v undef)], [Ent.t 79 (VA.v undef)], [Ent.t 80 (VA.v undef)], [Ent.t 81 (VA.v undef)], [Ent.t 82 (VA.v undef)], [Ent.t 83 (VA.v undef)], [Ent.t 84 (VA.v undef)], [Ent.t 85 (VA.v undef)], [Ent.t 86 (VA.k kbool true)]] mixed (by kernel_rfl) (by kernel_rfl) (.cons [(none, Ent.t 7 (VA.k (kint .i64) s9.2.1))] (OpSpec.run rfl rfl (op_move rfl (.t NL.h0)) rfl) (.cons (has rfl) .nil) (by kernel_rfl) (.cons [(none, Ent.t 2 (VA.ptr 2 0))] (OpSpec.run rfl rfl (op_fieldAddr rfl Try.underlying24 rfl tk22 (.t NL.h0)) rfl) (.cons (has rfl) .nil) (by kernel_rfl) (.cons [(some 1, Ent.t 68 (VA.ptr 2 1)), (none, Ent.h 2 (HE.box 24 kDisk a0))] (OpSpec.run rfl rfl (op_load rfl fldDisk_Files tk22 (.t NL.h0) (NL.hs NL.h0)) rfl) (.cons (has rfl) (.cons (has rfl) .nil)) (by kernel_rfl) (.cons [(some 2, Ent.t 69 (VA.k (kslice kFile) a0.Files))] (OpSpec.run rfl rfl (op_len rfl rfl Try.underlying22 (.t NL.h0)) rfl) (.cons (has rfl) .nil) (by kernel_rfl) (.cons [(some 0, Ent.t 67 (VA.k (kint .i64) s9.2.1)), (some 3, Ent.t 70 (VA.k (kint .i64) (a0.Files.length : Int)))] (OpSpec.run rfl rfl (op_icmp rfl rfl (.t NL.h0) (.t (NL.hs NL.h0))) rfl) (.cons (has rfl) (.cons (has rfl) .nil)) (by kernel_rfl) (.cons [(some 4, Ent.t 71 (VA.k kbool (icmp .eql s9.2.1 (a0.Files.length : Int))))] (OpSpec.run rfl rfl (op_move rfl (.t NL.h0)) rfl) (.cons (has rfl) .nil) (by kernel_rfl) (.cons [(some 5, Ent.t 72 (VA.k kbool (icmp .eql s9.2.1 (a0.Files.length : Int))))] (run_skip rfl rfl rfl rfl rfl rfl NL.h0 hb31) (.cons (has rfl) .nil) (by kernel_rfl) (.cons [(some 5, Ent.t 72 (VA.k kbool (icmp .eql s9.2.1 (a0.Files.length : Int))))] (run_skip rfl rfl rfl rfl rfl rfl NL.h0 hb31) (.cons (has rfl) .nil) (by kernel_rfl) (.cons [(some 5, Ent.t 72 (VA.k kbool (icmp .eql s9.2.1 (a0.Files.length : Int))))] (run_skip rfl rfl rfl rfl rfl rfl NL.h0 hb31) (.cons (has rfl) .nil) (by kernel_rfl) (.cons [(some 5, Ent.t 72 (VA.k kbool (icmp .eql s9.2.1 (a0.Files.length : Int))))] (run_skip rfl rfl rfl rfl rfl rfl NL.h0 hb31) (.cons (has rfl) .nil) (by kernel_rfl) (.cons [(some 5, Ent.t 72 (VA.k kbool (icmp .eql s9.2.1 (a0.Files.length : Int))))] (run_skip rfl rfl rfl rfl rfl rfl NL.h0 hb31) (.cons (has rfl) .nil) (by kernel_rfl) (.cons [(some 5, Ent.t 72 (VA.k kbool (icmp .eql s9.2.1 (a0.Files.length : Int))))] (run_skip rfl rfl rfl rfl rfl rfl NL.h0 hb31) (.cons (has rfl) .nil) (by kernel_rfl) (.cons [(some 5, Ent.t 72 (VA.k kbool (icmp .eql s9.2.1 (a0.Files.length : Int))))] (run_skip rfl rfl rfl rfl rfl rfl NL.h0 hb31) (.cons (has rfl) .nil) (by kernel_rfl) (.cons [(some 5, Ent.t 72 (VA.k kbool (icmp .eql s9.2.1 (a0.Files.length : Int))))] (run_skip rfl rfl rfl rfl rfl rfl NL.h0 hb31) (.cons (has rfl) .nil) (by kernel_rfl) (.cons [(some 5, Ent.t 72 (VA.k kbool (icmp .eql s9.2.1 (a0.Files.length : Int))))] (run_skip rfl rfl rfl rfl rfl rfl NL.h0 hb31) (.cons (has rfl) .nil) (by kernel_rfl) (.cons [(some 5, Ent.t 72 (VA.k kbool (icmp .eql s9.2.1 (a0.Files.length : Int))))] (run_skip rfl rfl rfl rfl rfl rfl NL.h0 hb31) (.cons (has rfl) .nil) (by kernel_rfl) (.cons [(some 5, Ent.t 72 (VA.k kbool (icmp .eql s9.2.1 (a0.Files.length : Int))))] (run_skip rfl rfl rfl rfl rfl rfl NL.h0 hb31) (.cons (has rfl) .nil) (by kernel_rfl) (.cons [(some 5, Ent.t 72 (VA.k kbool (icmp .eql s9.2.1 (a0.Files.length : Int))))] (run_skip rfl rfl rfl rfl rfl rfl NL.h0 hb31) (.cons (has rfl) .nil) (by kernel_rfl) (.cons [(some 5, Ent.t 72 (VA.k kbool (icmp .eql s9.2.1 (a0.Files.length : Int))))] (run_skip rfl rfl rfl rfl rfl rfl NL.h0 hb31) (.cons (has rfl) .nil) (by kernel_rfl) (.cons [(some 5, Ent.t 72 (VA.k kbool (icmp .eql s9.2.1 (a0.Files.length : Int))))] (OpSpec.run rfl rfl (op_pick_t rfl hb31 (.t NL.h0) (.bool _)) rfl) (.cons (has rfl) .nil) (by kernel_rfl) (.nil _))))))))))))))))))))) ?_
              refine ends_sub [Ent.t 2 (VA.ptr 2 0), Ent.t 3 (VA.ptr 3 0), Ent.t 6 (VA.own 9 kstr s9.1), Ent.t 7 (VA.k (kint .i64) s9.2.1), Ent.t 8 (VA.k (kint .i64) s9.2.2), Ent.t 86 (VA.k kbool true), Ent.h 2 (HE.box 24 kDisk a0), Ent.h 3 (HE.box 24 kDisk a1)] (.cons rfl (.cons rfl (.cons rfl (.cons rfl (.cons rfl (.cons rfl (.cons rfl (.cons rfl .nil)))))))) ?_
              obtain rfl := Option.some.inj H
              exact ends_cut (.cons rfl (.cons rfl (.cons rfl (.cons rfl (.cons rfl (.cons rfl (.cons rfl (.cons rfl .nil))))))))
            · skip
              obtain ⟨x32, h33, H⟩ := bind_some H
              obtain ⟨x34, h35, H⟩ := bind_some H
              refine goes_drawn [[Ent.t 67 (VA.k (kint .i64) s9.2.1)], [Ent.t 68 (VA.ptr 2 1)], [Ent.t 69 (VA.k (kslice kFile) a0.Files)], [Ent.t 70 (VA.k (kint .i64) (a0.Files.length : Int))], [Ent.t 71 (VA.k kbool (icmp .eql s9.2.1 (a0.Files.length : Int)))], [Ent.t 72 (VA.k kbool (icmp .eql s9.2.1 (a0.Files.length : Int)))], [Ent.t 73 (VA.ptr 3 1)], [Ent.t 74 (VA.k (kslice kFile) a1.Files)], [Ent.t 75 (VA.k (kint .i64) s9.2.2)], [Ent.t 76 (VA.pt kFile x32)], [Ent.t 77 (VA.pt kstr x32.Name)], [Ent.t 78 (VA.k kstr x32.Name)], [Ent.t 79 (VA.ptr 2 1)], [Ent.t 80 (VA.k (kslice kFile) a0.Files)], [Ent.t 81 (VA.k (kint .i64) s9.2.1)], [Ent.t 82 (VA.pt kFile x34)], [Ent.t 83 (VA.pt kstr x34.Name)], [Ent.t 84 (VA.k kstr x34.Name)], [Ent.t 85 (VA.k kbool (scmp .lss x32.Name x34.Name))], [Ent.t 86 (VA.k kbool (scmp .lss x32.Name x34.Name))]] mixed (by kernel_rfl) (by kernel_rfl) (.cons [(none, Ent.t 7 (VA.k (kint .i64) s9.2.1))] (OpSpec.run rfl rfl (op_move rfl (.t NL.h0)) rfl) (.cons (has rfl) .nil) (by kernel_rfl) (.cons [(none, Ent.t 2 (VA.ptr 2 0))] (OpSpec.run rfl rfl (op_fieldAddr rfl Try.underlying24 rfl tk22 (.t NL.h0)) rfl) (.cons (has rfl) .nil) (by kernel_rfl) (.cons [(some 1, Ent.t 68 (VA.ptr 2 1)), (none, Ent.h 2 (HE.box 24 kDisk a0))] (OpSpec.run rfl rfl (op_load rfl fldDisk_Files tk22 (.t NL.h0) (NL.hs NL.h0)) rfl) (.cons (has rfl) (.cons (has rfl) .nil)) (by kernel_rfl) (.cons [(some 2, Ent.t 69 (VA.k (kslice kFile) a0.Files))] (OpSpec.run rfl rfl (op_len rfl rfl Try.underlying22 (.t NL.h0)) rfl) (.cons (has rfl) .nil) (by kernel_rfl) (.cons [(some 0, Ent.t 67 (VA.k (kint .i64) s9.2.1)), (some 3, Ent.t 70 (VA.k (kint .i64) (a0.Files.length : Int)))] (OpSpec.run rfl rfl (op_icmp rfl rfl (.t NL.h0) (.t (NL.hs NL.h0))) rfl) (.cons (has rfl) (.cons (has rfl) .nil)) (by kernel_rfl) (.cons [(some 4, Ent.t 71 (VA.k kbool (icmp .eql s9.2.1 (a0.Files.length : Int))))] (OpSpec.run rfl rfl (op_move rfl (.t NL.h0)) rfl) (.cons (has rfl) .nil) (by kernel_rfl) (.cons [(some 5, Ent.t 72 (VA.k kbool (icmp .eql s9.2.1 (a0.Files.length : Int)))), (none, Ent.t 3 (VA.ptr 3 0))] (OpSpec.runG rfl rfl rfl rfl NL.h0 hb31 (op_fieldAddr rfl Try.underlying24 rfl tk22 (.t (NL.hs NL.h0))) rfl) (.cons (has rfl) (.cons (has rfl) .nil)) (by kernel_rfl) (.cons [(some 5, Ent.t 72 (VA.k kbool (icmp .eql s9.2.1 (a0.Files.length : Int)))), (some 6, Ent.t 73 (VA.ptr 3 1)), (none, Ent.h 3 (HE.box 24 kDisk a1))] (OpSpec.runG rfl rfl rfl rfl NL.h0 hb31 (op_load rfl fldDisk_Files tk22 (.t (NL.hs NL.h0)) (NL.hs (NL.hs NL.h0))) rfl) (.cons (has rfl) (.cons (has rfl) (.cons (has rfl) .nil))) (by kernel_rfl) (.cons [(some 5, Ent.t 72 (VA.k kbool (icmp .eql s9.2.1 (a0.Files.length : Int)))), (none, Ent.t 8 (VA.k (kint .i64) s9.2.2))] (OpSpec.runG rfl rfl rfl rfl NL.h0 hb31 (op_move rfl (.t (NL.hs NL.h0))) rfl) (.cons (has rfl) (.cons (has rfl) .nil)) (by kernel_rfl) (.cons [(some 5, Ent.t 72 (VA.k kbool (icmp .eql s9.2.1 (a0.Files.length : Int)))), (some 7, Ent.t 74 (VA.k (kslice kFile) a1.Files)), (some 8, Ent.t 75 (VA.k (kint .i64) s9.2.2))] (OpSpec.runG rfl rfl rfl rfl NL.h0 hb31 (op_indexAddr rfl Try.underlying22 tk26 h33 (.t (NL.hs NL.h0)) (.t (NL.hs (NL.hs NL.h0)))) rfl) (.cons (has rfl) (.cons (has rfl) (.cons (has rfl) .nil))) (by kernel_rfl) (.cons [(some 5, Ent.t 72 (VA.k kbool (icmp .eql s9.2.1 (a0.Files.length : Int)))), (some 9, Ent.t 76 (VA.pt kFile x32))] (OpSpec.runG rfl rfl rfl rfl NL.h0 hb31 (op_fieldAddrp rfl fldFile_Name Try.underlying26 rfl tk9 (.t (NL.hs NL.h0))) rfl) (.cons (has rfl) (.cons (has rfl) .nil)) (by kernel_rfl) (.cons [(some 5, Ent.t 72 (VA.k kbool (icmp .eql s9.2.1 (a0.Files.length : Int)))), (some 10, Ent.t 77 (VA.pt kstr x32.Name))] (OpSpec.runG rfl rfl rfl rfl NL.h0 hb31 (op_loadp rfl tk9 (.t (NL.hs NL.h0))) rfl) (.cons (has rfl) (.cons (has rfl) .nil)) (by kernel_rfl) (.cons [(some 5, Ent.t 72 (VA.k kbool (icmp .eql s9.2.1 (a0.Files.length : Int)))), (none, Ent.t 2 (VA.ptr 2 0))] (OpSpec.runG rfl rfl rfl rfl NL.h0 hb31 (op_fieldAddr rfl Try.underlying24 rfl tk22 (.t (NL.hs NL.h0))) rfl) (.cons (has rfl) (.cons (has rfl) .nil)) (by kernel_rfl) (.cons [(some 5, Ent.t 72 (VA.k kbool (icmp .eql s9.2.1 (a0.Files.length : Int)))), (some 12, Ent.t 79 (VA.ptr 2 1)), (none, Ent.h 2 (HE.box 24 kDisk a0))] (OpSpec.runG rfl rfl rfl rfl NL.h0 hb31 (op_load rfl fldDisk_Files tk22 (.t (NL.hs NL.h0)) (NL.hs (NL.hs NL.h0))) rfl) (.cons (has rfl) (.cons (has rfl) (.cons (has rfl) .nil))) (by kernel_rfl) (.cons [(some 5, Ent.t 72 (VA.k kbool (icmp .eql s9.2.1 (a0.Files.length : Int)))), (none, Ent.t 7 (VA.k (kint .i64) s9.2.1))] (OpSpec.runG rfl rfl rfl rfl NL.h0 hb31 (op_move rfl (.t (NL.hs NL.h0))) rfl) (.cons (has rfl) (.cons (has rfl) .nil)) (by kernel_rfl) (.cons [(some 5, Ent.t 72 (VA.k kbool (icmp .eql s9.2.1 (a0.Files.length : Int)))), (some 13, Ent.t 80 (VA.k (kslice kFile) a0.Files)), (some 14, Ent.t 81 (VA.k (kint .i64) s9.2.1))] (OpSpec.runG rfl rfl rfl rfl NL.h0 hb31 (op_indexAddr rfl Try.underlying22 tk26 h35 (.t (NL.hs NL.h0)) (.t (NL.hs (NL.hs NL.h0)))) rfl) (.cons (has rfl) (.cons (has rfl) (.cons (has rfl) .nil))) (by kernel_rfl) (.cons [(some 5, Ent.t 72 (VA.k kbool (icmp .eql s9.2.1 (a0.Files.length : Int)))), (some 15, Ent.t 82 (VA.pt kFile x34))] (OpSpec.runG rfl rfl rfl rfl NL.h0 hb31 (op_fieldAddrp rfl fldFile_Name Try.underlying26 rfl tk9 (.t (NL.hs NL.h0))) rfl) (.cons (has rfl) (.cons (has rfl) .nil)) (by kernel_rfl) (.cons [(some 5, Ent.t 72 (VA.k kbool (icmp .eql s9.2.1 (a0.Files.length : Int)))), (some 16, Ent.t 83 (VA.pt kstr x34.Name))] (OpSpec.runG rfl rfl rfl rfl NL.h0 hb31 (op_loadp rfl tk9 (.t (NL.hs NL.h0))) rfl) (.cons (has rfl) (.cons (has rfl) .nil)) (by kernel_rfl) (.cons [(some 5, Ent.t 72 (VA.k kbool (icmp .eql s9.2.1 (a0.Files.length : Int)))), (some 11, Ent.t 78 (VA.k kstr x32.Name)), (some 17, Ent.t 84 (VA.k kstr x34.Name))] (OpSpec.runG rfl rfl rfl rfl NL.h0 hb31 (op_scmp rfl rfl (.t (NL.hs NL.h0)) (.t (NL.hs (NL.hs NL.h0)))) rfl) (.cons (has rfl) (.cons (has rfl) (.cons (has rfl) .nil))) (by kernel_rfl) (.cons [(some 5, Ent.t 72 (VA.k kbool (icmp .eql s9.2.1 (a0.Files.length : Int)))), (some 18, Ent.t 85 (VA.k kbool (scmp .lss x32.Name x34.Name)))] (OpSpec.run rfl rfl (op_pick_f rfl hb31 (.t NL.h0) (.t (NL.hs NL.h0))) rfl) (.cons (has rfl) (.cons (has rfl) .nil)) (by kernel_rfl) (.nil _))))))))))))))))))))) ?_
              refine ends_sub [Ent.t 2 (VA.ptr 2 0), Ent.t 3 (VA.ptr 3 0), Ent.t 6 (VA.own 9 kstr s9.1), Ent.t 7 (VA.k (kint .i64) s9.2.1), Ent.t 8 (VA.k (kint .i64) s9.2.2), Ent.t 73 (VA.ptr 3 1), Ent.t 74 (VA.k (kslice kFile) a1.Files), Ent.t 75 (VA.k (kint .i64) s9.2.2), Ent.t 76 (VA.pt kFile x32), Ent.t 77 (VA.pt kstr x32.Name), Ent.t 78 (VA.k kstr x32.Name), Ent.t 79 (VA.ptr 2 1), Ent.t 80 (VA.k (kslice kFile) a0.Files), Ent.t 81 (VA.k (kint .i64) s9.2.1), Ent.t 82 (VA.pt kFile x34), Ent.t 83 (VA.pt kstr x34.Name), Ent.t 84 (VA.k kstr x34.Name), Ent.t 85 (VA.k kbool (scmp .lss x32.Name x34.Name)), Ent.t 86 (VA.k kbool (scmp .lss x32.Name x34.Name)), Ent.h 2 (HE.box 24 kDisk a0), Ent.h 3 (HE.box 24 kDisk a1)] (.cons rfl (.cons rfl (.cons rfl (.cons rfl (.cons rfl (.cons rfl (.cons rfl (.cons rfl (.cons rfl (.cons rfl (.cons rfl (.cons rfl (.cons rfl (.cons rfl (.cons rfl (.cons rfl (.cons rfl (.cons rfl (.cons rfl (.cons rfl (.cons rfl .nil))))))))))))))))))))) ?_
              obtain rfl := Option.some.inj H
              exact ends_cut (.cons rfl (.cons rfl (.cons rfl (.cons rfl (.cons rfl (.cons rfl (.cons rfl (.cons rfl .nil))))))))
          refine ends_then ?_
          refine goes_if (.t (has rfl)) H (fun hb36 H => ?_) (fun hb36 H => ?_)
          · skip
            refine goes_seq ?_
            refine goes_region ?_
            refine go2 (op_mv (.inl rfl) rfl rfl (has rfl)) rfl ?_
            refine go1 (op_fieldAddr rfl Try.underlying24 rfl tk22 (.t (has rfl))) rfl ?_
            refine go1 (op_load rfl fldDisk_Files tk22 (.t (has rfl)) (has rfl)) rfl ?_
            refine go1 (op_move rfl (.t (has rfl))) rfl ?_
            obtain ⟨x37, h38, H⟩ := bind_some H
            refine go1 (op_indexAddr rfl Try.underlying22 tk26 h38 (.t (has rfl)) (.t (has rfl))) rfl ?_
            refine go1 (op_fieldAddrp rfl fldFile_Name Try.underlying26 rfl tk9 (.t (has rfl))) rfl ?_
            refine go1 (op_loadp rfl tk9 (.t (has rfl))) rfl ?_
            refine go1 (op_buildSlice rfl at32 (fun h => by first | rfl | cases h) rfl rfl rfl (.cons (.t (has rfl)) (.nil _))) rfl ?_
            obtain ⟨x39, h40, H⟩ := bind_some H
            refine go2 (op_append rfl rfl at32 h40 (has rfl) (ReadsArg.own (.t (has rfl)))) rfl ?_
            refine go2 (op_mv (.inr rfl) rfl rfl (has rfl)) rfl ?_
            refine goesO_nil ?_
            refine ends_then ?_
            refine goes_seq ?_
            refine goes_region ?_
            refine go1 (op_move rfl (.t (has rfl))) rfl ?_
            refine go1 (op_add rfl (.t (has rfl)) (.int _ _)) rfl ?_
            refine go1 (op_assign rfl (.t (has rfl))) rfl ?_
            refine goesO_nil ?_
            refine ends_then ?_
            refine goes_exit (ends_then_exit (ends_block_exit ?_))
            exact loop_next _ H (.cons rfl (.cons rfl (.cons rfl (.cons rfl (.cons rfl (.cons rfl (.cons rfl .nil)))))))
          · skip
            refine goes_skip ?_
            refine ends_then ?_
            refine goes_seq ?_
            refine goes_seq ?_
            obtain ⟨x41, h42, H⟩ := bind_some H
            obtain ⟨x43, h44, H⟩ := bind_some H
            refine goes_drawn [[Ent.t 98 (VA.ptr 2 1)], [Ent.t 99 (VA.k (kslice kFile) a0.Files)], [Ent.t 100 (VA.k (kint .i64) s9.2.1)], [Ent.t 101 (VA.pt kFile x41)], [Ent.t 102 (VA.pt kstr x41.Text)], [Ent.t 103 (VA.k kstr x41.Text)], [Ent.t 104 (VA.ptr 3 1)], [Ent.t 105 (VA.k (kslice kFile) a1.Files)], [Ent.t 106 (VA.k (kint .i64) s9.2.2)], [Ent.t 107 (VA.pt kFile x43)], [Ent.t 108 (VA.pt kstr x43.Text)], [Ent.t 109 (VA.k kstr x43.Text)], [Ent.t 110 (VA.k kbool (scmp .neq x41.Text x43.Text))]] mixed (by kernel_rfl) (by kernel_rfl) (.cons [(none, Ent.t 2 (VA.ptr 2 0))] (OpSpec.run rfl rfl (op_fieldAddr rfl Try.underlying24 rfl tk22 (.t NL.h0)) rfl) (.cons (has rfl) .nil) (by kernel_rfl) (.cons [(some 0, Ent.t 98 (VA.ptr 2 1)), (none, Ent.h 2 (HE.box 24 kDisk a0))] (OpSpec.run rfl rfl (op_load rfl fldDisk_Files tk22 (.t NL.h0) (NL.hs NL.h0)) rfl) (.cons (has rfl) (.cons (has rfl) .nil)) (by kernel_rfl) (.cons [(none, Ent.t 7 (VA.k (kint .i64) s9.2.1))] (OpSpec.run rfl rfl (op_move rfl (.t NL.h0)) rfl) (.cons (has rfl) .nil) (by kernel_rfl) (.cons [(some 1, Ent.t 99 (VA.k (kslice kFile) a0.Files)), (some 2, Ent.t 100 (VA.k (kint .i64) s9.2.1))] (OpSpec.run rfl rfl (op_indexAddr rfl Try.underlying22 tk26 h42 (.t NL.h0) (.t (NL.hs NL.h0))) rfl) (.cons (has rfl) (.cons (has rfl) .nil)) (by kernel_rfl) (.cons [(some 3, Ent.t 101 (VA.pt kFile x41))] (OpSpec.run rfl rfl (op_fieldAddrp rfl fldFile_Text Try.underlying26 rfl tk9 (.t NL.h0)) rfl) (.cons (has rfl) .nil) (by kernel_rfl) (.cons [(some 4, Ent.t 102 (VA.pt kstr x41.Text))] (OpSpec.run rfl rfl (op_loadp rfl tk9 (.t NL.h0)) rfl) (.cons (has rfl) .nil) (by kernel_rfl) (.cons [(none, Ent.t 3 (VA.ptr 3 0))] (OpSpec.run rfl rfl (op_fieldAddr rfl Try.underlying24 rfl tk22 (.t NL.h0)) rfl) (.cons (has rfl) .nil) (by kernel_rfl) (.cons [(some 6, Ent.t 104 (VA.ptr 3 1)), (none, Ent.h 3 (HE.box 24 kDisk a1))] (OpSpec.run rfl rfl (op_load rfl fldDisk_Files tk22 (.t NL.h0) (NL.hs NL.h0)) rfl) (.cons (has rfl) (.cons (has rfl) .nil)) (by kernel_rfl) (.cons [(none, Ent.t 8 (VA.k (kint .i64) s9.2.2))] (OpSpec.run rfl rfl (op_move rfl (.t NL.h0)) rfl) (.cons (has rfl) .nil) (by kernel_rfl) (.cons [(some 7, Ent.t 105 (VA.k (kslice kFile) a1.Files)), (some 8, Ent.t 106 (VA.k (kint .i64) s9.2.2))] (OpSpec.run rfl rfl (op_indexAddr rfl Try.underlying22 tk26 h44 (.t NL.h0) (.t (NL.hs NL.h0))) rfl) (.cons (has rfl) (.cons (has rfl) .nil)) (by kernel_rfl) (.cons [(some 9, Ent.t 107 (VA.pt kFile x43))] (OpSpec.run rfl rfl (op_fieldAddrp rfl fldFile_Text Try.underlying26 rfl tk9 (.t NL.h0)) rfl) (.cons (has rfl) .nil) (by kernel_rfl) (.cons [(some 10, Ent.t 108 (VA.pt kstr x43.Text))] (OpSpec.run rfl rfl (op_loadp rfl tk9 (.t NL.h0)) rfl) (.cons (has rfl) .nil) (by kernel_rfl) (.cons [(some 5, Ent.t 103 (VA.k kstr x41.Text)), (some 11, Ent.t 109 (VA.k kstr x43.Text))] (OpSpec.run rfl rfl (op_scmp rfl rfl (.t NL.h0) (.t (NL.hs NL.h0))) rfl) (.cons (has rfl) (.cons (has rfl) .nil)) (by kernel_rfl) (.nil _)))))))))))))) ?_
            refine ends_sub [Ent.t 2 (VA.ptr 2 0), Ent.t 3 (VA.ptr 3 0), Ent.t 6 (VA.own 9 kstr s9.1), Ent.t 7 (VA.k (kint .i64) s9.2.1), Ent.t 8 (VA.k (kint .i64) s9.2.2), Ent.t 110 (VA.k kbool (scmp .neq x41.Text x43.Text)), Ent.h 2 (HE.box 24 kDisk a0), Ent.h 3 (HE.box 24 kDisk a1)] (.cons rfl (.cons rfl (.cons rfl (.cons rfl (.cons rfl (.cons rfl (.cons rfl (.cons rfl .nil)))))))) ?_
            refine ends_then ?_
            obtain ⟨s45, h46, H⟩ := bind_some H
            refine goes_cut [Ent.t 2 (VA.ptr 2 0), Ent.t 3 (VA.ptr 3 0), Ent.t 6 (VA.own 9 kstr s45), Ent.t 7 (VA.k (kint .i64) s9.2.1), Ent.t 8 (VA.k (kint .i64) s9.2.2), Ent.h 2 (HE.box 24 kDisk a0), Ent.h 3 (HE.box 24 kDisk a1)] ?_ ?_
            · replace H := h46; clear h46
              refine goes_if (.t (has rfl)) H (fun hb47 H => ?_) (fun hb47 H => ?_)
              · skip
                refine goes_region ?_
                refine go2 (op_mv (.inl rfl) rfl rfl (has rfl)) rfl ?_
                refine go1 (op_fieldAddr rfl Try.underlying24 rfl tk22 (.t (has rfl))) rfl ?_
                refine go1 (op_load rfl fldDisk_Files tk22 (.t (has rfl)) (has rfl)) rfl ?_
                refine go1 (op_move rfl (.t (has rfl))) rfl ?_
                obtain ⟨x48, h49, H⟩ := bind_some H
                refine go1 (op_indexAddr rfl Try.underlying22 tk26 h49 (.t (has rfl)) (.t (has rfl))) rfl ?_
                refine go1 (op_fieldAddrp rfl fldFile_Name Try.underlying26 rfl tk9 (.t (has rfl))) rfl ?_
                refine go1 (op_loadp rfl tk9 (.t (has rfl))) rfl ?_
                refine go1 (op_buildSlice rfl at32 (fun h => by first | rfl | cases h) rfl rfl rfl (.cons (.t (has rfl)) (.nil _))) rfl ?_
                obtain ⟨x50, h51, H⟩ := bind_some H
                refine go2 (op_append rfl rfl at32 h51 (has rfl) (ReadsArg.own (.t (has rfl)))) rfl ?_
                refine go2 (op_mv (.inr rfl) rfl rfl (has rfl)) rfl ?_
                refine goesO_nil ?_
                obtain rfl := Option.some.inj H
                exact ends_cut (.cons rfl (.cons rfl (.cons rfl (.cons rfl (.cons rfl (.cons rfl (.cons rfl .nil)))))))
              · skip
                refine goes_skip ?_
                obtain rfl := Option.some.inj H
                exact ends_cut (.cons rfl (.cons rfl (.cons rfl (.cons rfl (.cons rfl (.cons rfl (.cons rfl .nil)))))))
            refine ends_then ?_
            refine goes_seq ?_
            refine goes_region ?_
            refine go1 (op_move rfl (.t (has rfl))) rfl ?_
            refine go1 (op_add rfl (.t (has rfl)) (.int _ _)) rfl ?_
            refine go1 (op_assign rfl (.t (has rfl))) rfl ?_
            refine goesO_nil ?_
            refine ends_then ?_
            refine goes_region ?_
            refine go1 (op_move rfl (.t (has rfl))) rfl ?_
            refine go1 (op_add rfl (.t (has rfl)) (.int _ _)) rfl ?_
            refine go1 (op_assign rfl (.t (has rfl))) rfl ?_
            refine goesO_nil ?_
            refine ends_block ?_
            exact loop_next _ H (.cons rfl (.cons rfl (.cons rfl (.cons rfl (.cons rfl (.cons rfl (.cons rfl .nil)))))))
      · skip
        refine goes_exit (ends_then_exit (ends_then_exit (ends_block_exit ?_)))
        obtain rfl := Option.some.inj H
        exact ends_cut (.cons rfl .nil)
    refine ends_then ?_
    refine goes_seq ?_
    refine goes_region ?_
    refine go2 (op_mv (.inl rfl) rfl rfl (has rfl)) rfl ?_
    refine go2 (op_mv (.inr rfl) rfl rfl (has rfl)) rfl ?_
    refine go1 (op_assign rfl (.int _ _)) rfl ?_
    refine goesO_nil ?_
    refine ends_then ?_
    obtain rfl := Option.some.inj H
    exact goes_ret (ends_ret' rfl rfl (.t rfl (.t rfl (.nil _))))
theorem smithyref02_Changed.conF (k : Nat) (a0 : Disk) (a1 : Disk) (r : (List ByteArray) × Int) (H : smithyref02_Changed.f k a0 a1 = some r) : ConF Try.prog 32 [VA.k kDisk a0, VA.k kDisk a1] [VA.own 9 kstr r.1, VA.k (kint .i64) r.2] := (smithyref02_Changed.con k a0 a1 r H).freeL (.cons (KFree.own KFree.str _ _) (.cons (KFree.k (KFree.int .i64) _) .nil))
end Go.Proofs.Ytaeapobjhgakiaa.F
