import Derived.Test.YtoemgemfgaooeaaFIx0
set_option linter.unusedVariables false
set_option linter.unusedSimpArgs false
set_option linter.unnecessarySimpa false
set_option linter.deprecated false
namespace Go.Proofs.Ytoemgemfgaooeaa.F
open Go Go.RowKit Go.Proofs.Ytoemgemfgaooeaa.Sl
/-! smithy/disk.named -/
def disk_named.l0 (a0 : ByteArray) : Nat → Int → Option (Except Bool Unit)
  | 0, _ => none
  | k + 1, s5 => bif icmp .lss s5 (a0.size : Int) then ((bidx a0 s5).bind fun x10 => (bif icmp .geq x10 (65 : Int) then (bif icmp .leq x10 (90 : Int) then (some (!true)) else (bif icmp .geq x10 (97 : Int) then (bif icmp .leq x10 (122 : Int) then (some (!true)) else (bif icmp .geq x10 (48 : Int) then (bif icmp .leq x10 (57 : Int) then (some (!true)) else ((strings_IndexByte.f (⟨#[95, 45, 46, 47, 43]⟩ : ByteArray) x10).bind fun v20 => some (!(icmp .geq v20 (0 : Int))))) else ((strings_IndexByte.f (⟨#[95, 45, 46, 47, 43]⟩ : ByteArray) x10).bind fun v22 => some (!(icmp .geq v22 (0 : Int)))))) else (bif icmp .geq x10 (48 : Int) then (bif icmp .leq x10 (57 : Int) then (some (!true)) else ((strings_IndexByte.f (⟨#[95, 45, 46, 47, 43]⟩ : ByteArray) x10).bind fun v26 => some (!(icmp .geq v26 (0 : Int))))) else ((strings_IndexByte.f (⟨#[95, 45, 46, 47, 43]⟩ : ByteArray) x10).bind fun v28 => some (!(icmp .geq v28 (0 : Int))))))) else (bif icmp .geq x10 (97 : Int) then (bif icmp .leq x10 (122 : Int) then (some (!true)) else (bif icmp .geq x10 (48 : Int) then (bif icmp .leq x10 (57 : Int) then (some (!true)) else ((strings_IndexByte.f (⟨#[95, 45, 46, 47, 43]⟩ : ByteArray) x10).bind fun v34 => some (!(icmp .geq v34 (0 : Int))))) else ((strings_IndexByte.f (⟨#[95, 45, 46, 47, 43]⟩ : ByteArray) x10).bind fun v36 => some (!(icmp .geq v36 (0 : Int)))))) else (bif icmp .geq x10 (48 : Int) then (bif icmp .leq x10 (57 : Int) then (some (!true)) else ((strings_IndexByte.f (⟨#[95, 45, 46, 47, 43]⟩ : ByteArray) x10).bind fun v40 => some (!(icmp .geq v40 (0 : Int))))) else ((strings_IndexByte.f (⟨#[95, 45, 46, 47, 43]⟩ : ByteArray) x10).bind fun v42 => some (!(icmp .geq v42 (0 : Int))))))).bind fun s12 => bif s12 then (some (Except.error false)) else (disk_named.l0 a0 k (IntKind.i64.wrap (s5 + (1 : Int))))) else (some (Except.ok ()))
def disk_named.f (k : Nat) (a0 : ByteArray) : Option Bool := (bif icmp .lss (a0.size : Int) (1 : Int) then (some true) else (some (icmp .gtr (a0.size : Int) (64 : Int)))).bind fun s1 => bif s1 then (some false) else ((disk_named.l0 a0 k (0 : Int)).bind fun o8 => match o8 with | .error r' => some r' | .ok s6 => (some true))
set_option maxRecDepth 100000 in
set_option maxHeartbeats 4000000 in
theorem disk_named.con (k : Nat) (a0 : ByteArray) (r : Bool) (H : disk_named.f k a0 = some r) : Con Try.prog 48 [VA.k kstr a0] [VA.k kbool r] := by
  unfold disk_named.f at H
  refine con_enter Try.func48 rfl rfl rfl (fun w0 S0 θ => ?_)
  refine goes_seq ?_
  refine goes_region ?_
  refine go1 (op_assign rfl (.bool _)) rfl ?_
  refine goesO_nil ?_
  refine ends_then ?_
  refine goes_seq ?_
  refine goes_seq ?_
  obtain ⟨s1, h2, H⟩ := bind_some H
  refine goes_cut [Ent.t 0 (VA.k kstr a0), Ent.t 12 (VA.k kbool s1)] ?_ ?_
  · replace H := h2; clear h2
    refine goes_region ?_
    refine go1 (op_move rfl (.t (has rfl))) rfl ?_
    refine go1 (op_len_str rfl rfl Try.underlying9 (.t (has rfl))) rfl ?_
    refine go1 (op_icmp rfl rfl (.t (has rfl)) (.int _ _)) rfl ?_
    refine go1 (op_move rfl (.t (has rfl))) rfl ?_
    refine goesO_split H (fun hb3 H => ?_) (fun hb3 H => ?_)
    · skip
      refine goS rfl rfl rfl rfl rfl rfl hb3 ?_
      refine goS rfl rfl rfl rfl rfl rfl hb3 ?_
      refine goS rfl rfl rfl rfl rfl rfl hb3 ?_
      refine go1 (op_pick_t rfl hb3 (.t (has rfl)) (.bool _)) rfl ?_
      refine goesO_nil ?_
      obtain rfl := Option.some.inj H
      exact ends_cut (.cons rfl (.cons rfl .nil))
    · skip
      refine goG (op_move rfl (.t (has rfl))) rfl rfl rfl rfl hb3 ?_
      refine goG (op_len_str rfl rfl Try.underlying9 (.t (has rfl))) rfl rfl rfl rfl hb3 ?_
      refine goG (op_icmp rfl rfl (.t (has rfl)) (.int _ _)) rfl rfl rfl rfl hb3 ?_
      refine go1 (op_pick_f rfl hb3 (.t (has rfl)) (.t (has rfl))) rfl ?_
      refine goesO_nil ?_
      obtain rfl := Option.some.inj H
      exact ends_cut (.cons rfl (.cons rfl .nil))
  refine ends_then ?_
  refine goes_if (.t (has rfl)) H (fun hb4 H => ?_) (fun hb4 H => ?_)
  · skip
    refine goes_seq ?_
    refine goes_region ?_
    refine go1 (op_assign rfl (.bool _)) rfl ?_
    refine goesO_nil ?_
    refine ends_then ?_
    obtain rfl := Option.some.inj H
    exact goes_ret (ends_then_ret (ends_ret' rfl rfl (.t rfl (.nil _))))
  · skip
    refine goes_skip ?_
    refine ends_then ?_
    refine goes_seq ?_
    refine goes_seq ?_
    refine goes_region ?_
    refine go1 (op_move rfl (.t (has rfl))) rfl ?_
    refine go1 (op_len_str rfl rfl Try.underlying9 (.t (has rfl))) rfl ?_
    refine go1 (op_move rfl (.int _ _)) rfl ?_
    refine goesO_nil ?_
    refine ends_then ?_
    obtain ⟨o8, h7, H⟩ := bind_some H
    refine goes_cutR (o := o8) (fun s6 : Unit => []) (fun r a w => bodyPost Try.prog Try.f48 (CPost w0 S0 θ [VA.k kbool r]) .ret a w) ?_ ?_ ?_
    · replace H := h7; clear h7
      refine goes_block ?_
      refine goes_loop (fun s5 : Int => [Ent.t 0 (VA.k kstr a0), Ent.t 14 (VA.k (kint .i64) (a0.size : Int)), Ent.t 15 (VA.k (kint .i64) s5)]) (fun k s5 => disk_named.l0 a0 k s5) (fun _ => rfl) H (.cons rfl (.cons rfl (.cons rfl .nil))) ?_
      intro k s5 H
      simp only [disk_named.l0] at H
      refine goes_seq ?_
      refine goes_region ?_
      refine go1 (op_icmp rfl rfl (.t (has rfl)) (.t (has rfl))) rfl ?_
      refine goesO_nil ?_
      refine ends_then ?_
      refine goes_seq ?_
      refine goes_if (.t (has rfl)) H (fun hb9 H => ?_) (fun hb9 H => ?_)
      · skip
        refine goes_skip ?_
        refine ends_then ?_
        refine goes_seq ?_
        refine goes_block ?_
        refine goes_seq ?_
        refine goes_region ?_
        refine go1 (op_move rfl (.t (has rfl))) rfl ?_
        refine go1 (op_assign rfl (.t (has rfl))) rfl ?_
        refine goesO_nil ?_
        refine ends_then ?_
        refine goes_seq ?_
        refine goes_region ?_
        refine go1 (op_move rfl (.t (has rfl))) rfl ?_
        refine go1 (op_move rfl (.t (has rfl))) rfl ?_
        obtain ⟨x10, h11, H⟩ := bind_some H
        refine go1 (op_index_str rfl Try.underlying9 h11 (.t (has rfl)) (.t (has rfl))) rfl ?_
        refine go1 (op_assign rfl (.t (has rfl))) rfl ?_
        refine goesO_nil ?_
        refine ends_then ?_
        refine goes_seq ?_
        obtain ⟨s12, h13, H⟩ := bind_some H
        refine goes_cut [Ent.t 0 (VA.k kstr a0), Ent.t 14 (VA.k (kint .i64) (a0.size : Int)), Ent.t 15 (VA.k (kint .i64) s5), Ent.t 48 (VA.k kbool s12)] ?_ ?_
        · replace H := h13; clear h13
          refine goes_region ?_
          refine go1 (op_move rfl (.t (has rfl))) rfl ?_
          refine go1 (op_icmp rfl rfl (.t (has rfl)) (.int _ _)) rfl ?_
          refine go1 (op_move rfl (.t (has rfl))) rfl ?_
          refine goesO_split H (fun hb14 H => ?_) (fun hb14 H => ?_)
          · skip
            refine goG (op_move rfl (.t (has rfl))) rfl rfl rfl rfl hb14 ?_
            refine goG (op_icmp rfl rfl (.t (has rfl)) (.int _ _)) rfl rfl rfl rfl hb14 ?_
            refine go1 (op_pick_t rfl hb14 (.t (has rfl)) (.t (has rfl))) rfl ?_
            refine go1 (op_move rfl (.t (has rfl))) rfl ?_
            refine goesO_split H (fun hb15 H => ?_) (fun hb15 H => ?_)
            · skip
              refine goS rfl rfl rfl rfl rfl rfl hb15 ?_
              refine goS rfl rfl rfl rfl rfl rfl hb15 ?_
              refine goS rfl rfl rfl rfl rfl rfl hb15 ?_
              refine goSU rfl rfl rfl rfl rfl rfl ?_
              refine goSU rfl rfl rfl rfl rfl rfl ?_
              refine goS rfl rfl rfl rfl rfl rfl hb15 ?_
              refine go1 (op_pick_t rfl hb15 (.t (has rfl)) (.bool _)) rfl ?_
              refine go1 (op_move rfl (.t (has rfl))) rfl ?_
              refine goS rfl rfl rfl rfl rfl rfl rfl ?_
              refine goS rfl rfl rfl rfl rfl rfl rfl ?_
              refine goS rfl rfl rfl rfl rfl rfl rfl ?_
              refine goSU rfl rfl rfl rfl rfl rfl ?_
              refine goSU rfl rfl rfl rfl rfl rfl ?_
              refine goS rfl rfl rfl rfl rfl rfl rfl ?_
              refine go1 (op_pick_t rfl rfl (.t (has rfl)) (.bool _)) rfl ?_
              refine go1 (op_move rfl (.t (has rfl))) rfl ?_
              refine goS rfl rfl rfl rfl rfl rfl rfl ?_
              refine goS rfl rfl rfl rfl rfl rfl rfl ?_
              refine goS rfl rfl rfl rfl rfl rfl rfl ?_
              refine go1 (op_pick_t rfl rfl (.t (has rfl)) (.bool _)) rfl ?_
              refine go1 (op_not rfl (.t (has rfl))) rfl ?_
              refine goesO_nil ?_
              obtain rfl := Option.some.inj H
              exact ends_cut (.cons rfl (.cons rfl (.cons rfl (.cons rfl .nil))))
            · skip
              refine goG (op_move rfl (.t (has rfl))) rfl rfl rfl rfl hb15 ?_
              refine goG (op_icmp rfl rfl (.t (has rfl)) (.int _ _)) rfl rfl rfl rfl hb15 ?_
              refine goG (op_move rfl (.t (has rfl))) rfl rfl rfl rfl hb15 ?_
              refine goesO_split H (fun hb16 H => ?_) (fun hb16 H => ?_)
              · skip
                refine goG (op_move rfl (.t (has rfl))) rfl rfl rfl rfl hb16 ?_
                refine goG (op_icmp rfl rfl (.t (has rfl)) (.int _ _)) rfl rfl rfl rfl hb16 ?_
                refine goG (op_pick_t rfl hb16 (.t (has rfl)) (.t (has rfl))) rfl rfl rfl rfl hb15 ?_
                refine go1 (op_pick_f rfl hb15 (.t (has rfl)) (.t (has rfl))) rfl ?_
                refine go1 (op_move rfl (.t (has rfl))) rfl ?_
                refine goesO_split H (fun hb17 H => ?_) (fun hb17 H => ?_)
                · skip
                  refine goS rfl rfl rfl rfl rfl rfl hb17 ?_
                  refine goS rfl rfl rfl rfl rfl rfl hb17 ?_
                  refine goS rfl rfl rfl rfl rfl rfl hb17 ?_
                  refine goSU rfl rfl rfl rfl rfl rfl ?_
                  refine goSU rfl rfl rfl rfl rfl rfl ?_
                  refine goS rfl rfl rfl rfl rfl rfl hb17 ?_
                  refine go1 (op_pick_t rfl hb17 (.t (has rfl)) (.bool _)) rfl ?_
                  refine go1 (op_move rfl (.t (has rfl))) rfl ?_
                  refine goS rfl rfl rfl rfl rfl rfl rfl ?_
                  refine goS rfl rfl rfl rfl rfl rfl rfl ?_
                  refine goS rfl rfl rfl rfl rfl rfl rfl ?_
                  refine go1 (op_pick_t rfl rfl (.t (has rfl)) (.bool _)) rfl ?_
                  refine go1 (op_not rfl (.t (has rfl))) rfl ?_
                  refine goesO_nil ?_
                  obtain rfl := Option.some.inj H
                  exact ends_cut (.cons rfl (.cons rfl (.cons rfl (.cons rfl .nil))))
                · skip
                  refine goG (op_move rfl (.t (has rfl))) rfl rfl rfl rfl hb17 ?_
                  refine goG (op_icmp rfl rfl (.t (has rfl)) (.int _ _)) rfl rfl rfl rfl hb17 ?_
                  refine goG (op_move rfl (.t (has rfl))) rfl rfl rfl rfl hb17 ?_
                  refine goesO_split H (fun hb18 H => ?_) (fun hb18 H => ?_)
                  · skip
                    refine goG (op_move rfl (.t (has rfl))) rfl rfl rfl rfl hb18 ?_
                    refine goG (op_icmp rfl rfl (.t (has rfl)) (.int _ _)) rfl rfl rfl rfl hb18 ?_
                    refine goG (op_pick_t rfl hb18 (.t (has rfl)) (.t (has rfl))) rfl rfl rfl rfl hb17 ?_
                    refine go1 (op_pick_f rfl hb17 (.t (has rfl)) (.t (has rfl))) rfl ?_
                    refine go1 (op_move rfl (.t (has rfl))) rfl ?_
                    refine goesO_split H (fun hb19 H => ?_) (fun hb19 H => ?_)
                    · skip
                      refine goS rfl rfl rfl rfl rfl rfl hb19 ?_
                      refine goS rfl rfl rfl rfl rfl rfl hb19 ?_
                      refine goS rfl rfl rfl rfl rfl rfl hb19 ?_
                      refine go1 (op_pick_t rfl hb19 (.t (has rfl)) (.bool _)) rfl ?_
                      refine go1 (op_not rfl (.t (has rfl))) rfl ?_
                      refine goesO_nil ?_
                      obtain rfl := Option.some.inj H
                      exact ends_cut (.cons rfl (.cons rfl (.cons rfl (.cons rfl .nil))))
                    · skip
                      refine goG (op_move rfl (.t (has rfl))) rfl rfl rfl rfl hb19 ?_
                      obtain ⟨v20, h21, H⟩ := bind_some H
                      refine goG (op_call' rfl enters57 (strings_IndexByte.con _ _ _ h21) rfl (.cons (ArgP.k (.str _)) (.cons (ArgP.k (.t (has rfl))) .nil))) rfl rfl rfl rfl hb19 ?_
                      refine goG (op_icmp rfl rfl (.t (has rfl)) (.int _ _)) rfl rfl rfl rfl hb19 ?_
                      refine go1 (op_pick_f rfl hb19 (.t (has rfl)) (.t (has rfl))) rfl ?_
                      refine go1 (op_not rfl (.t (has rfl))) rfl ?_
                      refine goesO_nil ?_
                      obtain rfl := Option.some.inj H
                      exact ends_cut (.cons rfl (.cons rfl (.cons rfl (.cons rfl .nil))))
                  · skip
                    refine goS rfl rfl rfl rfl rfl rfl hb18 ?_
                    refine goS rfl rfl rfl rfl rfl rfl hb18 ?_
                    refine goG (op_pick_f rfl hb18 (.t (has rfl)) (.bool _)) rfl rfl rfl rfl hb17 ?_
                    refine go1 (op_pick_f rfl hb17 (.t (has rfl)) (.t (has rfl))) rfl ?_
                    refine go1 (op_move rfl (.t (has rfl))) rfl ?_
                    refine goG (op_move rfl (.t (has rfl))) rfl rfl rfl rfl rfl ?_
                    obtain ⟨v22, h23, H⟩ := bind_some H
                    refine goG (op_call' rfl enters57 (strings_IndexByte.con _ _ _ h23) rfl (.cons (ArgP.k (.str _)) (.cons (ArgP.k (.t (has rfl))) .nil))) rfl rfl rfl rfl rfl ?_
                    refine goG (op_icmp rfl rfl (.t (has rfl)) (.int _ _)) rfl rfl rfl rfl rfl ?_
                    refine go1 (op_pick_f rfl rfl (.t (has rfl)) (.t (has rfl))) rfl ?_
                    refine go1 (op_not rfl (.t (has rfl))) rfl ?_
                    refine goesO_nil ?_
                    obtain rfl := Option.some.inj H
                    exact ends_cut (.cons rfl (.cons rfl (.cons rfl (.cons rfl .nil))))
              · skip
                refine goS rfl rfl rfl rfl rfl rfl hb16 ?_
                refine goS rfl rfl rfl rfl rfl rfl hb16 ?_
                refine goG (op_pick_f rfl hb16 (.t (has rfl)) (.bool _)) rfl rfl rfl rfl hb15 ?_
                refine go1 (op_pick_f rfl hb15 (.t (has rfl)) (.t (has rfl))) rfl ?_
                refine go1 (op_move rfl (.t (has rfl))) rfl ?_
                refine goG (op_move rfl (.t (has rfl))) rfl rfl rfl rfl rfl ?_
                refine goG (op_icmp rfl rfl (.t (has rfl)) (.int _ _)) rfl rfl rfl rfl rfl ?_
                refine goG (op_move rfl (.t (has rfl))) rfl rfl rfl rfl rfl ?_
                refine goesO_split H (fun hb24 H => ?_) (fun hb24 H => ?_)
                · skip
                  refine goG (op_move rfl (.t (has rfl))) rfl rfl rfl rfl hb24 ?_
                  refine goG (op_icmp rfl rfl (.t (has rfl)) (.int _ _)) rfl rfl rfl rfl hb24 ?_
                  refine goG (op_pick_t rfl hb24 (.t (has rfl)) (.t (has rfl))) rfl rfl rfl rfl rfl ?_
                  refine go1 (op_pick_f rfl rfl (.t (has rfl)) (.t (has rfl))) rfl ?_
                  refine go1 (op_move rfl (.t (has rfl))) rfl ?_
                  refine goesO_split H (fun hb25 H => ?_) (fun hb25 H => ?_)
                  · skip
                    refine goS rfl rfl rfl rfl rfl rfl hb25 ?_
                    refine goS rfl rfl rfl rfl rfl rfl hb25 ?_
                    refine goS rfl rfl rfl rfl rfl rfl hb25 ?_
                    refine go1 (op_pick_t rfl hb25 (.t (has rfl)) (.bool _)) rfl ?_
                    refine go1 (op_not rfl (.t (has rfl))) rfl ?_
                    refine goesO_nil ?_
                    obtain rfl := Option.some.inj H
                    exact ends_cut (.cons rfl (.cons rfl (.cons rfl (.cons rfl .nil))))
                  · skip
                    refine goG (op_move rfl (.t (has rfl))) rfl rfl rfl rfl hb25 ?_
                    obtain ⟨v26, h27, H⟩ := bind_some H
                    refine goG (op_call' rfl enters57 (strings_IndexByte.con _ _ _ h27) rfl (.cons (ArgP.k (.str _)) (.cons (ArgP.k (.t (has rfl))) .nil))) rfl rfl rfl rfl hb25 ?_
                    refine goG (op_icmp rfl rfl (.t (has rfl)) (.int _ _)) rfl rfl rfl rfl hb25 ?_
                    refine go1 (op_pick_f rfl hb25 (.t (has rfl)) (.t (has rfl))) rfl ?_
                    refine go1 (op_not rfl (.t (has rfl))) rfl ?_
                    refine goesO_nil ?_
                    obtain rfl := Option.some.inj H
                    exact ends_cut (.cons rfl (.cons rfl (.cons rfl (.cons rfl .nil))))
                · skip
                  refine goS rfl rfl rfl rfl rfl rfl hb24 ?_
                  refine goS rfl rfl rfl rfl rfl rfl hb24 ?_
                  refine goG (op_pick_f rfl hb24 (.t (has rfl)) (.bool _)) rfl rfl rfl rfl rfl ?_
                  refine go1 (op_pick_f rfl rfl (.t (has rfl)) (.t (has rfl))) rfl ?_
                  refine go1 (op_move rfl (.t (has rfl))) rfl ?_
                  refine goG (op_move rfl (.t (has rfl))) rfl rfl rfl rfl rfl ?_
                  obtain ⟨v28, h29, H⟩ := bind_some H
                  refine goG (op_call' rfl enters57 (strings_IndexByte.con _ _ _ h29) rfl (.cons (ArgP.k (.str _)) (.cons (ArgP.k (.t (has rfl))) .nil))) rfl rfl rfl rfl rfl ?_
                  refine goG (op_icmp rfl rfl (.t (has rfl)) (.int _ _)) rfl rfl rfl rfl rfl ?_
                  refine go1 (op_pick_f rfl rfl (.t (has rfl)) (.t (has rfl))) rfl ?_
                  refine go1 (op_not rfl (.t (has rfl))) rfl ?_
                  refine goesO_nil ?_
                  obtain rfl := Option.some.inj H
                  exact ends_cut (.cons rfl (.cons rfl (.cons rfl (.cons rfl .nil))))
          · skip
            refine goS rfl rfl rfl rfl rfl rfl hb14 ?_
            refine goS rfl rfl rfl rfl rfl rfl hb14 ?_
            refine go1 (op_pick_f rfl hb14 (.t (has rfl)) (.bool _)) rfl ?_
            refine go1 (op_move rfl (.t (has rfl))) rfl ?_
            refine goG (op_move rfl (.t (has rfl))) rfl rfl rfl rfl rfl ?_
            refine goG (op_icmp rfl rfl (.t (has rfl)) (.int _ _)) rfl rfl rfl rfl rfl ?_
            refine goG (op_move rfl (.t (has rfl))) rfl rfl rfl rfl rfl ?_
            refine goesO_split H (fun hb30 H => ?_) (fun hb30 H => ?_)
            · skip
              refine goG (op_move rfl (.t (has rfl))) rfl rfl rfl rfl hb30 ?_
              refine goG (op_icmp rfl rfl (.t (has rfl)) (.int _ _)) rfl rfl rfl rfl hb30 ?_
              refine goG (op_pick_t rfl hb30 (.t (has rfl)) (.t (has rfl))) rfl rfl rfl rfl rfl ?_
              refine go1 (op_pick_f rfl rfl (.t (has rfl)) (.t (has rfl))) rfl ?_
              refine go1 (op_move rfl (.t (has rfl))) rfl ?_
              refine goesO_split H (fun hb31 H => ?_) (fun hb31 H => ?_)
              · skip
                refine goS rfl rfl rfl rfl rfl rfl hb31 ?_
                refine goS rfl rfl rfl rfl rfl rfl hb31 ?_
                refine goS rfl rfl rfl rfl rfl rfl hb31 ?_
                refine goSU rfl rfl rfl rfl rfl rfl ?_
                refine goSU rfl rfl rfl rfl rfl rfl ?_
                refine goS rfl rfl rfl rfl rfl rfl hb31 ?_
                refine go1 (op_pick_t rfl hb31 (.t (has rfl)) (.bool _)) rfl ?_
                refine go1 (op_move rfl (.t (has rfl))) rfl ?_
                refine goS rfl rfl rfl rfl rfl rfl rfl ?_
                refine goS rfl rfl rfl rfl rfl rfl rfl ?_
                refine goS rfl rfl rfl rfl rfl rfl rfl ?_
                refine go1 (op_pick_t rfl rfl (.t (has rfl)) (.bool _)) rfl ?_
                refine go1 (op_not rfl (.t (has rfl))) rfl ?_
                refine goesO_nil ?_
                obtain rfl := Option.some.inj H
                exact ends_cut (.cons rfl (.cons rfl (.cons rfl (.cons rfl .nil))))
              · skip
                refine goG (op_move rfl (.t (has rfl))) rfl rfl rfl rfl hb31 ?_
                refine goG (op_icmp rfl rfl (.t (has rfl)) (.int _ _)) rfl rfl rfl rfl hb31 ?_
                refine goG (op_move rfl (.t (has rfl))) rfl rfl rfl rfl hb31 ?_
                refine goesO_split H (fun hb32 H => ?_) (fun hb32 H => ?_)
                · skip
                  refine goG (op_move rfl (.t (has rfl))) rfl rfl rfl rfl hb32 ?_
                  refine goG (op_icmp rfl rfl (.t (has rfl)) (.int _ _)) rfl rfl rfl rfl hb32 ?_
                  refine goG (op_pick_t rfl hb32 (.t (has rfl)) (.t (has rfl))) rfl rfl rfl rfl hb31 ?_
                  refine go1 (op_pick_f rfl hb31 (.t (has rfl)) (.t (has rfl))) rfl ?_
                  refine go1 (op_move rfl (.t (has rfl))) rfl ?_
                  refine goesO_split H (fun hb33 H => ?_) (fun hb33 H => ?_)
                  · skip
                    refine goS rfl rfl rfl rfl rfl rfl hb33 ?_
                    refine goS rfl rfl rfl rfl rfl rfl hb33 ?_
                    refine goS rfl rfl rfl rfl rfl rfl hb33 ?_
                    refine go1 (op_pick_t rfl hb33 (.t (has rfl)) (.bool _)) rfl ?_
                    refine go1 (op_not rfl (.t (has rfl))) rfl ?_
                    refine goesO_nil ?_
                    obtain rfl := Option.some.inj H
                    exact ends_cut (.cons rfl (.cons rfl (.cons rfl (.cons rfl .nil))))
                  · skip
                    refine goG (op_move rfl (.t (has rfl))) rfl rfl rfl rfl hb33 ?_
                    obtain ⟨v34, h35, H⟩ := bind_some H
                    refine goG (op_call' rfl enters57 (strings_IndexByte.con _ _ _ h35) rfl (.cons (ArgP.k (.str _)) (.cons (ArgP.k (.t (has rfl))) .nil))) rfl rfl rfl rfl hb33 ?_
                    refine goG (op_icmp rfl rfl (.t (has rfl)) (.int _ _)) rfl rfl rfl rfl hb33 ?_
                    refine go1 (op_pick_f rfl hb33 (.t (has rfl)) (.t (has rfl))) rfl ?_
                    refine go1 (op_not rfl (.t (has rfl))) rfl ?_
                    refine goesO_nil ?_
                    obtain rfl := Option.some.inj H
                    exact ends_cut (.cons rfl (.cons rfl (.cons rfl (.cons rfl .nil))))
                · skip
                  refine goS rfl rfl rfl rfl rfl rfl hb32 ?_
                  refine goS rfl rfl rfl rfl rfl rfl hb32 ?_
                  refine goG (op_pick_f rfl hb32 (.t (has rfl)) (.bool _)) rfl rfl rfl rfl hb31 ?_
                  refine go1 (op_pick_f rfl hb31 (.t (has rfl)) (.t (has rfl))) rfl ?_
                  refine go1 (op_move rfl (.t (has rfl))) rfl ?_
                  refine goG (op_move rfl (.t (has rfl))) rfl rfl rfl rfl rfl ?_
                  obtain ⟨v36, h37, H⟩ := bind_some H
                  refine goG (op_call' rfl enters57 (strings_IndexByte.con _ _ _ h37) rfl (.cons (ArgP.k (.str _)) (.cons (ArgP.k (.t (has rfl))) .nil))) rfl rfl rfl rfl rfl ?_
                  refine goG (op_icmp rfl rfl (.t (has rfl)) (.int _ _)) rfl rfl rfl rfl rfl ?_
                  refine go1 (op_pick_f rfl rfl (.t (has rfl)) (.t (has rfl))) rfl ?_
                  refine go1 (op_not rfl (.t (has rfl))) rfl ?_
                  refine goesO_nil ?_
                  obtain rfl := Option.some.inj H
                  exact ends_cut (.cons rfl (.cons rfl (.cons rfl (.cons rfl .nil))))
            · skip
              refine goS rfl rfl rfl rfl rfl rfl hb30 ?_
              refine goS rfl rfl rfl rfl rfl rfl hb30 ?_
              refine goG (op_pick_f rfl hb30 (.t (has rfl)) (.bool _)) rfl rfl rfl rfl rfl ?_
              refine go1 (op_pick_f rfl rfl (.t (has rfl)) (.t (has rfl))) rfl ?_
              refine go1 (op_move rfl (.t (has rfl))) rfl ?_
              refine goG (op_move rfl (.t (has rfl))) rfl rfl rfl rfl rfl ?_
              refine goG (op_icmp rfl rfl (.t (has rfl)) (.int _ _)) rfl rfl rfl rfl rfl ?_
              refine goG (op_move rfl (.t (has rfl))) rfl rfl rfl rfl rfl ?_
              refine goesO_split H (fun hb38 H => ?_) (fun hb38 H => ?_)
              · skip
                refine goG (op_move rfl (.t (has rfl))) rfl rfl rfl rfl hb38 ?_
                refine goG (op_icmp rfl rfl (.t (has rfl)) (.int _ _)) rfl rfl rfl rfl hb38 ?_
                refine goG (op_pick_t rfl hb38 (.t (has rfl)) (.t (has rfl))) rfl rfl rfl rfl rfl ?_
                refine go1 (op_pick_f rfl rfl (.t (has rfl)) (.t (has rfl))) rfl ?_
                refine go1 (op_move rfl (.t (has rfl))) rfl ?_
                refine goesO_split H (fun hb39 H => ?_) (fun hb39 H => ?_)
                · skip
                  refine goS rfl rfl rfl rfl rfl rfl hb39 ?_
                  refine goS rfl rfl rfl rfl rfl rfl hb39 ?_
                  refine goS rfl rfl rfl rfl rfl rfl hb39 ?_
                  refine go1 (op_pick_t rfl hb39 (.t (has rfl)) (.bool _)) rfl ?_
                  refine go1 (op_not rfl (.t (has rfl))) rfl ?_
                  refine goesO_nil ?_
                  obtain rfl := Option.some.inj H
                  exact ends_cut (.cons rfl (.cons rfl (.cons rfl (.cons rfl .nil))))
                · skip
                  refine goG (op_move rfl (.t (has rfl))) rfl rfl rfl rfl hb39 ?_
                  obtain ⟨v40, h41, H⟩ := bind_some H
                  refine goG (op_call' rfl enters57 (strings_IndexByte.con _ _ _ h41) rfl (.cons (ArgP.k (.str _)) (.cons (ArgP.k (.t (has rfl))) .nil))) rfl rfl rfl rfl hb39 ?_
                  refine goG (op_icmp rfl rfl (.t (has rfl)) (.int _ _)) rfl rfl rfl rfl hb39 ?_
                  refine go1 (op_pick_f rfl hb39 (.t (has rfl)) (.t (has rfl))) rfl ?_
                  refine go1 (op_not rfl (.t (has rfl))) rfl ?_
                  refine goesO_nil ?_
                  obtain rfl := Option.some.inj H
                  exact ends_cut (.cons rfl (.cons rfl (.cons rfl (.cons rfl .nil))))
              · skip
                refine goS rfl rfl rfl rfl rfl rfl hb38 ?_
                refine goS rfl rfl rfl rfl rfl rfl hb38 ?_
                refine goG (op_pick_f rfl hb38 (.t (has rfl)) (.bool _)) rfl rfl rfl rfl rfl ?_
                refine go1 (op_pick_f rfl rfl (.t (has rfl)) (.t (has rfl))) rfl ?_
                refine go1 (op_move rfl (.t (has rfl))) rfl ?_
                refine goG (op_move rfl (.t (has rfl))) rfl rfl rfl rfl rfl ?_
                obtain ⟨v42, h43, H⟩ := bind_some H
                refine goG (op_call' rfl enters57 (strings_IndexByte.con _ _ _ h43) rfl (.cons (ArgP.k (.str _)) (.cons (ArgP.k (.t (has rfl))) .nil))) rfl rfl rfl rfl rfl ?_
                refine goG (op_icmp rfl rfl (.t (has rfl)) (.int _ _)) rfl rfl rfl rfl rfl ?_
                refine go1 (op_pick_f rfl rfl (.t (has rfl)) (.t (has rfl))) rfl ?_
                refine go1 (op_not rfl (.t (has rfl))) rfl ?_
                refine goesO_nil ?_
                obtain rfl := Option.some.inj H
                exact ends_cut (.cons rfl (.cons rfl (.cons rfl (.cons rfl .nil))))
        refine ends_then ?_
        refine goes_if (.t (has rfl)) H (fun hb44 H => ?_) (fun hb44 H => ?_)
        · skip
          refine goes_seq ?_
          refine goes_region ?_
          refine go1 (op_assign rfl (.bool _)) rfl ?_
          refine goesO_nil ?_
          refine ends_then ?_
          obtain rfl := Option.some.inj H
          refine goes_ret (ends_block_ret (ends_then_ret (ends_then_ret (ends_block_ret (ends_cutR_ret rfl ?_)))))
          exact ends_ret' rfl rfl (.t rfl (.nil _))
        · skip
          refine goes_skip ?_
          refine ends_block ?_
          refine ends_then ?_
          refine goes_region ?_
          refine go1 (op_add rfl (.t (has rfl)) (.int _ _)) rfl ?_
          refine go1 (op_move rfl (.t (has rfl))) rfl ?_
          refine goesO_nil ?_
          exact loop_next _ H (.cons rfl (.cons rfl (.cons rfl .nil)))
      · skip
        refine goes_exit (ends_then_exit (ends_then_exit (ends_block_exit ?_)))
        obtain rfl := Option.some.inj H
        exact ends_cutR rfl .nil
    · rintro s6 rfl
      clear h7
      dsimp only at H
      refine ends_then ?_
      refine goes_seq ?_
      refine goes_region ?_
      refine go1 (op_assign rfl (.bool _)) rfl ?_
      refine goesO_nil ?_
      refine ends_then ?_
      obtain rfl := Option.some.inj H
      exact goes_ret (ends_ret' rfl rfl (.t rfl (.nil _)))
    · rintro r' rfl a w hr
      obtain rfl := Option.some.inj H
      exact hr
theorem disk_named.conF (k : Nat) (a0 : ByteArray) (r : Bool) (H : disk_named.f k a0 = some r) : ConF Try.prog 48 [VA.k kstr a0] [VA.k kbool r] := (disk_named.con k a0 r H).freeL (.cons (KFree.k KFree.bool _) .nil)
/-! smithy/disk.Check -/
def disk_Check.l0 (a0 : Disk) : Nat → (File × Int) → Option (Except Int Unit)
  | 0, _ => none
  | k + 1, s6 => bif icmp .lss s6.2 (a0.Files.length : Int) then ((idx a0.Files s6.2).bind fun x11 => ((disk_named.f k x11.Name).bind fun v15 => bif !v15 then (some true) else (bif icmp .gtr s6.2 (0 : Int) then (bif scmp .leq x11.Name s6.1.Name then (some true) else (bif icmp .gtr (x11.Text.size : Int) (4096 : Int) then (some true) else (bif icmp .lss x11.Stamp (0 : Int) then (some true) else (some (icmp .gtr x11.Stamp a0.Clock))))) else (bif icmp .gtr (x11.Text.size : Int) (4096 : Int) then (some true) else (bif icmp .lss x11.Stamp (0 : Int) then (some true) else (some (icmp .gtr x11.Stamp a0.Clock)))))).bind fun s13 => bif s13 then (some (Except.error (4 : Int))) else (disk_Check.l0 a0 k (x11, IntKind.i64.wrap (s6.2 + (1 : Int))))) else (some (Except.ok ()))
def disk_Check.f (k : Nat) (a0 : Disk) : Option Int := (bif icmp .lss a0.Clock (0 : Int) then (some true) else (bif icmp .gtr a0.Clock (1099511627776 : Int) then (some true) else (some (icmp .gtr (a0.Files.length : Int) (256 : Int))))).bind fun s1 => bif s1 then (some (4 : Int)) else ((disk_Check.l0 a0 k ((⟨ByteArray.empty, ByteArray.empty, (0 : Int)⟩ : File), (0 : Int))).bind fun o9 => match o9 with | .error r' => some r' | .ok s7 => (some (0 : Int)))
set_option maxRecDepth 100000 in
set_option maxHeartbeats 4000000 in
theorem disk_Check.con (k : Nat) (a0 : Disk) (r : Int) (H : disk_Check.f k a0 = some r) : Con Try.prog 32 [VA.k kDisk a0] [VA.k (kint .i64) r] := by
  unfold disk_Check.f at H
  refine con_enter Try.func32 rfl rfl rfl (fun w0 S0 θ => ?_)
  refine goes_seq ?_
  refine goes_region ?_
  refine go3 (op_box 1 rfl (fun h => by first | rfl | cases h) (.t (has rfl))) rfl ?_
  refine go1 (op_assign rfl (.int _ _)) rfl ?_
  refine goesO_nil ?_
  refine ends_then ?_
  refine goes_seq ?_
  refine goes_seq ?_
  obtain ⟨s1, h2, H⟩ := bind_some H
  refine goes_cut [Ent.t 1 (VA.ptr 1 0), Ent.t 19 (VA.k kbool s1), Ent.h 1 (HE.box 27 kDisk a0)] ?_ ?_
  · replace H := h2; clear h2
    refine goes_region ?_
    refine go1 (op_fieldAddr rfl Try.underlying27 rfl tk3 (.t (has rfl))) rfl ?_
    refine go1 (op_load rfl fldDisk_Clock tk3 (.t (has rfl)) (has rfl)) rfl ?_
    refine go1 (op_icmp rfl rfl (.t (has rfl)) (.int _ _)) rfl ?_
    refine go1 (op_move rfl (.t (has rfl))) rfl ?_
    refine goesO_split H (fun hb3 H => ?_) (fun hb3 H => ?_)
    · skip
      refine goS rfl rfl rfl rfl rfl rfl hb3 ?_
      refine goS rfl rfl rfl rfl rfl rfl hb3 ?_
      refine goS rfl rfl rfl rfl rfl rfl hb3 ?_
      refine go1 (op_pick_t rfl hb3 (.t (has rfl)) (.bool _)) rfl ?_
      refine go1 (op_move rfl (.t (has rfl))) rfl ?_
      refine goS rfl rfl rfl rfl rfl rfl rfl ?_
      refine goS rfl rfl rfl rfl rfl rfl rfl ?_
      refine goS rfl rfl rfl rfl rfl rfl rfl ?_
      refine goS rfl rfl rfl rfl rfl rfl rfl ?_
      refine go1 (op_pick_t rfl rfl (.t (has rfl)) (.bool _)) rfl ?_
      refine goesO_nil ?_
      obtain rfl := Option.some.inj H
      exact ends_cut (.cons rfl (.cons rfl (.cons rfl .nil)))
    · skip
      refine goG (op_fieldAddr rfl Try.underlying27 rfl tk3 (.t (has rfl))) rfl rfl rfl rfl hb3 ?_
      refine goG (op_load rfl fldDisk_Clock tk3 (.t (has rfl)) (has rfl)) rfl rfl rfl rfl hb3 ?_
      refine goG (op_icmp rfl rfl (.t (has rfl)) (.int _ _)) rfl rfl rfl rfl hb3 ?_
      refine go1 (op_pick_f rfl hb3 (.t (has rfl)) (.t (has rfl))) rfl ?_
      refine go1 (op_move rfl (.t (has rfl))) rfl ?_
      refine goesO_split H (fun hb4 H => ?_) (fun hb4 H => ?_)
      · skip
        refine goS rfl rfl rfl rfl rfl rfl hb4 ?_
        refine goS rfl rfl rfl rfl rfl rfl hb4 ?_
        refine goS rfl rfl rfl rfl rfl rfl hb4 ?_
        refine goS rfl rfl rfl rfl rfl rfl hb4 ?_
        refine go1 (op_pick_t rfl hb4 (.t (has rfl)) (.bool _)) rfl ?_
        refine goesO_nil ?_
        obtain rfl := Option.some.inj H
        exact ends_cut (.cons rfl (.cons rfl (.cons rfl .nil)))
      · skip
        refine goG (op_fieldAddr rfl Try.underlying27 rfl tk25 (.t (has rfl))) rfl rfl rfl rfl hb4 ?_
        refine goG (op_load rfl fldDisk_Files tk25 (.t (has rfl)) (has rfl)) rfl rfl rfl rfl hb4 ?_
        refine goG (op_len rfl rfl Try.underlying25 (.t (has rfl))) rfl rfl rfl rfl hb4 ?_
        refine goG (op_icmp rfl rfl (.t (has rfl)) (.int _ _)) rfl rfl rfl rfl hb4 ?_
        refine go1 (op_pick_f rfl hb4 (.t (has rfl)) (.t (has rfl))) rfl ?_
        refine goesO_nil ?_
        obtain rfl := Option.some.inj H
        exact ends_cut (.cons rfl (.cons rfl (.cons rfl .nil)))
  refine ends_then ?_
  refine goes_if (.t (has rfl)) H (fun hb5 H => ?_) (fun hb5 H => ?_)
  · skip
    refine goes_seq ?_
    refine goes_region ?_
    refine go1 (op_assign rfl (.int _ _)) rfl ?_
    refine goesO_nil ?_
    refine ends_then ?_
    obtain rfl := Option.some.inj H
    exact goes_ret (ends_then_ret (ends_ret' rfl rfl (.t rfl (.nil _))))
  · skip
    refine goes_skip ?_
    refine ends_then ?_
    refine goes_seq ?_
    refine goes_region ?_
    refine go1 (op_build (pl := [(0, 1), (1, 1), (2, 1)]) rfl rfl Try.underlying47 (by kernel_rfl) zk47 (.nil _)) rfl ?_
    refine go3 (op_alloc 3 rfl zk47) rfl ?_
    refine go1 (op_store (Fld.whole kFile) tk47 (.t (has rfl)) (has rfl) (.t (has rfl))) rfl ?_
    refine goesO_nil ?_
    refine ends_then ?_
    refine goes_seq ?_
    refine goes_seq ?_
    refine goes_region ?_
    refine go1 (op_fieldAddr rfl Try.underlying27 rfl tk25 (.t (has rfl))) rfl ?_
    refine go1 (op_load rfl fldDisk_Files tk25 (.t (has rfl)) (has rfl)) rfl ?_
    refine go1 (op_len rfl rfl Try.underlying25 (.t (has rfl))) rfl ?_
    refine go1 (op_move rfl (.int _ _)) rfl ?_
    refine goesO_nil ?_
    refine ends_then ?_
    obtain ⟨o9, h8, H⟩ := bind_some H
    refine goes_cutR (o := o9) (fun s7 : Unit => []) (fun r a w => bodyPost Try.prog Try.f32 (CPost w0 S0 θ [VA.k (kint .i64) r]) .ret a w) ?_ ?_ ?_
    · replace H := h8; clear h8
      refine goes_block ?_
      refine goes_loop (fun s6 : File × Int => [Ent.t 1 (VA.ptr 1 0), Ent.t 3 (VA.ptr 3 0), Ent.t 22 (VA.k (kslice kFile) a0.Files), Ent.t 23 (VA.k (kint .i64) (a0.Files.length : Int)), Ent.t 24 (VA.k (kint .i64) s6.2), Ent.h 1 (HE.box 27 kDisk a0), Ent.h 3 (HE.box 47 kFile s6.1)]) (fun k s6 => disk_Check.l0 a0 k s6) (fun _ => rfl) H (.cons rfl (.cons rfl (.cons rfl (.cons rfl (.cons rfl (.cons rfl (.cons rfl .nil))))))) ?_
      intro k s6 H
      simp only [disk_Check.l0] at H
      refine goes_seq ?_
      refine goes_region ?_
      refine go1 (op_icmp rfl rfl (.t (has rfl)) (.t (has rfl))) rfl ?_
      refine goesO_nil ?_
      refine ends_then ?_
      refine goes_seq ?_
      refine goes_if (.t (has rfl)) H (fun hb10 H => ?_) (fun hb10 H => ?_)
      · skip
        refine goes_skip ?_
        refine ends_then ?_
        refine goes_seq ?_
        refine goes_block ?_
        refine goes_seq ?_
        refine goes_region ?_
        refine go1 (op_move rfl (.t (has rfl))) rfl ?_
        obtain ⟨x11, h12, H⟩ := bind_some H
        refine go1 (op_indexAddr rfl Try.underlying25 tk47 h12 (.t (has rfl)) (.t (has rfl))) rfl ?_
        refine go1 (op_loadp rfl tk47 (.t (has rfl))) rfl ?_
        refine go3 (op_alloc 5 rfl zk47) rfl ?_
        refine go1 (op_assign rfl (.t (has rfl))) rfl ?_
        refine go1 (op_store (Fld.whole kFile) tk47 (.t (has rfl)) (has rfl) (.t (has rfl))) rfl ?_
        refine goesO_nil ?_
        refine ends_then ?_
        refine goes_seq ?_
        refine goes_seq ?_
        obtain ⟨s13, h14, H⟩ := bind_some H
        refine goes_cut [Ent.t 1 (VA.ptr 1 0), Ent.t 3 (VA.ptr 3 0), Ent.t 5 (VA.ptr 5 0), Ent.t 22 (VA.k (kslice kFile) a0.Files), Ent.t 23 (VA.k (kint .i64) (a0.Files.length : Int)), Ent.t 24 (VA.k (kint .i64) s6.2), Ent.t 61 (VA.k kbool s13), Ent.h 1 (HE.box 27 kDisk a0), Ent.h 3 (HE.box 47 kFile s6.1), Ent.h 5 (HE.box 47 kFile x11)] ?_ ?_
        · replace H := h14; clear h14
          refine goes_region ?_
          refine go1 (op_fieldAddr rfl Try.underlying47 rfl tk9 (.t (has rfl))) rfl ?_
          refine go1 (op_load rfl fldFile_Name tk9 (.t (has rfl)) (has rfl)) rfl ?_
          obtain ⟨v15, h16, H⟩ := bind_some H
          refine go1 (op_call' rfl enters48 (disk_named.con _ _ _ h16) rfl (.cons (ArgP.k (.t (has rfl))) .nil)) rfl ?_
          refine go1 (op_not rfl (.t (has rfl))) rfl ?_
          refine go1 (op_move rfl (.t (has rfl))) rfl ?_
          refine goesO_split H (fun hb17 H => ?_) (fun hb17 H => ?_)
          · skip
            refine goS rfl rfl rfl rfl rfl rfl hb17 ?_
            refine goS rfl rfl rfl rfl rfl rfl hb17 ?_
            refine goS rfl rfl rfl rfl rfl rfl hb17 ?_
            refine goSU rfl rfl rfl rfl rfl rfl ?_
            refine goSU rfl rfl rfl rfl rfl rfl ?_
            refine goSU rfl rfl rfl rfl rfl rfl ?_
            refine goSU rfl rfl rfl rfl rfl rfl ?_
            refine goSU rfl rfl rfl rfl rfl rfl ?_
            refine goS rfl rfl rfl rfl rfl rfl hb17 ?_
            refine go1 (op_pick_t rfl hb17 (.t (has rfl)) (.bool _)) rfl ?_
            refine go1 (op_move rfl (.t (has rfl))) rfl ?_
            refine goS rfl rfl rfl rfl rfl rfl rfl ?_
            refine goS rfl rfl rfl rfl rfl rfl rfl ?_
            refine goS rfl rfl rfl rfl rfl rfl rfl ?_
            refine goS rfl rfl rfl rfl rfl rfl rfl ?_
            refine go1 (op_pick_t rfl rfl (.t (has rfl)) (.bool _)) rfl ?_
            refine go1 (op_move rfl (.t (has rfl))) rfl ?_
            refine goS rfl rfl rfl rfl rfl rfl rfl ?_
            refine goS rfl rfl rfl rfl rfl rfl rfl ?_
            refine goS rfl rfl rfl rfl rfl rfl rfl ?_
            refine go1 (op_pick_t rfl rfl (.t (has rfl)) (.bool _)) rfl ?_
            refine go1 (op_move rfl (.t (has rfl))) rfl ?_
            refine goS rfl rfl rfl rfl rfl rfl rfl ?_
            refine goS rfl rfl rfl rfl rfl rfl rfl ?_
            refine goS rfl rfl rfl rfl rfl rfl rfl ?_
            refine goS rfl rfl rfl rfl rfl rfl rfl ?_
            refine goS rfl rfl rfl rfl rfl rfl rfl ?_
            refine go1 (op_pick_t rfl rfl (.t (has rfl)) (.bool _)) rfl ?_
            refine goesO_nil ?_
            obtain rfl := Option.some.inj H
            exact ends_cut (.cons rfl (.cons rfl (.cons rfl (.cons rfl (.cons rfl (.cons rfl (.cons rfl (.cons rfl (.cons rfl (.cons rfl .nil))))))))))
          · skip
            refine goG (op_move rfl (.t (has rfl))) rfl rfl rfl rfl hb17 ?_
            refine goG (op_icmp rfl rfl (.t (has rfl)) (.int _ _)) rfl rfl rfl rfl hb17 ?_
            refine goG (op_move rfl (.t (has rfl))) rfl rfl rfl rfl hb17 ?_
            refine goesO_split H (fun hb18 H => ?_) (fun hb18 H => ?_)
            · skip
              refine goG (op_fieldAddr rfl Try.underlying47 rfl tk9 (.t (has rfl))) rfl rfl rfl rfl hb18 ?_
              refine goG (op_load rfl fldFile_Name tk9 (.t (has rfl)) (has rfl)) rfl rfl rfl rfl hb18 ?_
              refine goG (op_fieldAddr rfl Try.underlying47 rfl tk9 (.t (has rfl))) rfl rfl rfl rfl hb18 ?_
              refine goG (op_load rfl fldFile_Name tk9 (.t (has rfl)) (has rfl)) rfl rfl rfl rfl hb18 ?_
              refine goG (op_scmp rfl rfl (.t (has rfl)) (.t (has rfl))) rfl rfl rfl rfl hb18 ?_
              refine goG (op_pick_t rfl hb18 (.t (has rfl)) (.t (has rfl))) rfl rfl rfl rfl hb17 ?_
              refine go1 (op_pick_f rfl hb17 (.t (has rfl)) (.t (has rfl))) rfl ?_
              refine go1 (op_move rfl (.t (has rfl))) rfl ?_
              refine goesO_split H (fun hb19 H => ?_) (fun hb19 H => ?_)
              · skip
                refine goS rfl rfl rfl rfl rfl rfl hb19 ?_
                refine goS rfl rfl rfl rfl rfl rfl hb19 ?_
                refine goS rfl rfl rfl rfl rfl rfl hb19 ?_
                refine goS rfl rfl rfl rfl rfl rfl hb19 ?_
                refine go1 (op_pick_t rfl hb19 (.t (has rfl)) (.bool _)) rfl ?_
                refine go1 (op_move rfl (.t (has rfl))) rfl ?_
                refine goS rfl rfl rfl rfl rfl rfl rfl ?_
                refine goS rfl rfl rfl rfl rfl rfl rfl ?_
                refine goS rfl rfl rfl rfl rfl rfl rfl ?_
                refine go1 (op_pick_t rfl rfl (.t (has rfl)) (.bool _)) rfl ?_
                refine go1 (op_move rfl (.t (has rfl))) rfl ?_
                refine goS rfl rfl rfl rfl rfl rfl rfl ?_
                refine goS rfl rfl rfl rfl rfl rfl rfl ?_
                refine goS rfl rfl rfl rfl rfl rfl rfl ?_
                refine goS rfl rfl rfl rfl rfl rfl rfl ?_
                refine goS rfl rfl rfl rfl rfl rfl rfl ?_
                refine go1 (op_pick_t rfl rfl (.t (has rfl)) (.bool _)) rfl ?_
                refine goesO_nil ?_
                obtain rfl := Option.some.inj H
                exact ends_cut (.cons rfl (.cons rfl (.cons rfl (.cons rfl (.cons rfl (.cons rfl (.cons rfl (.cons rfl (.cons rfl (.cons rfl .nil))))))))))
              · skip
                refine goG (op_fieldAddr rfl Try.underlying47 rfl tk9 (.t (has rfl))) rfl rfl rfl rfl hb19 ?_
                refine goG (op_load rfl fldFile_Text tk9 (.t (has rfl)) (has rfl)) rfl rfl rfl rfl hb19 ?_
                refine goG (op_len_str rfl rfl Try.underlying9 (.t (has rfl))) rfl rfl rfl rfl hb19 ?_
                refine goG (op_icmp rfl rfl (.t (has rfl)) (.int _ _)) rfl rfl rfl rfl hb19 ?_
                refine go1 (op_pick_f rfl hb19 (.t (has rfl)) (.t (has rfl))) rfl ?_
                refine go1 (op_move rfl (.t (has rfl))) rfl ?_
                refine goesO_split H (fun hb20 H => ?_) (fun hb20 H => ?_)
                · skip
                  refine goS rfl rfl rfl rfl rfl rfl hb20 ?_
                  refine goS rfl rfl rfl rfl rfl rfl hb20 ?_
                  refine goS rfl rfl rfl rfl rfl rfl hb20 ?_
                  refine go1 (op_pick_t rfl hb20 (.t (has rfl)) (.bool _)) rfl ?_
                  refine go1 (op_move rfl (.t (has rfl))) rfl ?_
                  refine goS rfl rfl rfl rfl rfl rfl rfl ?_
                  refine goS rfl rfl rfl rfl rfl rfl rfl ?_
                  refine goS rfl rfl rfl rfl rfl rfl rfl ?_
                  refine goS rfl rfl rfl rfl rfl rfl rfl ?_
                  refine goS rfl rfl rfl rfl rfl rfl rfl ?_
                  refine go1 (op_pick_t rfl rfl (.t (has rfl)) (.bool _)) rfl ?_
                  refine goesO_nil ?_
                  obtain rfl := Option.some.inj H
                  exact ends_cut (.cons rfl (.cons rfl (.cons rfl (.cons rfl (.cons rfl (.cons rfl (.cons rfl (.cons rfl (.cons rfl (.cons rfl .nil))))))))))
                · skip
                  refine goG (op_fieldAddr rfl Try.underlying47 rfl tk3 (.t (has rfl))) rfl rfl rfl rfl hb20 ?_
                  refine goG (op_load rfl fldFile_Stamp tk3 (.t (has rfl)) (has rfl)) rfl rfl rfl rfl hb20 ?_
                  refine goG (op_icmp rfl rfl (.t (has rfl)) (.int _ _)) rfl rfl rfl rfl hb20 ?_
                  refine go1 (op_pick_f rfl hb20 (.t (has rfl)) (.t (has rfl))) rfl ?_
                  refine go1 (op_move rfl (.t (has rfl))) rfl ?_
                  refine goesO_split H (fun hb21 H => ?_) (fun hb21 H => ?_)
                  · skip
                    refine goS rfl rfl rfl rfl rfl rfl hb21 ?_
                    refine goS rfl rfl rfl rfl rfl rfl hb21 ?_
                    refine goS rfl rfl rfl rfl rfl rfl hb21 ?_
                    refine goS rfl rfl rfl rfl rfl rfl hb21 ?_
                    refine goS rfl rfl rfl rfl rfl rfl hb21 ?_
                    refine go1 (op_pick_t rfl hb21 (.t (has rfl)) (.bool _)) rfl ?_
                    refine goesO_nil ?_
                    obtain rfl := Option.some.inj H
                    exact ends_cut (.cons rfl (.cons rfl (.cons rfl (.cons rfl (.cons rfl (.cons rfl (.cons rfl (.cons rfl (.cons rfl (.cons rfl .nil))))))))))
                  · skip
                    refine goG (op_fieldAddr rfl Try.underlying47 rfl tk3 (.t (has rfl))) rfl rfl rfl rfl hb21 ?_
                    refine goG (op_load rfl fldFile_Stamp tk3 (.t (has rfl)) (has rfl)) rfl rfl rfl rfl hb21 ?_
                    refine goG (op_fieldAddr rfl Try.underlying27 rfl tk3 (.t (has rfl))) rfl rfl rfl rfl hb21 ?_
                    refine goG (op_load rfl fldDisk_Clock tk3 (.t (has rfl)) (has rfl)) rfl rfl rfl rfl hb21 ?_
                    refine goG (op_icmp rfl rfl (.t (has rfl)) (.t (has rfl))) rfl rfl rfl rfl hb21 ?_
                    refine go1 (op_pick_f rfl hb21 (.t (has rfl)) (.t (has rfl))) rfl ?_
                    refine goesO_nil ?_
                    obtain rfl := Option.some.inj H
                    exact ends_cut (.cons rfl (.cons rfl (.cons rfl (.cons rfl (.cons rfl (.cons rfl (.cons rfl (.cons rfl (.cons rfl (.cons rfl .nil))))))))))
            · skip
              refine goS rfl rfl rfl rfl rfl rfl hb18 ?_
              refine goS rfl rfl rfl rfl rfl rfl hb18 ?_
              refine goS rfl rfl rfl rfl rfl rfl hb18 ?_
              refine goS rfl rfl rfl rfl rfl rfl hb18 ?_
              refine goS rfl rfl rfl rfl rfl rfl hb18 ?_
              refine goG (op_pick_f rfl hb18 (.t (has rfl)) (.bool _)) rfl rfl rfl rfl hb17 ?_
              refine go1 (op_pick_f rfl hb17 (.t (has rfl)) (.t (has rfl))) rfl ?_
              refine go1 (op_move rfl (.t (has rfl))) rfl ?_
              refine goG (op_fieldAddr rfl Try.underlying47 rfl tk9 (.t (has rfl))) rfl rfl rfl rfl rfl ?_
              refine goG (op_load rfl fldFile_Text tk9 (.t (has rfl)) (has rfl)) rfl rfl rfl rfl rfl ?_
              refine goG (op_len_str rfl rfl Try.underlying9 (.t (has rfl))) rfl rfl rfl rfl rfl ?_
              refine goG (op_icmp rfl rfl (.t (has rfl)) (.int _ _)) rfl rfl rfl rfl rfl ?_
              refine go1 (op_pick_f rfl rfl (.t (has rfl)) (.t (has rfl))) rfl ?_
              refine go1 (op_move rfl (.t (has rfl))) rfl ?_
              refine goesO_split H (fun hb22 H => ?_) (fun hb22 H => ?_)
              · skip
                refine goS rfl rfl rfl rfl rfl rfl hb22 ?_
                refine goS rfl rfl rfl rfl rfl rfl hb22 ?_
                refine goS rfl rfl rfl rfl rfl rfl hb22 ?_
                refine go1 (op_pick_t rfl hb22 (.t (has rfl)) (.bool _)) rfl ?_
                refine go1 (op_move rfl (.t (has rfl))) rfl ?_
                refine goS rfl rfl rfl rfl rfl rfl rfl ?_
                refine goS rfl rfl rfl rfl rfl rfl rfl ?_
                refine goS rfl rfl rfl rfl rfl rfl rfl ?_
                refine goS rfl rfl rfl rfl rfl rfl rfl ?_
                refine goS rfl rfl rfl rfl rfl rfl rfl ?_
                refine go1 (op_pick_t rfl rfl (.t (has rfl)) (.bool _)) rfl ?_
                refine goesO_nil ?_
                obtain rfl := Option.some.inj H
                exact ends_cut (.cons rfl (.cons rfl (.cons rfl (.cons rfl (.cons rfl (.cons rfl (.cons rfl (.cons rfl (.cons rfl (.cons rfl .nil))))))))))
              · skip
                refine goG (op_fieldAddr rfl Try.underlying47 rfl tk3 (.t (has rfl))) rfl rfl rfl rfl hb22 ?_
                refine goG (op_load rfl fldFile_Stamp tk3 (.t (has rfl)) (has rfl)) rfl rfl rfl rfl hb22 ?_
                refine goG (op_icmp rfl rfl (.t (has rfl)) (.int _ _)) rfl rfl rfl rfl hb22 ?_
                refine go1 (op_pick_f rfl hb22 (.t (has rfl)) (.t (has rfl))) rfl ?_
                refine go1 (op_move rfl (.t (has rfl))) rfl ?_
                refine goesO_split H (fun hb23 H => ?_) (fun hb23 H => ?_)
                · skip
                  refine goS rfl rfl rfl rfl rfl rfl hb23 ?_
                  refine goS rfl rfl rfl rfl rfl rfl hb23 ?_
                  refine goS rfl rfl rfl rfl rfl rfl hb23 ?_
                  refine goS rfl rfl rfl rfl rfl rfl hb23 ?_
                  refine goS rfl rfl rfl rfl rfl rfl hb23 ?_
                  refine go1 (op_pick_t rfl hb23 (.t (has rfl)) (.bool _)) rfl ?_
                  refine goesO_nil ?_
                  obtain rfl := Option.some.inj H
                  exact ends_cut (.cons rfl (.cons rfl (.cons rfl (.cons rfl (.cons rfl (.cons rfl (.cons rfl (.cons rfl (.cons rfl (.cons rfl .nil))))))))))
                · skip
                  refine goG (op_fieldAddr rfl Try.underlying47 rfl tk3 (.t (has rfl))) rfl rfl rfl rfl hb23 ?_
                  refine goG (op_load rfl fldFile_Stamp tk3 (.t (has rfl)) (has rfl)) rfl rfl rfl rfl hb23 ?_
                  refine goG (op_fieldAddr rfl Try.underlying27 rfl tk3 (.t (has rfl))) rfl rfl rfl rfl hb23 ?_
                  refine goG (op_load rfl fldDisk_Clock tk3 (.t (has rfl)) (has rfl)) rfl rfl rfl rfl hb23 ?_
                  refine goG (op_icmp rfl rfl (.t (has rfl)) (.t (has rfl))) rfl rfl rfl rfl hb23 ?_
                  refine go1 (op_pick_f rfl hb23 (.t (has rfl)) (.t (has rfl))) rfl ?_
                  refine goesO_nil ?_
                  obtain rfl := Option.some.inj H
                  exact ends_cut (.cons rfl (.cons rfl (.cons rfl (.cons rfl (.cons rfl (.cons rfl (.cons rfl (.cons rfl (.cons rfl (.cons rfl .nil))))))))))
        refine ends_then ?_
        refine goes_if (.t (has rfl)) H (fun hb24 H => ?_) (fun hb24 H => ?_)
        · skip
          refine goes_seq ?_
          refine goes_region ?_
          refine go1 (op_assign rfl (.int _ _)) rfl ?_
          refine goesO_nil ?_
          refine ends_then ?_
          obtain rfl := Option.some.inj H
          refine goes_ret (ends_then_ret (ends_block_ret (ends_then_ret (ends_then_ret (ends_block_ret (ends_cutR_ret rfl ?_))))))
          exact ends_ret' rfl rfl (.t rfl (.nil _))
        · skip
          refine goes_skip ?_
          refine ends_then ?_
          refine goes_region ?_
          refine go1 (op_load rfl (Fld.whole kFile) tk47 (.t (has rfl)) (has rfl)) rfl ?_
          refine go1 (op_store (Fld.whole kFile) tk47 (.t (has rfl)) (has rfl) (.t (has rfl))) rfl ?_
          refine goesO_nil ?_
          refine ends_block ?_
          refine ends_then ?_
          refine goes_region ?_
          refine go1 (op_add rfl (.t (has rfl)) (.int _ _)) rfl ?_
          refine go1 (op_move rfl (.t (has rfl))) rfl ?_
          refine goesO_nil ?_
          exact loop_next _ H (.cons rfl (.cons rfl (.cons rfl (.cons rfl (.cons rfl (.cons rfl (.cons rfl .nil)))))))
      · skip
        refine goes_exit (ends_then_exit (ends_then_exit (ends_block_exit ?_)))
        obtain rfl := Option.some.inj H
        exact ends_cutR rfl .nil
    · rintro s7 rfl
      clear h8
      dsimp only at H
      refine ends_then ?_
      refine goes_seq ?_
      refine goes_region ?_
      refine go1 (op_assign rfl (.int _ _)) rfl ?_
      refine goesO_nil ?_
      refine ends_then ?_
      obtain rfl := Option.some.inj H
      exact goes_ret (ends_ret' rfl rfl (.t rfl (.nil _)))
    · rintro r' rfl a w hr
      obtain rfl := Option.some.inj H
      exact hr
theorem disk_Check.conF (k : Nat) (a0 : Disk) (r : Int) (H : disk_Check.f k a0 = some r) : ConF Try.prog 32 [VA.k kDisk a0] [VA.k (kint .i64) r] := (disk_Check.con k a0 r H).freeL (.cons (KFree.k (KFree.int .i64) _) .nil)
/-! smithy/disk.Newest$1 -/
def disk_Newest_1.f (k : Nat) (a0 : ByteArray) : Option Bool := (disk_named.f k a0).bind fun v1 => some (!v1)
set_option maxRecDepth 100000 in
set_option maxHeartbeats 4000000 in
theorem disk_Newest_1.con (k : Nat) (a0 : ByteArray) (r : Bool) (H : disk_Newest_1.f k a0 = some r) : Con Try.prog 58 [VA.k kstr a0] [VA.k kbool r] := by
  unfold disk_Newest_1.f at H
  refine con_enter Try.func58 rfl rfl rfl (fun w0 S0 θ => ?_)
  refine goes_seq ?_
  refine goes_region ?_
  refine go1 (op_assign rfl (.bool _)) rfl ?_
  refine goesO_nil ?_
  refine ends_then ?_
  refine goes_seq ?_
  refine goes_region ?_
  refine go1 (op_move rfl (.t (has rfl))) rfl ?_
  obtain ⟨v1, h2, H⟩ := bind_some H
  refine go1 (op_call' rfl enters48 (disk_named.con _ _ _ h2) rfl (.cons (ArgP.k (.t (has rfl))) .nil)) rfl ?_
  refine go1 (op_not rfl (.t (has rfl))) rfl ?_
  refine go1 (op_assign rfl (.t (has rfl))) rfl ?_
  refine goesO_nil ?_
  refine ends_then ?_
  obtain rfl := Option.some.inj H
  exact goes_ret (ends_ret' rfl rfl (.t rfl (.nil _)))
theorem disk_Newest_1.conF (k : Nat) (a0 : ByteArray) (r : Bool) (H : disk_Newest_1.f k a0 = some r) : ConF Try.prog 58 [VA.k kstr a0] [VA.k kbool r] := (disk_Newest_1.con k a0 r H).freeL (.cons (KFree.k KFree.bool _) .nil)
/-! slices.BinarySearchFunc[[]smithy/api.File,smithy/api.File,string] -/
def slices_BinarySearchFunc_api_File_api_File_string.l0 (a0 : List File) (a1 : ByteArray) (a2 : File → ByteArray → Option Int) : Nat → (Int × Int) → Option Int
  | 0, _ => none
  | k + 1, s1 => bif icmp .lss s1.1 s1.2 then ((idx a0 (IntKind.i64.wrap ((IntKind.u64.wrap (IntKind.i64.wrap (s1.1 + s1.2))) / 2 ^ (Int.toNat (1 : Int))))).bind fun x5 => (a2 x5 a1).bind fun v7 => bif icmp .lss v7 (0 : Int) then (slices_BinarySearchFunc_api_File_api_File_string.l0 a0 a1 a2 k (IntKind.i64.wrap (IntKind.i64.wrap ((IntKind.u64.wrap (IntKind.i64.wrap (s1.1 + s1.2))) / 2 ^ (Int.toNat (1 : Int))) + (1 : Int)), s1.2)) else (slices_BinarySearchFunc_api_File_api_File_string.l0 a0 a1 a2 k (s1.1, IntKind.i64.wrap ((IntKind.u64.wrap (IntKind.i64.wrap (s1.1 + s1.2))) / 2 ^ (Int.toNat (1 : Int)))))) else (some s1.1)
def slices_BinarySearchFunc_api_File_api_File_string.f (k : Nat) (a0 : List File) (a1 : ByteArray) (a2 : File → ByteArray → Option Int) : Option (Int × Bool) := (slices_BinarySearchFunc_api_File_api_File_string.l0 a0 a1 a2 k ((0 : Int), (a0.length : Int))).bind fun s2 => (bif icmp .lss s2 (a0.length : Int) then ((idx a0 s2).bind fun x13 => (a2 x13 a1).bind fun v15 => some (icmp .eql v15 (0 : Int))) else (some false)).bind fun s10 => some (s2, s10)
set_option maxRecDepth 100000 in
set_option maxHeartbeats 4000000 in
theorem slices_BinarySearchFunc_api_File_api_File_string.con (F2 : FuncId) (pre2 caps2 : List VA) (k : Nat) (a0 : List File) (a1 : ByteArray) (a2 : File → ByteArray → Option Int) (hE2 : Enters Try.prog F2) (hp2 : ∀ (z0 : File) (z1 : ByteArray) r, a2 z0 z1 = some r → Con Try.prog F2 (pre2 ++ ([VA.k kFile z0, VA.k kstr z1] ++ caps2)) [VA.k (kint .i64) r]) (r : Int × Bool) (H : slices_BinarySearchFunc_api_File_api_File_string.f k a0 a1 a2 = some r) : Con Try.prog 64 [VA.k (kslice kFile) a0, VA.k kstr a1, VA.clo F2 pre2 caps2] [VA.k (kint .i64) r.1, VA.k kbool r.2] := by
  unfold slices_BinarySearchFunc_api_File_api_File_string.f at H
  refine con_enter Try.func64 rfl rfl rfl (fun w0 S0 θ => ?_)
  refine goes_seq ?_
  refine goes_region ?_
  refine go1 (op_assign rfl (.int _ _)) rfl ?_
  refine go1 (op_assign rfl (.bool _)) rfl ?_
  refine goesO_nil ?_
  refine ends_then ?_
  refine goes_seq ?_
  refine goes_region ?_
  refine go1 (op_move rfl (.t (has rfl))) rfl ?_
  refine go1 (op_len rfl rfl Try.underlying25 (.t (has rfl))) rfl ?_
  refine go1 (op_assign rfl (.t (has rfl))) rfl ?_
  refine goesO_nil ?_
  refine ends_then ?_
  refine goes_seq ?_
  refine goes_region ?_
  refine go1 (op_move rfl (.t (has rfl))) rfl ?_
  refine go1 (op_assign rfl (.int _ _)) rfl ?_
  refine go1 (op_assign rfl (.t (has rfl))) rfl ?_
  refine goesO_nil ?_
  refine ends_then ?_
  refine goes_seq ?_
  obtain ⟨s2, h3, H⟩ := bind_some H
  refine goes_cut [Ent.t 0 (VA.k (kslice kFile) a0), Ent.t 1 (VA.k kstr a1), Ent.t 2 (VA.clo F2 pre2 caps2), Ent.t 8 (VA.k (kint .i64) (a0.length : Int)), Ent.t 9 (VA.k (kint .i64) s2)] ?_ ?_
  · replace H := h3; clear h3
    refine goes_block ?_
    refine goes_loop (fun s1 : Int × Int => [Ent.t 0 (VA.k (kslice kFile) a0), Ent.t 1 (VA.k kstr a1), Ent.t 2 (VA.clo F2 pre2 caps2), Ent.t 8 (VA.k (kint .i64) (a0.length : Int)), Ent.t 9 (VA.k (kint .i64) s1.1), Ent.t 10 (VA.k (kint .i64) s1.2)]) (fun k s1 => slices_BinarySearchFunc_api_File_api_File_string.l0 a0 a1 a2 k s1) (fun _ => rfl) H (.cons rfl (.cons rfl (.cons rfl (.cons rfl (.cons rfl (.cons rfl .nil)))))) ?_
    intro k s1 H
    simp only [slices_BinarySearchFunc_api_File_api_File_string.l0] at H
    refine goes_seq ?_
    refine goes_seq ?_
    refine goes_region ?_
    refine go1 (op_move rfl (.t (has rfl))) rfl ?_
    refine go1 (op_move rfl (.t (has rfl))) rfl ?_
    refine go1 (op_icmp rfl rfl (.t (has rfl)) (.t (has rfl))) rfl ?_
    refine goesO_nil ?_
    refine ends_then ?_
    refine goes_if (.t (has rfl)) H (fun hb4 H => ?_) (fun hb4 H => ?_)
    · skip
      refine goes_skip ?_
      refine ends_then ?_
      refine goes_block ?_
      refine goes_seq ?_
      refine goes_region ?_
      refine go1 (op_move rfl (.t (has rfl))) rfl ?_
      refine go1 (op_move rfl (.t (has rfl))) rfl ?_
      refine go1 (op_add rfl (.t (has rfl)) (.t (has rfl))) rfl ?_
      refine go1 (op_conv rfl Try.underlying3 Try.underlying99 (.t (has rfl))) rfl ?_
      refine go1 (op_shr rfl (by decide) (by decide) (.t (has rfl)) (.int _ _)) rfl ?_
      refine go1 (op_conv rfl Try.underlying99 Try.underlying3 (.t (has rfl))) rfl ?_
      refine go1 (op_assign rfl (.t (has rfl))) rfl ?_
      refine goesO_nil ?_
      refine ends_then ?_
      refine goes_seq ?_
      refine goes_region ?_
      refine go1 (op_moveA rfl plain_clo (.t (has rfl))) rfl ?_
      refine go1 (op_move rfl (.t (has rfl))) rfl ?_
      refine go1 (op_move rfl (.t (has rfl))) rfl ?_
      obtain ⟨x5, h6, H⟩ := bind_some H
      refine go1 (op_indexAddr rfl Try.underlying25 tk47 h6 (.t (has rfl)) (.t (has rfl))) rfl ?_
      refine go1 (op_loadp rfl tk47 (.t (has rfl))) rfl ?_
      refine go1 (op_move rfl (.t (has rfl))) rfl ?_
      obtain ⟨v7, h8, H⟩ := bind_some H
      refine go1 (op_callv rfl (.t (has rfl)) hE2 (hp2 _ _ _ h8) rfl (.cons (ArgP.k (.t (has rfl))) (.cons (ArgP.k (.t (has rfl))) .nil))) rfl ?_
      refine go1 (op_icmp rfl rfl (.t (has rfl)) (.int _ _)) rfl ?_
      refine goesO_nil ?_
      refine ends_then ?_
      refine goes_if (.t (has rfl)) H (fun hb9 H => ?_) (fun hb9 H => ?_)
      · skip
        refine goes_region ?_
        refine go1 (op_move rfl (.t (has rfl))) rfl ?_
        refine go1 (op_add rfl (.t (has rfl)) (.int _ _)) rfl ?_
        refine go1 (op_assign rfl (.t (has rfl))) rfl ?_
        refine goesO_nil ?_
        refine ends_block ?_
        exact loop_next _ H (.cons rfl (.cons rfl (.cons rfl (.cons rfl (.cons rfl (.cons rfl .nil))))))
      · skip
        refine goes_region ?_
        refine go1 (op_move rfl (.t (has rfl))) rfl ?_
        refine go1 (op_assign rfl (.t (has rfl))) rfl ?_
        refine goesO_nil ?_
        refine ends_block ?_
        exact loop_next _ H (.cons rfl (.cons rfl (.cons rfl (.cons rfl (.cons rfl (.cons rfl .nil))))))
    · skip
      refine goes_exit (ends_then_exit (ends_then_exit (ends_block_exit ?_)))
      obtain rfl := Option.some.inj H
      exact ends_cut (.cons rfl (.cons rfl (.cons rfl (.cons rfl (.cons rfl .nil)))))
  refine ends_then ?_
  refine goes_seq ?_
  obtain ⟨s10, h11, H⟩ := bind_some H
  refine goes_cut [Ent.t 6 (VA.k (kint .i64) s2), Ent.t 7 (VA.k kbool s10)] ?_ ?_
  · replace H := h11; clear h11
    refine goes_region ?_
    refine go1 (op_move rfl (.t (has rfl))) rfl ?_
    refine go1 (op_move rfl (.t (has rfl))) rfl ?_
    refine go1 (op_move rfl (.t (has rfl))) rfl ?_
    refine go1 (op_icmp rfl rfl (.t (has rfl)) (.t (has rfl))) rfl ?_
    refine go1 (op_move rfl (.t (has rfl))) rfl ?_
    refine goesO_split H (fun hb12 H => ?_) (fun hb12 H => ?_)
    · skip
      refine goG (op_moveA rfl plain_clo (.t (has rfl))) rfl rfl rfl rfl hb12 ?_
      refine goG (op_move rfl (.t (has rfl))) rfl rfl rfl rfl hb12 ?_
      refine goG (op_move rfl (.t (has rfl))) rfl rfl rfl rfl hb12 ?_
      obtain ⟨x13, h14, H⟩ := bind_some H
      refine goG (op_indexAddr rfl Try.underlying25 tk47 h14 (.t (has rfl)) (.t (has rfl))) rfl rfl rfl rfl hb12 ?_
      refine goG (op_loadp rfl tk47 (.t (has rfl))) rfl rfl rfl rfl hb12 ?_
      refine goG (op_move rfl (.t (has rfl))) rfl rfl rfl rfl hb12 ?_
      obtain ⟨v15, h16, H⟩ := bind_some H
      refine goG (op_callv rfl (.t (has rfl)) hE2 (hp2 _ _ _ h16) rfl (.cons (ArgP.k (.t (has rfl))) (.cons (ArgP.k (.t (has rfl))) .nil))) rfl rfl rfl rfl hb12 ?_
      refine goG (op_icmp rfl rfl (.t (has rfl)) (.int _ _)) rfl rfl rfl rfl hb12 ?_
      refine go1 (op_pick_t rfl hb12 (.t (has rfl)) (.t (has rfl))) rfl ?_
      refine go1 (op_assign rfl (.t (has rfl))) rfl ?_
      refine go1 (op_assign rfl (.t (has rfl))) rfl ?_
      refine goesO_nil ?_
      obtain rfl := Option.some.inj H
      exact ends_cut (.cons rfl (.cons rfl .nil))
    · skip
      refine goS rfl rfl rfl rfl rfl rfl hb12 ?_
      refine goS rfl rfl rfl rfl rfl rfl hb12 ?_
      refine goS rfl rfl rfl rfl rfl rfl hb12 ?_
      refine goS rfl rfl rfl rfl rfl rfl hb12 ?_
      refine goS rfl rfl rfl rfl rfl rfl hb12 ?_
      refine goS rfl rfl rfl rfl rfl rfl hb12 ?_
      refine goS rfl rfl rfl rfl rfl rfl hb12 ?_
      refine goS rfl rfl rfl rfl rfl rfl hb12 ?_
      refine go1 (op_pick_f rfl hb12 (.t (has rfl)) (.bool _)) rfl ?_
      refine go1 (op_assign rfl (.t (has rfl))) rfl ?_
      refine go1 (op_assign rfl (.t (has rfl))) rfl ?_
      refine goesO_nil ?_
      obtain rfl := Option.some.inj H
      exact ends_cut (.cons rfl (.cons rfl .nil))
  refine ends_then ?_
  obtain rfl := Option.some.inj H
  exact goes_ret (ends_ret' rfl rfl (.t rfl (.t rfl (.nil _))))
theorem slices_BinarySearchFunc_api_File_api_File_string.conF (F2 : FuncId) (pre2 caps2 : List VA) (k : Nat) (a0 : List File) (a1 : ByteArray) (a2 : File → ByteArray → Option Int) (hE2 : Enters Try.prog F2) (hp2 : ∀ (z0 : File) (z1 : ByteArray) r, a2 z0 z1 = some r → Con Try.prog F2 (pre2 ++ ([VA.k kFile z0, VA.k kstr z1] ++ caps2)) [VA.k (kint .i64) r]) (r : Int × Bool) (H : slices_BinarySearchFunc_api_File_api_File_string.f k a0 a1 a2 = some r) : ConF Try.prog 64 [VA.k (kslice kFile) a0, VA.k kstr a1, VA.clo F2 pre2 caps2] [VA.k (kint .i64) r.1, VA.k kbool r.2] := (slices_BinarySearchFunc_api_File_api_File_string.con F2 pre2 caps2 k a0 a1 a2 hE2 hp2 r H).freeL (.cons (KFree.k (KFree.int .i64) _) (.cons (KFree.k KFree.bool _) .nil))
/-! strings.Compare -/
def strings_Compare.f (a0 : ByteArray) (a1 : ByteArray) : Option Int := some (Lib.compareBytes a0.data.toList a1.data.toList)
theorem strings_Compare.con (a0 : ByteArray) (a1 : ByteArray) (r : Int) (H : strings_Compare.f a0 a1 = some r) : Con Try.prog 66 [VA.k kstr a0, VA.k kstr a1] [VA.k (kint .i64) r] := by
  obtain rfl := Option.some.inj H
  refine con_plain fun θ S w vs h => ?_
  match vs, h with
  | [v0, v1], h =>
    obtain ⟨h0, h1, _⟩ := h
    obtain rfl := arg_str h0
    obtain rfl := arg_str h1
    exact ⟨_, Try.strings_Compare a0 a1 w, va_int _ _⟩
theorem strings_Compare.conF (a0 : ByteArray) (a1 : ByteArray) (r : Int) (H : strings_Compare.f a0 a1 = some r) : ConF Try.prog 66 [VA.k kstr a0, VA.k kstr a1] [VA.k (kint .i64) r] := (strings_Compare.con a0 a1 r H).freeL (.cons (KFree.k (KFree.int .i64) _) .nil)
/-! smithy/disk.place$1 -/
def disk_place_1.f (a0 : File) (a1 : ByteArray) : Option Int := (strings_Compare.f a0.Name a1).bind fun v1 => some v1
set_option maxRecDepth 100000 in
set_option maxHeartbeats 4000000 in
theorem disk_place_1.con (a0 : File) (a1 : ByteArray) (r : Int) (H : disk_place_1.f a0 a1 = some r) : Con Try.prog 65 [VA.k kFile a0, VA.k kstr a1] [VA.k (kint .i64) r] := by
  unfold disk_place_1.f at H
  refine con_enter Try.func65 rfl rfl rfl (fun w0 S0 θ => ?_)
  refine goes_seq ?_
  refine goes_region ?_
  refine go3 (op_box 2 rfl (fun h => by first | rfl | cases h) (.t (has rfl))) rfl ?_
  refine go1 (op_assign rfl (.int _ _)) rfl ?_
  refine goesO_nil ?_
  refine ends_then ?_
  refine goes_seq ?_
  refine goes_region ?_
  refine go1 (op_fieldAddr rfl Try.underlying47 rfl tk9 (.t (has rfl))) rfl ?_
  refine go1 (op_load rfl fldFile_Name tk9 (.t (has rfl)) (has rfl)) rfl ?_
  refine go1 (op_move rfl (.t (has rfl))) rfl ?_
  obtain ⟨v1, h2, H⟩ := bind_some H
  refine go1 (op_call' rfl enters66 (strings_Compare.con _ _ _ h2) rfl (.cons (ArgP.k (.t (has rfl))) (.cons (ArgP.k (.t (has rfl))) .nil))) rfl ?_
  refine go1 (op_assign rfl (.t (has rfl))) rfl ?_
  refine goesO_nil ?_
  refine ends_then ?_
  obtain rfl := Option.some.inj H
  exact goes_ret (ends_ret' rfl rfl (.t rfl (.nil _)))
theorem disk_place_1.conF (a0 : File) (a1 : ByteArray) (r : Int) (H : disk_place_1.f a0 a1 = some r) : ConF Try.prog 65 [VA.k kFile a0, VA.k kstr a1] [VA.k (kint .i64) r] := (disk_place_1.con a0 a1 r H).freeL (.cons (KFree.k (KFree.int .i64) _) .nil)
/-! smithy/disk.place -/
def disk_place.f (k : Nat) (a0 : Disk) (a1 : ByteArray) : Option (Int × Bool) := (slices_BinarySearchFunc_api_File_api_File_string.f k a0.Files a1 (fun (z0 : File) (z1 : ByteArray) => disk_place_1.f z0 z1)).bind fun v1 => some (v1.1, v1.2)
set_option maxRecDepth 100000 in
set_option maxHeartbeats 4000000 in
theorem disk_place.con (k : Nat) (a0 : Disk) (a1 : ByteArray) (r : Int × Bool) (H : disk_place.f k a0 a1 = some r) : Con Try.prog 59 [VA.k kDisk a0, VA.k kstr a1] [VA.k (kint .i64) r.1, VA.k kbool r.2] := by
  unfold disk_place.f at H
  refine con_enter Try.func59 rfl rfl rfl (fun w0 S0 θ => ?_)
  refine goes_seq ?_
  refine goes_region ?_
  refine go3 (op_box 2 rfl (fun h => by first | rfl | cases h) (.t (has rfl))) rfl ?_
  refine go1 (op_assign rfl (.int _ _)) rfl ?_
  refine go1 (op_assign rfl (.bool _)) rfl ?_
  refine goesO_nil ?_
  refine ends_then ?_
  refine goes_seq ?_
  refine goes_region ?_
  refine go1 (op_fieldAddr rfl Try.underlying27 rfl tk25 (.t (has rfl))) rfl ?_
  refine go1 (op_load rfl fldDisk_Files tk25 (.t (has rfl)) (has rfl)) rfl ?_
  refine go1 (op_move rfl (.t (has rfl))) rfl ?_
  obtain ⟨v1, h2, H⟩ := bind_some H
  refine goN (op_calls' rfl enters64 (slices_BinarySearchFunc_api_File_api_File_string.con 65 ([]) ([]) _ _ _ (fun (z0 : File) (z1 : ByteArray) => disk_place_1.f z0 z1) enters65 (fun z0 z1 r h => disk_place_1.con z0 z1 r h) _ h2) rfl rfl (.cons (ArgP.k (.t (has rfl))) (.cons (ArgP.k (.t (has rfl))) (.cons ArgP.fn .nil)))) rfl ?_
  refine go1 (op_extract rfl plain_k (has rfl)) rfl ?_
  refine go1 (op_extract rfl plain_k (has rfl)) rfl ?_
  refine go1 (op_assign rfl (.t (has rfl))) rfl ?_
  refine go1 (op_assign rfl (.t (has rfl))) rfl ?_
  refine goesO_nil ?_
  refine ends_then ?_
  obtain rfl := Option.some.inj H
  exact goes_ret (ends_ret' rfl rfl (.t rfl (.t rfl (.nil _))))
theorem disk_place.conF (k : Nat) (a0 : Disk) (a1 : ByteArray) (r : Int × Bool) (H : disk_place.f k a0 a1 = some r) : ConF Try.prog 59 [VA.k kDisk a0, VA.k kstr a1] [VA.k (kint .i64) r.1, VA.k kbool r.2] := (disk_place.con k a0 a1 r H).freeL (.cons (KFree.k (KFree.int .i64) _) (.cons (KFree.k KFree.bool _) .nil))
/-! smithy/disk.Newest -/
def disk_Newest.l0 (a0 : Disk) (a1 : List ByteArray) : Nat → (ByteArray × Int × Int) → Option (ByteArray × Int)
  | 0, _ => none
  | k + 1, s8 => bif icmp .lss s8.2.2 (a1.length : Int) then (((idx a1 s8.2.2).bind fun x14 => (disk_place.f k a0 x14).bind fun v16 => (bif v16.2 then ((idx a0.Files v16.1).bind fun x21 => some (icmp .gtr x21.Stamp s8.2.1)) else (some false)).bind fun s18 => bif s18 then ((idx a0.Files v16.1).bind fun x24 => some (x14, x24.Stamp)) else (some (s8.1, s8.2.1))).bind fun s12 => disk_Newest.l0 a0 a1 k (s12.1, s12.2, IntKind.i64.wrap (s8.2.2 + (1 : Int)))) else (some (s8.1, s8.2.1))
def disk_Newest.f (k : Nat) (a0 : Disk) (a1 : List ByteArray) : Option (ByteArray × Int) := (disk_Check.f k a0).bind fun v1 => bif icmp .neq v1 (0 : Int) then (some ((⟨#[]⟩ : ByteArray), v1)) else (bif icmp .gtr (a1.length : Int) (512 : Int) then (some ((⟨#[]⟩ : ByteArray), (2 : Int))) else ((slices_ContainsFunc_string_string.f k a1 (fun (z0 : ByteArray) => disk_Newest_1.f k z0)).bind fun v5 => bif v5 then (some ((⟨#[]⟩ : ByteArray), (3 : Int))) else ((disk_Newest.l0 a0 a1 k ((⟨#[]⟩ : ByteArray), (-1 : Int), (0 : Int))).bind fun s9 => bif icmp .lss s9.2 (0 : Int) then (some ((⟨#[]⟩ : ByteArray), (21 : Int))) else (some (s9.1, (0 : Int))))))
set_option maxRecDepth 100000 in
set_option maxHeartbeats 4000000 in
theorem disk_Newest.con (k : Nat) (a0 : Disk) (a1 : List ByteArray) (r : ByteArray × Int) (H : disk_Newest.f k a0 a1 = some r) : Con Try.prog 50 [VA.k kDisk a0, VA.k (kslice kstr) a1] [VA.k kstr r.1, VA.k (kint .i64) r.2] := by
  unfold disk_Newest.f at H
  refine con_enter Try.func50 rfl rfl rfl (fun w0 S0 θ => ?_)
  refine goes_seq ?_
  refine goes_region ?_
  refine go3 (op_box 2 rfl (fun h => by first | rfl | cases h) (.t (has rfl))) rfl ?_
  refine go1 (op_assign rfl (.str _)) rfl ?_
  refine go1 (op_assign rfl (.int _ _)) rfl ?_
  refine goesO_nil ?_
  refine ends_then ?_
  refine goes_seq ?_
  refine goes_seq ?_
  refine goes_region ?_
  refine go1 (op_load rfl (Fld.whole kDisk) tk27 (.t (has rfl)) (has rfl)) rfl ?_
  obtain ⟨v1, h2, H⟩ := bind_some H
  refine go1 (op_call' rfl enters32 (disk_Check.con _ _ _ h2) rfl (.cons (ArgP.k (.t (has rfl))) .nil)) rfl ?_
  refine go1 (op_assign rfl (.t (has rfl))) rfl ?_
  refine goesO_nil ?_
  refine ends_then ?_
  refine goes_seq ?_
  refine goes_region ?_
  refine go1 (op_move rfl (.t (has rfl))) rfl ?_
  refine go1 (op_icmp rfl rfl (.t (has rfl)) (.int _ _)) rfl ?_
  refine goesO_nil ?_
  refine ends_then ?_
  refine goes_if (.t (has rfl)) H (fun hb3 H => ?_) (fun hb3 H => ?_)
  · skip
    refine goes_seq ?_
    refine goes_region ?_
    refine go1 (op_move rfl (.t (has rfl))) rfl ?_
    refine go1 (op_assign rfl (.str _)) rfl ?_
    refine go1 (op_assign rfl (.t (has rfl))) rfl ?_
    refine goesO_nil ?_
    refine ends_then ?_
    obtain rfl := Option.some.inj H
    exact goes_ret (ends_then_ret (ends_ret' rfl rfl (.t rfl (.t rfl (.nil _)))))
  · skip
    refine goes_skip ?_
    refine ends_then ?_
    refine goes_seq ?_
    refine goes_seq ?_
    refine goes_region ?_
    refine go1 (op_move rfl (.t (has rfl))) rfl ?_
    refine go1 (op_len rfl rfl Try.underlying22 (.t (has rfl))) rfl ?_
    refine go1 (op_icmp rfl rfl (.t (has rfl)) (.int _ _)) rfl ?_
    refine goesO_nil ?_
    refine ends_then ?_
    refine goes_if (.t (has rfl)) H (fun hb4 H => ?_) (fun hb4 H => ?_)
    · skip
      refine goes_seq ?_
      refine goes_region ?_
      refine go1 (op_assign rfl (.str _)) rfl ?_
      refine go1 (op_assign rfl (.int _ _)) rfl ?_
      refine goesO_nil ?_
      refine ends_then ?_
      obtain rfl := Option.some.inj H
      exact goes_ret (ends_then_ret (ends_ret' rfl rfl (.t rfl (.t rfl (.nil _)))))
    · skip
      refine goes_skip ?_
      refine ends_then ?_
      refine goes_seq ?_
      refine goes_seq ?_
      refine goes_region ?_
      refine go1 (op_move rfl (.t (has rfl))) rfl ?_
      obtain ⟨v5, h6, H⟩ := bind_some H
      refine go1 (op_call' rfl enters55 (slices_ContainsFunc_string_string.con 58 ([]) ([]) _ _ (fun (z0 : ByteArray) => disk_Newest_1.f k z0) enters58 (fun z0 r h => disk_Newest_1.con _ z0 r h) _ h6) rfl (.cons (ArgP.k (.t (has rfl))) (.cons ArgP.fn .nil))) rfl ?_
      refine goesO_nil ?_
      refine ends_then ?_
      refine goes_if (.t (has rfl)) H (fun hb7 H => ?_) (fun hb7 H => ?_)
      · skip
        refine goes_seq ?_
        refine goes_region ?_
        refine go1 (op_assign rfl (.str _)) rfl ?_
        refine go1 (op_assign rfl (.int _ _)) rfl ?_
        refine goesO_nil ?_
        refine ends_then ?_
        obtain rfl := Option.some.inj H
        exact goes_ret (ends_then_ret (ends_ret' rfl rfl (.t rfl (.t rfl (.nil _)))))
      · skip
        refine goes_skip ?_
        refine ends_then ?_
        refine goes_seq ?_
        refine goes_region ?_
        refine go1 (op_assign rfl (.str _)) rfl ?_
        refine go1 (op_assign rfl (.int _ _)) rfl ?_
        refine goesO_nil ?_
        refine ends_then ?_
        refine goes_seq ?_
        refine goes_seq ?_
        refine goes_region ?_
        refine go1 (op_move rfl (.t (has rfl))) rfl ?_
        refine go1 (op_len rfl rfl Try.underlying22 (.t (has rfl))) rfl ?_
        refine go1 (op_move rfl (.int _ _)) rfl ?_
        refine goesO_nil ?_
        refine ends_then ?_
        obtain ⟨s9, h10, H⟩ := bind_some H
        refine goes_cut [Ent.t 7 (VA.k kstr s9.1), Ent.t 8 (VA.k (kint .i64) s9.2)] ?_ ?_
        · replace H := h10; clear h10
          refine goes_block ?_
          refine goes_loop (fun s8 : ByteArray × Int × Int => [Ent.t 2 (VA.ptr 2 0), Ent.t 7 (VA.k kstr s8.1), Ent.t 8 (VA.k (kint .i64) s8.2.1), Ent.t 23 (VA.k (kslice kstr) a1), Ent.t 24 (VA.k (kint .i64) (a1.length : Int)), Ent.t 25 (VA.k (kint .i64) s8.2.2), Ent.h 2 (HE.box 27 kDisk a0)]) (fun k s8 => disk_Newest.l0 a0 a1 k s8) (fun _ => rfl) H (.cons rfl (.cons rfl (.cons rfl (.cons rfl (.cons rfl (.cons rfl (.cons rfl .nil))))))) ?_
          intro k s8 H
          simp only [disk_Newest.l0] at H
          refine goes_seq ?_
          refine goes_region ?_
          refine go1 (op_icmp rfl rfl (.t (has rfl)) (.t (has rfl))) rfl ?_
          refine goesO_nil ?_
          refine ends_then ?_
          refine goes_seq ?_
          refine goes_if (.t (has rfl)) H (fun hb11 H => ?_) (fun hb11 H => ?_)
          · skip
            refine goes_skip ?_
            refine ends_then ?_
            refine goes_seq ?_
            obtain ⟨s12, h13, H⟩ := bind_some H
            refine goes_cut [Ent.t 2 (VA.ptr 2 0), Ent.t 7 (VA.k kstr s12.1), Ent.t 8 (VA.k (kint .i64) s12.2), Ent.t 23 (VA.k (kslice kstr) a1), Ent.t 24 (VA.k (kint .i64) (a1.length : Int)), Ent.t 25 (VA.k (kint .i64) s8.2.2), Ent.h 2 (HE.box 27 kDisk a0)] ?_ ?_
            · replace H := h13; clear h13
              refine goes_block ?_
              refine goes_seq ?_
              refine goes_region ?_
              obtain ⟨x14, h15, H⟩ := bind_some H
              refine go1 (op_indexAddr rfl Try.underlying22 tk9 h15 (.t (has rfl)) (.t (has rfl))) rfl ?_
              refine go1 (op_loadp rfl tk9 (.t (has rfl))) rfl ?_
              refine go1 (op_assign rfl (.t (has rfl))) rfl ?_
              refine goesO_nil ?_
              refine ends_then ?_
              refine goes_seq ?_
              refine goes_region ?_
              refine go1 (op_load rfl (Fld.whole kDisk) tk27 (.t (has rfl)) (has rfl)) rfl ?_
              refine go1 (op_move rfl (.t (has rfl))) rfl ?_
              obtain ⟨v16, h17, H⟩ := bind_some H
              refine goN (op_calls' rfl enters59 (disk_place.con _ _ _ _ h17) rfl rfl (.cons (ArgP.k (.t (has rfl))) (.cons (ArgP.k (.t (has rfl))) .nil))) rfl ?_
              refine go1 (op_same (.inl rfl) rfl rfl) rfl ?_
              refine go1 (op_extract_same rfl plain_k (has rfl) (has rfl)) rfl ?_
              refine go1 (op_extract_same rfl plain_k (has rfl) (has rfl)) rfl ?_
              refine go1 (op_assign rfl (.t (has rfl))) rfl ?_
              refine go1 (op_assign rfl (.t (has rfl))) rfl ?_
              refine goesO_nil ?_
              refine ends_then ?_
              refine goes_seq ?_
              obtain ⟨s18, h19, H⟩ := bind_some H
              refine goes_cut [Ent.t 2 (VA.ptr 2 0), Ent.t 7 (VA.k kstr s8.1), Ent.t 8 (VA.k (kint .i64) s8.2.1), Ent.t 10 (VA.k kstr x14), Ent.t 11 (VA.k (kint .i64) v16.1), Ent.t 23 (VA.k (kslice kstr) a1), Ent.t 24 (VA.k (kint .i64) (a1.length : Int)), Ent.t 25 (VA.k (kint .i64) s8.2.2), Ent.t 45 (VA.k kbool s18), Ent.h 2 (HE.box 27 kDisk a0)] ?_ ?_
              · replace H := h19; clear h19
                refine goes_region ?_
                refine go1 (op_move rfl (.t (has rfl))) rfl ?_
                refine go1 (op_move rfl (.t (has rfl))) rfl ?_
                refine goesO_split H (fun hb20 H => ?_) (fun hb20 H => ?_)
                · skip
                  refine goG (op_fieldAddr rfl Try.underlying27 rfl tk25 (.t (has rfl))) rfl rfl rfl rfl hb20 ?_
                  refine goG (op_load rfl fldDisk_Files tk25 (.t (has rfl)) (has rfl)) rfl rfl rfl rfl hb20 ?_
                  refine goG (op_move rfl (.t (has rfl))) rfl rfl rfl rfl hb20 ?_
                  obtain ⟨x21, h22, H⟩ := bind_some H
                  refine goG (op_indexAddr rfl Try.underlying25 tk47 h22 (.t (has rfl)) (.t (has rfl))) rfl rfl rfl rfl hb20 ?_
                  refine goG (op_fieldAddrp rfl fldFile_Stamp Try.underlying47 rfl tk3 (.t (has rfl))) rfl rfl rfl rfl hb20 ?_
                  refine goG (op_loadp rfl tk3 (.t (has rfl))) rfl rfl rfl rfl hb20 ?_
                  refine goG (op_move rfl (.t (has rfl))) rfl rfl rfl rfl hb20 ?_
                  refine goG (op_icmp rfl rfl (.t (has rfl)) (.t (has rfl))) rfl rfl rfl rfl hb20 ?_
                  refine go1 (op_pick_t rfl hb20 (.t (has rfl)) (.t (has rfl))) rfl ?_
                  refine goesO_nil ?_
                  obtain rfl := Option.some.inj H
                  exact ends_cut (.cons rfl (.cons rfl (.cons rfl (.cons rfl (.cons rfl (.cons rfl (.cons rfl (.cons rfl (.cons rfl (.cons rfl .nil))))))))))
                · skip
                  refine goS rfl rfl rfl rfl rfl rfl hb20 ?_
                  refine goS rfl rfl rfl rfl rfl rfl hb20 ?_
                  refine goS rfl rfl rfl rfl rfl rfl hb20 ?_
                  refine goS rfl rfl rfl rfl rfl rfl hb20 ?_
                  refine goS rfl rfl rfl rfl rfl rfl hb20 ?_
                  refine goS rfl rfl rfl rfl rfl rfl hb20 ?_
                  refine goS rfl rfl rfl rfl rfl rfl hb20 ?_
                  refine goS rfl rfl rfl rfl rfl rfl hb20 ?_
                  refine go1 (op_pick_f rfl hb20 (.t (has rfl)) (.bool _)) rfl ?_
                  refine goesO_nil ?_
                  obtain rfl := Option.some.inj H
                  exact ends_cut (.cons rfl (.cons rfl (.cons rfl (.cons rfl (.cons rfl (.cons rfl (.cons rfl (.cons rfl (.cons rfl (.cons rfl .nil))))))))))
              refine ends_then ?_
              refine goes_if (.t (has rfl)) H (fun hb23 H => ?_) (fun hb23 H => ?_)
              · skip
                obtain ⟨x24, h25, H⟩ := bind_some H
                refine goes_drawn [[Ent.t 46 (VA.k kstr x14)], [Ent.t 47 (VA.ptr 2 1)], [Ent.t 48 (VA.k (kslice kFile) a0.Files)], [Ent.t 49 (VA.k (kint .i64) v16.1)], [Ent.t 50 (VA.pt kFile x24)], [Ent.t 51 (VA.pt (kint .i64) x24.Stamp)], [Ent.t 52 (VA.k (kint .i64) x24.Stamp)], [Ent.t 7 (VA.k kstr x14)], [Ent.t 8 (VA.k (kint .i64) x24.Stamp)]] mixed (by kernel_rfl) (by kernel_rfl) (.cons [(none, Ent.t 10 (VA.k kstr x14))] (OpSpec.run rfl rfl (op_move rfl (.t NL.h0)) rfl) (.cons (has rfl) .nil) (by kernel_rfl) (.cons [(none, Ent.t 2 (VA.ptr 2 0))] (OpSpec.run rfl rfl (op_fieldAddr rfl Try.underlying27 rfl tk25 (.t NL.h0)) rfl) (.cons (has rfl) .nil) (by kernel_rfl) (.cons [(some 1, Ent.t 47 (VA.ptr 2 1)), (none, Ent.h 2 (HE.box 27 kDisk a0))] (OpSpec.run rfl rfl (op_load rfl fldDisk_Files tk25 (.t NL.h0) (NL.hs NL.h0)) rfl) (.cons (has rfl) (.cons (has rfl) .nil)) (by kernel_rfl) (.cons [(none, Ent.t 11 (VA.k (kint .i64) v16.1))] (OpSpec.run rfl rfl (op_move rfl (.t NL.h0)) rfl) (.cons (has rfl) .nil) (by kernel_rfl) (.cons [(some 2, Ent.t 48 (VA.k (kslice kFile) a0.Files)), (some 3, Ent.t 49 (VA.k (kint .i64) v16.1))] (OpSpec.run rfl rfl (op_indexAddr rfl Try.underlying25 tk47 h25 (.t NL.h0) (.t (NL.hs NL.h0))) rfl) (.cons (has rfl) (.cons (has rfl) .nil)) (by kernel_rfl) (.cons [(some 4, Ent.t 50 (VA.pt kFile x24))] (OpSpec.run rfl rfl (op_fieldAddrp rfl fldFile_Stamp Try.underlying47 rfl tk3 (.t NL.h0)) rfl) (.cons (has rfl) .nil) (by kernel_rfl) (.cons [(some 5, Ent.t 51 (VA.pt (kint .i64) x24.Stamp))] (OpSpec.run rfl rfl (op_loadp rfl tk3 (.t NL.h0)) rfl) (.cons (has rfl) .nil) (by kernel_rfl) (.cons [(some 0, Ent.t 46 (VA.k kstr x14))] (OpSpec.run rfl rfl (op_assign rfl (.t NL.h0)) rfl) (.cons (has rfl) .nil) (by kernel_rfl) (.cons [(some 6, Ent.t 52 (VA.k (kint .i64) x24.Stamp))] (OpSpec.run rfl rfl (op_assign rfl (.t NL.h0)) rfl) (.cons (has rfl) .nil) (by kernel_rfl) (.nil _)))))))))) ?_
                refine ends_sub [Ent.t 2 (VA.ptr 2 0), Ent.t 7 (VA.k kstr x14), Ent.t 8 (VA.k (kint .i64) x24.Stamp), Ent.t 23 (VA.k (kslice kstr) a1), Ent.t 24 (VA.k (kint .i64) (a1.length : Int)), Ent.t 25 (VA.k (kint .i64) s8.2.2), Ent.h 2 (HE.box 27 kDisk a0)] (.cons rfl (.cons rfl (.cons rfl (.cons rfl (.cons rfl (.cons rfl (.cons rfl .nil))))))) ?_
                refine ends_block ?_
                obtain rfl := Option.some.inj H
                exact ends_cut (.cons rfl (.cons rfl (.cons rfl (.cons rfl (.cons rfl (.cons rfl (.cons rfl .nil)))))))
              · skip
                refine goes_skip ?_
                refine ends_block ?_
                obtain rfl := Option.some.inj H
                exact ends_cut (.cons rfl (.cons rfl (.cons rfl (.cons rfl (.cons rfl (.cons rfl (.cons rfl .nil)))))))
            refine ends_then ?_
            refine goes_region ?_
            refine go1 (op_add rfl (.t (has rfl)) (.int _ _)) rfl ?_
            refine go1 (op_move rfl (.t (has rfl))) rfl ?_
            refine goesO_nil ?_
            exact loop_next _ H (.cons rfl (.cons rfl (.cons rfl (.cons rfl (.cons rfl (.cons rfl (.cons rfl .nil)))))))
          · skip
            refine goes_exit (ends_then_exit (ends_then_exit (ends_block_exit ?_)))
            obtain rfl := Option.some.inj H
            exact ends_cut (.cons rfl (.cons rfl .nil))
        refine ends_then ?_
        refine goes_seq ?_
        refine goes_seq ?_
        refine goes_region ?_
        refine go1 (op_move rfl (.t (has rfl))) rfl ?_
        refine go1 (op_icmp rfl rfl (.t (has rfl)) (.int _ _)) rfl ?_
        refine goesO_nil ?_
        refine ends_then ?_
        refine goes_if (.t (has rfl)) H (fun hb26 H => ?_) (fun hb26 H => ?_)
        · skip
          refine goes_seq ?_
          refine goes_region ?_
          refine go1 (op_assign rfl (.str _)) rfl ?_
          refine go1 (op_assign rfl (.int _ _)) rfl ?_
          refine goesO_nil ?_
          refine ends_then ?_
          obtain rfl := Option.some.inj H
          exact goes_ret (ends_then_ret (ends_ret' rfl rfl (.t rfl (.t rfl (.nil _)))))
        · skip
          refine goes_skip ?_
          refine ends_then ?_
          refine goes_seq ?_
          refine goes_region ?_
          refine go1 (op_move rfl (.t (has rfl))) rfl ?_
          refine go1 (op_assign rfl (.t (has rfl))) rfl ?_
          refine go1 (op_assign rfl (.int _ _)) rfl ?_
          refine goesO_nil ?_
          refine ends_then ?_
          obtain rfl := Option.some.inj H
          exact goes_ret (ends_ret' rfl rfl (.t rfl (.t rfl (.nil _))))
theorem disk_Newest.conF (k : Nat) (a0 : Disk) (a1 : List ByteArray) (r : ByteArray × Int) (H : disk_Newest.f k a0 a1 = some r) : ConF Try.prog 50 [VA.k kDisk a0, VA.k (kslice kstr) a1] [VA.k kstr r.1, VA.k (kint .i64) r.2] := (disk_Newest.con k a0 a1 r H).freeL (.cons (KFree.k KFree.str _) (.cons (KFree.k (KFree.int .i64) _) .nil))
/-! smithy/stale.list -/
def stale_list.f (k : Nat) (a0 : List ByteArray) : Option Int := (disk_Newest.f k (⟨(0 : Int), ([] : List File)⟩ : Disk) a0).bind fun v1 => bif icmp .eql v1.2 (21 : Int) then (some (0 : Int)) else (some v1.2)
set_option maxRecDepth 100000 in
set_option maxHeartbeats 4000000 in
theorem stale_list.con (k : Nat) (a0 : List ByteArray) (r : Int) (H : stale_list.f k a0 = some r) : Con Try.prog 39 [VA.k (kslice kstr) a0] [VA.k (kint .i64) r] := by
  unfold stale_list.f at H
  refine con_enter Try.func39 rfl rfl rfl (fun w0 S0 θ => ?_)
  refine goes_seq ?_
  refine goes_region ?_
  refine go1 (op_assign rfl (.int _ _)) rfl ?_
  refine goesO_nil ?_
  refine ends_then ?_
  refine goes_seq ?_
  refine goes_region ?_
  refine go1 (op_build (pl := [(0, 1), (1, 1)]) rfl rfl Try.underlying27 (by kernel_rfl) zk27 (.nil _)) rfl ?_
  refine go1 (op_move rfl (.t (has rfl))) rfl ?_
  obtain ⟨v1, h2, H⟩ := bind_some H
  refine goN (op_calls' rfl enters50 (disk_Newest.con _ _ _ _ h2) rfl rfl (.cons (ArgP.k (.t (has rfl))) (.cons (ArgP.k (.t (has rfl))) .nil))) rfl ?_
  refine go1 (op_same (.inl rfl) rfl rfl) rfl ?_
  refine go1 (op_extract_same rfl plain_k (has rfl) (has rfl)) rfl ?_
  refine go1 (op_extract_same rfl plain_k (has rfl) (has rfl)) rfl ?_
  refine go1 (op_assign rfl (.t (has rfl))) rfl ?_
  refine go1 (op_assign rfl (.t (has rfl))) rfl ?_
  refine goesO_nil ?_
  refine ends_then ?_
  refine goes_seq ?_
  refine goes_seq ?_
  refine goes_region ?_
  refine go1 (op_move rfl (.t (has rfl))) rfl ?_
  refine go1 (op_icmp rfl rfl (.t (has rfl)) (.int _ _)) rfl ?_
  refine goesO_nil ?_
  refine ends_then ?_
  refine goes_if (.t (has rfl)) H (fun hb3 H => ?_) (fun hb3 H => ?_)
  · skip
    refine goes_seq ?_
    refine goes_region ?_
    refine go1 (op_assign rfl (.int _ _)) rfl ?_
    refine goesO_nil ?_
    refine ends_then ?_
    obtain rfl := Option.some.inj H
    exact goes_ret (ends_then_ret (ends_ret' rfl rfl (.t rfl (.nil _))))
  · skip
    refine goes_skip ?_
    refine ends_then ?_
    refine goes_seq ?_
    refine goes_region ?_
    refine go1 (op_move rfl (.t (has rfl))) rfl ?_
    refine go1 (op_assign rfl (.t (has rfl))) rfl ?_
    refine goesO_nil ?_
    refine ends_then ?_
    obtain rfl := Option.some.inj H
    exact goes_ret (ends_ret' rfl rfl (.t rfl (.nil _)))
theorem stale_list.conF (k : Nat) (a0 : List ByteArray) (r : Int) (H : stale_list.f k a0 = some r) : ConF Try.prog 39 [VA.k (kslice kstr) a0] [VA.k (kint .i64) r] := (stale_list.con k a0 r H).freeL (.cons (KFree.k (KFree.int .i64) _) .nil)
/-! smithy/stale.fit -/
def stale_fit.f (k : Nat) (a0 : Node) (a1 : Disk) (a2 : List ByteArray) : Option Int := (stale_alone.f k a0).bind fun v1 => bif icmp .neq v1 (0 : Int) then (some v1) else ((disk_Check.f k a1).bind fun v4 => bif icmp .neq v4 (0 : Int) then (some v4) else ((stale_list.f k a2).bind fun v7 => some v7))
set_option maxRecDepth 100000 in
set_option maxHeartbeats 4000000 in
theorem stale_fit.con (k : Nat) (a0 : Node) (a1 : Disk) (a2 : List ByteArray) (r : Int) (H : stale_fit.f k a0 a1 a2 = some r) : Con Try.prog 22 [VA.k kNode a0, VA.k kDisk a1, VA.k (kslice kstr) a2] [VA.k (kint .i64) r] := by
  unfold stale_fit.f at H
  refine con_enter Try.func22 rfl rfl rfl (fun w0 S0 θ => ?_)
  refine goes_seq ?_
  refine goes_region ?_
  refine go3 (op_box 3 rfl (fun h => by first | rfl | cases h) (.t (has rfl))) rfl ?_
  refine go3 (op_box 4 rfl (fun h => by first | rfl | cases h) (.t (has rfl))) rfl ?_
  refine go1 (op_assign rfl (.int _ _)) rfl ?_
  refine goesO_nil ?_
  refine ends_then ?_
  refine goes_seq ?_
  refine goes_seq ?_
  refine goes_region ?_
  refine go1 (op_load rfl (Fld.whole kNode) tk24 (.t (has rfl)) (has rfl)) rfl ?_
  obtain ⟨v1, h2, H⟩ := bind_some H
  refine go1 (op_call' rfl enters38 (stale_alone.con _ _ _ h2) rfl (.cons (ArgP.k (.t (has rfl))) .nil)) rfl ?_
  refine go1 (op_assign rfl (.t (has rfl))) rfl ?_
  refine goesO_nil ?_
  refine ends_then ?_
  refine goes_seq ?_
  refine goes_region ?_
  refine go1 (op_move rfl (.t (has rfl))) rfl ?_
  refine go1 (op_icmp rfl rfl (.t (has rfl)) (.int _ _)) rfl ?_
  refine goesO_nil ?_
  refine ends_then ?_
  refine goes_if (.t (has rfl)) H (fun hb3 H => ?_) (fun hb3 H => ?_)
  · skip
    refine goes_seq ?_
    refine goes_region ?_
    refine go1 (op_move rfl (.t (has rfl))) rfl ?_
    refine go1 (op_assign rfl (.t (has rfl))) rfl ?_
    refine goesO_nil ?_
    refine ends_then ?_
    obtain rfl := Option.some.inj H
    exact goes_ret (ends_then_ret (ends_ret' rfl rfl (.t rfl (.nil _))))
  · skip
    refine goes_skip ?_
    refine ends_then ?_
    refine goes_seq ?_
    refine goes_seq ?_
    refine goes_region ?_
    refine go1 (op_load rfl (Fld.whole kDisk) tk27 (.t (has rfl)) (has rfl)) rfl ?_
    obtain ⟨v4, h5, H⟩ := bind_some H
    refine go1 (op_call' rfl enters32 (disk_Check.con _ _ _ h5) rfl (.cons (ArgP.k (.t (has rfl))) .nil)) rfl ?_
    refine go1 (op_assign rfl (.t (has rfl))) rfl ?_
    refine goesO_nil ?_
    refine ends_then ?_
    refine goes_seq ?_
    refine goes_region ?_
    refine go1 (op_move rfl (.t (has rfl))) rfl ?_
    refine go1 (op_icmp rfl rfl (.t (has rfl)) (.int _ _)) rfl ?_
    refine goesO_nil ?_
    refine ends_then ?_
    refine goes_if (.t (has rfl)) H (fun hb6 H => ?_) (fun hb6 H => ?_)
    · skip
      refine goes_seq ?_
      refine goes_region ?_
      refine go1 (op_move rfl (.t (has rfl))) rfl ?_
      refine go1 (op_assign rfl (.t (has rfl))) rfl ?_
      refine goesO_nil ?_
      refine ends_then ?_
      obtain rfl := Option.some.inj H
      exact goes_ret (ends_then_ret (ends_ret' rfl rfl (.t rfl (.nil _))))
    · skip
      refine goes_skip ?_
      refine ends_then ?_
      refine goes_seq ?_
      refine goes_region ?_
      refine go1 (op_move rfl (.t (has rfl))) rfl ?_
      obtain ⟨v7, h8, H⟩ := bind_some H
      refine go1 (op_call' rfl enters39 (stale_list.con _ _ _ h8) rfl (.cons (ArgP.k (.t (has rfl))) .nil)) rfl ?_
      refine go1 (op_assign rfl (.t (has rfl))) rfl ?_
      refine goesO_nil ?_
      refine ends_then ?_
      obtain rfl := Option.some.inj H
      exact goes_ret (ends_ret' rfl rfl (.t rfl (.nil _)))
theorem stale_fit.conF (k : Nat) (a0 : Node) (a1 : Disk) (a2 : List ByteArray) (r : Int) (H : stale_fit.f k a0 a1 a2 = some r) : ConF Try.prog 22 [VA.k kNode a0, VA.k kDisk a1, VA.k (kslice kstr) a2] [VA.k (kint .i64) r] := (stale_fit.con k a0 a1 a2 r H).freeL (.cons (KFree.k (KFree.int .i64) _) .nil)
/-! smithy/disk.asked -/
def disk_asked.f (k : Nat) (a0 : Disk) (a1 : ByteArray) : Option Int := (disk_Check.f k a0).bind fun v1 => bif icmp .neq v1 (0 : Int) then (some v1) else ((disk_named.f k a1).bind fun v4 => bif !v4 then (some (3 : Int)) else (some (0 : Int)))
set_option maxRecDepth 100000 in
set_option maxHeartbeats 4000000 in
theorem disk_asked.con (k : Nat) (a0 : Disk) (a1 : ByteArray) (r : Int) (H : disk_asked.f k a0 a1 = some r) : Con Try.prog 60 [VA.k kDisk a0, VA.k kstr a1] [VA.k (kint .i64) r] := by
  unfold disk_asked.f at H
  refine con_enter Try.func60 rfl rfl rfl (fun w0 S0 θ => ?_)
  refine goes_seq ?_
  refine goes_region ?_
  refine go3 (op_box 2 rfl (fun h => by first | rfl | cases h) (.t (has rfl))) rfl ?_
  refine go1 (op_assign rfl (.int _ _)) rfl ?_
  refine goesO_nil ?_
  refine ends_then ?_
  refine goes_seq ?_
  refine goes_seq ?_
  refine goes_region ?_
  refine go1 (op_load rfl (Fld.whole kDisk) tk27 (.t (has rfl)) (has rfl)) rfl ?_
  obtain ⟨v1, h2, H⟩ := bind_some H
  refine go1 (op_call' rfl enters32 (disk_Check.con _ _ _ h2) rfl (.cons (ArgP.k (.t (has rfl))) .nil)) rfl ?_
  refine go1 (op_assign rfl (.t (has rfl))) rfl ?_
  refine goesO_nil ?_
  refine ends_then ?_
  refine goes_seq ?_
  refine goes_region ?_
  refine go1 (op_move rfl (.t (has rfl))) rfl ?_
  refine go1 (op_icmp rfl rfl (.t (has rfl)) (.int _ _)) rfl ?_
  refine goesO_nil ?_
  refine ends_then ?_
  refine goes_if (.t (has rfl)) H (fun hb3 H => ?_) (fun hb3 H => ?_)
  · skip
    refine goes_seq ?_
    refine goes_region ?_
    refine go1 (op_move rfl (.t (has rfl))) rfl ?_
    refine go1 (op_assign rfl (.t (has rfl))) rfl ?_
    refine goesO_nil ?_
    refine ends_then ?_
    obtain rfl := Option.some.inj H
    exact goes_ret (ends_then_ret (ends_ret' rfl rfl (.t rfl (.nil _))))
  · skip
    refine goes_skip ?_
    refine ends_then ?_
    refine goes_seq ?_
    refine goes_seq ?_
    refine goes_region ?_
    refine go1 (op_move rfl (.t (has rfl))) rfl ?_
    obtain ⟨v4, h5, H⟩ := bind_some H
    refine go1 (op_call' rfl enters48 (disk_named.con _ _ _ h5) rfl (.cons (ArgP.k (.t (has rfl))) .nil)) rfl ?_
    refine go1 (op_not rfl (.t (has rfl))) rfl ?_
    refine goesO_nil ?_
    refine ends_then ?_
    refine goes_if (.t (has rfl)) H (fun hb6 H => ?_) (fun hb6 H => ?_)
    · skip
      refine goes_seq ?_
      refine goes_region ?_
      refine go1 (op_assign rfl (.int _ _)) rfl ?_
      refine goesO_nil ?_
      refine ends_then ?_
      obtain rfl := Option.some.inj H
      exact goes_ret (ends_then_ret (ends_ret' rfl rfl (.t rfl (.nil _))))
    · skip
      refine goes_skip ?_
      refine ends_then ?_
      refine goes_seq ?_
      refine goes_region ?_
      refine go1 (op_assign rfl (.int _ _)) rfl ?_
      refine goesO_nil ?_
      refine ends_then ?_
      obtain rfl := Option.some.inj H
      exact goes_ret (ends_ret' rfl rfl (.t rfl (.nil _)))
theorem disk_asked.conF (k : Nat) (a0 : Disk) (a1 : ByteArray) (r : Int) (H : disk_asked.f k a0 a1 = some r) : ConF Try.prog 60 [VA.k kDisk a0, VA.k kstr a1] [VA.k (kint .i64) r] := (disk_asked.con k a0 a1 r H).freeL (.cons (KFree.k (KFree.int .i64) _) .nil)
/-! smithy/disk.Find -/
def disk_Find.f (k : Nat) (a0 : Disk) (a1 : ByteArray) : Option (File × Int) := (disk_asked.f k a0 a1).bind fun v1 => bif icmp .neq v1 (0 : Int) then (some ((⟨ByteArray.empty, ByteArray.empty, (0 : Int)⟩ : File), v1)) else ((disk_place.f k a0 a1).bind fun v4 => bif !v4.2 then (some ((⟨ByteArray.empty, ByteArray.empty, (0 : Int)⟩ : File), (21 : Int))) else ((idx a0.Files v4.1).bind fun x7 => some (x7, (0 : Int))))
set_option maxRecDepth 100000 in
set_option maxHeartbeats 4000000 in
theorem disk_Find.con (k : Nat) (a0 : Disk) (a1 : ByteArray) (r : File × Int) (H : disk_Find.f k a0 a1 = some r) : Con Try.prog 51 [VA.k kDisk a0, VA.k kstr a1] [VA.k kFile r.1, VA.k (kint .i64) r.2] := by
  unfold disk_Find.f at H
  refine con_enter Try.func51 rfl rfl rfl (fun w0 S0 θ => ?_)
  refine goes_seq ?_
  refine goes_region ?_
  refine go3 (op_box 2 rfl (fun h => by first | rfl | cases h) (.t (has rfl))) rfl ?_
  refine go3 (op_alloc 4 rfl zk47) rfl ?_
  refine go1 (op_assign rfl (.int _ _)) rfl ?_
  refine goesO_nil ?_
  refine ends_then ?_
  refine goes_seq ?_
  refine goes_seq ?_
  refine goes_region ?_
  refine go1 (op_load rfl (Fld.whole kDisk) tk27 (.t (has rfl)) (has rfl)) rfl ?_
  refine go1 (op_move rfl (.t (has rfl))) rfl ?_
  obtain ⟨v1, h2, H⟩ := bind_some H
  refine go1 (op_call' rfl enters60 (disk_asked.con _ _ _ _ h2) rfl (.cons (ArgP.k (.t (has rfl))) (.cons (ArgP.k (.t (has rfl))) .nil))) rfl ?_
  refine go1 (op_assign rfl (.t (has rfl))) rfl ?_
  refine goesO_nil ?_
  refine ends_then ?_
  refine goes_seq ?_
  refine goes_region ?_
  refine go1 (op_move rfl (.t (has rfl))) rfl ?_
  refine go1 (op_icmp rfl rfl (.t (has rfl)) (.int _ _)) rfl ?_
  refine goesO_nil ?_
  refine ends_then ?_
  refine goes_if (.t (has rfl)) H (fun hb3 H => ?_) (fun hb3 H => ?_)
  · skip
    refine goes_seq ?_
    refine goes_region ?_
    refine go1 (op_build (pl := [(0, 1), (1, 1), (2, 1)]) rfl rfl Try.underlying47 (by kernel_rfl) zk47 (.nil _)) rfl ?_
    refine go1 (op_move rfl (.t (has rfl))) rfl ?_
    refine go1 (op_store (Fld.whole kFile) tk47 (.t (has rfl)) (has rfl) (.t (has rfl))) rfl ?_
    refine go1 (op_assign rfl (.t (has rfl))) rfl ?_
    refine goesO_nil ?_
    refine ends_then ?_
    obtain rfl := Option.some.inj H
    exact goes_ret (ends_then_ret (ends_ret' rfl rfl (.c rfl rfl tk47 (.t rfl (.nil _)))))
  · skip
    refine goes_skip ?_
    refine ends_then ?_
    refine goes_seq ?_
    refine goes_region ?_
    refine go1 (op_load rfl (Fld.whole kDisk) tk27 (.t (has rfl)) (has rfl)) rfl ?_
    refine go1 (op_move rfl (.t (has rfl))) rfl ?_
    obtain ⟨v4, h5, H⟩ := bind_some H
    refine goN (op_calls' rfl enters59 (disk_place.con _ _ _ _ h5) rfl rfl (.cons (ArgP.k (.t (has rfl))) (.cons (ArgP.k (.t (has rfl))) .nil))) rfl ?_
    refine go1 (op_same (.inl rfl) rfl rfl) rfl ?_
    refine go1 (op_extract_same rfl plain_k (has rfl) (has rfl)) rfl ?_
    refine go1 (op_extract_same rfl plain_k (has rfl) (has rfl)) rfl ?_
    refine go1 (op_assign rfl (.t (has rfl))) rfl ?_
    refine go1 (op_assign rfl (.t (has rfl))) rfl ?_
    refine goesO_nil ?_
    refine ends_then ?_
    refine goes_seq ?_
    refine goes_seq ?_
    refine goes_region ?_
    refine go1 (op_move rfl (.t (has rfl))) rfl ?_
    refine go1 (op_not rfl (.t (has rfl))) rfl ?_
    refine goesO_nil ?_
    refine ends_then ?_
    refine goes_if (.t (has rfl)) H (fun hb6 H => ?_) (fun hb6 H => ?_)
    · skip
      refine goes_seq ?_
      refine goes_region ?_
      refine go1 (op_build (pl := [(0, 1), (1, 1), (2, 1)]) rfl rfl Try.underlying47 (by kernel_rfl) zk47 (.nil _)) rfl ?_
      refine go1 (op_store (Fld.whole kFile) tk47 (.t (has rfl)) (has rfl) (.t (has rfl))) rfl ?_
      refine go1 (op_assign rfl (.int _ _)) rfl ?_
      refine goesO_nil ?_
      refine ends_then ?_
      obtain rfl := Option.some.inj H
      exact goes_ret (ends_then_ret (ends_ret' rfl rfl (.c rfl rfl tk47 (.t rfl (.nil _)))))
    · skip
      refine goes_skip ?_
      refine ends_then ?_
      refine goes_seq ?_
      refine goes_region ?_
      refine go1 (op_fieldAddr rfl Try.underlying27 rfl tk25 (.t (has rfl))) rfl ?_
      refine go1 (op_load rfl fldDisk_Files tk25 (.t (has rfl)) (has rfl)) rfl ?_
      refine go1 (op_move rfl (.t (has rfl))) rfl ?_
      obtain ⟨x7, h8, H⟩ := bind_some H
      refine go1 (op_indexAddr rfl Try.underlying25 tk47 h8 (.t (has rfl)) (.t (has rfl))) rfl ?_
      refine go1 (op_loadp rfl tk47 (.t (has rfl))) rfl ?_
      refine go1 (op_store (Fld.whole kFile) tk47 (.t (has rfl)) (has rfl) (.t (has rfl))) rfl ?_
      refine go1 (op_assign rfl (.int _ _)) rfl ?_
      refine goesO_nil ?_
      refine ends_then ?_
      obtain rfl := Option.some.inj H
      exact goes_ret (ends_ret' rfl rfl (.c rfl rfl tk47 (.t rfl (.nil _))))
theorem disk_Find.conF (k : Nat) (a0 : Disk) (a1 : ByteArray) (r : File × Int) (H : disk_Find.f k a0 a1 = some r) : ConF Try.prog 51 [VA.k kDisk a0, VA.k kstr a1] [VA.k kFile r.1, VA.k (kint .i64) r.2] := (disk_Find.con k a0 a1 r H).freeL (.cons (KFree.k kfreeFile _) (.cons (KFree.k (KFree.int .i64) _) .nil))
/-! smithy/stale.file -/
def stale_file.f (k : Nat) (a0 : Disk) (a1 : ByteArray) : Option (File × Bool) := (disk_Find.f k a0 a1).bind fun v1 => some (v1.1, icmp .eql v1.2 (0 : Int))
set_option maxRecDepth 100000 in
set_option maxHeartbeats 4000000 in
theorem stale_file.con (k : Nat) (a0 : Disk) (a1 : ByteArray) (r : File × Bool) (H : stale_file.f k a0 a1 = some r) : Con Try.prog 40 [VA.k kDisk a0, VA.k kstr a1] [VA.k kFile r.1, VA.k kbool r.2] := by
  unfold stale_file.f at H
  refine con_enter Try.func40 rfl rfl rfl (fun w0 S0 θ => ?_)
  refine goes_seq ?_
  refine goes_region ?_
  refine go3 (op_box 2 rfl (fun h => by first | rfl | cases h) (.t (has rfl))) rfl ?_
  refine go3 (op_alloc 4 rfl zk47) rfl ?_
  refine go1 (op_assign rfl (.bool _)) rfl ?_
  refine goesO_nil ?_
  refine ends_then ?_
  refine goes_seq ?_
  refine goes_region ?_
  refine go1 (op_load rfl (Fld.whole kDisk) tk27 (.t (has rfl)) (has rfl)) rfl ?_
  refine go1 (op_move rfl (.t (has rfl))) rfl ?_
  obtain ⟨v1, h2, H⟩ := bind_some H
  refine goN (op_calls' rfl enters51 (disk_Find.con _ _ _ _ h2) rfl rfl (.cons (ArgP.k (.t (has rfl))) (.cons (ArgP.k (.t (has rfl))) .nil))) rfl ?_
  refine go1 (op_same (.inl rfl) rfl rfl) rfl ?_
  refine go1 (op_extract_same rfl plain_k (has rfl) (has rfl)) rfl ?_
  refine go1 (op_extract_same rfl plain_k (has rfl) (has rfl)) rfl ?_
  refine go3 (op_alloc 6 rfl zk47) rfl ?_
  refine go1 (op_store (Fld.whole kFile) tk47 (.t (has rfl)) (has rfl) (.t (has rfl))) rfl ?_
  refine go1 (op_assign rfl (.t (has rfl))) rfl ?_
  refine goesO_nil ?_
  refine ends_then ?_
  refine goes_seq ?_
  refine goes_region ?_
  refine go1 (op_load rfl (Fld.whole kFile) tk47 (.t (has rfl)) (has rfl)) rfl ?_
  refine go1 (op_move rfl (.t (has rfl))) rfl ?_
  refine go1 (op_icmp rfl rfl (.t (has rfl)) (.int _ _)) rfl ?_
  refine go1 (op_store (Fld.whole kFile) tk47 (.t (has rfl)) (has rfl) (.t (has rfl))) rfl ?_
  refine go1 (op_assign rfl (.t (has rfl))) rfl ?_
  refine goesO_nil ?_
  refine ends_then ?_
  obtain rfl := Option.some.inj H
  exact goes_ret (ends_ret' rfl rfl (.c rfl rfl tk47 (.t rfl (.nil _))))
theorem stale_file.conF (k : Nat) (a0 : Disk) (a1 : ByteArray) (r : File × Bool) (H : stale_file.f k a0 a1 = some r) : ConF Try.prog 40 [VA.k kDisk a0, VA.k kstr a1] [VA.k kFile r.1, VA.k kbool r.2] := (stale_file.con k a0 a1 r H).freeL (.cons (KFree.k kfreeFile _) (.cons (KFree.k KFree.bool _) .nil))
end Go.Proofs.Ytoemgemfgaooeaa.F
