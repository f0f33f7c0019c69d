import Derived.Test.YtmmjbobicnmilaaFKx3
set_option linter.unusedVariables false
set_option linter.unusedSimpArgs false
set_option linter.unnecessarySimpa false
set_option linter.deprecated false
namespace Go.Proofs.Ytmmjbobicnmilaa.F
open Go Go.RowKit Go.Proofs.Ytmmjbobicnmilaa.Sl
/-! smithy/smithyref05.Name -/
def smithyref05_Name.l0 (a0 : ByteArray) : Nat → Int → Option (Except Bool Unit)
  | 0, _ => none
  | k + 1, s5 => bif icmp .lss s5 (a0.size : Int) then ((bidx a0 s5).bind fun x10 => (bif icmp .geq x10 (65 : Int) then (bif icmp .leq x10 (90 : Int) then (some (!true)) else (bif icmp .geq x10 (97 : Int) then (bif icmp .leq x10 (122 : Int) then (some (!true)) else (bif icmp .geq x10 (48 : Int) then (bif icmp .leq x10 (57 : Int) then (some (!true)) else (bif icmp .eql x10 (95 : Int) then (some (!true)) else (some (!(icmp .eql x10 (46 : Int)))))) else (bif icmp .eql x10 (95 : Int) then (some (!true)) else (some (!(icmp .eql x10 (46 : Int))))))) else (bif icmp .geq x10 (48 : Int) then (bif icmp .leq x10 (57 : Int) then (some (!true)) else (bif icmp .eql x10 (95 : Int) then (some (!true)) else (some (!(icmp .eql x10 (46 : Int)))))) else (bif icmp .eql x10 (95 : Int) then (some (!true)) else (some (!(icmp .eql x10 (46 : Int)))))))) else (bif icmp .geq x10 (97 : Int) then (bif icmp .leq x10 (122 : Int) then (some (!true)) else (bif icmp .geq x10 (48 : Int) then (bif icmp .leq x10 (57 : Int) then (some (!true)) else (bif icmp .eql x10 (95 : Int) then (some (!true)) else (some (!(icmp .eql x10 (46 : Int)))))) else (bif icmp .eql x10 (95 : Int) then (some (!true)) else (some (!(icmp .eql x10 (46 : Int))))))) else (bif icmp .geq x10 (48 : Int) then (bif icmp .leq x10 (57 : Int) then (some (!true)) else (bif icmp .eql x10 (95 : Int) then (some (!true)) else (some (!(icmp .eql x10 (46 : Int)))))) else (bif icmp .eql x10 (95 : Int) then (some (!true)) else (some (!(icmp .eql x10 (46 : Int)))))))).bind fun s12 => bif s12 then (some (Except.error false)) else (smithyref05_Name.l0 a0 k (IntKind.i64.wrap (s5 + (1 : Int))))) else (some (Except.ok ()))
def smithyref05_Name.f (k : Nat) (a0 : ByteArray) : Option Bool := (bif icmp .lss (a0.size : Int) (1 : Int) then (some true) else (some (icmp .gtr (a0.size : Int) (64 : Int)))).bind fun s1 => bif s1 then (some false) else ((smithyref05_Name.l0 a0 k (0 : Int)).bind fun o8 => match o8 with | .error r' => some r' | .ok s6 => (some true))
set_option maxRecDepth 100000 in
set_option maxHeartbeats 4000000 in
theorem smithyref05_Name.con (k : Nat) (a0 : ByteArray) (r : Bool) (H : smithyref05_Name.f k a0 = some r) : Con Try.prog 31 [VA.k kstr a0] [VA.k kbool r] := by
  unfold smithyref05_Name.f at H
  refine con_enter Try.func31 rfl rfl rfl (fun w0 S0 θ => ?_)
  refine goes_seq ?_
  refine goes_region ?_
  refine go1 (op_assign rfl (.bool _)) rfl ?_
  refine goesO_nil ?_
  refine ends_then ?_
  refine goes_seq ?_
  refine goes_seq ?_
  obtain ⟨s1, h2, H⟩ := bind_some H
  refine goes_cut [Ent.t 0 (VA.k kstr a0), Ent.t 12 (VA.k kbool s1)] ?_ ?_
  · replace H := h2; clear h2
    refine goes_region ?_
    refine go1 (op_move rfl (.t (has rfl))) rfl ?_
    refine go1 (op_len_str rfl rfl Try.underlying9 (.t (has rfl))) rfl ?_
    refine go1 (op_icmp rfl rfl (.t (has rfl)) (.int _ _)) rfl ?_
    refine go1 (op_move rfl (.t (has rfl))) rfl ?_
    refine goesO_split H (fun hb3 H => ?_) (fun hb3 H => ?_)
    · skip
      refine goS rfl rfl rfl rfl rfl rfl hb3 ?_
      refine goS rfl rfl rfl rfl rfl rfl hb3 ?_
      refine goS rfl rfl rfl rfl rfl rfl hb3 ?_
      refine go1 (op_pick_t rfl hb3 (.t (has rfl)) (.bool _)) rfl ?_
      refine goesO_nil ?_
      obtain rfl := Option.some.inj H
      exact ends_cut (.cons rfl (.cons rfl .nil))
    · skip
      refine goG (op_move rfl (.t (has rfl))) rfl rfl rfl rfl hb3 ?_
      refine goG (op_len_str rfl rfl Try.underlying9 (.t (has rfl))) rfl rfl rfl rfl hb3 ?_
      refine goG (op_icmp rfl rfl (.t (has rfl)) (.int _ _)) rfl rfl rfl rfl hb3 ?_
      refine go1 (op_pick_f rfl hb3 (.t (has rfl)) (.t (has rfl))) rfl ?_
      refine goesO_nil ?_
      obtain rfl := Option.some.inj H
      exact ends_cut (.cons rfl (.cons rfl .nil))
  refine ends_then ?_
  refine goes_if (.t (has rfl)) H (fun hb4 H => ?_) (fun hb4 H => ?_)
  · skip
    refine goes_seq ?_
    refine goes_region ?_
    refine go1 (op_assign rfl (.bool _)) rfl ?_
    refine goesO_nil ?_
    refine ends_then ?_
    obtain rfl := Option.some.inj H
    exact goes_ret (ends_then_ret (ends_ret' rfl rfl (.t rfl (.nil _))))
  · skip
    refine goes_skip ?_
    refine ends_then ?_
    refine goes_seq ?_
    refine goes_seq ?_
    refine goes_region ?_
    refine go1 (op_assign rfl (.int _ _)) rfl ?_
    refine goesO_nil ?_
    refine ends_then ?_
    obtain ⟨o8, h7, H⟩ := bind_some H
    refine goes_cutR (o := o8) (fun s6 : Unit => []) (fun r a w => bodyPost Try.prog Try.f31 (CPost w0 S0 θ [VA.k kbool r]) .ret a w) ?_ ?_ ?_
    · replace H := h7; clear h7
      refine goes_block ?_
      refine goes_loop (fun s5 : Int => [Ent.t 0 (VA.k kstr a0), Ent.t 3 (VA.k (kint .i64) s5)]) (fun k s5 => smithyref05_Name.l0 a0 k s5) (fun _ => rfl) H (.cons rfl (.cons rfl .nil)) ?_
      intro k s5 H
      simp only [smithyref05_Name.l0] at H
      refine goes_seq ?_
      refine goes_seq ?_
      refine goes_region ?_
      refine go1 (op_move rfl (.t (has rfl))) rfl ?_
      refine go1 (op_move rfl (.t (has rfl))) rfl ?_
      refine go1 (op_len_str rfl rfl Try.underlying9 (.t (has rfl))) rfl ?_
      refine go1 (op_icmp rfl rfl (.t (has rfl)) (.t (has rfl))) rfl ?_
      refine goesO_nil ?_
      refine ends_then ?_
      refine goes_if (.t (has rfl)) H (fun hb9 H => ?_) (fun hb9 H => ?_)
      · skip
        refine goes_skip ?_
        refine ends_then ?_
        refine goes_seq ?_
        refine goes_block ?_
        refine goes_seq ?_
        refine goes_region ?_
        refine go1 (op_move rfl (.t (has rfl))) rfl ?_
        refine go1 (op_move rfl (.t (has rfl))) rfl ?_
        obtain ⟨x10, h11, H⟩ := bind_some H
        refine go1 (op_index_str rfl Try.underlying9 h11 (.t (has rfl)) (.t (has rfl))) rfl ?_
        refine go1 (op_assign rfl (.t (has rfl))) rfl ?_
        refine goesO_nil ?_
        refine ends_then ?_
        refine goes_seq ?_
        obtain ⟨s12, h13, H⟩ := bind_some H
        refine goes_cut [Ent.t 0 (VA.k kstr a0), Ent.t 3 (VA.k (kint .i64) s5), Ent.t 52 (VA.k kbool s12)] ?_ ?_
        · replace H := h13; clear h13
          refine goes_region ?_
          refine go1 (op_move rfl (.t (has rfl))) rfl ?_
          refine go1 (op_icmp rfl rfl (.t (has rfl)) (.int _ _)) rfl ?_
          refine go1 (op_move rfl (.t (has rfl))) rfl ?_
          refine goesO_split H (fun hb14 H => ?_) (fun hb14 H => ?_)
          · skip
            refine goG (op_move rfl (.t (has rfl))) rfl rfl rfl rfl hb14 ?_
            refine goG (op_icmp rfl rfl (.t (has rfl)) (.int _ _)) rfl rfl rfl rfl hb14 ?_
            refine go1 (op_pick_t rfl hb14 (.t (has rfl)) (.t (has rfl))) rfl ?_
            refine go1 (op_move rfl (.t (has rfl))) rfl ?_
            refine goesO_split H (fun hb15 H => ?_) (fun hb15 H => ?_)
            · skip
              refine goS rfl rfl rfl rfl rfl rfl hb15 ?_
              refine goS rfl rfl rfl rfl rfl rfl hb15 ?_
              refine goS rfl rfl rfl rfl rfl rfl hb15 ?_
              refine goSU rfl rfl rfl rfl rfl rfl ?_
              refine goSU rfl rfl rfl rfl rfl rfl ?_
              refine goS rfl rfl rfl rfl rfl rfl hb15 ?_
              refine go1 (op_pick_t rfl hb15 (.t (has rfl)) (.bool _)) rfl ?_
              refine go1 (op_move rfl (.t (has rfl))) rfl ?_
              refine goS rfl rfl rfl rfl rfl rfl rfl ?_
              refine goS rfl rfl rfl rfl rfl rfl rfl ?_
              refine goS rfl rfl rfl rfl rfl rfl rfl ?_
              refine goSU rfl rfl rfl rfl rfl rfl ?_
              refine goSU rfl rfl rfl rfl rfl rfl ?_
              refine goS rfl rfl rfl rfl rfl rfl rfl ?_
              refine go1 (op_pick_t rfl rfl (.t (has rfl)) (.bool _)) rfl ?_
              refine go1 (op_move rfl (.t (has rfl))) rfl ?_
              refine goS rfl rfl rfl rfl rfl rfl rfl ?_
              refine goS rfl rfl rfl rfl rfl rfl rfl ?_
              refine go1 (op_pick_t rfl rfl (.t (has rfl)) (.bool _)) rfl ?_
              refine go1 (op_move rfl (.t (has rfl))) rfl ?_
              refine goS rfl rfl rfl rfl rfl rfl rfl ?_
              refine goS rfl rfl rfl rfl rfl rfl rfl ?_
              refine go1 (op_pick_t rfl rfl (.t (has rfl)) (.bool _)) rfl ?_
              refine go1 (op_not rfl (.t (has rfl))) rfl ?_
              refine goesO_nil ?_
              obtain rfl := Option.some.inj H
              exact ends_cut (.cons rfl (.cons rfl (.cons rfl .nil)))
            · skip
              refine goG (op_move rfl (.t (has rfl))) rfl rfl rfl rfl hb15 ?_
              refine goG (op_icmp rfl rfl (.t (has rfl)) (.int _ _)) rfl rfl rfl rfl hb15 ?_
              refine goG (op_move rfl (.t (has rfl))) rfl rfl rfl rfl hb15 ?_
              refine goesO_split H (fun hb16 H => ?_) (fun hb16 H => ?_)
              · skip
                refine goG (op_move rfl (.t (has rfl))) rfl rfl rfl rfl hb16 ?_
                refine goG (op_icmp rfl rfl (.t (has rfl)) (.int _ _)) rfl rfl rfl rfl hb16 ?_
                refine goG (op_pick_t rfl hb16 (.t (has rfl)) (.t (has rfl))) rfl rfl rfl rfl hb15 ?_
                refine go1 (op_pick_f rfl hb15 (.t (has rfl)) (.t (has rfl))) rfl ?_
                refine go1 (op_move rfl (.t (has rfl))) rfl ?_
                refine goesO_split H (fun hb17 H => ?_) (fun hb17 H => ?_)
                · skip
                  refine goS rfl rfl rfl rfl rfl rfl hb17 ?_
                  refine goS rfl rfl rfl rfl rfl rfl hb17 ?_
                  refine goS rfl rfl rfl rfl rfl rfl hb17 ?_
                  refine goSU rfl rfl rfl rfl rfl rfl ?_
                  refine goSU rfl rfl rfl rfl rfl rfl ?_
                  refine goS rfl rfl rfl rfl rfl rfl hb17 ?_
                  refine go1 (op_pick_t rfl hb17 (.t (has rfl)) (.bool _)) rfl ?_
                  refine go1 (op_move rfl (.t (has rfl))) rfl ?_
                  refine goS rfl rfl rfl rfl rfl rfl rfl ?_
                  refine goS rfl rfl rfl rfl rfl rfl rfl ?_
                  refine go1 (op_pick_t rfl rfl (.t (has rfl)) (.bool _)) rfl ?_
                  refine go1 (op_move rfl (.t (has rfl))) rfl ?_
                  refine goS rfl rfl rfl rfl rfl rfl rfl ?_
                  refine goS rfl rfl rfl rfl rfl rfl rfl ?_
                  refine go1 (op_pick_t rfl rfl (.t (has rfl)) (.bool _)) rfl ?_
                  refine go1 (op_not rfl (.t (has rfl))) rfl ?_
                  refine goesO_nil ?_
                  obtain rfl := Option.some.inj H
                  exact ends_cut (.cons rfl (.cons rfl (.cons rfl .nil)))
                · skip
                  refine goG (op_move rfl (.t (has rfl))) rfl rfl rfl rfl hb17 ?_
                  refine goG (op_icmp rfl rfl (.t (has rfl)) (.int _ _)) rfl rfl rfl rfl hb17 ?_
                  refine goG (op_move rfl (.t (has rfl))) rfl rfl rfl rfl hb17 ?_
                  refine goesO_split H (fun hb18 H => ?_) (fun hb18 H => ?_)
                  · skip
                    refine goG (op_move rfl (.t (has rfl))) rfl rfl rfl rfl hb18 ?_
                    refine goG (op_icmp rfl rfl (.t (has rfl)) (.int _ _)) rfl rfl rfl rfl hb18 ?_
                    refine goG (op_pick_t rfl hb18 (.t (has rfl)) (.t (has rfl))) rfl rfl rfl rfl hb17 ?_
                    refine go1 (op_pick_f rfl hb17 (.t (has rfl)) (.t (has rfl))) rfl ?_
                    refine go1 (op_move rfl (.t (has rfl))) rfl ?_
                    refine goesO_split H (fun hb19 H => ?_) (fun hb19 H => ?_)
                    · skip
                      refine goS rfl rfl rfl rfl rfl rfl hb19 ?_
                      refine goS rfl rfl rfl rfl rfl rfl hb19 ?_
                      refine go1 (op_pick_t rfl hb19 (.t (has rfl)) (.bool _)) rfl ?_
                      refine go1 (op_move rfl (.t (has rfl))) rfl ?_
                      refine goS rfl rfl rfl rfl rfl rfl rfl ?_
                      refine goS rfl rfl rfl rfl rfl rfl rfl ?_
                      refine go1 (op_pick_t rfl rfl (.t (has rfl)) (.bool _)) rfl ?_
                      refine go1 (op_not rfl (.t (has rfl))) rfl ?_
                      refine goesO_nil ?_
                      obtain rfl := Option.some.inj H
                      exact ends_cut (.cons rfl (.cons rfl (.cons rfl .nil)))
                    · skip
                      refine goG (op_move rfl (.t (has rfl))) rfl rfl rfl rfl hb19 ?_
                      refine goG (op_icmp rfl rfl (.t (has rfl)) (.int _ _)) rfl rfl rfl rfl hb19 ?_
                      refine go1 (op_pick_f rfl hb19 (.t (has rfl)) (.t (has rfl))) rfl ?_
                      refine go1 (op_move rfl (.t (has rfl))) rfl ?_
                      refine goesO_split H (fun hb20 H => ?_) (fun hb20 H => ?_)
                      · skip
                        refine goS rfl rfl rfl rfl rfl rfl hb20 ?_
                        refine goS rfl rfl rfl rfl rfl rfl hb20 ?_
                        refine go1 (op_pick_t rfl hb20 (.t (has rfl)) (.bool _)) rfl ?_
                        refine go1 (op_not rfl (.t (has rfl))) rfl ?_
                        refine goesO_nil ?_
                        obtain rfl := Option.some.inj H
                        exact ends_cut (.cons rfl (.cons rfl (.cons rfl .nil)))
                      · skip
                        refine goG (op_move rfl (.t (has rfl))) rfl rfl rfl rfl hb20 ?_
                        refine goG (op_icmp rfl rfl (.t (has rfl)) (.int _ _)) rfl rfl rfl rfl hb20 ?_
                        refine go1 (op_pick_f rfl hb20 (.t (has rfl)) (.t (has rfl))) rfl ?_
                        refine go1 (op_not rfl (.t (has rfl))) rfl ?_
                        refine goesO_nil ?_
                        obtain rfl := Option.some.inj H
                        exact ends_cut (.cons rfl (.cons rfl (.cons rfl .nil)))
                  · skip
                    refine goS rfl rfl rfl rfl rfl rfl hb18 ?_
                    refine goS rfl rfl rfl rfl rfl rfl hb18 ?_
                    refine goG (op_pick_f rfl hb18 (.t (has rfl)) (.bool _)) rfl rfl rfl rfl hb17 ?_
                    refine go1 (op_pick_f rfl hb17 (.t (has rfl)) (.t (has rfl))) rfl ?_
                    refine go1 (op_move rfl (.t (has rfl))) rfl ?_
                    refine goG (op_move rfl (.t (has rfl))) rfl rfl rfl rfl rfl ?_
                    refine goG (op_icmp rfl rfl (.t (has rfl)) (.int _ _)) rfl rfl rfl rfl rfl ?_
                    refine go1 (op_pick_f rfl rfl (.t (has rfl)) (.t (has rfl))) rfl ?_
                    refine go1 (op_move rfl (.t (has rfl))) rfl ?_
                    refine goesO_split H (fun hb21 H => ?_) (fun hb21 H => ?_)
                    · skip
                      refine goS rfl rfl rfl rfl rfl rfl hb21 ?_
                      refine goS rfl rfl rfl rfl rfl rfl hb21 ?_
                      refine go1 (op_pick_t rfl hb21 (.t (has rfl)) (.bool _)) rfl ?_
                      refine go1 (op_not rfl (.t (has rfl))) rfl ?_
                      refine goesO_nil ?_
                      obtain rfl := Option.some.inj H
                      exact ends_cut (.cons rfl (.cons rfl (.cons rfl .nil)))
                    · skip
                      refine goG (op_move rfl (.t (has rfl))) rfl rfl rfl rfl hb21 ?_
                      refine goG (op_icmp rfl rfl (.t (has rfl)) (.int _ _)) rfl rfl rfl rfl hb21 ?_
                      refine go1 (op_pick_f rfl hb21 (.t (has rfl)) (.t (has rfl))) rfl ?_
                      refine go1 (op_not rfl (.t (has rfl))) rfl ?_
                      refine goesO_nil ?_
                      obtain rfl := Option.some.inj H
                      exact ends_cut (.cons rfl (.cons rfl (.cons rfl .nil)))
              · skip
                refine goS rfl rfl rfl rfl rfl rfl hb16 ?_
                refine goS rfl rfl rfl rfl rfl rfl hb16 ?_
                refine goG (op_pick_f rfl hb16 (.t (has rfl)) (.bool _)) rfl rfl rfl rfl hb15 ?_
                refine go1 (op_pick_f rfl hb15 (.t (has rfl)) (.t (has rfl))) rfl ?_
                refine go1 (op_move rfl (.t (has rfl))) rfl ?_
                refine goG (op_move rfl (.t (has rfl))) rfl rfl rfl rfl rfl ?_
                refine goG (op_icmp rfl rfl (.t (has rfl)) (.int _ _)) rfl rfl rfl rfl rfl ?_
                refine goG (op_move rfl (.t (has rfl))) rfl rfl rfl rfl rfl ?_
                refine goesO_split H (fun hb22 H => ?_) (fun hb22 H => ?_)
                · skip
                  refine goG (op_move rfl (.t (has rfl))) rfl rfl rfl rfl hb22 ?_
                  refine goG (op_icmp rfl rfl (.t (has rfl)) (.int _ _)) rfl rfl rfl rfl hb22 ?_
                  refine goG (op_pick_t rfl hb22 (.t (has rfl)) (.t (has rfl))) rfl rfl rfl rfl rfl ?_
                  refine go1 (op_pick_f rfl rfl (.t (has rfl)) (.t (has rfl))) rfl ?_
                  refine go1 (op_move rfl (.t (has rfl))) rfl ?_
                  refine goesO_split H (fun hb23 H => ?_) (fun hb23 H => ?_)
                  · skip
                    refine goS rfl rfl rfl rfl rfl rfl hb23 ?_
                    refine goS rfl rfl rfl rfl rfl rfl hb23 ?_
                    refine go1 (op_pick_t rfl hb23 (.t (has rfl)) (.bool _)) rfl ?_
                    refine go1 (op_move rfl (.t (has rfl))) rfl ?_
                    refine goS rfl rfl rfl rfl rfl rfl rfl ?_
                    refine goS rfl rfl rfl rfl rfl rfl rfl ?_
                    refine go1 (op_pick_t rfl rfl (.t (has rfl)) (.bool _)) rfl ?_
                    refine go1 (op_not rfl (.t (has rfl))) rfl ?_
                    refine goesO_nil ?_
                    obtain rfl := Option.some.inj H
                    exact ends_cut (.cons rfl (.cons rfl (.cons rfl .nil)))
                  · skip
                    refine goG (op_move rfl (.t (has rfl))) rfl rfl rfl rfl hb23 ?_
                    refine goG (op_icmp rfl rfl (.t (has rfl)) (.int _ _)) rfl rfl rfl rfl hb23 ?_
                    refine go1 (op_pick_f rfl hb23 (.t (has rfl)) (.t (has rfl))) rfl ?_
                    refine go1 (op_move rfl (.t (has rfl))) rfl ?_
                    refine goesO_split H (fun hb24 H => ?_) (fun hb24 H => ?_)
                    · skip
                      refine goS rfl rfl rfl rfl rfl rfl hb24 ?_
                      refine goS rfl rfl rfl rfl rfl rfl hb24 ?_
                      refine go1 (op_pick_t rfl hb24 (.t (has rfl)) (.bool _)) rfl ?_
                      refine go1 (op_not rfl (.t (has rfl))) rfl ?_
                      refine goesO_nil ?_
                      obtain rfl := Option.some.inj H
                      exact ends_cut (.cons rfl (.cons rfl (.cons rfl .nil)))
                    · skip
                      refine goG (op_move rfl (.t (has rfl))) rfl rfl rfl rfl hb24 ?_
                      refine goG (op_icmp rfl rfl (.t (has rfl)) (.int _ _)) rfl rfl rfl rfl hb24 ?_
                      refine go1 (op_pick_f rfl hb24 (.t (has rfl)) (.t (has rfl))) rfl ?_
                      refine go1 (op_not rfl (.t (has rfl))) rfl ?_
                      refine goesO_nil ?_
                      obtain rfl := Option.some.inj H
                      exact ends_cut (.cons rfl (.cons rfl (.cons rfl .nil)))
                · skip
                  refine goS rfl rfl rfl rfl rfl rfl hb22 ?_
                  refine goS rfl rfl rfl rfl rfl rfl hb22 ?_
                  refine goG (op_pick_f rfl hb22 (.t (has rfl)) (.bool _)) rfl rfl rfl rfl rfl ?_
                  refine go1 (op_pick_f rfl rfl (.t (has rfl)) (.t (has rfl))) rfl ?_
                  refine go1 (op_move rfl (.t (has rfl))) rfl ?_
                  refine goG (op_move rfl (.t (has rfl))) rfl rfl rfl rfl rfl ?_
                  refine goG (op_icmp rfl rfl (.t (has rfl)) (.int _ _)) rfl rfl rfl rfl rfl ?_
                  refine go1 (op_pick_f rfl rfl (.t (has rfl)) (.t (has rfl))) rfl ?_
                  refine go1 (op_move rfl (.t (has rfl))) rfl ?_
                  refine goesO_split H (fun hb25 H => ?_) (fun hb25 H => ?_)
                  · skip
                    refine goS rfl rfl rfl rfl rfl rfl hb25 ?_
                    refine goS rfl rfl rfl rfl rfl rfl hb25 ?_
                    refine go1 (op_pick_t rfl hb25 (.t (has rfl)) (.bool _)) rfl ?_
                    refine go1 (op_not rfl (.t (has rfl))) rfl ?_
                    refine goesO_nil ?_
                    obtain rfl := Option.some.inj H
                    exact ends_cut (.cons rfl (.cons rfl (.cons rfl .nil)))
                  · skip
                    refine goG (op_move rfl (.t (has rfl))) rfl rfl rfl rfl hb25 ?_
                    refine goG (op_icmp rfl rfl (.t (has rfl)) (.int _ _)) rfl rfl rfl rfl hb25 ?_
                    refine go1 (op_pick_f rfl hb25 (.t (has rfl)) (.t (has rfl))) rfl ?_
                    refine go1 (op_not rfl (.t (has rfl))) rfl ?_
                    refine goesO_nil ?_
                    obtain rfl := Option.some.inj H
                    exact ends_cut (.cons rfl (.cons rfl (.cons rfl .nil)))
          · skip
            refine goS rfl rfl rfl rfl rfl rfl hb14 ?_
            refine goS rfl rfl rfl rfl rfl rfl hb14 ?_
            refine go1 (op_pick_f rfl hb14 (.t (has rfl)) (.bool _)) rfl ?_
            refine go1 (op_move rfl (.t (has rfl))) rfl ?_
            refine goG (op_move rfl (.t (has rfl))) rfl rfl rfl rfl rfl ?_
            refine goG (op_icmp rfl rfl (.t (has rfl)) (.int _ _)) rfl rfl rfl rfl rfl ?_
            refine goG (op_move rfl (.t (has rfl))) rfl rfl rfl rfl rfl ?_
            refine goesO_split H (fun hb26 H => ?_) (fun hb26 H => ?_)
            · skip
              refine goG (op_move rfl (.t (has rfl))) rfl rfl rfl rfl hb26 ?_
              refine goG (op_icmp rfl rfl (.t (has rfl)) (.int _ _)) rfl rfl rfl rfl hb26 ?_
              refine goG (op_pick_t rfl hb26 (.t (has rfl)) (.t (has rfl))) rfl rfl rfl rfl rfl ?_
              refine go1 (op_pick_f rfl rfl (.t (has rfl)) (.t (has rfl))) rfl ?_
              refine go1 (op_move rfl (.t (has rfl))) rfl ?_
              refine goesO_split H (fun hb27 H => ?_) (fun hb27 H => ?_)
              · skip
                refine goS rfl rfl rfl rfl rfl rfl hb27 ?_
                refine goS rfl rfl rfl rfl rfl rfl hb27 ?_
                refine goS rfl rfl rfl rfl rfl rfl hb27 ?_
                refine goSU rfl rfl rfl rfl rfl rfl ?_
                refine goSU rfl rfl rfl rfl rfl rfl ?_
                refine goS rfl rfl rfl rfl rfl rfl hb27 ?_
                refine go1 (op_pick_t rfl hb27 (.t (has rfl)) (.bool _)) rfl ?_
                refine go1 (op_move rfl (.t (has rfl))) rfl ?_
                refine goS rfl rfl rfl rfl rfl rfl rfl ?_
                refine goS rfl rfl rfl rfl rfl rfl rfl ?_
                refine go1 (op_pick_t rfl rfl (.t (has rfl)) (.bool _)) rfl ?_
                refine go1 (op_move rfl (.t (has rfl))) rfl ?_
                refine goS rfl rfl rfl rfl rfl rfl rfl ?_
                refine goS rfl rfl rfl rfl rfl rfl rfl ?_
                refine go1 (op_pick_t rfl rfl (.t (has rfl)) (.bool _)) rfl ?_
                refine go1 (op_not rfl (.t (has rfl))) rfl ?_
                refine goesO_nil ?_
                obtain rfl := Option.some.inj H
                exact ends_cut (.cons rfl (.cons rfl (.cons rfl .nil)))
              · skip
                refine goG (op_move rfl (.t (has rfl))) rfl rfl rfl rfl hb27 ?_
                refine goG (op_icmp rfl rfl (.t (has rfl)) (.int _ _)) rfl rfl rfl rfl hb27 ?_
                refine goG (op_move rfl (.t (has rfl))) rfl rfl rfl rfl hb27 ?_
                refine goesO_split H (fun hb28 H => ?_) (fun hb28 H => ?_)
                · skip
                  refine goG (op_move rfl (.t (has rfl))) rfl rfl rfl rfl hb28 ?_
                  refine goG (op_icmp rfl rfl (.t (has rfl)) (.int _ _)) rfl rfl rfl rfl hb28 ?_
                  refine goG (op_pick_t rfl hb28 (.t (has rfl)) (.t (has rfl))) rfl rfl rfl rfl hb27 ?_
                  refine go1 (op_pick_f rfl hb27 (.t (has rfl)) (.t (has rfl))) rfl ?_
                  refine go1 (op_move rfl (.t (has rfl))) rfl ?_
                  refine goesO_split H (fun hb29 H => ?_) (fun hb29 H => ?_)
                  · skip
                    refine goS rfl rfl rfl rfl rfl rfl hb29 ?_
                    refine goS rfl rfl rfl rfl rfl rfl hb29 ?_
                    refine go1 (op_pick_t rfl hb29 (.t (has rfl)) (.bool _)) rfl ?_
                    refine go1 (op_move rfl (.t (has rfl))) rfl ?_
                    refine goS rfl rfl rfl rfl rfl rfl rfl ?_
                    refine goS rfl rfl rfl rfl rfl rfl rfl ?_
                    refine go1 (op_pick_t rfl rfl (.t (has rfl)) (.bool _)) rfl ?_
                    refine go1 (op_not rfl (.t (has rfl))) rfl ?_
                    refine goesO_nil ?_
                    obtain rfl := Option.some.inj H
                    exact ends_cut (.cons rfl (.cons rfl (.cons rfl .nil)))
                  · skip
                    refine goG (op_move rfl (.t (has rfl))) rfl rfl rfl rfl hb29 ?_
                    refine goG (op_icmp rfl rfl (.t (has rfl)) (.int _ _)) rfl rfl rfl rfl hb29 ?_
                    refine go1 (op_pick_f rfl hb29 (.t (has rfl)) (.t (has rfl))) rfl ?_
                    refine go1 (op_move rfl (.t (has rfl))) rfl ?_
                    refine goesO_split H (fun hb30 H => ?_) (fun hb30 H => ?_)
                    · skip
                      refine goS rfl rfl rfl rfl rfl rfl hb30 ?_
                      refine goS rfl rfl rfl rfl rfl rfl hb30 ?_
                      refine go1 (op_pick_t rfl hb30 (.t (has rfl)) (.bool _)) rfl ?_
                      refine go1 (op_not rfl (.t (has rfl))) rfl ?_
                      refine goesO_nil ?_
                      obtain rfl := Option.some.inj H
                      exact ends_cut (.cons rfl (.cons rfl (.cons rfl .nil)))
                    · skip
                      refine goG (op_move rfl (.t (has rfl))) rfl rfl rfl rfl hb30 ?_
                      refine goG (op_icmp rfl rfl (.t (has rfl)) (.int _ _)) rfl rfl rfl rfl hb30 ?_
                      refine go1 (op_pick_f rfl hb30 (.t (has rfl)) (.t (has rfl))) rfl ?_
                      refine go1 (op_not rfl (.t (has rfl))) rfl ?_
                      refine goesO_nil ?_
                      obtain rfl := Option.some.inj H
                      exact ends_cut (.cons rfl (.cons rfl (.cons rfl .nil)))
                · skip
                  refine goS rfl rfl rfl rfl rfl rfl hb28 ?_
                  refine goS rfl rfl rfl rfl rfl rfl hb28 ?_
                  refine goG (op_pick_f rfl hb28 (.t (has rfl)) (.bool _)) rfl rfl rfl rfl hb27 ?_
                  refine go1 (op_pick_f rfl hb27 (.t (has rfl)) (.t (has rfl))) rfl ?_
                  refine go1 (op_move rfl (.t (has rfl))) rfl ?_
                  refine goG (op_move rfl (.t (has rfl))) rfl rfl rfl rfl rfl ?_
                  refine goG (op_icmp rfl rfl (.t (has rfl)) (.int _ _)) rfl rfl rfl rfl rfl ?_
                  refine go1 (op_pick_f rfl rfl (.t (has rfl)) (.t (has rfl))) rfl ?_
                  refine go1 (op_move rfl (.t (has rfl))) rfl ?_
                  refine goesO_split H (fun hb31 H => ?_) (fun hb31 H => ?_)
                  · skip
                    refine goS rfl rfl rfl rfl rfl rfl hb31 ?_
                    refine goS rfl rfl rfl rfl rfl rfl hb31 ?_
                    refine go1 (op_pick_t rfl hb31 (.t (has rfl)) (.bool _)) rfl ?_
                    refine go1 (op_not rfl (.t (has rfl))) rfl ?_
                    refine goesO_nil ?_
                    obtain rfl := Option.some.inj H
                    exact ends_cut (.cons rfl (.cons rfl (.cons rfl .nil)))
                  · skip
                    refine goG (op_move rfl (.t (has rfl))) rfl rfl rfl rfl hb31 ?_
                    refine goG (op_icmp rfl rfl (.t (has rfl)) (.int _ _)) rfl rfl rfl rfl hb31 ?_
                    refine go1 (op_pick_f rfl hb31 (.t (has rfl)) (.t (has rfl))) rfl ?_
                    refine go1 (op_not rfl (.t (has rfl))) rfl ?_
                    refine goesO_nil ?_
                    obtain rfl := Option.some.inj H
                    exact ends_cut (.cons rfl (.cons rfl (.cons rfl .nil)))
            · skip
              refine goS rfl rfl rfl rfl rfl rfl hb26 ?_
              refine goS rfl rfl rfl rfl rfl rfl hb26 ?_
              refine goG (op_pick_f rfl hb26 (.t (has rfl)) (.bool _)) rfl rfl rfl rfl rfl ?_
              refine go1 (op_pick_f rfl rfl (.t (has rfl)) (.t (has rfl))) rfl ?_
              refine go1 (op_move rfl (.t (has rfl))) rfl ?_
              refine goG (op_move rfl (.t (has rfl))) rfl rfl rfl rfl rfl ?_
              refine goG (op_icmp rfl rfl (.t (has rfl)) (.int _ _)) rfl rfl rfl rfl rfl ?_
              refine goG (op_move rfl (.t (has rfl))) rfl rfl rfl rfl rfl ?_
              refine goesO_split H (fun hb32 H => ?_) (fun hb32 H => ?_)
              · skip
                refine goG (op_move rfl (.t (has rfl))) rfl rfl rfl rfl hb32 ?_
                refine goG (op_icmp rfl rfl (.t (has rfl)) (.int _ _)) rfl rfl rfl rfl hb32 ?_
                refine goG (op_pick_t rfl hb32 (.t (has rfl)) (.t (has rfl))) rfl rfl rfl rfl rfl ?_
                refine go1 (op_pick_f rfl rfl (.t (has rfl)) (.t (has rfl))) rfl ?_
                refine go1 (op_move rfl (.t (has rfl))) rfl ?_
                refine goesO_split H (fun hb33 H => ?_) (fun hb33 H => ?_)
                · skip
                  refine goS rfl rfl rfl rfl rfl rfl hb33 ?_
                  refine goS rfl rfl rfl rfl rfl rfl hb33 ?_
                  refine go1 (op_pick_t rfl hb33 (.t (has rfl)) (.bool _)) rfl ?_
                  refine go1 (op_move rfl (.t (has rfl))) rfl ?_
                  refine goS rfl rfl rfl rfl rfl rfl rfl ?_
                  refine goS rfl rfl rfl rfl rfl rfl rfl ?_
                  refine go1 (op_pick_t rfl rfl (.t (has rfl)) (.bool _)) rfl ?_
                  refine go1 (op_not rfl (.t (has rfl))) rfl ?_
                  refine goesO_nil ?_
                  obtain rfl := Option.some.inj H
                  exact ends_cut (.cons rfl (.cons rfl (.cons rfl .nil)))
                · skip
                  refine goG (op_move rfl (.t (has rfl))) rfl rfl rfl rfl hb33 ?_
                  refine goG (op_icmp rfl rfl (.t (has rfl)) (.int _ _)) rfl rfl rfl rfl hb33 ?_
                  refine go1 (op_pick_f rfl hb33 (.t (has rfl)) (.t (has rfl))) rfl ?_
                  refine go1 (op_move rfl (.t (has rfl))) rfl ?_
                  refine goesO_split H (fun hb34 H => ?_) (fun hb34 H => ?_)
                  · skip
                    refine goS rfl rfl rfl rfl rfl rfl hb34 ?_
                    refine goS rfl rfl rfl rfl rfl rfl hb34 ?_
                    refine go1 (op_pick_t rfl hb34 (.t (has rfl)) (.bool _)) rfl ?_
                    refine go1 (op_not rfl (.t (has rfl))) rfl ?_
                    refine goesO_nil ?_
                    obtain rfl := Option.some.inj H
                    exact ends_cut (.cons rfl (.cons rfl (.cons rfl .nil)))
                  · skip
                    refine goG (op_move rfl (.t (has rfl))) rfl rfl rfl rfl hb34 ?_
                    refine goG (op_icmp rfl rfl (.t (has rfl)) (.int _ _)) rfl rfl rfl rfl hb34 ?_
                    refine go1 (op_pick_f rfl hb34 (.t (has rfl)) (.t (has rfl))) rfl ?_
                    refine go1 (op_not rfl (.t (has rfl))) rfl ?_
                    refine goesO_nil ?_
                    obtain rfl := Option.some.inj H
                    exact ends_cut (.cons rfl (.cons rfl (.cons rfl .nil)))
              · skip
                refine goS rfl rfl rfl rfl rfl rfl hb32 ?_
                refine goS rfl rfl rfl rfl rfl rfl hb32 ?_
                refine goG (op_pick_f rfl hb32 (.t (has rfl)) (.bool _)) rfl rfl rfl rfl rfl ?_
                refine go1 (op_pick_f rfl rfl (.t (has rfl)) (.t (has rfl))) rfl ?_
                refine go1 (op_move rfl (.t (has rfl))) rfl ?_
                refine goG (op_move rfl (.t (has rfl))) rfl rfl rfl rfl rfl ?_
                refine goG (op_icmp rfl rfl (.t (has rfl)) (.int _ _)) rfl rfl rfl rfl rfl ?_
                refine go1 (op_pick_f rfl rfl (.t (has rfl)) (.t (has rfl))) rfl ?_
                refine go1 (op_move rfl (.t (has rfl))) rfl ?_
                refine goesO_split H (fun hb35 H => ?_) (fun hb35 H => ?_)
                · skip
                  refine goS rfl rfl rfl rfl rfl rfl hb35 ?_
                  refine goS rfl rfl rfl rfl rfl rfl hb35 ?_
                  refine go1 (op_pick_t rfl hb35 (.t (has rfl)) (.bool _)) rfl ?_
                  refine go1 (op_not rfl (.t (has rfl))) rfl ?_
                  refine goesO_nil ?_
                  obtain rfl := Option.some.inj H
                  exact ends_cut (.cons rfl (.cons rfl (.cons rfl .nil)))
                · skip
                  refine goG (op_move rfl (.t (has rfl))) rfl rfl rfl rfl hb35 ?_
                  refine goG (op_icmp rfl rfl (.t (has rfl)) (.int _ _)) rfl rfl rfl rfl hb35 ?_
                  refine go1 (op_pick_f rfl hb35 (.t (has rfl)) (.t (has rfl))) rfl ?_
                  refine go1 (op_not rfl (.t (has rfl))) rfl ?_
                  refine goesO_nil ?_
                  obtain rfl := Option.some.inj H
                  exact ends_cut (.cons rfl (.cons rfl (.cons rfl .nil)))
        refine ends_then ?_
        refine goes_if (.t (has rfl)) H (fun hb36 H => ?_) (fun hb36 H => ?_)
        · skip
          refine goes_seq ?_
          refine goes_region ?_
          refine go1 (op_assign rfl (.bool _)) rfl ?_
          refine goesO_nil ?_
          refine ends_then ?_
          obtain rfl := Option.some.inj H
          refine goes_ret (ends_block_ret (ends_then_ret (ends_then_ret (ends_block_ret (ends_cutR_ret rfl ?_)))))
          exact ends_ret' rfl rfl (.t rfl (.nil _))
        · skip
          refine goes_skip ?_
          refine ends_block ?_
          refine ends_then ?_
          refine goes_region ?_
          refine go1 (op_move rfl (.t (has rfl))) rfl ?_
          refine go1 (op_add rfl (.t (has rfl)) (.int _ _)) rfl ?_
          refine go1 (op_assign rfl (.t (has rfl))) rfl ?_
          refine goesO_nil ?_
          exact loop_next _ H (.cons rfl (.cons rfl .nil))
      · skip
        refine goes_exit (ends_then_exit (ends_then_exit (ends_block_exit ?_)))
        obtain rfl := Option.some.inj H
        exact ends_cutR rfl .nil
    · rintro s6 rfl
      clear h7
      dsimp only at H
      refine ends_then ?_
      refine goes_seq ?_
      refine goes_region ?_
      refine go1 (op_assign rfl (.bool _)) rfl ?_
      refine goesO_nil ?_
      refine ends_then ?_
      obtain rfl := Option.some.inj H
      exact goes_ret (ends_ret' rfl rfl (.t rfl (.nil _)))
    · rintro r' rfl a w hr
      obtain rfl := Option.some.inj H
      exact hr
theorem smithyref05_Name.conF (k : Nat) (a0 : ByteArray) (r : Bool) (H : smithyref05_Name.f k a0 = some r) : ConF Try.prog 31 [VA.k kstr a0] [VA.k kbool r] := (smithyref05_Name.con k a0 r H).freeL (.cons (KFree.k KFree.bool _) .nil)
/-! smithy/smithyref05.One -/
def smithyref05_One.f (k : Nat) (a0 : Macro) : Option Int := (smithyref05_Name.f k a0.Name).bind fun v1 => bif !v1 then (some (50 : Int)) else ((bif icmp .lss a0.Level (0 : Int) then (some true) else (some (icmp .gtr a0.Level (2 : Int)))).bind fun s4 => bif s4 then (some (51 : Int)) else (bif icmp .gtr (a0.Value.size : Int) (8192 : Int) then (some (41 : Int)) else (some (0 : Int))))
set_option maxRecDepth 100000 in
set_option maxHeartbeats 4000000 in
theorem smithyref05_One.con (k : Nat) (a0 : Macro) (r : Int) (H : smithyref05_One.f k a0 = some r) : Con Try.prog 22 [VA.k kMacro a0] [VA.k (kint .i64) r] := by
  unfold smithyref05_One.f at H
  refine con_enter Try.func22 rfl rfl rfl (fun w0 S0 θ => ?_)
  refine goes_seq ?_
  refine goes_region ?_
  refine go3 (op_box 1 rfl (fun h => by first | rfl | cases h) (.t (has rfl))) rfl ?_
  refine go1 (op_assign rfl (.int _ _)) rfl ?_
  refine goesO_nil ?_
  refine ends_then ?_
  refine goes_seq ?_
  refine goes_seq ?_
  refine goes_region ?_
  refine go1 (op_fieldAddr rfl Try.underlying58 rfl tk9 (.t (has rfl))) rfl ?_
  refine go1 (op_load rfl fldMacro_Name tk9 (.t (has rfl)) (has rfl)) rfl ?_
  obtain ⟨v1, h2, H⟩ := bind_some H
  refine go1 (op_call' rfl enters31 (smithyref05_Name.con _ _ _ h2) rfl (.cons (ArgP.k (.t (has rfl))) .nil)) rfl ?_
  refine go1 (op_not rfl (.t (has rfl))) rfl ?_
  refine goesO_nil ?_
  refine ends_then ?_
  refine goes_if (.t (has rfl)) H (fun hb3 H => ?_) (fun hb3 H => ?_)
  · skip
    refine goes_seq ?_
    refine goes_region ?_
    refine go1 (op_assign rfl (.int _ _)) rfl ?_
    refine goesO_nil ?_
    refine ends_then ?_
    obtain rfl := Option.some.inj H
    exact goes_ret (ends_then_ret (ends_ret' rfl rfl (.t rfl (.nil _))))
  · skip
    refine goes_skip ?_
    refine ends_then ?_
    refine goes_seq ?_
    refine goes_seq ?_
    obtain ⟨s4, h5, H⟩ := bind_some H
    refine goes_cut [Ent.t 1 (VA.ptr 1 0), Ent.t 14 (VA.k kbool s4), Ent.h 1 (HE.box 58 kMacro a0)] ?_ ?_
    · replace H := h5; clear h5
      refine goes_region ?_
      refine go1 (op_fieldAddr rfl Try.underlying58 rfl tk3 (.t (has rfl))) rfl ?_
      refine go1 (op_load rfl fldMacro_Level tk3 (.t (has rfl)) (has rfl)) rfl ?_
      refine go1 (op_icmp rfl rfl (.t (has rfl)) (.int _ _)) rfl ?_
      refine go1 (op_move rfl (.t (has rfl))) rfl ?_
      refine goesO_split H (fun hb6 H => ?_) (fun hb6 H => ?_)
      · skip
        refine goS rfl rfl rfl rfl rfl rfl hb6 ?_
        refine goS rfl rfl rfl rfl rfl rfl hb6 ?_
        refine goS rfl rfl rfl rfl rfl rfl hb6 ?_
        refine go1 (op_pick_t rfl hb6 (.t (has rfl)) (.bool _)) rfl ?_
        refine goesO_nil ?_
        obtain rfl := Option.some.inj H
        exact ends_cut (.cons rfl (.cons rfl (.cons rfl .nil)))
      · skip
        refine goG (op_fieldAddr rfl Try.underlying58 rfl tk3 (.t (has rfl))) rfl rfl rfl rfl hb6 ?_
        refine goG (op_load rfl fldMacro_Level tk3 (.t (has rfl)) (has rfl)) rfl rfl rfl rfl hb6 ?_
        refine goG (op_icmp rfl rfl (.t (has rfl)) (.int _ _)) rfl rfl rfl rfl hb6 ?_
        refine go1 (op_pick_f rfl hb6 (.t (has rfl)) (.t (has rfl))) rfl ?_
        refine goesO_nil ?_
        obtain rfl := Option.some.inj H
        exact ends_cut (.cons rfl (.cons rfl (.cons rfl .nil)))
    refine ends_then ?_
    refine goes_if (.t (has rfl)) H (fun hb7 H => ?_) (fun hb7 H => ?_)
    · skip
      refine goes_seq ?_
      refine goes_region ?_
      refine go1 (op_assign rfl (.int _ _)) rfl ?_
      refine goesO_nil ?_
      refine ends_then ?_
      obtain rfl := Option.some.inj H
      exact goes_ret (ends_then_ret (ends_ret' rfl rfl (.t rfl (.nil _))))
    · skip
      refine goes_skip ?_
      refine ends_then ?_
      refine goes_seq ?_
      refine goes_seq ?_
      refine goes_region ?_
      refine go1 (op_fieldAddr rfl Try.underlying58 rfl tk9 (.t (has rfl))) rfl ?_
      refine go1 (op_load rfl fldMacro_Value tk9 (.t (has rfl)) (has rfl)) rfl ?_
      refine go1 (op_len_str rfl rfl Try.underlying9 (.t (has rfl))) rfl ?_
      refine go1 (op_icmp rfl rfl (.t (has rfl)) (.int _ _)) rfl ?_
      refine goesO_nil ?_
      refine ends_then ?_
      refine goes_if (.t (has rfl)) H (fun hb8 H => ?_) (fun hb8 H => ?_)
      · skip
        refine goes_seq ?_
        refine goes_region ?_
        refine go1 (op_assign rfl (.int _ _)) rfl ?_
        refine goesO_nil ?_
        refine ends_then ?_
        obtain rfl := Option.some.inj H
        exact goes_ret (ends_then_ret (ends_ret' rfl rfl (.t rfl (.nil _))))
      · skip
        refine goes_skip ?_
        refine ends_then ?_
        refine goes_seq ?_
        refine goes_region ?_
        refine go1 (op_assign rfl (.int _ _)) rfl ?_
        refine goesO_nil ?_
        refine ends_then ?_
        obtain rfl := Option.some.inj H
        exact goes_ret (ends_ret' rfl rfl (.t rfl (.nil _)))
theorem smithyref05_One.conF (k : Nat) (a0 : Macro) (r : Int) (H : smithyref05_One.f k a0 = some r) : ConF Try.prog 22 [VA.k kMacro a0] [VA.k (kint .i64) r] := (smithyref05_One.con k a0 r H).freeL (.cons (KFree.k (KFree.int .i64) _) .nil)
/-! smithy/smithyref19.Check -/
def smithyref19_Check.l0 (a0 : Options) : Nat → (Int × Int) → Option Int
  | 0, _ => none
  | k + 1, s21 => bif icmp .lss s21.2 (a0.Macros.length : Int) then (((idx a0.Macros s21.2).bind fun x27 => bif icmp .eql s21.1 (0 : Int) then ((smithyref05_One.f k ({ x27 with Level := (2 : Int) })).bind fun v30 => some v30) else (some s21.1)).bind fun s25 => smithyref19_Check.l0 a0 k (s25, IntKind.i64.wrap (s21.2 + (1 : Int)))) else (some s21.1)
def smithyref19_Check.f (k : Nat) (a0 : Options) : Option Int := (bif icmp .lss a0.Slots (1 : Int) then (some true) else (bif icmp .gtr a0.Slots (8 : Int) then (some true) else ((smithyref19_two.f a0.Dry a0.Touch a0.Query).bind fun v5 => some v5))).bind fun s1 => bif s1 then (some (1 : Int)) else ((smithyref19_names.f k a0.Files (64 : Int)).bind fun v8 => (bif icmp .eql v8 (0 : Int) then ((smithyref19_names.f k a0.Goals (512 : Int)).bind fun v13 => some v13) else (some v8)).bind fun s10 => (bif icmp .eql s10 (0 : Int) then (some (icmp .gtr (a0.Macros.length : Int) (256 : Int))) else (some false)).bind fun s15 => (bif s15 then (some (2 : Int)) else (some s10)).bind fun s18 => (smithyref19_Check.l0 a0 k (s18, (0 : Int))).bind fun s22 => some s22)
set_option maxRecDepth 100000 in
set_option maxHeartbeats 4000000 in
theorem smithyref19_Check.con (k : Nat) (a0 : Options) (r : Int) (H : smithyref19_Check.f k a0 = some r) : Con Try.prog 7 [VA.k kOptions a0] [VA.k (kint .i64) r] := by
  unfold smithyref19_Check.f at H
  refine con_enter Try.func7 rfl rfl rfl (fun w0 S0 θ => ?_)
  refine goes_seq ?_
  refine goes_region ?_
  refine go3 (op_box 1 rfl (fun h => by first | rfl | cases h) (.t (has rfl))) rfl ?_
  refine go1 (op_assign rfl (.int _ _)) rfl ?_
  refine goesO_nil ?_
  refine ends_then ?_
  refine goes_seq ?_
  refine goes_seq ?_
  obtain ⟨s1, h2, H⟩ := bind_some H
  refine goes_cut [Ent.t 1 (VA.ptr 1 0), Ent.t 22 (VA.k kbool s1), Ent.h 1 (HE.box 25 kOptions a0)] ?_ ?_
  · replace H := h2; clear h2
    refine goes_region ?_
    refine go1 (op_fieldAddr rfl Try.underlying25 rfl tk3 (.t (has rfl))) rfl ?_
    refine go1 (op_load rfl fldOptions_Slots tk3 (.t (has rfl)) (has rfl)) rfl ?_
    refine go1 (op_icmp rfl rfl (.t (has rfl)) (.int _ _)) rfl ?_
    refine go1 (op_move rfl (.t (has rfl))) rfl ?_
    refine goesO_split H (fun hb3 H => ?_) (fun hb3 H => ?_)
    · skip
      refine goS rfl rfl rfl rfl rfl rfl hb3 ?_
      refine goS rfl rfl rfl rfl rfl rfl hb3 ?_
      refine goS rfl rfl rfl rfl rfl rfl hb3 ?_
      refine go1 (op_pick_t rfl hb3 (.t (has rfl)) (.bool _)) rfl ?_
      refine go1 (op_move rfl (.t (has rfl))) rfl ?_
      refine goS rfl rfl rfl rfl rfl rfl rfl ?_
      refine goS rfl rfl rfl rfl rfl rfl rfl ?_
      refine goS rfl rfl rfl rfl rfl rfl rfl ?_
      refine goS rfl rfl rfl rfl rfl rfl rfl ?_
      refine goS rfl rfl rfl rfl rfl rfl rfl ?_
      refine goS rfl rfl rfl rfl rfl rfl rfl ?_
      refine goS rfl rfl rfl rfl rfl rfl rfl ?_
      refine go1 (op_pick_t rfl rfl (.t (has rfl)) (.bool _)) rfl ?_
      refine goesO_nil ?_
      obtain rfl := Option.some.inj H
      exact ends_cut (.cons rfl (.cons rfl (.cons rfl .nil)))
    · skip
      refine goG (op_fieldAddr rfl Try.underlying25 rfl tk3 (.t (has rfl))) rfl rfl rfl rfl hb3 ?_
      refine goG (op_load rfl fldOptions_Slots tk3 (.t (has rfl)) (has rfl)) rfl rfl rfl rfl hb3 ?_
      refine goG (op_icmp rfl rfl (.t (has rfl)) (.int _ _)) rfl rfl rfl rfl hb3 ?_
      refine go1 (op_pick_f rfl hb3 (.t (has rfl)) (.t (has rfl))) rfl ?_
      refine go1 (op_move rfl (.t (has rfl))) rfl ?_
      refine goesO_split H (fun hb4 H => ?_) (fun hb4 H => ?_)
      · skip
        refine goS rfl rfl rfl rfl rfl rfl hb4 ?_
        refine goS rfl rfl rfl rfl rfl rfl hb4 ?_
        refine goS rfl rfl rfl rfl rfl rfl hb4 ?_
        refine goS rfl rfl rfl rfl rfl rfl hb4 ?_
        refine goS rfl rfl rfl rfl rfl rfl hb4 ?_
        refine goS rfl rfl rfl rfl rfl rfl hb4 ?_
        refine goS rfl rfl rfl rfl rfl rfl hb4 ?_
        refine go1 (op_pick_t rfl hb4 (.t (has rfl)) (.bool _)) rfl ?_
        refine goesO_nil ?_
        obtain rfl := Option.some.inj H
        exact ends_cut (.cons rfl (.cons rfl (.cons rfl .nil)))
      · skip
        refine goG (op_fieldAddr rfl Try.underlying25 rfl tk4 (.t (has rfl))) rfl rfl rfl rfl hb4 ?_
        refine goG (op_load rfl fldOptions_Dry tk4 (.t (has rfl)) (has rfl)) rfl rfl rfl rfl hb4 ?_
        refine goG (op_fieldAddr rfl Try.underlying25 rfl tk4 (.t (has rfl))) rfl rfl rfl rfl hb4 ?_
        refine goG (op_load rfl fldOptions_Touch tk4 (.t (has rfl)) (has rfl)) rfl rfl rfl rfl hb4 ?_
        refine goG (op_fieldAddr rfl Try.underlying25 rfl tk4 (.t (has rfl))) rfl rfl rfl rfl hb4 ?_
        refine goG (op_load rfl fldOptions_Query tk4 (.t (has rfl)) (has rfl)) rfl rfl rfl rfl hb4 ?_
        obtain ⟨v5, h6, H⟩ := bind_some H
        refine goG (op_call' rfl enters20 (smithyref19_two.con _ _ _ _ h6) rfl (.cons (ArgP.k (.t (has rfl))) (.cons (ArgP.k (.t (has rfl))) (.cons (ArgP.k (.t (has rfl))) .nil)))) rfl rfl rfl rfl hb4 ?_
        refine go1 (op_pick_f rfl hb4 (.t (has rfl)) (.t (has rfl))) rfl ?_
        refine goesO_nil ?_
        obtain rfl := Option.some.inj H
        exact ends_cut (.cons rfl (.cons rfl (.cons rfl .nil)))
  refine ends_then ?_
  refine goes_if (.t (has rfl)) H (fun hb7 H => ?_) (fun hb7 H => ?_)
  · skip
    refine goes_seq ?_
    refine goes_region ?_
    refine go1 (op_assign rfl (.int _ _)) rfl ?_
    refine goesO_nil ?_
    refine ends_then ?_
    obtain rfl := Option.some.inj H
    exact goes_ret (ends_then_ret (ends_ret' rfl rfl (.t rfl (.nil _))))
  · skip
    refine goes_skip ?_
    refine ends_then ?_
    refine goes_seq ?_
    refine goes_region ?_
    refine go1 (op_fieldAddr rfl Try.underlying25 rfl tk22 (.t (has rfl))) rfl ?_
    refine go1 (op_load rfl fldOptions_Files tk22 (.t (has rfl)) (has rfl)) rfl ?_
    obtain ⟨v8, h9, H⟩ := bind_some H
    refine go1 (op_call' rfl enters21 (smithyref19_names.con _ _ _ _ h9) rfl (.cons (ArgP.k (.t (has rfl))) (.cons (ArgP.k (.int _ _)) .nil))) rfl ?_
    refine go1 (op_assign rfl (.t (has rfl))) rfl ?_
    refine goesO_nil ?_
    refine ends_then ?_
    refine goes_seq ?_
    refine goes_seq ?_
    refine goes_region ?_
    refine go1 (op_move rfl (.t (has rfl))) rfl ?_
    refine go1 (op_icmp rfl rfl (.t (has rfl)) (.int _ _)) rfl ?_
    refine goesO_nil ?_
    refine ends_then ?_
    obtain ⟨s10, h11, H⟩ := bind_some H
    refine goes_cut [Ent.t 1 (VA.ptr 1 0), Ent.t 3 (VA.k (kint .i64) s10), Ent.h 1 (HE.box 25 kOptions a0)] ?_ ?_
    · replace H := h11; clear h11
      refine goes_if (.t (has rfl)) H (fun hb12 H => ?_) (fun hb12 H => ?_)
      · skip
        refine goes_region ?_
        refine go1 (op_fieldAddr rfl Try.underlying25 rfl tk22 (.t (has rfl))) rfl ?_
        refine go1 (op_load rfl fldOptions_Goals tk22 (.t (has rfl)) (has rfl)) rfl ?_
        obtain ⟨v13, h14, H⟩ := bind_some H
        refine go1 (op_call' rfl enters21 (smithyref19_names.con _ _ _ _ h14) rfl (.cons (ArgP.k (.t (has rfl))) (.cons (ArgP.k (.int _ _)) .nil))) rfl ?_
        refine go1 (op_assign rfl (.t (has rfl))) rfl ?_
        refine goesO_nil ?_
        obtain rfl := Option.some.inj H
        exact ends_cut (.cons rfl (.cons rfl (.cons rfl .nil)))
      · skip
        refine goes_skip ?_
        obtain rfl := Option.some.inj H
        exact ends_cut (.cons rfl (.cons rfl (.cons rfl .nil)))
    refine ends_then ?_
    refine goes_seq ?_
    refine goes_seq ?_
    obtain ⟨s15, h16, H⟩ := bind_some H
    refine goes_cut [Ent.t 1 (VA.ptr 1 0), Ent.t 3 (VA.k (kint .i64) s10), Ent.t 38 (VA.k kbool s15), Ent.h 1 (HE.box 25 kOptions a0)] ?_ ?_
    · replace H := h16; clear h16
      refine goes_region ?_
      refine go1 (op_move rfl (.t (has rfl))) rfl ?_
      refine go1 (op_icmp rfl rfl (.t (has rfl)) (.int _ _)) rfl ?_
      refine go1 (op_move rfl (.t (has rfl))) rfl ?_
      refine goesO_split H (fun hb17 H => ?_) (fun hb17 H => ?_)
      · skip
        refine goG (op_fieldAddr rfl Try.underlying25 rfl tk23 (.t (has rfl))) rfl rfl rfl rfl hb17 ?_
        refine goG (op_load rfl fldOptions_Macros tk23 (.t (has rfl)) (has rfl)) rfl rfl rfl rfl hb17 ?_
        refine goG (op_len rfl rfl Try.underlying23 (.t (has rfl))) rfl rfl rfl rfl hb17 ?_
        refine goG (op_icmp rfl rfl (.t (has rfl)) (.int _ _)) rfl rfl rfl rfl hb17 ?_
        refine go1 (op_pick_t rfl hb17 (.t (has rfl)) (.t (has rfl))) rfl ?_
        refine goesO_nil ?_
        obtain rfl := Option.some.inj H
        exact ends_cut (.cons rfl (.cons rfl (.cons rfl (.cons rfl .nil))))
      · skip
        refine goS rfl rfl rfl rfl rfl rfl hb17 ?_
        refine goS rfl rfl rfl rfl rfl rfl hb17 ?_
        refine goS rfl rfl rfl rfl rfl rfl hb17 ?_
        refine goS rfl rfl rfl rfl rfl rfl hb17 ?_
        refine go1 (op_pick_f rfl hb17 (.t (has rfl)) (.bool _)) rfl ?_
        refine goesO_nil ?_
        obtain rfl := Option.some.inj H
        exact ends_cut (.cons rfl (.cons rfl (.cons rfl (.cons rfl .nil))))
    refine ends_then ?_
    obtain ⟨s18, h19, H⟩ := bind_some H
    refine goes_cut [Ent.t 1 (VA.ptr 1 0), Ent.t 3 (VA.k (kint .i64) s18), Ent.h 1 (HE.box 25 kOptions a0)] ?_ ?_
    · replace H := h19; clear h19
      refine goes_if (.t (has rfl)) H (fun hb20 H => ?_) (fun hb20 H => ?_)
      · skip
        refine goes_region ?_
        refine go1 (op_assign rfl (.int _ _)) rfl ?_
        refine goesO_nil ?_
        obtain rfl := Option.some.inj H
        exact ends_cut (.cons rfl (.cons rfl (.cons rfl .nil)))
      · skip
        refine goes_skip ?_
        obtain rfl := Option.some.inj H
        exact ends_cut (.cons rfl (.cons rfl (.cons rfl .nil)))
    refine ends_then ?_
    refine goes_seq ?_
    refine goes_seq ?_
    refine goes_region ?_
    refine go1 (op_fieldAddr rfl Try.underlying25 rfl tk23 (.t (has rfl))) rfl ?_
    refine go1 (op_load rfl fldOptions_Macros tk23 (.t (has rfl)) (has rfl)) rfl ?_
    refine go1 (op_len rfl rfl Try.underlying23 (.t (has rfl))) rfl ?_
    refine go1 (op_move rfl (.int _ _)) rfl ?_
    refine goesO_nil ?_
    refine ends_then ?_
    obtain ⟨s22, h23, H⟩ := bind_some H
    refine goes_cut [Ent.t 3 (VA.k (kint .i64) s22)] ?_ ?_
    · replace H := h23; clear h23
      refine goes_block ?_
      refine goes_loop (fun s21 : Int × Int => [Ent.t 3 (VA.k (kint .i64) s21.1), Ent.t 40 (VA.k (kslice kMacro) a0.Macros), Ent.t 41 (VA.k (kint .i64) (a0.Macros.length : Int)), Ent.t 42 (VA.k (kint .i64) s21.2)]) (fun k s21 => smithyref19_Check.l0 a0 k s21) (fun _ => rfl) H (.cons rfl (.cons rfl (.cons rfl (.cons rfl .nil)))) ?_
      intro k s21 H
      simp only [smithyref19_Check.l0] at H
      refine goes_seq ?_
      refine goes_region ?_
      refine go1 (op_icmp rfl rfl (.t (has rfl)) (.t (has rfl))) rfl ?_
      refine goesO_nil ?_
      refine ends_then ?_
      refine goes_seq ?_
      refine goes_if (.t (has rfl)) H (fun hb24 H => ?_) (fun hb24 H => ?_)
      · skip
        refine goes_skip ?_
        refine ends_then ?_
        refine goes_seq ?_
        obtain ⟨s25, h26, H⟩ := bind_some H
        refine goes_cut [Ent.t 3 (VA.k (kint .i64) s25), Ent.t 40 (VA.k (kslice kMacro) a0.Macros), Ent.t 41 (VA.k (kint .i64) (a0.Macros.length : Int)), Ent.t 42 (VA.k (kint .i64) s21.2)] ?_ ?_
        · replace H := h26; clear h26
          refine goes_block ?_
          refine goes_seq ?_
          refine goes_region ?_
          obtain ⟨x27, h28, H⟩ := bind_some H
          refine go1 (op_indexAddr rfl Try.underlying23 tk58 h28 (.t (has rfl)) (.t (has rfl))) rfl ?_
          refine go1 (op_loadp rfl tk58 (.t (has rfl))) rfl ?_
          refine go3 (op_alloc 5 rfl zk58) rfl ?_
          refine go1 (op_store (Fld.whole kMacro) tk58 (.t (has rfl)) (has rfl) (.t (has rfl))) rfl ?_
          refine goesO_nil ?_
          refine ends_then ?_
          refine goes_seq ?_
          refine goes_region ?_
          refine go1 (op_fieldAddr rfl Try.underlying58 rfl tk3 (.t (has rfl))) rfl ?_
          refine go1 (op_store fldMacro_Level tk3 (.t (has rfl)) (has rfl) (.int _ _)) rfl ?_
          refine goesO_nil ?_
          refine ends_then ?_
          refine goes_seq ?_
          refine goes_region ?_
          refine go1 (op_move rfl (.t (has rfl))) rfl ?_
          refine go1 (op_icmp rfl rfl (.t (has rfl)) (.int _ _)) rfl ?_
          refine goesO_nil ?_
          refine ends_then ?_
          refine goes_if (.t (has rfl)) H (fun hb29 H => ?_) (fun hb29 H => ?_)
          · skip
            refine goes_region ?_
            refine go1 (op_load rfl (Fld.whole kMacro) tk58 (.t (has rfl)) (has rfl)) rfl ?_
            obtain ⟨v30, h31, H⟩ := bind_some H
            refine go1 (op_call' rfl enters22 (smithyref05_One.con _ _ _ h31) rfl (.cons (ArgP.k (.t (has rfl))) .nil)) rfl ?_
            refine go1 (op_assign rfl (.t (has rfl))) rfl ?_
            refine goesO_nil ?_
            refine ends_block ?_
            obtain rfl := Option.some.inj H
            exact ends_cut (.cons rfl (.cons rfl (.cons rfl (.cons rfl .nil))))
          · skip
            refine goes_skip ?_
            refine ends_block ?_
            obtain rfl := Option.some.inj H
            exact ends_cut (.cons rfl (.cons rfl (.cons rfl (.cons rfl .nil))))
        refine ends_then ?_
        refine goes_region ?_
        refine go1 (op_add rfl (.t (has rfl)) (.int _ _)) rfl ?_
        refine go1 (op_move rfl (.t (has rfl))) rfl ?_
        refine goesO_nil ?_
        exact loop_next _ H (.cons rfl (.cons rfl (.cons rfl (.cons rfl .nil))))
      · skip
        refine goes_exit (ends_then_exit (ends_then_exit (ends_block_exit ?_)))
        obtain rfl := Option.some.inj H
        exact ends_cut (.cons rfl .nil)
    refine ends_then ?_
    refine goes_seq ?_
    refine goes_region ?_
    refine go1 (op_move rfl (.t (has rfl))) rfl ?_
    refine go1 (op_assign rfl (.t (has rfl))) rfl ?_
    refine goesO_nil ?_
    refine ends_then ?_
    obtain rfl := Option.some.inj H
    exact goes_ret (ends_ret' rfl rfl (.t rfl (.nil _)))
theorem smithyref19_Check.conF (k : Nat) (a0 : Options) (r : Int) (H : smithyref19_Check.f k a0 = some r) : ConF Try.prog 7 [VA.k kOptions a0] [VA.k (kint .i64) r] := (smithyref19_Check.con k a0 r H).freeL (.cons (KFree.k (KFree.int .i64) _) .nil)
/-! smithy/smithyref02.Name -/
def smithyref02_Name.l0 (a0 : ByteArray) : Nat → Int → Option (Except Bool Unit)
  | 0, _ => none
  | k + 1, s1 => bif icmp .lss s1 (a0.size : Int) then ((bidx a0 s1).bind fun x6 => (bif icmp .geq x6 (97 : Int) then (bif icmp .leq x6 (122 : Int) then (some true) else (bif icmp .geq x6 (65 : Int) then (bif icmp .leq x6 (90 : Int) then (some true) else (bif icmp .geq x6 (48 : Int) then (some (icmp .leq x6 (57 : Int))) else (some false))) else (bif icmp .geq x6 (48 : Int) then (some (icmp .leq x6 (57 : Int))) else (some false)))) else (bif icmp .geq x6 (65 : Int) then (bif icmp .leq x6 (90 : Int) then (some true) else (bif icmp .geq x6 (48 : Int) then (some (icmp .leq x6 (57 : Int))) else (some false))) else (bif icmp .geq x6 (48 : Int) then (some (icmp .leq x6 (57 : Int))) else (some false)))).bind fun s8 => (bif !s8 then (bif icmp .neq x6 (95 : Int) then (bif icmp .neq x6 (45 : Int) then (bif icmp .neq x6 (46 : Int) then (bif icmp .neq x6 (47 : Int) then (some (icmp .neq x6 (43 : Int))) else (some false)) else (some false)) else (some false)) else (some false)) else (some false)).bind fun s20 => bif s20 then (some (Except.error false)) else (smithyref02_Name.l0 a0 k (IntKind.i64.wrap (s1 + (1 : Int))))) else (some (Except.ok ()))
def smithyref02_Name.f (k : Nat) (a0 : ByteArray) : Option Bool := (smithyref02_Name.l0 a0 k (0 : Int)).bind fun o4 => match o4 with | .error r' => some r' | .ok s2 => ((bif icmp .gtr (a0.size : Int) (0 : Int) then (some (icmp .leq (a0.size : Int) (64 : Int))) else (some false)).bind fun s28 => some s28)
set_option maxRecDepth 100000 in
set_option maxHeartbeats 4000000 in
theorem smithyref02_Name.con (k : Nat) (a0 : ByteArray) (r : Bool) (H : smithyref02_Name.f k a0 = some r) : Con Try.prog 23 [VA.k kstr a0] [VA.k kbool r] := by
  unfold smithyref02_Name.f at H
  refine con_enter Try.func23 rfl rfl rfl (fun w0 S0 θ => ?_)
  refine goes_seq ?_
  refine goes_region ?_
  refine go1 (op_assign rfl (.bool _)) rfl ?_
  refine goesO_nil ?_
  refine ends_then ?_
  refine goes_seq ?_
  refine goes_seq ?_
  refine goes_region ?_
  refine go1 (op_assign rfl (.int _ _)) rfl ?_
  refine goesO_nil ?_
  refine ends_then ?_
  obtain ⟨o4, h3, H⟩ := bind_some H
  refine goes_cutR (o := o4) (fun s2 : Unit => [Ent.t 0 (VA.k kstr a0)]) (fun r a w => bodyPost Try.prog Try.f23 (CPost w0 S0 θ [VA.k kbool r]) .ret a w) ?_ ?_ ?_
  · replace H := h3; clear h3
    refine goes_block ?_
    refine goes_loop (fun s1 : Int => [Ent.t 0 (VA.k kstr a0), Ent.t 3 (VA.k (kint .i64) s1)]) (fun k s1 => smithyref02_Name.l0 a0 k s1) (fun _ => rfl) H (.cons rfl (.cons rfl .nil)) ?_
    intro k s1 H
    simp only [smithyref02_Name.l0] at H
    refine goes_seq ?_
    refine goes_seq ?_
    refine goes_region ?_
    refine go1 (op_move rfl (.t (has rfl))) rfl ?_
    refine go1 (op_move rfl (.t (has rfl))) rfl ?_
    refine go1 (op_len_str rfl rfl Try.underlying9 (.t (has rfl))) rfl ?_
    refine go1 (op_icmp rfl rfl (.t (has rfl)) (.t (has rfl))) rfl ?_
    refine goesO_nil ?_
    refine ends_then ?_
    refine goes_if (.t (has rfl)) H (fun hb5 H => ?_) (fun hb5 H => ?_)
    · skip
      refine goes_skip ?_
      refine ends_then ?_
      refine goes_seq ?_
      refine goes_block ?_
      refine goes_seq ?_
      refine goes_region ?_
      refine go1 (op_move rfl (.t (has rfl))) rfl ?_
      refine go1 (op_move rfl (.t (has rfl))) rfl ?_
      obtain ⟨x6, h7, H⟩ := bind_some H
      refine go1 (op_index_str rfl Try.underlying9 h7 (.t (has rfl)) (.t (has rfl))) rfl ?_
      refine go1 (op_assign rfl (.t (has rfl))) rfl ?_
      refine goesO_nil ?_
      refine ends_then ?_
      refine goes_seq ?_
      obtain ⟨s8, h9, H⟩ := bind_some H
      refine goes_cut [Ent.t 0 (VA.k kstr a0), Ent.t 3 (VA.k (kint .i64) s1), Ent.t 4 (VA.k (kint .u8) x6), Ent.t 5 (VA.k kbool s8)] ?_ ?_
      · replace H := h9; clear h9
        refine goes_region ?_
        refine go1 (op_move rfl (.t (has rfl))) rfl ?_
        refine go1 (op_icmp rfl rfl (.t (has rfl)) (.int _ _)) rfl ?_
        refine go1 (op_move rfl (.t (has rfl))) rfl ?_
        refine goesO_split H (fun hb10 H => ?_) (fun hb10 H => ?_)
        · skip
          refine goG (op_move rfl (.t (has rfl))) rfl rfl rfl rfl hb10 ?_
          refine goG (op_icmp rfl rfl (.t (has rfl)) (.int _ _)) rfl rfl rfl rfl hb10 ?_
          refine go1 (op_pick_t rfl hb10 (.t (has rfl)) (.t (has rfl))) rfl ?_
          refine go1 (op_move rfl (.t (has rfl))) rfl ?_
          refine goesO_split H (fun hb11 H => ?_) (fun hb11 H => ?_)
          · skip
            refine goS rfl rfl rfl rfl rfl rfl hb11 ?_
            refine goS rfl rfl rfl rfl rfl rfl hb11 ?_
            refine goS rfl rfl rfl rfl rfl rfl hb11 ?_
            refine goSU rfl rfl rfl rfl rfl rfl ?_
            refine goSU rfl rfl rfl rfl rfl rfl ?_
            refine goS rfl rfl rfl rfl rfl rfl hb11 ?_
            refine go1 (op_pick_t rfl hb11 (.t (has rfl)) (.bool _)) rfl ?_
            refine go1 (op_move rfl (.t (has rfl))) rfl ?_
            refine goS rfl rfl rfl rfl rfl rfl rfl ?_
            refine goS rfl rfl rfl rfl rfl rfl rfl ?_
            refine goS rfl rfl rfl rfl rfl rfl rfl ?_
            refine goSU rfl rfl rfl rfl rfl rfl ?_
            refine goSU rfl rfl rfl rfl rfl rfl ?_
            refine goS rfl rfl rfl rfl rfl rfl rfl ?_
            refine go1 (op_pick_t rfl rfl (.t (has rfl)) (.bool _)) rfl ?_
            refine go1 (op_assign rfl (.t (has rfl))) rfl ?_
            refine goesO_nil ?_
            obtain rfl := Option.some.inj H
            exact ends_cut (.cons rfl (.cons rfl (.cons rfl (.cons rfl .nil))))
          · skip
            refine goG (op_move rfl (.t (has rfl))) rfl rfl rfl rfl hb11 ?_
            refine goG (op_icmp rfl rfl (.t (has rfl)) (.int _ _)) rfl rfl rfl rfl hb11 ?_
            refine goG (op_move rfl (.t (has rfl))) rfl rfl rfl rfl hb11 ?_
            refine goesO_split H (fun hb12 H => ?_) (fun hb12 H => ?_)
            · skip
              refine goG (op_move rfl (.t (has rfl))) rfl rfl rfl rfl hb12 ?_
              refine goG (op_icmp rfl rfl (.t (has rfl)) (.int _ _)) rfl rfl rfl rfl hb12 ?_
              refine goG (op_pick_t rfl hb12 (.t (has rfl)) (.t (has rfl))) rfl rfl rfl rfl hb11 ?_
              refine go1 (op_pick_f rfl hb11 (.t (has rfl)) (.t (has rfl))) rfl ?_
              refine go1 (op_move rfl (.t (has rfl))) rfl ?_
              refine goesO_split H (fun hb13 H => ?_) (fun hb13 H => ?_)
              · skip
                refine goS rfl rfl rfl rfl rfl rfl hb13 ?_
                refine goS rfl rfl rfl rfl rfl rfl hb13 ?_
                refine goS rfl rfl rfl rfl rfl rfl hb13 ?_
                refine goSU rfl rfl rfl rfl rfl rfl ?_
                refine goSU rfl rfl rfl rfl rfl rfl ?_
                refine goS rfl rfl rfl rfl rfl rfl hb13 ?_
                refine go1 (op_pick_t rfl hb13 (.t (has rfl)) (.bool _)) rfl ?_
                refine go1 (op_assign rfl (.t (has rfl))) rfl ?_
                refine goesO_nil ?_
                obtain rfl := Option.some.inj H
                exact ends_cut (.cons rfl (.cons rfl (.cons rfl (.cons rfl .nil))))
              · skip
                refine goG (op_move rfl (.t (has rfl))) rfl rfl rfl rfl hb13 ?_
                refine goG (op_icmp rfl rfl (.t (has rfl)) (.int _ _)) rfl rfl rfl rfl hb13 ?_
                refine goG (op_move rfl (.t (has rfl))) rfl rfl rfl rfl hb13 ?_
                refine goesO_split H (fun hb14 H => ?_) (fun hb14 H => ?_)
                · skip
                  refine goG (op_move rfl (.t (has rfl))) rfl rfl rfl rfl hb14 ?_
                  refine goG (op_icmp rfl rfl (.t (has rfl)) (.int _ _)) rfl rfl rfl rfl hb14 ?_
                  refine goG (op_pick_t rfl hb14 (.t (has rfl)) (.t (has rfl))) rfl rfl rfl rfl hb13 ?_
                  refine go1 (op_pick_f rfl hb13 (.t (has rfl)) (.t (has rfl))) rfl ?_
                  refine go1 (op_assign rfl (.t (has rfl))) rfl ?_
                  refine goesO_nil ?_
                  obtain rfl := Option.some.inj H
                  exact ends_cut (.cons rfl (.cons rfl (.cons rfl (.cons rfl .nil))))
                · skip
                  refine goS rfl rfl rfl rfl rfl rfl hb14 ?_
                  refine goS rfl rfl rfl rfl rfl rfl hb14 ?_
                  refine goG (op_pick_f rfl hb14 (.t (has rfl)) (.bool _)) rfl rfl rfl rfl hb13 ?_
                  refine go1 (op_pick_f rfl hb13 (.t (has rfl)) (.t (has rfl))) rfl ?_
                  refine go1 (op_assign rfl (.t (has rfl))) rfl ?_
                  refine goesO_nil ?_
                  obtain rfl := Option.some.inj H
                  exact ends_cut (.cons rfl (.cons rfl (.cons rfl (.cons rfl .nil))))
            · skip
              refine goS rfl rfl rfl rfl rfl rfl hb12 ?_
              refine goS rfl rfl rfl rfl rfl rfl hb12 ?_
              refine goG (op_pick_f rfl hb12 (.t (has rfl)) (.bool _)) rfl rfl rfl rfl hb11 ?_
              refine go1 (op_pick_f rfl hb11 (.t (has rfl)) (.t (has rfl))) rfl ?_
              refine go1 (op_move rfl (.t (has rfl))) rfl ?_
              refine goG (op_move rfl (.t (has rfl))) rfl rfl rfl rfl rfl ?_
              refine goG (op_icmp rfl rfl (.t (has rfl)) (.int _ _)) rfl rfl rfl rfl rfl ?_
              refine goG (op_move rfl (.t (has rfl))) rfl rfl rfl rfl rfl ?_
              refine goesO_split H (fun hb15 H => ?_) (fun hb15 H => ?_)
              · skip
                refine goG (op_move rfl (.t (has rfl))) rfl rfl rfl rfl hb15 ?_
                refine goG (op_icmp rfl rfl (.t (has rfl)) (.int _ _)) rfl rfl rfl rfl hb15 ?_
                refine goG (op_pick_t rfl hb15 (.t (has rfl)) (.t (has rfl))) rfl rfl rfl rfl rfl ?_
                refine go1 (op_pick_f rfl rfl (.t (has rfl)) (.t (has rfl))) rfl ?_
                refine go1 (op_assign rfl (.t (has rfl))) rfl ?_
                refine goesO_nil ?_
                obtain rfl := Option.some.inj H
                exact ends_cut (.cons rfl (.cons rfl (.cons rfl (.cons rfl .nil))))
              · skip
                refine goS rfl rfl rfl rfl rfl rfl hb15 ?_
                refine goS rfl rfl rfl rfl rfl rfl hb15 ?_
                refine goG (op_pick_f rfl hb15 (.t (has rfl)) (.bool _)) rfl rfl rfl rfl rfl ?_
                refine go1 (op_pick_f rfl rfl (.t (has rfl)) (.t (has rfl))) rfl ?_
                refine go1 (op_assign rfl (.t (has rfl))) rfl ?_
                refine goesO_nil ?_
                obtain rfl := Option.some.inj H
                exact ends_cut (.cons rfl (.cons rfl (.cons rfl (.cons rfl .nil))))
        · skip
          refine goS rfl rfl rfl rfl rfl rfl hb10 ?_
          refine goS rfl rfl rfl rfl rfl rfl hb10 ?_
          refine go1 (op_pick_f rfl hb10 (.t (has rfl)) (.bool _)) rfl ?_
          refine go1 (op_move rfl (.t (has rfl))) rfl ?_
          refine goG (op_move rfl (.t (has rfl))) rfl rfl rfl rfl rfl ?_
          refine goG (op_icmp rfl rfl (.t (has rfl)) (.int _ _)) rfl rfl rfl rfl rfl ?_
          refine goG (op_move rfl (.t (has rfl))) rfl rfl rfl rfl rfl ?_
          refine goesO_split H (fun hb16 H => ?_) (fun hb16 H => ?_)
          · skip
            refine goG (op_move rfl (.t (has rfl))) rfl rfl rfl rfl hb16 ?_
            refine goG (op_icmp rfl rfl (.t (has rfl)) (.int _ _)) rfl rfl rfl rfl hb16 ?_
            refine goG (op_pick_t rfl hb16 (.t (has rfl)) (.t (has rfl))) rfl rfl rfl rfl rfl ?_
            refine go1 (op_pick_f rfl rfl (.t (has rfl)) (.t (has rfl))) rfl ?_
            refine go1 (op_move rfl (.t (has rfl))) rfl ?_
            refine goesO_split H (fun hb17 H => ?_) (fun hb17 H => ?_)
            · skip
              refine goS rfl rfl rfl rfl rfl rfl hb17 ?_
              refine goS rfl rfl rfl rfl rfl rfl hb17 ?_
              refine goS rfl rfl rfl rfl rfl rfl hb17 ?_
              refine goSU rfl rfl rfl rfl rfl rfl ?_
              refine goSU rfl rfl rfl rfl rfl rfl ?_
              refine goS rfl rfl rfl rfl rfl rfl hb17 ?_
              refine go1 (op_pick_t rfl hb17 (.t (has rfl)) (.bool _)) rfl ?_
              refine go1 (op_assign rfl (.t (has rfl))) rfl ?_
              refine goesO_nil ?_
              obtain rfl := Option.some.inj H
              exact ends_cut (.cons rfl (.cons rfl (.cons rfl (.cons rfl .nil))))
            · skip
              refine goG (op_move rfl (.t (has rfl))) rfl rfl rfl rfl hb17 ?_
              refine goG (op_icmp rfl rfl (.t (has rfl)) (.int _ _)) rfl rfl rfl rfl hb17 ?_
              refine goG (op_move rfl (.t (has rfl))) rfl rfl rfl rfl hb17 ?_
              refine goesO_split H (fun hb18 H => ?_) (fun hb18 H => ?_)
              · skip
                refine goG (op_move rfl (.t (has rfl))) rfl rfl rfl rfl hb18 ?_
                refine goG (op_icmp rfl rfl (.t (has rfl)) (.int _ _)) rfl rfl rfl rfl hb18 ?_
                refine goG (op_pick_t rfl hb18 (.t (has rfl)) (.t (has rfl))) rfl rfl rfl rfl hb17 ?_
                refine go1 (op_pick_f rfl hb17 (.t (has rfl)) (.t (has rfl))) rfl ?_
                refine go1 (op_assign rfl (.t (has rfl))) rfl ?_
                refine goesO_nil ?_
                obtain rfl := Option.some.inj H
                exact ends_cut (.cons rfl (.cons rfl (.cons rfl (.cons rfl .nil))))
              · skip
                refine goS rfl rfl rfl rfl rfl rfl hb18 ?_
                refine goS rfl rfl rfl rfl rfl rfl hb18 ?_
                refine goG (op_pick_f rfl hb18 (.t (has rfl)) (.bool _)) rfl rfl rfl rfl hb17 ?_
                refine go1 (op_pick_f rfl hb17 (.t (has rfl)) (.t (has rfl))) rfl ?_
                refine go1 (op_assign rfl (.t (has rfl))) rfl ?_
                refine goesO_nil ?_
                obtain rfl := Option.some.inj H
                exact ends_cut (.cons rfl (.cons rfl (.cons rfl (.cons rfl .nil))))
          · skip
            refine goS rfl rfl rfl rfl rfl rfl hb16 ?_
            refine goS rfl rfl rfl rfl rfl rfl hb16 ?_
            refine goG (op_pick_f rfl hb16 (.t (has rfl)) (.bool _)) rfl rfl rfl rfl rfl ?_
            refine go1 (op_pick_f rfl rfl (.t (has rfl)) (.t (has rfl))) rfl ?_
            refine go1 (op_move rfl (.t (has rfl))) rfl ?_
            refine goG (op_move rfl (.t (has rfl))) rfl rfl rfl rfl rfl ?_
            refine goG (op_icmp rfl rfl (.t (has rfl)) (.int _ _)) rfl rfl rfl rfl rfl ?_
            refine goG (op_move rfl (.t (has rfl))) rfl rfl rfl rfl rfl ?_
            refine goesO_split H (fun hb19 H => ?_) (fun hb19 H => ?_)
            · skip
              refine goG (op_move rfl (.t (has rfl))) rfl rfl rfl rfl hb19 ?_
              refine goG (op_icmp rfl rfl (.t (has rfl)) (.int _ _)) rfl rfl rfl rfl hb19 ?_
              refine goG (op_pick_t rfl hb19 (.t (has rfl)) (.t (has rfl))) rfl rfl rfl rfl rfl ?_
              refine go1 (op_pick_f rfl rfl (.t (has rfl)) (.t (has rfl))) rfl ?_
              refine go1 (op_assign rfl (.t (has rfl))) rfl ?_
              refine goesO_nil ?_
              obtain rfl := Option.some.inj H
              exact ends_cut (.cons rfl (.cons rfl (.cons rfl (.cons rfl .nil))))
            · skip
              refine goS rfl rfl rfl rfl rfl rfl hb19 ?_
              refine goS rfl rfl rfl rfl rfl rfl hb19 ?_
              refine goG (op_pick_f rfl hb19 (.t (has rfl)) (.bool _)) rfl rfl rfl rfl rfl ?_
              refine go1 (op_pick_f rfl rfl (.t (has rfl)) (.t (has rfl))) rfl ?_
              refine go1 (op_assign rfl (.t (has rfl))) rfl ?_
              refine goesO_nil ?_
              obtain rfl := Option.some.inj H
              exact ends_cut (.cons rfl (.cons rfl (.cons rfl (.cons rfl .nil))))
      refine ends_then ?_
      refine goes_seq ?_
      obtain ⟨s20, h21, H⟩ := bind_some H
      refine goes_cut [Ent.t 0 (VA.k kstr a0), Ent.t 3 (VA.k (kint .i64) s1), Ent.t 58 (VA.k kbool s20)] ?_ ?_
      · replace H := h21; clear h21
        refine goes_region ?_
        refine go1 (op_move rfl (.t (has rfl))) rfl ?_
        refine go1 (op_not rfl (.t (has rfl))) rfl ?_
        refine go1 (op_move rfl (.t (has rfl))) rfl ?_
        refine goesO_split H (fun hb22 H => ?_) (fun hb22 H => ?_)
        · skip
          refine goG (op_move rfl (.t (has rfl))) rfl rfl rfl rfl hb22 ?_
          refine goG (op_icmp rfl rfl (.t (has rfl)) (.int _ _)) rfl rfl rfl rfl hb22 ?_
          refine go1 (op_pick_t rfl hb22 (.t (has rfl)) (.t (has rfl))) rfl ?_
          refine go1 (op_move rfl (.t (has rfl))) rfl ?_
          refine goesO_split H (fun hb23 H => ?_) (fun hb23 H => ?_)
          · skip
            refine goG (op_move rfl (.t (has rfl))) rfl rfl rfl rfl hb23 ?_
            refine goG (op_icmp rfl rfl (.t (has rfl)) (.int _ _)) rfl rfl rfl rfl hb23 ?_
            refine go1 (op_pick_t rfl hb23 (.t (has rfl)) (.t (has rfl))) rfl ?_
            refine go1 (op_move rfl (.t (has rfl))) rfl ?_
            refine goesO_split H (fun hb24 H => ?_) (fun hb24 H => ?_)
            · skip
              refine goG (op_move rfl (.t (has rfl))) rfl rfl rfl rfl hb24 ?_
              refine goG (op_icmp rfl rfl (.t (has rfl)) (.int _ _)) rfl rfl rfl rfl hb24 ?_
              refine go1 (op_pick_t rfl hb24 (.t (has rfl)) (.t (has rfl))) rfl ?_
              refine go1 (op_move rfl (.t (has rfl))) rfl ?_
              refine goesO_split H (fun hb25 H => ?_) (fun hb25 H => ?_)
              · skip
                refine goG (op_move rfl (.t (has rfl))) rfl rfl rfl rfl hb25 ?_
                refine goG (op_icmp rfl rfl (.t (has rfl)) (.int _ _)) rfl rfl rfl rfl hb25 ?_
                refine go1 (op_pick_t rfl hb25 (.t (has rfl)) (.t (has rfl))) rfl ?_
                refine go1 (op_move rfl (.t (has rfl))) rfl ?_
                refine goesO_split H (fun hb26 H => ?_) (fun hb26 H => ?_)
                · skip
                  refine goG (op_move rfl (.t (has rfl))) rfl rfl rfl rfl hb26 ?_
                  refine goG (op_icmp rfl rfl (.t (has rfl)) (.int _ _)) rfl rfl rfl rfl hb26 ?_
                  refine go1 (op_pick_t rfl hb26 (.t (has rfl)) (.t (has rfl))) rfl ?_
                  refine goesO_nil ?_
                  obtain rfl := Option.some.inj H
                  exact ends_cut (.cons rfl (.cons rfl (.cons rfl .nil)))
                · skip
                  refine goS rfl rfl rfl rfl rfl rfl hb26 ?_
                  refine goS rfl rfl rfl rfl rfl rfl hb26 ?_
                  refine go1 (op_pick_f rfl hb26 (.t (has rfl)) (.bool _)) rfl ?_
                  refine goesO_nil ?_
                  obtain rfl := Option.some.inj H
                  exact ends_cut (.cons rfl (.cons rfl (.cons rfl .nil)))
              · skip
                refine goS rfl rfl rfl rfl rfl rfl hb25 ?_
                refine goS rfl rfl rfl rfl rfl rfl hb25 ?_
                refine go1 (op_pick_f rfl hb25 (.t (has rfl)) (.bool _)) rfl ?_
                refine go1 (op_move rfl (.t (has rfl))) rfl ?_
                refine goS rfl rfl rfl rfl rfl rfl rfl ?_
                refine goS rfl rfl rfl rfl rfl rfl rfl ?_
                refine go1 (op_pick_f rfl rfl (.t (has rfl)) (.bool _)) rfl ?_
                refine goesO_nil ?_
                obtain rfl := Option.some.inj H
                exact ends_cut (.cons rfl (.cons rfl (.cons rfl .nil)))
            · skip
              refine goS rfl rfl rfl rfl rfl rfl hb24 ?_
              refine goS rfl rfl rfl rfl rfl rfl hb24 ?_
              refine go1 (op_pick_f rfl hb24 (.t (has rfl)) (.bool _)) rfl ?_
              refine go1 (op_move rfl (.t (has rfl))) rfl ?_
              refine goS rfl rfl rfl rfl rfl rfl rfl ?_
              refine goS rfl rfl rfl rfl rfl rfl rfl ?_
              refine go1 (op_pick_f rfl rfl (.t (has rfl)) (.bool _)) rfl ?_
              refine go1 (op_move rfl (.t (has rfl))) rfl ?_
              refine goS rfl rfl rfl rfl rfl rfl rfl ?_
              refine goS rfl rfl rfl rfl rfl rfl rfl ?_
              refine go1 (op_pick_f rfl rfl (.t (has rfl)) (.bool _)) rfl ?_
              refine goesO_nil ?_
              obtain rfl := Option.some.inj H
              exact ends_cut (.cons rfl (.cons rfl (.cons rfl .nil)))
          · skip
            refine goS rfl rfl rfl rfl rfl rfl hb23 ?_
            refine goS rfl rfl rfl rfl rfl rfl hb23 ?_
            refine go1 (op_pick_f rfl hb23 (.t (has rfl)) (.bool _)) rfl ?_
            refine go1 (op_move rfl (.t (has rfl))) rfl ?_
            refine goS rfl rfl rfl rfl rfl rfl rfl ?_
            refine goS rfl rfl rfl rfl rfl rfl rfl ?_
            refine go1 (op_pick_f rfl rfl (.t (has rfl)) (.bool _)) rfl ?_
            refine go1 (op_move rfl (.t (has rfl))) rfl ?_
            refine goS rfl rfl rfl rfl rfl rfl rfl ?_
            refine goS rfl rfl rfl rfl rfl rfl rfl ?_
            refine go1 (op_pick_f rfl rfl (.t (has rfl)) (.bool _)) rfl ?_
            refine go1 (op_move rfl (.t (has rfl))) rfl ?_
            refine goS rfl rfl rfl rfl rfl rfl rfl ?_
            refine goS rfl rfl rfl rfl rfl rfl rfl ?_
            refine go1 (op_pick_f rfl rfl (.t (has rfl)) (.bool _)) rfl ?_
            refine goesO_nil ?_
            obtain rfl := Option.some.inj H
            exact ends_cut (.cons rfl (.cons rfl (.cons rfl .nil)))
        · skip
          refine goS rfl rfl rfl rfl rfl rfl hb22 ?_
          refine goS rfl rfl rfl rfl rfl rfl hb22 ?_
          refine go1 (op_pick_f rfl hb22 (.t (has rfl)) (.bool _)) rfl ?_
          refine go1 (op_move rfl (.t (has rfl))) rfl ?_
          refine goS rfl rfl rfl rfl rfl rfl rfl ?_
          refine goS rfl rfl rfl rfl rfl rfl rfl ?_
          refine go1 (op_pick_f rfl rfl (.t (has rfl)) (.bool _)) rfl ?_
          refine go1 (op_move rfl (.t (has rfl))) rfl ?_
          refine goS rfl rfl rfl rfl rfl rfl rfl ?_
          refine goS rfl rfl rfl rfl rfl rfl rfl ?_
          refine go1 (op_pick_f rfl rfl (.t (has rfl)) (.bool _)) rfl ?_
          refine go1 (op_move rfl (.t (has rfl))) rfl ?_
          refine goS rfl rfl rfl rfl rfl rfl rfl ?_
          refine goS rfl rfl rfl rfl rfl rfl rfl ?_
          refine go1 (op_pick_f rfl rfl (.t (has rfl)) (.bool _)) rfl ?_
          refine go1 (op_move rfl (.t (has rfl))) rfl ?_
          refine goS rfl rfl rfl rfl rfl rfl rfl ?_
          refine goS rfl rfl rfl rfl rfl rfl rfl ?_
          refine go1 (op_pick_f rfl rfl (.t (has rfl)) (.bool _)) rfl ?_
          refine goesO_nil ?_
          obtain rfl := Option.some.inj H
          exact ends_cut (.cons rfl (.cons rfl (.cons rfl .nil)))
      refine ends_then ?_
      refine goes_if (.t (has rfl)) H (fun hb27 H => ?_) (fun hb27 H => ?_)
      · skip
        refine goes_seq ?_
        refine goes_region ?_
        refine go1 (op_assign rfl (.bool _)) rfl ?_
        refine goesO_nil ?_
        refine ends_then ?_
        obtain rfl := Option.some.inj H
        refine goes_ret (ends_block_ret (ends_then_ret (ends_then_ret (ends_block_ret (ends_cutR_ret rfl ?_)))))
        exact ends_ret' rfl rfl (.t rfl (.nil _))
      · skip
        refine goes_skip ?_
        refine ends_block ?_
        refine ends_then ?_
        refine goes_region ?_
        refine go1 (op_move rfl (.t (has rfl))) rfl ?_
        refine go1 (op_add rfl (.t (has rfl)) (.int _ _)) rfl ?_
        refine go1 (op_assign rfl (.t (has rfl))) rfl ?_
        refine goesO_nil ?_
        exact loop_next _ H (.cons rfl (.cons rfl .nil))
    · skip
      refine goes_exit (ends_then_exit (ends_then_exit (ends_block_exit ?_)))
      obtain rfl := Option.some.inj H
      exact ends_cutR rfl (.cons rfl .nil)
  · rintro s2 rfl
    clear h3
    dsimp only at H
    refine ends_then ?_
    refine goes_seq ?_
    obtain ⟨s28, h29, H⟩ := bind_some H
    refine goes_cut [Ent.t 2 (VA.k kbool s28)] ?_ ?_
    · replace H := h29; clear h29
      refine goes_region ?_
      refine go1 (op_move rfl (.t (has rfl))) rfl ?_
      refine go1 (op_len_str rfl rfl Try.underlying9 (.t (has rfl))) rfl ?_
      refine go1 (op_icmp rfl rfl (.t (has rfl)) (.int _ _)) rfl ?_
      refine go1 (op_move rfl (.t (has rfl))) rfl ?_
      refine goesO_split H (fun hb30 H => ?_) (fun hb30 H => ?_)
      · skip
        refine goG (op_move rfl (.t (has rfl))) rfl rfl rfl rfl hb30 ?_
        refine goG (op_len_str rfl rfl Try.underlying9 (.t (has rfl))) rfl rfl rfl rfl hb30 ?_
        refine goG (op_icmp rfl rfl (.t (has rfl)) (.int _ _)) rfl rfl rfl rfl hb30 ?_
        refine go1 (op_pick_t rfl hb30 (.t (has rfl)) (.t (has rfl))) rfl ?_
        refine go1 (op_assign rfl (.t (has rfl))) rfl ?_
        refine goesO_nil ?_
        obtain rfl := Option.some.inj H
        exact ends_cut (.cons rfl .nil)
      · skip
        refine goS rfl rfl rfl rfl rfl rfl hb30 ?_
        refine goS rfl rfl rfl rfl rfl rfl hb30 ?_
        refine goS rfl rfl rfl rfl rfl rfl hb30 ?_
        refine go1 (op_pick_f rfl hb30 (.t (has rfl)) (.bool _)) rfl ?_
        refine go1 (op_assign rfl (.t (has rfl))) rfl ?_
        refine goesO_nil ?_
        obtain rfl := Option.some.inj H
        exact ends_cut (.cons rfl .nil)
    refine ends_then ?_
    obtain rfl := Option.some.inj H
    exact goes_ret (ends_ret' rfl rfl (.t rfl (.nil _)))
  · rintro r' rfl a w hr
    obtain rfl := Option.some.inj H
    exact hr
theorem smithyref02_Name.conF (k : Nat) (a0 : ByteArray) (r : Bool) (H : smithyref02_Name.f k a0 = some r) : ConF Try.prog 23 [VA.k kstr a0] [VA.k kbool r] := (smithyref02_Name.con k a0 r H).freeL (.cons (KFree.k KFree.bool _) .nil)
/-! smithy/smithyref03.Has -/
def smithyref03_Has.l0 (a0 : List ByteArray) (a1 : ByteArray) : Nat → Int → Option (Except Bool Unit)
  | 0, _ => none
  | k + 1, s1 => bif icmp .lss s1 (a0.length : Int) then ((idx a0 s1).bind fun x6 => bif scmp .eql x6 a1 then (some (Except.error true)) else (smithyref03_Has.l0 a0 a1 k (IntKind.i64.wrap (s1 + (1 : Int))))) else (some (Except.ok ()))
def smithyref03_Has.f (k : Nat) (a0 : List ByteArray) (a1 : ByteArray) : Option Bool := (smithyref03_Has.l0 a0 a1 k (0 : Int)).bind fun o4 => match o4 with | .error r' => some r' | .ok s2 => (some false)
set_option maxRecDepth 100000 in
set_option maxHeartbeats 4000000 in
theorem smithyref03_Has.con (k : Nat) (a0 : List ByteArray) (a1 : ByteArray) (r : Bool) (H : smithyref03_Has.f k a0 a1 = some r) : Con Try.prog 24 [VA.k (kslice kstr) a0, VA.k kstr a1] [VA.k kbool r] := by
  unfold smithyref03_Has.f at H
  refine con_enter Try.func24 rfl rfl rfl (fun w0 S0 θ => ?_)
  refine goes_seq ?_
  refine goes_region ?_
  refine go1 (op_assign rfl (.bool _)) rfl ?_
  refine goesO_nil ?_
  refine ends_then ?_
  refine goes_seq ?_
  refine goes_seq ?_
  refine goes_region ?_
  refine go1 (op_move rfl (.t (has rfl))) rfl ?_
  refine go1 (op_len rfl rfl Try.underlying22 (.t (has rfl))) rfl ?_
  refine go1 (op_move rfl (.int _ _)) rfl ?_
  refine goesO_nil ?_
  refine ends_then ?_
  obtain ⟨o4, h3, H⟩ := bind_some H
  refine goes_cutR (o := o4) (fun s2 : Unit => []) (fun r a w => bodyPost Try.prog Try.f24 (CPost w0 S0 θ [VA.k kbool r]) .ret a w) ?_ ?_ ?_
  · replace H := h3; clear h3
    refine goes_block ?_
    refine goes_loop (fun s1 : Int => [Ent.t 1 (VA.k kstr a1), Ent.t 7 (VA.k (kslice kstr) a0), Ent.t 8 (VA.k (kint .i64) (a0.length : Int)), Ent.t 9 (VA.k (kint .i64) s1)]) (fun k s1 => smithyref03_Has.l0 a0 a1 k s1) (fun _ => rfl) H (.cons rfl (.cons rfl (.cons rfl (.cons rfl .nil)))) ?_
    intro k s1 H
    simp only [smithyref03_Has.l0] at H
    refine goes_seq ?_
    refine goes_region ?_
    refine go1 (op_icmp rfl rfl (.t (has rfl)) (.t (has rfl))) rfl ?_
    refine goesO_nil ?_
    refine ends_then ?_
    refine goes_seq ?_
    refine goes_if (.t (has rfl)) H (fun hb5 H => ?_) (fun hb5 H => ?_)
    · skip
      refine goes_skip ?_
      refine ends_then ?_
      refine goes_seq ?_
      refine goes_block ?_
      refine goes_seq ?_
      refine goes_region ?_
      obtain ⟨x6, h7, H⟩ := bind_some H
      refine go1 (op_indexAddr rfl Try.underlying22 tk9 h7 (.t (has rfl)) (.t (has rfl))) rfl ?_
      refine go1 (op_loadp rfl tk9 (.t (has rfl))) rfl ?_
      refine go1 (op_assign rfl (.t (has rfl))) rfl ?_
      refine goesO_nil ?_
      refine ends_then ?_
      refine goes_seq ?_
      refine goes_region ?_
      refine go1 (op_move rfl (.t (has rfl))) rfl ?_
      refine go1 (op_move rfl (.t (has rfl))) rfl ?_
      refine go1 (op_scmp rfl rfl (.t (has rfl)) (.t (has rfl))) rfl ?_
      refine goesO_nil ?_
      refine ends_then ?_
      refine goes_if (.t (has rfl)) H (fun hb8 H => ?_) (fun hb8 H => ?_)
      · skip
        refine goes_seq ?_
        refine goes_region ?_
        refine go1 (op_assign rfl (.bool _)) rfl ?_
        refine goesO_nil ?_
        refine ends_then ?_
        obtain rfl := Option.some.inj H
        refine goes_ret (ends_block_ret (ends_then_ret (ends_then_ret (ends_block_ret (ends_cutR_ret rfl ?_)))))
        exact ends_ret' rfl rfl (.t rfl (.nil _))
      · skip
        refine goes_skip ?_
        refine ends_block ?_
        refine ends_then ?_
        refine goes_region ?_
        refine go1 (op_add rfl (.t (has rfl)) (.int _ _)) rfl ?_
        refine go1 (op_move rfl (.t (has rfl))) rfl ?_
        refine goesO_nil ?_
        exact loop_next _ H (.cons rfl (.cons rfl (.cons rfl (.cons rfl .nil))))
    · skip
      refine goes_exit (ends_then_exit (ends_then_exit (ends_block_exit ?_)))
      obtain rfl := Option.some.inj H
      exact ends_cutR rfl .nil
  · rintro s2 rfl
    clear h3
    dsimp only at H
    refine ends_then ?_
    refine goes_seq ?_
    refine goes_region ?_
    refine go1 (op_assign rfl (.bool _)) rfl ?_
    refine goesO_nil ?_
    refine ends_then ?_
    obtain rfl := Option.some.inj H
    exact goes_ret (ends_ret' rfl rfl (.t rfl (.nil _)))
  · rintro r' rfl a w hr
    obtain rfl := Option.some.inj H
    exact hr
theorem smithyref03_Has.conF (k : Nat) (a0 : List ByteArray) (a1 : ByteArray) (r : Bool) (H : smithyref03_Has.f k a0 a1 = some r) : ConF Try.prog 24 [VA.k (kslice kstr) a0, VA.k kstr a1] [VA.k kbool r] := (smithyref03_Has.con k a0 a1 r H).freeL (.cons (KFree.k KFree.bool _) .nil)
end Go.Proofs.Ytmmjbobicnmilaa.F
