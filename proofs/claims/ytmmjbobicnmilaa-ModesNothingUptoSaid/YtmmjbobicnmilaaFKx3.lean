import Derived.Test.YtmmjbobicnmilaaFKx2
set_option linter.unusedVariables false
set_option linter.unusedSimpArgs false
set_option linter.unnecessarySimpa false
set_option linter.deprecated false
namespace Go.Proofs.Ytmmjbobicnmilaa.F
open Go Go.RowKit Go.Proofs.Ytmmjbobicnmilaa.Sl
/-! smithy/smithyref03.letter -/
def smithyref03_letter.f (a0 : Int) : Option Bool := (bif icmp .geq a0 (65 : Int) then (bif icmp .leq a0 (90 : Int) then (some true) else (bif icmp .geq a0 (97 : Int) then (bif icmp .leq a0 (122 : Int) then (some true) else (bif icmp .geq a0 (48 : Int) then (bif icmp .leq a0 (57 : Int) then (some true) else (bif icmp .eql a0 (95 : Int) then (some true) else (bif icmp .eql a0 (45 : Int) then (some true) else (bif icmp .eql a0 (46 : Int) then (some true) else (bif icmp .eql a0 (47 : Int) then (some true) else (some (icmp .eql a0 (43 : Int)))))))) else (bif icmp .eql a0 (95 : Int) then (some true) else (bif icmp .eql a0 (45 : Int) then (some true) else (bif icmp .eql a0 (46 : Int) then (some true) else (bif icmp .eql a0 (47 : Int) then (some true) else (some (icmp .eql a0 (43 : Int))))))))) else (bif icmp .geq a0 (48 : Int) then (bif icmp .leq a0 (57 : Int) then (some true) else (bif icmp .eql a0 (95 : Int) then (some true) else (bif icmp .eql a0 (45 : Int) then (some true) else (bif icmp .eql a0 (46 : Int) then (some true) else (bif icmp .eql a0 (47 : Int) then (some true) else (some (icmp .eql a0 (43 : Int)))))))) else (bif icmp .eql a0 (95 : Int) then (some true) else (bif icmp .eql a0 (45 : Int) then (some true) else (bif icmp .eql a0 (46 : Int) then (some true) else (bif icmp .eql a0 (47 : Int) then (some true) else (some (icmp .eql a0 (43 : Int)))))))))) else (bif icmp .geq a0 (97 : Int) then (bif icmp .leq a0 (122 : Int) then (some true) else (bif icmp .geq a0 (48 : Int) then (bif icmp .leq a0 (57 : Int) then (some true) else (bif icmp .eql a0 (95 : Int) then (some true) else (bif icmp .eql a0 (45 : Int) then (some true) else (bif icmp .eql a0 (46 : Int) then (some true) else (bif icmp .eql a0 (47 : Int) then (some true) else (some (icmp .eql a0 (43 : Int)))))))) else (bif icmp .eql a0 (95 : Int) then (some true) else (bif icmp .eql a0 (45 : Int) then (some true) else (bif icmp .eql a0 (46 : Int) then (some true) else (bif icmp .eql a0 (47 : Int) then (some true) else (some (icmp .eql a0 (43 : Int))))))))) else (bif icmp .geq a0 (48 : Int) then (bif icmp .leq a0 (57 : Int) then (some true) else (bif icmp .eql a0 (95 : Int) then (some true) else (bif icmp .eql a0 (45 : Int) then (some true) else (bif icmp .eql a0 (46 : Int) then (some true) else (bif icmp .eql a0 (47 : Int) then (some true) else (some (icmp .eql a0 (43 : Int)))))))) else (bif icmp .eql a0 (95 : Int) then (some true) else (bif icmp .eql a0 (45 : Int) then (some true) else (bif icmp .eql a0 (46 : Int) then (some true) else (bif icmp .eql a0 (47 : Int) then (some true) else (some (icmp .eql a0 (43 : Int)))))))))).bind fun s1 => some s1
set_option maxRecDepth 100000 in
set_option maxHeartbeats 4000000 in
theorem smithyref03_letter.con (a0 : Int) (r : Bool) (H : smithyref03_letter.f a0 = some r) : Con Try.prog 37 [VA.k (kint .u8) a0] [VA.k kbool r] := by
  unfold smithyref03_letter.f at H
  refine con_enter Try.func37 rfl rfl rfl (fun w0 S0 θ => ?_)
  refine goes_seq ?_
  refine goes_region ?_
  refine go1 (op_assign rfl (.bool _)) rfl ?_
  refine goesO_nil ?_
  refine ends_then ?_
  refine goes_seq ?_
  obtain ⟨s1, h2, H⟩ := bind_some H
  refine goes_cut [Ent.t 2 (VA.k kbool s1)] ?_ ?_
  · replace H := h2; clear h2
    refine goes_region ?_
    refine go1 (op_move rfl (.t (has rfl))) rfl ?_
    refine go1 (op_icmp rfl rfl (.t (has rfl)) (.int _ _)) rfl ?_
    refine go1 (op_move rfl (.t (has rfl))) rfl ?_
    refine goesO_split H (fun hb3 H => ?_) (fun hb3 H => ?_)
    · skip
      refine goG (op_move rfl (.t (has rfl))) rfl rfl rfl rfl hb3 ?_
      refine goG (op_icmp rfl rfl (.t (has rfl)) (.int _ _)) rfl rfl rfl rfl hb3 ?_
      refine go1 (op_pick_t rfl hb3 (.t (has rfl)) (.t (has rfl))) rfl ?_
      refine go1 (op_move rfl (.t (has rfl))) rfl ?_
      refine goesO_split H (fun hb4 H => ?_) (fun hb4 H => ?_)
      · skip
        refine goS rfl rfl rfl rfl rfl rfl hb4 ?_
        refine goS rfl rfl rfl rfl rfl rfl hb4 ?_
        refine goS rfl rfl rfl rfl rfl rfl hb4 ?_
        refine goSU rfl rfl rfl rfl rfl rfl ?_
        refine goSU rfl rfl rfl rfl rfl rfl ?_
        refine goS rfl rfl rfl rfl rfl rfl hb4 ?_
        refine go1 (op_pick_t rfl hb4 (.t (has rfl)) (.bool _)) rfl ?_
        refine go1 (op_move rfl (.t (has rfl))) rfl ?_
        refine goS rfl rfl rfl rfl rfl rfl rfl ?_
        refine goS rfl rfl rfl rfl rfl rfl rfl ?_
        refine goS rfl rfl rfl rfl rfl rfl rfl ?_
        refine goSU rfl rfl rfl rfl rfl rfl ?_
        refine goSU rfl rfl rfl rfl rfl rfl ?_
        refine goS rfl rfl rfl rfl rfl rfl rfl ?_
        refine go1 (op_pick_t rfl rfl (.t (has rfl)) (.bool _)) rfl ?_
        refine go1 (op_move rfl (.t (has rfl))) rfl ?_
        refine goS rfl rfl rfl rfl rfl rfl rfl ?_
        refine goS rfl rfl rfl rfl rfl rfl rfl ?_
        refine go1 (op_pick_t rfl rfl (.t (has rfl)) (.bool _)) rfl ?_
        refine go1 (op_move rfl (.t (has rfl))) rfl ?_
        refine goS rfl rfl rfl rfl rfl rfl rfl ?_
        refine goS rfl rfl rfl rfl rfl rfl rfl ?_
        refine go1 (op_pick_t rfl rfl (.t (has rfl)) (.bool _)) rfl ?_
        refine go1 (op_move rfl (.t (has rfl))) rfl ?_
        refine goS rfl rfl rfl rfl rfl rfl rfl ?_
        refine goS rfl rfl rfl rfl rfl rfl rfl ?_
        refine go1 (op_pick_t rfl rfl (.t (has rfl)) (.bool _)) rfl ?_
        refine go1 (op_move rfl (.t (has rfl))) rfl ?_
        refine goS rfl rfl rfl rfl rfl rfl rfl ?_
        refine goS rfl rfl rfl rfl rfl rfl rfl ?_
        refine go1 (op_pick_t rfl rfl (.t (has rfl)) (.bool _)) rfl ?_
        refine go1 (op_move rfl (.t (has rfl))) rfl ?_
        refine goS rfl rfl rfl rfl rfl rfl rfl ?_
        refine goS rfl rfl rfl rfl rfl rfl rfl ?_
        refine go1 (op_pick_t rfl rfl (.t (has rfl)) (.bool _)) rfl ?_
        refine go1 (op_assign rfl (.t (has rfl))) rfl ?_
        refine goesO_nil ?_
        obtain rfl := Option.some.inj H
        exact ends_cut (.cons rfl .nil)
      · skip
        refine goG (op_move rfl (.t (has rfl))) rfl rfl rfl rfl hb4 ?_
        refine goG (op_icmp rfl rfl (.t (has rfl)) (.int _ _)) rfl rfl rfl rfl hb4 ?_
        refine goG (op_move rfl (.t (has rfl))) rfl rfl rfl rfl hb4 ?_
        refine goesO_split H (fun hb5 H => ?_) (fun hb5 H => ?_)
        · skip
          refine goG (op_move rfl (.t (has rfl))) rfl rfl rfl rfl hb5 ?_
          refine goG (op_icmp rfl rfl (.t (has rfl)) (.int _ _)) rfl rfl rfl rfl hb5 ?_
          refine goG (op_pick_t rfl hb5 (.t (has rfl)) (.t (has rfl))) rfl rfl rfl rfl hb4 ?_
          refine go1 (op_pick_f rfl hb4 (.t (has rfl)) (.t (has rfl))) rfl ?_
          refine go1 (op_move rfl (.t (has rfl))) rfl ?_
          refine goesO_split H (fun hb6 H => ?_) (fun hb6 H => ?_)
          · skip
            refine goS rfl rfl rfl rfl rfl rfl hb6 ?_
            refine goS rfl rfl rfl rfl rfl rfl hb6 ?_
            refine goS rfl rfl rfl rfl rfl rfl hb6 ?_
            refine goSU rfl rfl rfl rfl rfl rfl ?_
            refine goSU rfl rfl rfl rfl rfl rfl ?_
            refine goS rfl rfl rfl rfl rfl rfl hb6 ?_
            refine go1 (op_pick_t rfl hb6 (.t (has rfl)) (.bool _)) rfl ?_
            refine go1 (op_move rfl (.t (has rfl))) rfl ?_
            refine goS rfl rfl rfl rfl rfl rfl rfl ?_
            refine goS rfl rfl rfl rfl rfl rfl rfl ?_
            refine go1 (op_pick_t rfl rfl (.t (has rfl)) (.bool _)) rfl ?_
            refine go1 (op_move rfl (.t (has rfl))) rfl ?_
            refine goS rfl rfl rfl rfl rfl rfl rfl ?_
            refine goS rfl rfl rfl rfl rfl rfl rfl ?_
            refine go1 (op_pick_t rfl rfl (.t (has rfl)) (.bool _)) rfl ?_
            refine go1 (op_move rfl (.t (has rfl))) rfl ?_
            refine goS rfl rfl rfl rfl rfl rfl rfl ?_
            refine goS rfl rfl rfl rfl rfl rfl rfl ?_
            refine go1 (op_pick_t rfl rfl (.t (has rfl)) (.bool _)) rfl ?_
            refine go1 (op_move rfl (.t (has rfl))) rfl ?_
            refine goS rfl rfl rfl rfl rfl rfl rfl ?_
            refine goS rfl rfl rfl rfl rfl rfl rfl ?_
            refine go1 (op_pick_t rfl rfl (.t (has rfl)) (.bool _)) rfl ?_
            refine go1 (op_move rfl (.t (has rfl))) rfl ?_
            refine goS rfl rfl rfl rfl rfl rfl rfl ?_
            refine goS rfl rfl rfl rfl rfl rfl rfl ?_
            refine go1 (op_pick_t rfl rfl (.t (has rfl)) (.bool _)) rfl ?_
            refine go1 (op_assign rfl (.t (has rfl))) rfl ?_
            refine goesO_nil ?_
            obtain rfl := Option.some.inj H
            exact ends_cut (.cons rfl .nil)
          · skip
            refine goG (op_move rfl (.t (has rfl))) rfl rfl rfl rfl hb6 ?_
            refine goG (op_icmp rfl rfl (.t (has rfl)) (.int _ _)) rfl rfl rfl rfl hb6 ?_
            refine goG (op_move rfl (.t (has rfl))) rfl rfl rfl rfl hb6 ?_
            refine goesO_split H (fun hb7 H => ?_) (fun hb7 H => ?_)
            · skip
              refine goG (op_move rfl (.t (has rfl))) rfl rfl rfl rfl hb7 ?_
              refine goG (op_icmp rfl rfl (.t (has rfl)) (.int _ _)) rfl rfl rfl rfl hb7 ?_
              refine goG (op_pick_t rfl hb7 (.t (has rfl)) (.t (has rfl))) rfl rfl rfl rfl hb6 ?_
              refine go1 (op_pick_f rfl hb6 (.t (has rfl)) (.t (has rfl))) rfl ?_
              refine go1 (op_move rfl (.t (has rfl))) rfl ?_
              refine goesO_split H (fun hb8 H => ?_) (fun hb8 H => ?_)
              · skip
                refine goS rfl rfl rfl rfl rfl rfl hb8 ?_
                refine goS rfl rfl rfl rfl rfl rfl hb8 ?_
                refine go1 (op_pick_t rfl hb8 (.t (has rfl)) (.bool _)) rfl ?_
                refine go1 (op_move rfl (.t (has rfl))) rfl ?_
                refine goS rfl rfl rfl rfl rfl rfl rfl ?_
                refine goS rfl rfl rfl rfl rfl rfl rfl ?_
                refine go1 (op_pick_t rfl rfl (.t (has rfl)) (.bool _)) rfl ?_
                refine go1 (op_move rfl (.t (has rfl))) rfl ?_
                refine goS rfl rfl rfl rfl rfl rfl rfl ?_
                refine goS rfl rfl rfl rfl rfl rfl rfl ?_
                refine go1 (op_pick_t rfl rfl (.t (has rfl)) (.bool _)) rfl ?_
                refine go1 (op_move rfl (.t (has rfl))) rfl ?_
                refine goS rfl rfl rfl rfl rfl rfl rfl ?_
                refine goS rfl rfl rfl rfl rfl rfl rfl ?_
                refine go1 (op_pick_t rfl rfl (.t (has rfl)) (.bool _)) rfl ?_
                refine go1 (op_move rfl (.t (has rfl))) rfl ?_
                refine goS rfl rfl rfl rfl rfl rfl rfl ?_
                refine goS rfl rfl rfl rfl rfl rfl rfl ?_
                refine go1 (op_pick_t rfl rfl (.t (has rfl)) (.bool _)) rfl ?_
                refine go1 (op_assign rfl (.t (has rfl))) rfl ?_
                refine goesO_nil ?_
                obtain rfl := Option.some.inj H
                exact ends_cut (.cons rfl .nil)
              · skip
                refine goG (op_move rfl (.t (has rfl))) rfl rfl rfl rfl hb8 ?_
                refine goG (op_icmp rfl rfl (.t (has rfl)) (.int _ _)) rfl rfl rfl rfl hb8 ?_
                refine go1 (op_pick_f rfl hb8 (.t (has rfl)) (.t (has rfl))) rfl ?_
                refine go1 (op_move rfl (.t (has rfl))) rfl ?_
                refine goesO_split H (fun hb9 H => ?_) (fun hb9 H => ?_)
                · skip
                  refine goS rfl rfl rfl rfl rfl rfl hb9 ?_
                  refine goS rfl rfl rfl rfl rfl rfl hb9 ?_
                  refine go1 (op_pick_t rfl hb9 (.t (has rfl)) (.bool _)) rfl ?_
                  refine go1 (op_move rfl (.t (has rfl))) rfl ?_
                  refine goS rfl rfl rfl rfl rfl rfl rfl ?_
                  refine goS rfl rfl rfl rfl rfl rfl rfl ?_
                  refine go1 (op_pick_t rfl rfl (.t (has rfl)) (.bool _)) rfl ?_
                  refine go1 (op_move rfl (.t (has rfl))) rfl ?_
                  refine goS rfl rfl rfl rfl rfl rfl rfl ?_
                  refine goS rfl rfl rfl rfl rfl rfl rfl ?_
                  refine go1 (op_pick_t rfl rfl (.t (has rfl)) (.bool _)) rfl ?_
                  refine go1 (op_move rfl (.t (has rfl))) rfl ?_
                  refine goS rfl rfl rfl rfl rfl rfl rfl ?_
                  refine goS rfl rfl rfl rfl rfl rfl rfl ?_
                  refine go1 (op_pick_t rfl rfl (.t (has rfl)) (.bool _)) rfl ?_
                  refine go1 (op_assign rfl (.t (has rfl))) rfl ?_
                  refine goesO_nil ?_
                  obtain rfl := Option.some.inj H
                  exact ends_cut (.cons rfl .nil)
                · skip
                  refine goG (op_move rfl (.t (has rfl))) rfl rfl rfl rfl hb9 ?_
                  refine goG (op_icmp rfl rfl (.t (has rfl)) (.int _ _)) rfl rfl rfl rfl hb9 ?_
                  refine go1 (op_pick_f rfl hb9 (.t (has rfl)) (.t (has rfl))) rfl ?_
                  refine go1 (op_move rfl (.t (has rfl))) rfl ?_
                  refine goesO_split H (fun hb10 H => ?_) (fun hb10 H => ?_)
                  · skip
                    refine goS rfl rfl rfl rfl rfl rfl hb10 ?_
                    refine goS rfl rfl rfl rfl rfl rfl hb10 ?_
                    refine go1 (op_pick_t rfl hb10 (.t (has rfl)) (.bool _)) rfl ?_
                    refine go1 (op_move rfl (.t (has rfl))) rfl ?_
                    refine goS rfl rfl rfl rfl rfl rfl rfl ?_
                    refine goS rfl rfl rfl rfl rfl rfl rfl ?_
                    refine go1 (op_pick_t rfl rfl (.t (has rfl)) (.bool _)) rfl ?_
                    refine go1 (op_move rfl (.t (has rfl))) rfl ?_
                    refine goS rfl rfl rfl rfl rfl rfl rfl ?_
                    refine goS rfl rfl rfl rfl rfl rfl rfl ?_
                    refine go1 (op_pick_t rfl rfl (.t (has rfl)) (.bool _)) rfl ?_
                    refine go1 (op_assign rfl (.t (has rfl))) rfl ?_
                    refine goesO_nil ?_
                    obtain rfl := Option.some.inj H
                    exact ends_cut (.cons rfl .nil)
                  · skip
                    refine goG (op_move rfl (.t (has rfl))) rfl rfl rfl rfl hb10 ?_
                    refine goG (op_icmp rfl rfl (.t (has rfl)) (.int _ _)) rfl rfl rfl rfl hb10 ?_
                    refine go1 (op_pick_f rfl hb10 (.t (has rfl)) (.t (has rfl))) rfl ?_
                    refine go1 (op_move rfl (.t (has rfl))) rfl ?_
                    refine goesO_split H (fun hb11 H => ?_) (fun hb11 H => ?_)
                    · skip
                      refine goS rfl rfl rfl rfl rfl rfl hb11 ?_
                      refine goS rfl rfl rfl rfl rfl rfl hb11 ?_
                      refine go1 (op_pick_t rfl hb11 (.t (has rfl)) (.bool _)) rfl ?_
                      refine go1 (op_move rfl (.t (has rfl))) rfl ?_
                      refine goS rfl rfl rfl rfl rfl rfl rfl ?_
                      refine goS rfl rfl rfl rfl rfl rfl rfl ?_
                      refine go1 (op_pick_t rfl rfl (.t (has rfl)) (.bool _)) rfl ?_
                      refine go1 (op_assign rfl (.t (has rfl))) rfl ?_
                      refine goesO_nil ?_
                      obtain rfl := Option.some.inj H
                      exact ends_cut (.cons rfl .nil)
                    · skip
                      refine goG (op_move rfl (.t (has rfl))) rfl rfl rfl rfl hb11 ?_
                      refine goG (op_icmp rfl rfl (.t (has rfl)) (.int _ _)) rfl rfl rfl rfl hb11 ?_
                      refine go1 (op_pick_f rfl hb11 (.t (has rfl)) (.t (has rfl))) rfl ?_
                      refine go1 (op_move rfl (.t (has rfl))) rfl ?_
                      refine goesO_split H (fun hb12 H => ?_) (fun hb12 H => ?_)
                      · skip
                        refine goS rfl rfl rfl rfl rfl rfl hb12 ?_
                        refine goS rfl rfl rfl rfl rfl rfl hb12 ?_
                        refine go1 (op_pick_t rfl hb12 (.t (has rfl)) (.bool _)) rfl ?_
                        refine go1 (op_assign rfl (.t (has rfl))) rfl ?_
                        refine goesO_nil ?_
                        obtain rfl := Option.some.inj H
                        exact ends_cut (.cons rfl .nil)
                      · skip
                        refine goG (op_move rfl (.t (has rfl))) rfl rfl rfl rfl hb12 ?_
                        refine goG (op_icmp rfl rfl (.t (has rfl)) (.int _ _)) rfl rfl rfl rfl hb12 ?_
                        refine go1 (op_pick_f rfl hb12 (.t (has rfl)) (.t (has rfl))) rfl ?_
                        refine go1 (op_assign rfl (.t (has rfl))) rfl ?_
                        refine goesO_nil ?_
                        obtain rfl := Option.some.inj H
                        exact ends_cut (.cons rfl .nil)
            · skip
              refine goS rfl rfl rfl rfl rfl rfl hb7 ?_
              refine goS rfl rfl rfl rfl rfl rfl hb7 ?_
              refine goG (op_pick_f rfl hb7 (.t (has rfl)) (.bool _)) rfl rfl rfl rfl hb6 ?_
              refine go1 (op_pick_f rfl hb6 (.t (has rfl)) (.t (has rfl))) rfl ?_
              refine go1 (op_move rfl (.t (has rfl))) rfl ?_
              refine goG (op_move rfl (.t (has rfl))) rfl rfl rfl rfl rfl ?_
              refine goG (op_icmp rfl rfl (.t (has rfl)) (.int _ _)) rfl rfl rfl rfl rfl ?_
              refine go1 (op_pick_f rfl rfl (.t (has rfl)) (.t (has rfl))) rfl ?_
              refine go1 (op_move rfl (.t (has rfl))) rfl ?_
              refine goesO_split H (fun hb13 H => ?_) (fun hb13 H => ?_)
              · skip
                refine goS rfl rfl rfl rfl rfl rfl hb13 ?_
                refine goS rfl rfl rfl rfl rfl rfl hb13 ?_
                refine go1 (op_pick_t rfl hb13 (.t (has rfl)) (.bool _)) rfl ?_
                refine go1 (op_move rfl (.t (has rfl))) rfl ?_
                refine goS rfl rfl rfl rfl rfl rfl rfl ?_
                refine goS rfl rfl rfl rfl rfl rfl rfl ?_
                refine go1 (op_pick_t rfl rfl (.t (has rfl)) (.bool _)) rfl ?_
                refine go1 (op_move rfl (.t (has rfl))) rfl ?_
                refine goS rfl rfl rfl rfl rfl rfl rfl ?_
                refine goS rfl rfl rfl rfl rfl rfl rfl ?_
                refine go1 (op_pick_t rfl rfl (.t (has rfl)) (.bool _)) rfl ?_
                refine go1 (op_move rfl (.t (has rfl))) rfl ?_
                refine goS rfl rfl rfl rfl rfl rfl rfl ?_
                refine goS rfl rfl rfl rfl rfl rfl rfl ?_
                refine go1 (op_pick_t rfl rfl (.t (has rfl)) (.bool _)) rfl ?_
                refine go1 (op_assign rfl (.t (has rfl))) rfl ?_
                refine goesO_nil ?_
                obtain rfl := Option.some.inj H
                exact ends_cut (.cons rfl .nil)
              · skip
                refine goG (op_move rfl (.t (has rfl))) rfl rfl rfl rfl hb13 ?_
                refine goG (op_icmp rfl rfl (.t (has rfl)) (.int _ _)) rfl rfl rfl rfl hb13 ?_
                refine go1 (op_pick_f rfl hb13 (.t (has rfl)) (.t (has rfl))) rfl ?_
                refine go1 (op_move rfl (.t (has rfl))) rfl ?_
                refine goesO_split H (fun hb14 H => ?_) (fun hb14 H => ?_)
                · skip
                  refine goS rfl rfl rfl rfl rfl rfl hb14 ?_
                  refine goS rfl rfl rfl rfl rfl rfl hb14 ?_
                  refine go1 (op_pick_t rfl hb14 (.t (has rfl)) (.bool _)) rfl ?_
                  refine go1 (op_move rfl (.t (has rfl))) rfl ?_
                  refine goS rfl rfl rfl rfl rfl rfl rfl ?_
                  refine goS rfl rfl rfl rfl rfl rfl rfl ?_
                  refine go1 (op_pick_t rfl rfl (.t (has rfl)) (.bool _)) rfl ?_
                  refine go1 (op_move rfl (.t (has rfl))) rfl ?_
                  refine goS rfl rfl rfl rfl rfl rfl rfl ?_
                  refine goS rfl rfl rfl rfl rfl rfl rfl ?_
                  refine go1 (op_pick_t rfl rfl (.t (has rfl)) (.bool _)) rfl ?_
                  refine go1 (op_assign rfl (.t (has rfl))) rfl ?_
                  refine goesO_nil ?_
                  obtain rfl := Option.some.inj H
                  exact ends_cut (.cons rfl .nil)
                · skip
                  refine goG (op_move rfl (.t (has rfl))) rfl rfl rfl rfl hb14 ?_
                  refine goG (op_icmp rfl rfl (.t (has rfl)) (.int _ _)) rfl rfl rfl rfl hb14 ?_
                  refine go1 (op_pick_f rfl hb14 (.t (has rfl)) (.t (has rfl))) rfl ?_
                  refine go1 (op_move rfl (.t (has rfl))) rfl ?_
                  refine goesO_split H (fun hb15 H => ?_) (fun hb15 H => ?_)
                  · skip
                    refine goS rfl rfl rfl rfl rfl rfl hb15 ?_
                    refine goS rfl rfl rfl rfl rfl rfl hb15 ?_
                    refine go1 (op_pick_t rfl hb15 (.t (has rfl)) (.bool _)) rfl ?_
                    refine go1 (op_move rfl (.t (has rfl))) rfl ?_
                    refine goS rfl rfl rfl rfl rfl rfl rfl ?_
                    refine goS rfl rfl rfl rfl rfl rfl rfl ?_
                    refine go1 (op_pick_t rfl rfl (.t (has rfl)) (.bool _)) rfl ?_
                    refine go1 (op_assign rfl (.t (has rfl))) rfl ?_
                    refine goesO_nil ?_
                    obtain rfl := Option.some.inj H
                    exact ends_cut (.cons rfl .nil)
                  · skip
                    refine goG (op_move rfl (.t (has rfl))) rfl rfl rfl rfl hb15 ?_
                    refine goG (op_icmp rfl rfl (.t (has rfl)) (.int _ _)) rfl rfl rfl rfl hb15 ?_
                    refine go1 (op_pick_f rfl hb15 (.t (has rfl)) (.t (has rfl))) rfl ?_
                    refine go1 (op_move rfl (.t (has rfl))) rfl ?_
                    refine goesO_split H (fun hb16 H => ?_) (fun hb16 H => ?_)
                    · skip
                      refine goS rfl rfl rfl rfl rfl rfl hb16 ?_
                      refine goS rfl rfl rfl rfl rfl rfl hb16 ?_
                      refine go1 (op_pick_t rfl hb16 (.t (has rfl)) (.bool _)) rfl ?_
                      refine go1 (op_assign rfl (.t (has rfl))) rfl ?_
                      refine goesO_nil ?_
                      obtain rfl := Option.some.inj H
                      exact ends_cut (.cons rfl .nil)
                    · skip
                      refine goG (op_move rfl (.t (has rfl))) rfl rfl rfl rfl hb16 ?_
                      refine goG (op_icmp rfl rfl (.t (has rfl)) (.int _ _)) rfl rfl rfl rfl hb16 ?_
                      refine go1 (op_pick_f rfl hb16 (.t (has rfl)) (.t (has rfl))) rfl ?_
                      refine go1 (op_assign rfl (.t (has rfl))) rfl ?_
                      refine goesO_nil ?_
                      obtain rfl := Option.some.inj H
                      exact ends_cut (.cons rfl .nil)
        · skip
          refine goS rfl rfl rfl rfl rfl rfl hb5 ?_
          refine goS rfl rfl rfl rfl rfl rfl hb5 ?_
          refine goG (op_pick_f rfl hb5 (.t (has rfl)) (.bool _)) rfl rfl rfl rfl hb4 ?_
          refine go1 (op_pick_f rfl hb4 (.t (has rfl)) (.t (has rfl))) rfl ?_
          refine go1 (op_move rfl (.t (has rfl))) rfl ?_
          refine goG (op_move rfl (.t (has rfl))) rfl rfl rfl rfl rfl ?_
          refine goG (op_icmp rfl rfl (.t (has rfl)) (.int _ _)) rfl rfl rfl rfl rfl ?_
          refine goG (op_move rfl (.t (has rfl))) rfl rfl rfl rfl rfl ?_
          refine goesO_split H (fun hb17 H => ?_) (fun hb17 H => ?_)
          · skip
            refine goG (op_move rfl (.t (has rfl))) rfl rfl rfl rfl hb17 ?_
            refine goG (op_icmp rfl rfl (.t (has rfl)) (.int _ _)) rfl rfl rfl rfl hb17 ?_
            refine goG (op_pick_t rfl hb17 (.t (has rfl)) (.t (has rfl))) rfl rfl rfl rfl rfl ?_
            refine go1 (op_pick_f rfl rfl (.t (has rfl)) (.t (has rfl))) rfl ?_
            refine go1 (op_move rfl (.t (has rfl))) rfl ?_
            refine goesO_split H (fun hb18 H => ?_) (fun hb18 H => ?_)
            · skip
              refine goS rfl rfl rfl rfl rfl rfl hb18 ?_
              refine goS rfl rfl rfl rfl rfl rfl hb18 ?_
              refine go1 (op_pick_t rfl hb18 (.t (has rfl)) (.bool _)) rfl ?_
              refine go1 (op_move rfl (.t (has rfl))) rfl ?_
              refine goS rfl rfl rfl rfl rfl rfl rfl ?_
              refine goS rfl rfl rfl rfl rfl rfl rfl ?_
              refine go1 (op_pick_t rfl rfl (.t (has rfl)) (.bool _)) rfl ?_
              refine go1 (op_move rfl (.t (has rfl))) rfl ?_
              refine goS rfl rfl rfl rfl rfl rfl rfl ?_
              refine goS rfl rfl rfl rfl rfl rfl rfl ?_
              refine go1 (op_pick_t rfl rfl (.t (has rfl)) (.bool _)) rfl ?_
              refine go1 (op_move rfl (.t (has rfl))) rfl ?_
              refine goS rfl rfl rfl rfl rfl rfl rfl ?_
              refine goS rfl rfl rfl rfl rfl rfl rfl ?_
              refine go1 (op_pick_t rfl rfl (.t (has rfl)) (.bool _)) rfl ?_
              refine go1 (op_move rfl (.t (has rfl))) rfl ?_
              refine goS rfl rfl rfl rfl rfl rfl rfl ?_
              refine goS rfl rfl rfl rfl rfl rfl rfl ?_
              refine go1 (op_pick_t rfl rfl (.t (has rfl)) (.bool _)) rfl ?_
              refine go1 (op_assign rfl (.t (has rfl))) rfl ?_
              refine goesO_nil ?_
              obtain rfl := Option.some.inj H
              exact ends_cut (.cons rfl .nil)
            · skip
              refine goG (op_move rfl (.t (has rfl))) rfl rfl rfl rfl hb18 ?_
              refine goG (op_icmp rfl rfl (.t (has rfl)) (.int _ _)) rfl rfl rfl rfl hb18 ?_
              refine go1 (op_pick_f rfl hb18 (.t (has rfl)) (.t (has rfl))) rfl ?_
              refine go1 (op_move rfl (.t (has rfl))) rfl ?_
              refine goesO_split H (fun hb19 H => ?_) (fun hb19 H => ?_)
              · skip
                refine goS rfl rfl rfl rfl rfl rfl hb19 ?_
                refine goS rfl rfl rfl rfl rfl rfl hb19 ?_
                refine go1 (op_pick_t rfl hb19 (.t (has rfl)) (.bool _)) rfl ?_
                refine go1 (op_move rfl (.t (has rfl))) rfl ?_
                refine goS rfl rfl rfl rfl rfl rfl rfl ?_
                refine goS rfl rfl rfl rfl rfl rfl rfl ?_
                refine go1 (op_pick_t rfl rfl (.t (has rfl)) (.bool _)) rfl ?_
                refine go1 (op_move rfl (.t (has rfl))) rfl ?_
                refine goS rfl rfl rfl rfl rfl rfl rfl ?_
                refine goS rfl rfl rfl rfl rfl rfl rfl ?_
                refine go1 (op_pick_t rfl rfl (.t (has rfl)) (.bool _)) rfl ?_
                refine go1 (op_move rfl (.t (has rfl))) rfl ?_
                refine goS rfl rfl rfl rfl rfl rfl rfl ?_
                refine goS rfl rfl rfl rfl rfl rfl rfl ?_
                refine go1 (op_pick_t rfl rfl (.t (has rfl)) (.bool _)) rfl ?_
                refine go1 (op_assign rfl (.t (has rfl))) rfl ?_
                refine goesO_nil ?_
                obtain rfl := Option.some.inj H
                exact ends_cut (.cons rfl .nil)
              · skip
                refine goG (op_move rfl (.t (has rfl))) rfl rfl rfl rfl hb19 ?_
                refine goG (op_icmp rfl rfl (.t (has rfl)) (.int _ _)) rfl rfl rfl rfl hb19 ?_
                refine go1 (op_pick_f rfl hb19 (.t (has rfl)) (.t (has rfl))) rfl ?_
                refine go1 (op_move rfl (.t (has rfl))) rfl ?_
                refine goesO_split H (fun hb20 H => ?_) (fun hb20 H => ?_)
                · skip
                  refine goS rfl rfl rfl rfl rfl rfl hb20 ?_
                  refine goS rfl rfl rfl rfl rfl rfl hb20 ?_
                  refine go1 (op_pick_t rfl hb20 (.t (has rfl)) (.bool _)) rfl ?_
                  refine go1 (op_move rfl (.t (has rfl))) rfl ?_
                  refine goS rfl rfl rfl rfl rfl rfl rfl ?_
                  refine goS rfl rfl rfl rfl rfl rfl rfl ?_
                  refine go1 (op_pick_t rfl rfl (.t (has rfl)) (.bool _)) rfl ?_
                  refine go1 (op_move rfl (.t (has rfl))) rfl ?_
                  refine goS rfl rfl rfl rfl rfl rfl rfl ?_
                  refine goS rfl rfl rfl rfl rfl rfl rfl ?_
                  refine go1 (op_pick_t rfl rfl (.t (has rfl)) (.bool _)) rfl ?_
                  refine go1 (op_assign rfl (.t (has rfl))) rfl ?_
                  refine goesO_nil ?_
                  obtain rfl := Option.some.inj H
                  exact ends_cut (.cons rfl .nil)
                · skip
                  refine goG (op_move rfl (.t (has rfl))) rfl rfl rfl rfl hb20 ?_
                  refine goG (op_icmp rfl rfl (.t (has rfl)) (.int _ _)) rfl rfl rfl rfl hb20 ?_
                  refine go1 (op_pick_f rfl hb20 (.t (has rfl)) (.t (has rfl))) rfl ?_
                  refine go1 (op_move rfl (.t (has rfl))) rfl ?_
                  refine goesO_split H (fun hb21 H => ?_) (fun hb21 H => ?_)
                  · skip
                    refine goS rfl rfl rfl rfl rfl rfl hb21 ?_
                    refine goS rfl rfl rfl rfl rfl rfl hb21 ?_
                    refine go1 (op_pick_t rfl hb21 (.t (has rfl)) (.bool _)) rfl ?_
                    refine go1 (op_move rfl (.t (has rfl))) rfl ?_
                    refine goS rfl rfl rfl rfl rfl rfl rfl ?_
                    refine goS rfl rfl rfl rfl rfl rfl rfl ?_
                    refine go1 (op_pick_t rfl rfl (.t (has rfl)) (.bool _)) rfl ?_
                    refine go1 (op_assign rfl (.t (has rfl))) rfl ?_
                    refine goesO_nil ?_
                    obtain rfl := Option.some.inj H
                    exact ends_cut (.cons rfl .nil)
                  · skip
                    refine goG (op_move rfl (.t (has rfl))) rfl rfl rfl rfl hb21 ?_
                    refine goG (op_icmp rfl rfl (.t (has rfl)) (.int _ _)) rfl rfl rfl rfl hb21 ?_
                    refine go1 (op_pick_f rfl hb21 (.t (has rfl)) (.t (has rfl))) rfl ?_
                    refine go1 (op_move rfl (.t (has rfl))) rfl ?_
                    refine goesO_split H (fun hb22 H => ?_) (fun hb22 H => ?_)
                    · skip
                      refine goS rfl rfl rfl rfl rfl rfl hb22 ?_
                      refine goS rfl rfl rfl rfl rfl rfl hb22 ?_
                      refine go1 (op_pick_t rfl hb22 (.t (has rfl)) (.bool _)) rfl ?_
                      refine go1 (op_assign rfl (.t (has rfl))) rfl ?_
                      refine goesO_nil ?_
                      obtain rfl := Option.some.inj H
                      exact ends_cut (.cons rfl .nil)
                    · skip
                      refine goG (op_move rfl (.t (has rfl))) rfl rfl rfl rfl hb22 ?_
                      refine goG (op_icmp rfl rfl (.t (has rfl)) (.int _ _)) rfl rfl rfl rfl hb22 ?_
                      refine go1 (op_pick_f rfl hb22 (.t (has rfl)) (.t (has rfl))) rfl ?_
                      refine go1 (op_assign rfl (.t (has rfl))) rfl ?_
                      refine goesO_nil ?_
                      obtain rfl := Option.some.inj H
                      exact ends_cut (.cons rfl .nil)
          · skip
            refine goS rfl rfl rfl rfl rfl rfl hb17 ?_
            refine goS rfl rfl rfl rfl rfl rfl hb17 ?_
            refine goG (op_pick_f rfl hb17 (.t (has rfl)) (.bool _)) rfl rfl rfl rfl rfl ?_
            refine go1 (op_pick_f rfl rfl (.t (has rfl)) (.t (has rfl))) rfl ?_
            refine go1 (op_move rfl (.t (has rfl))) rfl ?_
            refine goG (op_move rfl (.t (has rfl))) rfl rfl rfl rfl rfl ?_
            refine goG (op_icmp rfl rfl (.t (has rfl)) (.int _ _)) rfl rfl rfl rfl rfl ?_
            refine go1 (op_pick_f rfl rfl (.t (has rfl)) (.t (has rfl))) rfl ?_
            refine go1 (op_move rfl (.t (has rfl))) rfl ?_
            refine goesO_split H (fun hb23 H => ?_) (fun hb23 H => ?_)
            · skip
              refine goS rfl rfl rfl rfl rfl rfl hb23 ?_
              refine goS rfl rfl rfl rfl rfl rfl hb23 ?_
              refine go1 (op_pick_t rfl hb23 (.t (has rfl)) (.bool _)) rfl ?_
              refine go1 (op_move rfl (.t (has rfl))) rfl ?_
              refine goS rfl rfl rfl rfl rfl rfl rfl ?_
              refine goS rfl rfl rfl rfl rfl rfl rfl ?_
              refine go1 (op_pick_t rfl rfl (.t (has rfl)) (.bool _)) rfl ?_
              refine go1 (op_move rfl (.t (has rfl))) rfl ?_
              refine goS rfl rfl rfl rfl rfl rfl rfl ?_
              refine goS rfl rfl rfl rfl rfl rfl rfl ?_
              refine go1 (op_pick_t rfl rfl (.t (has rfl)) (.bool _)) rfl ?_
              refine go1 (op_move rfl (.t (has rfl))) rfl ?_
              refine goS rfl rfl rfl rfl rfl rfl rfl ?_
              refine goS rfl rfl rfl rfl rfl rfl rfl ?_
              refine go1 (op_pick_t rfl rfl (.t (has rfl)) (.bool _)) rfl ?_
              refine go1 (op_assign rfl (.t (has rfl))) rfl ?_
              refine goesO_nil ?_
              obtain rfl := Option.some.inj H
              exact ends_cut (.cons rfl .nil)
            · skip
              refine goG (op_move rfl (.t (has rfl))) rfl rfl rfl rfl hb23 ?_
              refine goG (op_icmp rfl rfl (.t (has rfl)) (.int _ _)) rfl rfl rfl rfl hb23 ?_
              refine go1 (op_pick_f rfl hb23 (.t (has rfl)) (.t (has rfl))) rfl ?_
              refine go1 (op_move rfl (.t (has rfl))) rfl ?_
              refine goesO_split H (fun hb24 H => ?_) (fun hb24 H => ?_)
              · skip
                refine goS rfl rfl rfl rfl rfl rfl hb24 ?_
                refine goS rfl rfl rfl rfl rfl rfl hb24 ?_
                refine go1 (op_pick_t rfl hb24 (.t (has rfl)) (.bool _)) rfl ?_
                refine go1 (op_move rfl (.t (has rfl))) rfl ?_
                refine goS rfl rfl rfl rfl rfl rfl rfl ?_
                refine goS rfl rfl rfl rfl rfl rfl rfl ?_
                refine go1 (op_pick_t rfl rfl (.t (has rfl)) (.bool _)) rfl ?_
                refine go1 (op_move rfl (.t (has rfl))) rfl ?_
                refine goS rfl rfl rfl rfl rfl rfl rfl ?_
                refine goS rfl rfl rfl rfl rfl rfl rfl ?_
                refine go1 (op_pick_t rfl rfl (.t (has rfl)) (.bool _)) rfl ?_
                refine go1 (op_assign rfl (.t (has rfl))) rfl ?_
                refine goesO_nil ?_
                obtain rfl := Option.some.inj H
                exact ends_cut (.cons rfl .nil)
              · skip
                refine goG (op_move rfl (.t (has rfl))) rfl rfl rfl rfl hb24 ?_
                refine goG (op_icmp rfl rfl (.t (has rfl)) (.int _ _)) rfl rfl rfl rfl hb24 ?_
                refine go1 (op_pick_f rfl hb24 (.t (has rfl)) (.t (has rfl))) rfl ?_
                refine go1 (op_move rfl (.t (has rfl))) rfl ?_
                refine goesO_split H (fun hb25 H => ?_) (fun hb25 H => ?_)
                · skip
                  refine goS rfl rfl rfl rfl rfl rfl hb25 ?_
                  refine goS rfl rfl rfl rfl rfl rfl hb25 ?_
                  refine go1 (op_pick_t rfl hb25 (.t (has rfl)) (.bool _)) rfl ?_
                  refine go1 (op_move rfl (.t (has rfl))) rfl ?_
                  refine goS rfl rfl rfl rfl rfl rfl rfl ?_
                  refine goS rfl rfl rfl rfl rfl rfl rfl ?_
                  refine go1 (op_pick_t rfl rfl (.t (has rfl)) (.bool _)) rfl ?_
                  refine go1 (op_assign rfl (.t (has rfl))) rfl ?_
                  refine goesO_nil ?_
                  obtain rfl := Option.some.inj H
                  exact ends_cut (.cons rfl .nil)
                · skip
                  refine goG (op_move rfl (.t (has rfl))) rfl rfl rfl rfl hb25 ?_
                  refine goG (op_icmp rfl rfl (.t (has rfl)) (.int _ _)) rfl rfl rfl rfl hb25 ?_
                  refine go1 (op_pick_f rfl hb25 (.t (has rfl)) (.t (has rfl))) rfl ?_
                  refine go1 (op_move rfl (.t (has rfl))) rfl ?_
                  refine goesO_split H (fun hb26 H => ?_) (fun hb26 H => ?_)
                  · skip
                    refine goS rfl rfl rfl rfl rfl rfl hb26 ?_
                    refine goS rfl rfl rfl rfl rfl rfl hb26 ?_
                    refine go1 (op_pick_t rfl hb26 (.t (has rfl)) (.bool _)) rfl ?_
                    refine go1 (op_assign rfl (.t (has rfl))) rfl ?_
                    refine goesO_nil ?_
                    obtain rfl := Option.some.inj H
                    exact ends_cut (.cons rfl .nil)
                  · skip
                    refine goG (op_move rfl (.t (has rfl))) rfl rfl rfl rfl hb26 ?_
                    refine goG (op_icmp rfl rfl (.t (has rfl)) (.int _ _)) rfl rfl rfl rfl hb26 ?_
                    refine go1 (op_pick_f rfl hb26 (.t (has rfl)) (.t (has rfl))) rfl ?_
                    refine go1 (op_assign rfl (.t (has rfl))) rfl ?_
                    refine goesO_nil ?_
                    obtain rfl := Option.some.inj H
                    exact ends_cut (.cons rfl .nil)
    · skip
      refine goS rfl rfl rfl rfl rfl rfl hb3 ?_
      refine goS rfl rfl rfl rfl rfl rfl hb3 ?_
      refine go1 (op_pick_f rfl hb3 (.t (has rfl)) (.bool _)) rfl ?_
      refine go1 (op_move rfl (.t (has rfl))) rfl ?_
      refine goG (op_move rfl (.t (has rfl))) rfl rfl rfl rfl rfl ?_
      refine goG (op_icmp rfl rfl (.t (has rfl)) (.int _ _)) rfl rfl rfl rfl rfl ?_
      refine goG (op_move rfl (.t (has rfl))) rfl rfl rfl rfl rfl ?_
      refine goesO_split H (fun hb27 H => ?_) (fun hb27 H => ?_)
      · skip
        refine goG (op_move rfl (.t (has rfl))) rfl rfl rfl rfl hb27 ?_
        refine goG (op_icmp rfl rfl (.t (has rfl)) (.int _ _)) rfl rfl rfl rfl hb27 ?_
        refine goG (op_pick_t rfl hb27 (.t (has rfl)) (.t (has rfl))) rfl rfl rfl rfl rfl ?_
        refine go1 (op_pick_f rfl rfl (.t (has rfl)) (.t (has rfl))) rfl ?_
        refine go1 (op_move rfl (.t (has rfl))) rfl ?_
        refine goesO_split H (fun hb28 H => ?_) (fun hb28 H => ?_)
        · skip
          refine goS rfl rfl rfl rfl rfl rfl hb28 ?_
          refine goS rfl rfl rfl rfl rfl rfl hb28 ?_
          refine goS rfl rfl rfl rfl rfl rfl hb28 ?_
          refine goSU rfl rfl rfl rfl rfl rfl ?_
          refine goSU rfl rfl rfl rfl rfl rfl ?_
          refine goS rfl rfl rfl rfl rfl rfl hb28 ?_
          refine go1 (op_pick_t rfl hb28 (.t (has rfl)) (.bool _)) rfl ?_
          refine go1 (op_move rfl (.t (has rfl))) rfl ?_
          refine goS rfl rfl rfl rfl rfl rfl rfl ?_
          refine goS rfl rfl rfl rfl rfl rfl rfl ?_
          refine go1 (op_pick_t rfl rfl (.t (has rfl)) (.bool _)) rfl ?_
          refine go1 (op_move rfl (.t (has rfl))) rfl ?_
          refine goS rfl rfl rfl rfl rfl rfl rfl ?_
          refine goS rfl rfl rfl rfl rfl rfl rfl ?_
          refine go1 (op_pick_t rfl rfl (.t (has rfl)) (.bool _)) rfl ?_
          refine go1 (op_move rfl (.t (has rfl))) rfl ?_
          refine goS rfl rfl rfl rfl rfl rfl rfl ?_
          refine goS rfl rfl rfl rfl rfl rfl rfl ?_
          refine go1 (op_pick_t rfl rfl (.t (has rfl)) (.bool _)) rfl ?_
          refine go1 (op_move rfl (.t (has rfl))) rfl ?_
          refine goS rfl rfl rfl rfl rfl rfl rfl ?_
          refine goS rfl rfl rfl rfl rfl rfl rfl ?_
          refine go1 (op_pick_t rfl rfl (.t (has rfl)) (.bool _)) rfl ?_
          refine go1 (op_move rfl (.t (has rfl))) rfl ?_
          refine goS rfl rfl rfl rfl rfl rfl rfl ?_
          refine goS rfl rfl rfl rfl rfl rfl rfl ?_
          refine go1 (op_pick_t rfl rfl (.t (has rfl)) (.bool _)) rfl ?_
          refine go1 (op_assign rfl (.t (has rfl))) rfl ?_
          refine goesO_nil ?_
          obtain rfl := Option.some.inj H
          exact ends_cut (.cons rfl .nil)
        · skip
          refine goG (op_move rfl (.t (has rfl))) rfl rfl rfl rfl hb28 ?_
          refine goG (op_icmp rfl rfl (.t (has rfl)) (.int _ _)) rfl rfl rfl rfl hb28 ?_
          refine goG (op_move rfl (.t (has rfl))) rfl rfl rfl rfl hb28 ?_
          refine goesO_split H (fun hb29 H => ?_) (fun hb29 H => ?_)
          · skip
            refine goG (op_move rfl (.t (has rfl))) rfl rfl rfl rfl hb29 ?_
            refine goG (op_icmp rfl rfl (.t (has rfl)) (.int _ _)) rfl rfl rfl rfl hb29 ?_
            refine goG (op_pick_t rfl hb29 (.t (has rfl)) (.t (has rfl))) rfl rfl rfl rfl hb28 ?_
            refine go1 (op_pick_f rfl hb28 (.t (has rfl)) (.t (has rfl))) rfl ?_
            refine go1 (op_move rfl (.t (has rfl))) rfl ?_
            refine goesO_split H (fun hb30 H => ?_) (fun hb30 H => ?_)
            · skip
              refine goS rfl rfl rfl rfl rfl rfl hb30 ?_
              refine goS rfl rfl rfl rfl rfl rfl hb30 ?_
              refine go1 (op_pick_t rfl hb30 (.t (has rfl)) (.bool _)) rfl ?_
              refine go1 (op_move rfl (.t (has rfl))) rfl ?_
              refine goS rfl rfl rfl rfl rfl rfl rfl ?_
              refine goS rfl rfl rfl rfl rfl rfl rfl ?_
              refine go1 (op_pick_t rfl rfl (.t (has rfl)) (.bool _)) rfl ?_
              refine go1 (op_move rfl (.t (has rfl))) rfl ?_
              refine goS rfl rfl rfl rfl rfl rfl rfl ?_
              refine goS rfl rfl rfl rfl rfl rfl rfl ?_
              refine go1 (op_pick_t rfl rfl (.t (has rfl)) (.bool _)) rfl ?_
              refine go1 (op_move rfl (.t (has rfl))) rfl ?_
              refine goS rfl rfl rfl rfl rfl rfl rfl ?_
              refine goS rfl rfl rfl rfl rfl rfl rfl ?_
              refine go1 (op_pick_t rfl rfl (.t (has rfl)) (.bool _)) rfl ?_
              refine go1 (op_move rfl (.t (has rfl))) rfl ?_
              refine goS rfl rfl rfl rfl rfl rfl rfl ?_
              refine goS rfl rfl rfl rfl rfl rfl rfl ?_
              refine go1 (op_pick_t rfl rfl (.t (has rfl)) (.bool _)) rfl ?_
              refine go1 (op_assign rfl (.t (has rfl))) rfl ?_
              refine goesO_nil ?_
              obtain rfl := Option.some.inj H
              exact ends_cut (.cons rfl .nil)
            · skip
              refine goG (op_move rfl (.t (has rfl))) rfl rfl rfl rfl hb30 ?_
              refine goG (op_icmp rfl rfl (.t (has rfl)) (.int _ _)) rfl rfl rfl rfl hb30 ?_
              refine go1 (op_pick_f rfl hb30 (.t (has rfl)) (.t (has rfl))) rfl ?_
              refine go1 (op_move rfl (.t (has rfl))) rfl ?_
              refine goesO_split H (fun hb31 H => ?_) (fun hb31 H => ?_)
              · skip
                refine goS rfl rfl rfl rfl rfl rfl hb31 ?_
                refine goS rfl rfl rfl rfl rfl rfl hb31 ?_
                refine go1 (op_pick_t rfl hb31 (.t (has rfl)) (.bool _)) rfl ?_
                refine go1 (op_move rfl (.t (has rfl))) rfl ?_
                refine goS rfl rfl rfl rfl rfl rfl rfl ?_
                refine goS rfl rfl rfl rfl rfl rfl rfl ?_
                refine go1 (op_pick_t rfl rfl (.t (has rfl)) (.bool _)) rfl ?_
                refine go1 (op_move rfl (.t (has rfl))) rfl ?_
                refine goS rfl rfl rfl rfl rfl rfl rfl ?_
                refine goS rfl rfl rfl rfl rfl rfl rfl ?_
                refine go1 (op_pick_t rfl rfl (.t (has rfl)) (.bool _)) rfl ?_
                refine go1 (op_move rfl (.t (has rfl))) rfl ?_
                refine goS rfl rfl rfl rfl rfl rfl rfl ?_
                refine goS rfl rfl rfl rfl rfl rfl rfl ?_
                refine go1 (op_pick_t rfl rfl (.t (has rfl)) (.bool _)) rfl ?_
                refine go1 (op_assign rfl (.t (has rfl))) rfl ?_
                refine goesO_nil ?_
                obtain rfl := Option.some.inj H
                exact ends_cut (.cons rfl .nil)
              · skip
                refine goG (op_move rfl (.t (has rfl))) rfl rfl rfl rfl hb31 ?_
                refine goG (op_icmp rfl rfl (.t (has rfl)) (.int _ _)) rfl rfl rfl rfl hb31 ?_
                refine go1 (op_pick_f rfl hb31 (.t (has rfl)) (.t (has rfl))) rfl ?_
                refine go1 (op_move rfl (.t (has rfl))) rfl ?_
                refine goesO_split H (fun hb32 H => ?_) (fun hb32 H => ?_)
                · skip
                  refine goS rfl rfl rfl rfl rfl rfl hb32 ?_
                  refine goS rfl rfl rfl rfl rfl rfl hb32 ?_
                  refine go1 (op_pick_t rfl hb32 (.t (has rfl)) (.bool _)) rfl ?_
                  refine go1 (op_move rfl (.t (has rfl))) rfl ?_
                  refine goS rfl rfl rfl rfl rfl rfl rfl ?_
                  refine goS rfl rfl rfl rfl rfl rfl rfl ?_
                  refine go1 (op_pick_t rfl rfl (.t (has rfl)) (.bool _)) rfl ?_
                  refine go1 (op_move rfl (.t (has rfl))) rfl ?_
                  refine goS rfl rfl rfl rfl rfl rfl rfl ?_
                  refine goS rfl rfl rfl rfl rfl rfl rfl ?_
                  refine go1 (op_pick_t rfl rfl (.t (has rfl)) (.bool _)) rfl ?_
                  refine go1 (op_assign rfl (.t (has rfl))) rfl ?_
                  refine goesO_nil ?_
                  obtain rfl := Option.some.inj H
                  exact ends_cut (.cons rfl .nil)
                · skip
                  refine goG (op_move rfl (.t (has rfl))) rfl rfl rfl rfl hb32 ?_
                  refine goG (op_icmp rfl rfl (.t (has rfl)) (.int _ _)) rfl rfl rfl rfl hb32 ?_
                  refine go1 (op_pick_f rfl hb32 (.t (has rfl)) (.t (has rfl))) rfl ?_
                  refine go1 (op_move rfl (.t (has rfl))) rfl ?_
                  refine goesO_split H (fun hb33 H => ?_) (fun hb33 H => ?_)
                  · skip
                    refine goS rfl rfl rfl rfl rfl rfl hb33 ?_
                    refine goS rfl rfl rfl rfl rfl rfl hb33 ?_
                    refine go1 (op_pick_t rfl hb33 (.t (has rfl)) (.bool _)) rfl ?_
                    refine go1 (op_move rfl (.t (has rfl))) rfl ?_
                    refine goS rfl rfl rfl rfl rfl rfl rfl ?_
                    refine goS rfl rfl rfl rfl rfl rfl rfl ?_
                    refine go1 (op_pick_t rfl rfl (.t (has rfl)) (.bool _)) rfl ?_
                    refine go1 (op_assign rfl (.t (has rfl))) rfl ?_
                    refine goesO_nil ?_
                    obtain rfl := Option.some.inj H
                    exact ends_cut (.cons rfl .nil)
                  · skip
                    refine goG (op_move rfl (.t (has rfl))) rfl rfl rfl rfl hb33 ?_
                    refine goG (op_icmp rfl rfl (.t (has rfl)) (.int _ _)) rfl rfl rfl rfl hb33 ?_
                    refine go1 (op_pick_f rfl hb33 (.t (has rfl)) (.t (has rfl))) rfl ?_
                    refine go1 (op_move rfl (.t (has rfl))) rfl ?_
                    refine goesO_split H (fun hb34 H => ?_) (fun hb34 H => ?_)
                    · skip
                      refine goS rfl rfl rfl rfl rfl rfl hb34 ?_
                      refine goS rfl rfl rfl rfl rfl rfl hb34 ?_
                      refine go1 (op_pick_t rfl hb34 (.t (has rfl)) (.bool _)) rfl ?_
                      refine go1 (op_assign rfl (.t (has rfl))) rfl ?_
                      refine goesO_nil ?_
                      obtain rfl := Option.some.inj H
                      exact ends_cut (.cons rfl .nil)
                    · skip
                      refine goG (op_move rfl (.t (has rfl))) rfl rfl rfl rfl hb34 ?_
                      refine goG (op_icmp rfl rfl (.t (has rfl)) (.int _ _)) rfl rfl rfl rfl hb34 ?_
                      refine go1 (op_pick_f rfl hb34 (.t (has rfl)) (.t (has rfl))) rfl ?_
                      refine go1 (op_assign rfl (.t (has rfl))) rfl ?_
                      refine goesO_nil ?_
                      obtain rfl := Option.some.inj H
                      exact ends_cut (.cons rfl .nil)
          · skip
            refine goS rfl rfl rfl rfl rfl rfl hb29 ?_
            refine goS rfl rfl rfl rfl rfl rfl hb29 ?_
            refine goG (op_pick_f rfl hb29 (.t (has rfl)) (.bool _)) rfl rfl rfl rfl hb28 ?_
            refine go1 (op_pick_f rfl hb28 (.t (has rfl)) (.t (has rfl))) rfl ?_
            refine go1 (op_move rfl (.t (has rfl))) rfl ?_
            refine goG (op_move rfl (.t (has rfl))) rfl rfl rfl rfl rfl ?_
            refine goG (op_icmp rfl rfl (.t (has rfl)) (.int _ _)) rfl rfl rfl rfl rfl ?_
            refine go1 (op_pick_f rfl rfl (.t (has rfl)) (.t (has rfl))) rfl ?_
            refine go1 (op_move rfl (.t (has rfl))) rfl ?_
            refine goesO_split H (fun hb35 H => ?_) (fun hb35 H => ?_)
            · skip
              refine goS rfl rfl rfl rfl rfl rfl hb35 ?_
              refine goS rfl rfl rfl rfl rfl rfl hb35 ?_
              refine go1 (op_pick_t rfl hb35 (.t (has rfl)) (.bool _)) rfl ?_
              refine go1 (op_move rfl (.t (has rfl))) rfl ?_
              refine goS rfl rfl rfl rfl rfl rfl rfl ?_
              refine goS rfl rfl rfl rfl rfl rfl rfl ?_
              refine go1 (op_pick_t rfl rfl (.t (has rfl)) (.bool _)) rfl ?_
              refine go1 (op_move rfl (.t (has rfl))) rfl ?_
              refine goS rfl rfl rfl rfl rfl rfl rfl ?_
              refine goS rfl rfl rfl rfl rfl rfl rfl ?_
              refine go1 (op_pick_t rfl rfl (.t (has rfl)) (.bool _)) rfl ?_
              refine go1 (op_move rfl (.t (has rfl))) rfl ?_
              refine goS rfl rfl rfl rfl rfl rfl rfl ?_
              refine goS rfl rfl rfl rfl rfl rfl rfl ?_
              refine go1 (op_pick_t rfl rfl (.t (has rfl)) (.bool _)) rfl ?_
              refine go1 (op_assign rfl (.t (has rfl))) rfl ?_
              refine goesO_nil ?_
              obtain rfl := Option.some.inj H
              exact ends_cut (.cons rfl .nil)
            · skip
              refine goG (op_move rfl (.t (has rfl))) rfl rfl rfl rfl hb35 ?_
              refine goG (op_icmp rfl rfl (.t (has rfl)) (.int _ _)) rfl rfl rfl rfl hb35 ?_
              refine go1 (op_pick_f rfl hb35 (.t (has rfl)) (.t (has rfl))) rfl ?_
              refine go1 (op_move rfl (.t (has rfl))) rfl ?_
              refine goesO_split H (fun hb36 H => ?_) (fun hb36 H => ?_)
              · skip
                refine goS rfl rfl rfl rfl rfl rfl hb36 ?_
                refine goS rfl rfl rfl rfl rfl rfl hb36 ?_
                refine go1 (op_pick_t rfl hb36 (.t (has rfl)) (.bool _)) rfl ?_
                refine go1 (op_move rfl (.t (has rfl))) rfl ?_
                refine goS rfl rfl rfl rfl rfl rfl rfl ?_
                refine goS rfl rfl rfl rfl rfl rfl rfl ?_
                refine go1 (op_pick_t rfl rfl (.t (has rfl)) (.bool _)) rfl ?_
                refine go1 (op_move rfl (.t (has rfl))) rfl ?_
                refine goS rfl rfl rfl rfl rfl rfl rfl ?_
                refine goS rfl rfl rfl rfl rfl rfl rfl ?_
                refine go1 (op_pick_t rfl rfl (.t (has rfl)) (.bool _)) rfl ?_
                refine go1 (op_assign rfl (.t (has rfl))) rfl ?_
                refine goesO_nil ?_
                obtain rfl := Option.some.inj H
                exact ends_cut (.cons rfl .nil)
              · skip
                refine goG (op_move rfl (.t (has rfl))) rfl rfl rfl rfl hb36 ?_
                refine goG (op_icmp rfl rfl (.t (has rfl)) (.int _ _)) rfl rfl rfl rfl hb36 ?_
                refine go1 (op_pick_f rfl hb36 (.t (has rfl)) (.t (has rfl))) rfl ?_
                refine go1 (op_move rfl (.t (has rfl))) rfl ?_
                refine goesO_split H (fun hb37 H => ?_) (fun hb37 H => ?_)
                · skip
                  refine goS rfl rfl rfl rfl rfl rfl hb37 ?_
                  refine goS rfl rfl rfl rfl rfl rfl hb37 ?_
                  refine go1 (op_pick_t rfl hb37 (.t (has rfl)) (.bool _)) rfl ?_
                  refine go1 (op_move rfl (.t (has rfl))) rfl ?_
                  refine goS rfl rfl rfl rfl rfl rfl rfl ?_
                  refine goS rfl rfl rfl rfl rfl rfl rfl ?_
                  refine go1 (op_pick_t rfl rfl (.t (has rfl)) (.bool _)) rfl ?_
                  refine go1 (op_assign rfl (.t (has rfl))) rfl ?_
                  refine goesO_nil ?_
                  obtain rfl := Option.some.inj H
                  exact ends_cut (.cons rfl .nil)
                · skip
                  refine goG (op_move rfl (.t (has rfl))) rfl rfl rfl rfl hb37 ?_
                  refine goG (op_icmp rfl rfl (.t (has rfl)) (.int _ _)) rfl rfl rfl rfl hb37 ?_
                  refine go1 (op_pick_f rfl hb37 (.t (has rfl)) (.t (has rfl))) rfl ?_
                  refine go1 (op_move rfl (.t (has rfl))) rfl ?_
                  refine goesO_split H (fun hb38 H => ?_) (fun hb38 H => ?_)
                  · skip
                    refine goS rfl rfl rfl rfl rfl rfl hb38 ?_
                    refine goS rfl rfl rfl rfl rfl rfl hb38 ?_
                    refine go1 (op_pick_t rfl hb38 (.t (has rfl)) (.bool _)) rfl ?_
                    refine go1 (op_assign rfl (.t (has rfl))) rfl ?_
                    refine goesO_nil ?_
                    obtain rfl := Option.some.inj H
                    exact ends_cut (.cons rfl .nil)
                  · skip
                    refine goG (op_move rfl (.t (has rfl))) rfl rfl rfl rfl hb38 ?_
                    refine goG (op_icmp rfl rfl (.t (has rfl)) (.int _ _)) rfl rfl rfl rfl hb38 ?_
                    refine go1 (op_pick_f rfl hb38 (.t (has rfl)) (.t (has rfl))) rfl ?_
                    refine go1 (op_assign rfl (.t (has rfl))) rfl ?_
                    refine goesO_nil ?_
                    obtain rfl := Option.some.inj H
                    exact ends_cut (.cons rfl .nil)
      · skip
        refine goS rfl rfl rfl rfl rfl rfl hb27 ?_
        refine goS rfl rfl rfl rfl rfl rfl hb27 ?_
        refine goG (op_pick_f rfl hb27 (.t (has rfl)) (.bool _)) rfl rfl rfl rfl rfl ?_
        refine go1 (op_pick_f rfl rfl (.t (has rfl)) (.t (has rfl))) rfl ?_
        refine go1 (op_move rfl (.t (has rfl))) rfl ?_
        refine goG (op_move rfl (.t (has rfl))) rfl rfl rfl rfl rfl ?_
        refine goG (op_icmp rfl rfl (.t (has rfl)) (.int _ _)) rfl rfl rfl rfl rfl ?_
        refine goG (op_move rfl (.t (has rfl))) rfl rfl rfl rfl rfl ?_
        refine goesO_split H (fun hb39 H => ?_) (fun hb39 H => ?_)
        · skip
          refine goG (op_move rfl (.t (has rfl))) rfl rfl rfl rfl hb39 ?_
          refine goG (op_icmp rfl rfl (.t (has rfl)) (.int _ _)) rfl rfl rfl rfl hb39 ?_
          refine goG (op_pick_t rfl hb39 (.t (has rfl)) (.t (has rfl))) rfl rfl rfl rfl rfl ?_
          refine go1 (op_pick_f rfl rfl (.t (has rfl)) (.t (has rfl))) rfl ?_
          refine go1 (op_move rfl (.t (has rfl))) rfl ?_
          refine goesO_split H (fun hb40 H => ?_) (fun hb40 H => ?_)
          · skip
            refine goS rfl rfl rfl rfl rfl rfl hb40 ?_
            refine goS rfl rfl rfl rfl rfl rfl hb40 ?_
            refine go1 (op_pick_t rfl hb40 (.t (has rfl)) (.bool _)) rfl ?_
            refine go1 (op_move rfl (.t (has rfl))) rfl ?_
            refine goS rfl rfl rfl rfl rfl rfl rfl ?_
            refine goS rfl rfl rfl rfl rfl rfl rfl ?_
            refine go1 (op_pick_t rfl rfl (.t (has rfl)) (.bool _)) rfl ?_
            refine go1 (op_move rfl (.t (has rfl))) rfl ?_
            refine goS rfl rfl rfl rfl rfl rfl rfl ?_
            refine goS rfl rfl rfl rfl rfl rfl rfl ?_
            refine go1 (op_pick_t rfl rfl (.t (has rfl)) (.bool _)) rfl ?_
            refine go1 (op_move rfl (.t (has rfl))) rfl ?_
            refine goS rfl rfl rfl rfl rfl rfl rfl ?_
            refine goS rfl rfl rfl rfl rfl rfl rfl ?_
            refine go1 (op_pick_t rfl rfl (.t (has rfl)) (.bool _)) rfl ?_
            refine go1 (op_move rfl (.t (has rfl))) rfl ?_
            refine goS rfl rfl rfl rfl rfl rfl rfl ?_
            refine goS rfl rfl rfl rfl rfl rfl rfl ?_
            refine go1 (op_pick_t rfl rfl (.t (has rfl)) (.bool _)) rfl ?_
            refine go1 (op_assign rfl (.t (has rfl))) rfl ?_
            refine goesO_nil ?_
            obtain rfl := Option.some.inj H
            exact ends_cut (.cons rfl .nil)
          · skip
            refine goG (op_move rfl (.t (has rfl))) rfl rfl rfl rfl hb40 ?_
            refine goG (op_icmp rfl rfl (.t (has rfl)) (.int _ _)) rfl rfl rfl rfl hb40 ?_
            refine go1 (op_pick_f rfl hb40 (.t (has rfl)) (.t (has rfl))) rfl ?_
            refine go1 (op_move rfl (.t (has rfl))) rfl ?_
            refine goesO_split H (fun hb41 H => ?_) (fun hb41 H => ?_)
            · skip
              refine goS rfl rfl rfl rfl rfl rfl hb41 ?_
              refine goS rfl rfl rfl rfl rfl rfl hb41 ?_
              refine go1 (op_pick_t rfl hb41 (.t (has rfl)) (.bool _)) rfl ?_
              refine go1 (op_move rfl (.t (has rfl))) rfl ?_
              refine goS rfl rfl rfl rfl rfl rfl rfl ?_
              refine goS rfl rfl rfl rfl rfl rfl rfl ?_
              refine go1 (op_pick_t rfl rfl (.t (has rfl)) (.bool _)) rfl ?_
              refine go1 (op_move rfl (.t (has rfl))) rfl ?_
              refine goS rfl rfl rfl rfl rfl rfl rfl ?_
              refine goS rfl rfl rfl rfl rfl rfl rfl ?_
              refine go1 (op_pick_t rfl rfl (.t (has rfl)) (.bool _)) rfl ?_
              refine go1 (op_move rfl (.t (has rfl))) rfl ?_
              refine goS rfl rfl rfl rfl rfl rfl rfl ?_
              refine goS rfl rfl rfl rfl rfl rfl rfl ?_
              refine go1 (op_pick_t rfl rfl (.t (has rfl)) (.bool _)) rfl ?_
              refine go1 (op_assign rfl (.t (has rfl))) rfl ?_
              refine goesO_nil ?_
              obtain rfl := Option.some.inj H
              exact ends_cut (.cons rfl .nil)
            · skip
              refine goG (op_move rfl (.t (has rfl))) rfl rfl rfl rfl hb41 ?_
              refine goG (op_icmp rfl rfl (.t (has rfl)) (.int _ _)) rfl rfl rfl rfl hb41 ?_
              refine go1 (op_pick_f rfl hb41 (.t (has rfl)) (.t (has rfl))) rfl ?_
              refine go1 (op_move rfl (.t (has rfl))) rfl ?_
              refine goesO_split H (fun hb42 H => ?_) (fun hb42 H => ?_)
              · skip
                refine goS rfl rfl rfl rfl rfl rfl hb42 ?_
                refine goS rfl rfl rfl rfl rfl rfl hb42 ?_
                refine go1 (op_pick_t rfl hb42 (.t (has rfl)) (.bool _)) rfl ?_
                refine go1 (op_move rfl (.t (has rfl))) rfl ?_
                refine goS rfl rfl rfl rfl rfl rfl rfl ?_
                refine goS rfl rfl rfl rfl rfl rfl rfl ?_
                refine go1 (op_pick_t rfl rfl (.t (has rfl)) (.bool _)) rfl ?_
                refine go1 (op_move rfl (.t (has rfl))) rfl ?_
                refine goS rfl rfl rfl rfl rfl rfl rfl ?_
                refine goS rfl rfl rfl rfl rfl rfl rfl ?_
                refine go1 (op_pick_t rfl rfl (.t (has rfl)) (.bool _)) rfl ?_
                refine go1 (op_assign rfl (.t (has rfl))) rfl ?_
                refine goesO_nil ?_
                obtain rfl := Option.some.inj H
                exact ends_cut (.cons rfl .nil)
              · skip
                refine goG (op_move rfl (.t (has rfl))) rfl rfl rfl rfl hb42 ?_
                refine goG (op_icmp rfl rfl (.t (has rfl)) (.int _ _)) rfl rfl rfl rfl hb42 ?_
                refine go1 (op_pick_f rfl hb42 (.t (has rfl)) (.t (has rfl))) rfl ?_
                refine go1 (op_move rfl (.t (has rfl))) rfl ?_
                refine goesO_split H (fun hb43 H => ?_) (fun hb43 H => ?_)
                · skip
                  refine goS rfl rfl rfl rfl rfl rfl hb43 ?_
                  refine goS rfl rfl rfl rfl rfl rfl hb43 ?_
                  refine go1 (op_pick_t rfl hb43 (.t (has rfl)) (.bool _)) rfl ?_
                  refine go1 (op_move rfl (.t (has rfl))) rfl ?_
                  refine goS rfl rfl rfl rfl rfl rfl rfl ?_
                  refine goS rfl rfl rfl rfl rfl rfl rfl ?_
                  refine go1 (op_pick_t rfl rfl (.t (has rfl)) (.bool _)) rfl ?_
                  refine go1 (op_assign rfl (.t (has rfl))) rfl ?_
                  refine goesO_nil ?_
                  obtain rfl := Option.some.inj H
                  exact ends_cut (.cons rfl .nil)
                · skip
                  refine goG (op_move rfl (.t (has rfl))) rfl rfl rfl rfl hb43 ?_
                  refine goG (op_icmp rfl rfl (.t (has rfl)) (.int _ _)) rfl rfl rfl rfl hb43 ?_
                  refine go1 (op_pick_f rfl hb43 (.t (has rfl)) (.t (has rfl))) rfl ?_
                  refine go1 (op_move rfl (.t (has rfl))) rfl ?_
                  refine goesO_split H (fun hb44 H => ?_) (fun hb44 H => ?_)
                  · skip
                    refine goS rfl rfl rfl rfl rfl rfl hb44 ?_
                    refine goS rfl rfl rfl rfl rfl rfl hb44 ?_
                    refine go1 (op_pick_t rfl hb44 (.t (has rfl)) (.bool _)) rfl ?_
                    refine go1 (op_assign rfl (.t (has rfl))) rfl ?_
                    refine goesO_nil ?_
                    obtain rfl := Option.some.inj H
                    exact ends_cut (.cons rfl .nil)
                  · skip
                    refine goG (op_move rfl (.t (has rfl))) rfl rfl rfl rfl hb44 ?_
                    refine goG (op_icmp rfl rfl (.t (has rfl)) (.int _ _)) rfl rfl rfl rfl hb44 ?_
                    refine go1 (op_pick_f rfl hb44 (.t (has rfl)) (.t (has rfl))) rfl ?_
                    refine go1 (op_assign rfl (.t (has rfl))) rfl ?_
                    refine goesO_nil ?_
                    obtain rfl := Option.some.inj H
                    exact ends_cut (.cons rfl .nil)
        · skip
          refine goS rfl rfl rfl rfl rfl rfl hb39 ?_
          refine goS rfl rfl rfl rfl rfl rfl hb39 ?_
          refine goG (op_pick_f rfl hb39 (.t (has rfl)) (.bool _)) rfl rfl rfl rfl rfl ?_
          refine go1 (op_pick_f rfl rfl (.t (has rfl)) (.t (has rfl))) rfl ?_
          refine go1 (op_move rfl (.t (has rfl))) rfl ?_
          refine goG (op_move rfl (.t (has rfl))) rfl rfl rfl rfl rfl ?_
          refine goG (op_icmp rfl rfl (.t (has rfl)) (.int _ _)) rfl rfl rfl rfl rfl ?_
          refine go1 (op_pick_f rfl rfl (.t (has rfl)) (.t (has rfl))) rfl ?_
          refine go1 (op_move rfl (.t (has rfl))) rfl ?_
          refine goesO_split H (fun hb45 H => ?_) (fun hb45 H => ?_)
          · skip
            refine goS rfl rfl rfl rfl rfl rfl hb45 ?_
            refine goS rfl rfl rfl rfl rfl rfl hb45 ?_
            refine go1 (op_pick_t rfl hb45 (.t (has rfl)) (.bool _)) rfl ?_
            refine go1 (op_move rfl (.t (has rfl))) rfl ?_
            refine goS rfl rfl rfl rfl rfl rfl rfl ?_
            refine goS rfl rfl rfl rfl rfl rfl rfl ?_
            refine go1 (op_pick_t rfl rfl (.t (has rfl)) (.bool _)) rfl ?_
            refine go1 (op_move rfl (.t (has rfl))) rfl ?_
            refine goS rfl rfl rfl rfl rfl rfl rfl ?_
            refine goS rfl rfl rfl rfl rfl rfl rfl ?_
            refine go1 (op_pick_t rfl rfl (.t (has rfl)) (.bool _)) rfl ?_
            refine go1 (op_move rfl (.t (has rfl))) rfl ?_
            refine goS rfl rfl rfl rfl rfl rfl rfl ?_
            refine goS rfl rfl rfl rfl rfl rfl rfl ?_
            refine go1 (op_pick_t rfl rfl (.t (has rfl)) (.bool _)) rfl ?_
            refine go1 (op_assign rfl (.t (has rfl))) rfl ?_
            refine goesO_nil ?_
            obtain rfl := Option.some.inj H
            exact ends_cut (.cons rfl .nil)
          · skip
            refine goG (op_move rfl (.t (has rfl))) rfl rfl rfl rfl hb45 ?_
            refine goG (op_icmp rfl rfl (.t (has rfl)) (.int _ _)) rfl rfl rfl rfl hb45 ?_
            refine go1 (op_pick_f rfl hb45 (.t (has rfl)) (.t (has rfl))) rfl ?_
            refine go1 (op_move rfl (.t (has rfl))) rfl ?_
            refine goesO_split H (fun hb46 H => ?_) (fun hb46 H => ?_)
            · skip
              refine goS rfl rfl rfl rfl rfl rfl hb46 ?_
              refine goS rfl rfl rfl rfl rfl rfl hb46 ?_
              refine go1 (op_pick_t rfl hb46 (.t (has rfl)) (.bool _)) rfl ?_
              refine go1 (op_move rfl (.t (has rfl))) rfl ?_
              refine goS rfl rfl rfl rfl rfl rfl rfl ?_
              refine goS rfl rfl rfl rfl rfl rfl rfl ?_
              refine go1 (op_pick_t rfl rfl (.t (has rfl)) (.bool _)) rfl ?_
              refine go1 (op_move rfl (.t (has rfl))) rfl ?_
              refine goS rfl rfl rfl rfl rfl rfl rfl ?_
              refine goS rfl rfl rfl rfl rfl rfl rfl ?_
              refine go1 (op_pick_t rfl rfl (.t (has rfl)) (.bool _)) rfl ?_
              refine go1 (op_assign rfl (.t (has rfl))) rfl ?_
              refine goesO_nil ?_
              obtain rfl := Option.some.inj H
              exact ends_cut (.cons rfl .nil)
            · skip
              refine goG (op_move rfl (.t (has rfl))) rfl rfl rfl rfl hb46 ?_
              refine goG (op_icmp rfl rfl (.t (has rfl)) (.int _ _)) rfl rfl rfl rfl hb46 ?_
              refine go1 (op_pick_f rfl hb46 (.t (has rfl)) (.t (has rfl))) rfl ?_
              refine go1 (op_move rfl (.t (has rfl))) rfl ?_
              refine goesO_split H (fun hb47 H => ?_) (fun hb47 H => ?_)
              · skip
                refine goS rfl rfl rfl rfl rfl rfl hb47 ?_
                refine goS rfl rfl rfl rfl rfl rfl hb47 ?_
                refine go1 (op_pick_t rfl hb47 (.t (has rfl)) (.bool _)) rfl ?_
                refine go1 (op_move rfl (.t (has rfl))) rfl ?_
                refine goS rfl rfl rfl rfl rfl rfl rfl ?_
                refine goS rfl rfl rfl rfl rfl rfl rfl ?_
                refine go1 (op_pick_t rfl rfl (.t (has rfl)) (.bool _)) rfl ?_
                refine go1 (op_assign rfl (.t (has rfl))) rfl ?_
                refine goesO_nil ?_
                obtain rfl := Option.some.inj H
                exact ends_cut (.cons rfl .nil)
              · skip
                refine goG (op_move rfl (.t (has rfl))) rfl rfl rfl rfl hb47 ?_
                refine goG (op_icmp rfl rfl (.t (has rfl)) (.int _ _)) rfl rfl rfl rfl hb47 ?_
                refine go1 (op_pick_f rfl hb47 (.t (has rfl)) (.t (has rfl))) rfl ?_
                refine go1 (op_move rfl (.t (has rfl))) rfl ?_
                refine goesO_split H (fun hb48 H => ?_) (fun hb48 H => ?_)
                · skip
                  refine goS rfl rfl rfl rfl rfl rfl hb48 ?_
                  refine goS rfl rfl rfl rfl rfl rfl hb48 ?_
                  refine go1 (op_pick_t rfl hb48 (.t (has rfl)) (.bool _)) rfl ?_
                  refine go1 (op_assign rfl (.t (has rfl))) rfl ?_
                  refine goesO_nil ?_
                  obtain rfl := Option.some.inj H
                  exact ends_cut (.cons rfl .nil)
                · skip
                  refine goG (op_move rfl (.t (has rfl))) rfl rfl rfl rfl hb48 ?_
                  refine goG (op_icmp rfl rfl (.t (has rfl)) (.int _ _)) rfl rfl rfl rfl hb48 ?_
                  refine go1 (op_pick_f rfl hb48 (.t (has rfl)) (.t (has rfl))) rfl ?_
                  refine go1 (op_assign rfl (.t (has rfl))) rfl ?_
                  refine goesO_nil ?_
                  obtain rfl := Option.some.inj H
                  exact ends_cut (.cons rfl .nil)
  refine ends_then ?_
  obtain rfl := Option.some.inj H
  exact goes_ret (ends_ret' rfl rfl (.t rfl (.nil _)))
theorem smithyref03_letter.conF (a0 : Int) (r : Bool) (H : smithyref03_letter.f a0 = some r) : ConF Try.prog 37 [VA.k (kint .u8) a0] [VA.k kbool r] := (smithyref03_letter.con a0 r H).freeL (.cons (KFree.k KFree.bool _) .nil)
/-! smithy/smithyref03.Is -/
def smithyref03_Is.l0 (a0 : ByteArray) : Nat → Int → Option (Except Bool Unit)
  | 0, _ => none
  | k + 1, s5 => bif icmp .lss s5 (a0.size : Int) then ((bidx a0 s5).bind fun x10 => (smithyref03_letter.f x10).bind fun v12 => bif !v12 then (some (Except.error false)) else (smithyref03_Is.l0 a0 k (IntKind.i64.wrap (s5 + (1 : Int))))) else (some (Except.ok ()))
def smithyref03_Is.f (k : Nat) (a0 : ByteArray) : Option Bool := (bif icmp .lss (a0.size : Int) (1 : Int) then (some true) else (some (icmp .gtr (a0.size : Int) (64 : Int)))).bind fun s1 => bif s1 then (some false) else ((smithyref03_Is.l0 a0 k (0 : Int)).bind fun o8 => match o8 with | .error r' => some r' | .ok s6 => (some true))
set_option maxRecDepth 100000 in
set_option maxHeartbeats 4000000 in
theorem smithyref03_Is.con (k : Nat) (a0 : ByteArray) (r : Bool) (H : smithyref03_Is.f k a0 = some r) : Con Try.prog 30 [VA.k kstr a0] [VA.k kbool r] := by
  unfold smithyref03_Is.f at H
  refine con_enter Try.func30 rfl rfl rfl (fun w0 S0 θ => ?_)
  refine goes_seq ?_
  refine goes_region ?_
  refine go1 (op_assign rfl (.bool _)) rfl ?_
  refine goesO_nil ?_
  refine ends_then ?_
  refine goes_seq ?_
  refine goes_seq ?_
  obtain ⟨s1, h2, H⟩ := bind_some H
  refine goes_cut [Ent.t 0 (VA.k kstr a0), Ent.t 11 (VA.k kbool s1)] ?_ ?_
  · replace H := h2; clear h2
    refine goes_region ?_
    refine go1 (op_move rfl (.t (has rfl))) rfl ?_
    refine go1 (op_len_str rfl rfl Try.underlying9 (.t (has rfl))) rfl ?_
    refine go1 (op_icmp rfl rfl (.t (has rfl)) (.int _ _)) rfl ?_
    refine go1 (op_move rfl (.t (has rfl))) rfl ?_
    refine goesO_split H (fun hb3 H => ?_) (fun hb3 H => ?_)
    · skip
      refine goS rfl rfl rfl rfl rfl rfl hb3 ?_
      refine goS rfl rfl rfl rfl rfl rfl hb3 ?_
      refine goS rfl rfl rfl rfl rfl rfl hb3 ?_
      refine go1 (op_pick_t rfl hb3 (.t (has rfl)) (.bool _)) rfl ?_
      refine goesO_nil ?_
      obtain rfl := Option.some.inj H
      exact ends_cut (.cons rfl (.cons rfl .nil))
    · skip
      refine goG (op_move rfl (.t (has rfl))) rfl rfl rfl rfl hb3 ?_
      refine goG (op_len_str rfl rfl Try.underlying9 (.t (has rfl))) rfl rfl rfl rfl hb3 ?_
      refine goG (op_icmp rfl rfl (.t (has rfl)) (.int _ _)) rfl rfl rfl rfl hb3 ?_
      refine go1 (op_pick_f rfl hb3 (.t (has rfl)) (.t (has rfl))) rfl ?_
      refine goesO_nil ?_
      obtain rfl := Option.some.inj H
      exact ends_cut (.cons rfl (.cons rfl .nil))
  refine ends_then ?_
  refine goes_if (.t (has rfl)) H (fun hb4 H => ?_) (fun hb4 H => ?_)
  · skip
    refine goes_seq ?_
    refine goes_region ?_
    refine go1 (op_assign rfl (.bool _)) rfl ?_
    refine goesO_nil ?_
    refine ends_then ?_
    obtain rfl := Option.some.inj H
    exact goes_ret (ends_then_ret (ends_ret' rfl rfl (.t rfl (.nil _))))
  · skip
    refine goes_skip ?_
    refine ends_then ?_
    refine goes_seq ?_
    refine goes_seq ?_
    refine goes_region ?_
    refine go1 (op_assign rfl (.int _ _)) rfl ?_
    refine goesO_nil ?_
    refine ends_then ?_
    obtain ⟨o8, h7, H⟩ := bind_some H
    refine goes_cutR (o := o8) (fun s6 : Unit => []) (fun r a w => bodyPost Try.prog Try.f30 (CPost w0 S0 θ [VA.k kbool r]) .ret a w) ?_ ?_ ?_
    · replace H := h7; clear h7
      refine goes_block ?_
      refine goes_loop (fun s5 : Int => [Ent.t 0 (VA.k kstr a0), Ent.t 3 (VA.k (kint .i64) s5)]) (fun k s5 => smithyref03_Is.l0 a0 k s5) (fun _ => rfl) H (.cons rfl (.cons rfl .nil)) ?_
      intro k s5 H
      simp only [smithyref03_Is.l0] at H
      refine goes_seq ?_
      refine goes_seq ?_
      refine goes_region ?_
      refine go1 (op_move rfl (.t (has rfl))) rfl ?_
      refine go1 (op_move rfl (.t (has rfl))) rfl ?_
      refine go1 (op_len_str rfl rfl Try.underlying9 (.t (has rfl))) rfl ?_
      refine go1 (op_icmp rfl rfl (.t (has rfl)) (.t (has rfl))) rfl ?_
      refine goesO_nil ?_
      refine ends_then ?_
      refine goes_if (.t (has rfl)) H (fun hb9 H => ?_) (fun hb9 H => ?_)
      · skip
        refine goes_skip ?_
        refine ends_then ?_
        refine goes_seq ?_
        refine goes_block ?_
        refine goes_seq ?_
        refine goes_region ?_
        refine go1 (op_move rfl (.t (has rfl))) rfl ?_
        refine go1 (op_move rfl (.t (has rfl))) rfl ?_
        obtain ⟨x10, h11, H⟩ := bind_some H
        refine go1 (op_index_str rfl Try.underlying9 h11 (.t (has rfl)) (.t (has rfl))) rfl ?_
        obtain ⟨v12, h13, H⟩ := bind_some H
        refine go1 (op_call' rfl enters37 (smithyref03_letter.con _ _ h13) rfl (.cons (ArgP.k (.t (has rfl))) .nil)) rfl ?_
        refine go1 (op_not rfl (.t (has rfl))) rfl ?_
        refine goesO_nil ?_
        refine ends_then ?_
        refine goes_if (.t (has rfl)) H (fun hb14 H => ?_) (fun hb14 H => ?_)
        · skip
          refine goes_seq ?_
          refine goes_region ?_
          refine go1 (op_assign rfl (.bool _)) rfl ?_
          refine goesO_nil ?_
          refine ends_then ?_
          obtain rfl := Option.some.inj H
          refine goes_ret (ends_block_ret (ends_then_ret (ends_then_ret (ends_block_ret (ends_cutR_ret rfl ?_)))))
          exact ends_ret' rfl rfl (.t rfl (.nil _))
        · skip
          refine goes_skip ?_
          refine ends_block ?_
          refine ends_then ?_
          refine goes_region ?_
          refine go1 (op_move rfl (.t (has rfl))) rfl ?_
          refine go1 (op_add rfl (.t (has rfl)) (.int _ _)) rfl ?_
          refine go1 (op_assign rfl (.t (has rfl))) rfl ?_
          refine goesO_nil ?_
          exact loop_next _ H (.cons rfl (.cons rfl .nil))
      · skip
        refine goes_exit (ends_then_exit (ends_then_exit (ends_block_exit ?_)))
        obtain rfl := Option.some.inj H
        exact ends_cutR rfl .nil
    · rintro s6 rfl
      clear h7
      dsimp only at H
      refine ends_then ?_
      refine goes_seq ?_
      refine goes_region ?_
      refine go1 (op_assign rfl (.bool _)) rfl ?_
      refine goesO_nil ?_
      refine ends_then ?_
      obtain rfl := Option.some.inj H
      exact goes_ret (ends_ret' rfl rfl (.t rfl (.nil _)))
    · rintro r' rfl a w hr
      obtain rfl := Option.some.inj H
      exact hr
theorem smithyref03_Is.conF (k : Nat) (a0 : ByteArray) (r : Bool) (H : smithyref03_Is.f k a0 = some r) : ConF Try.prog 30 [VA.k kstr a0] [VA.k kbool r] := (smithyref03_Is.con k a0 r H).freeL (.cons (KFree.k KFree.bool _) .nil)
/-! smithy/smithyref19.names -/
def smithyref19_names.l0 (a0 : List ByteArray) : Nat → Int → Option (Except Int Unit)
  | 0, _ => none
  | k + 1, s2 => bif icmp .lss s2 (a0.length : Int) then ((idx a0 s2).bind fun x7 => (smithyref03_Is.f k x7).bind fun v9 => bif !v9 then (some (Except.error (3 : Int))) else (smithyref19_names.l0 a0 k (IntKind.i64.wrap (s2 + (1 : Int))))) else (some (Except.ok ()))
def smithyref19_names.f (k : Nat) (a0 : List ByteArray) (a1 : Int) : Option Int := bif icmp .gtr (a0.length : Int) a1 then (some (2 : Int)) else ((smithyref19_names.l0 a0 k (0 : Int)).bind fun o5 => match o5 with | .error r' => some r' | .ok s3 => (some (0 : Int)))
set_option maxRecDepth 100000 in
set_option maxHeartbeats 4000000 in
theorem smithyref19_names.con (k : Nat) (a0 : List ByteArray) (a1 : Int) (r : Int) (H : smithyref19_names.f k a0 a1 = some r) : Con Try.prog 21 [VA.k (kslice kstr) a0, VA.k (kint .i64) a1] [VA.k (kint .i64) r] := by
  unfold smithyref19_names.f at H
  refine con_enter Try.func21 rfl rfl rfl (fun w0 S0 θ => ?_)
  refine goes_seq ?_
  refine goes_region ?_
  refine go1 (op_assign rfl (.int _ _)) rfl ?_
  refine goesO_nil ?_
  refine ends_then ?_
  refine goes_seq ?_
  refine goes_seq ?_
  refine goes_region ?_
  refine go1 (op_move rfl (.t (has rfl))) rfl ?_
  refine go1 (op_len rfl rfl Try.underlying22 (.t (has rfl))) rfl ?_
  refine go1 (op_move rfl (.t (has rfl))) rfl ?_
  refine go1 (op_icmp rfl rfl (.t (has rfl)) (.t (has rfl))) rfl ?_
  refine goesO_nil ?_
  refine ends_then ?_
  refine goes_if (.t (has rfl)) H (fun hb1 H => ?_) (fun hb1 H => ?_)
  · skip
    refine goes_seq ?_
    refine goes_region ?_
    refine go1 (op_assign rfl (.int _ _)) rfl ?_
    refine goesO_nil ?_
    refine ends_then ?_
    obtain rfl := Option.some.inj H
    exact goes_ret (ends_then_ret (ends_ret' rfl rfl (.t rfl (.nil _))))
  · skip
    refine goes_skip ?_
    refine ends_then ?_
    refine goes_seq ?_
    refine goes_seq ?_
    refine goes_region ?_
    refine go1 (op_move rfl (.t (has rfl))) rfl ?_
    refine go1 (op_len rfl rfl Try.underlying22 (.t (has rfl))) rfl ?_
    refine go1 (op_move rfl (.int _ _)) rfl ?_
    refine goesO_nil ?_
    refine ends_then ?_
    obtain ⟨o5, h4, H⟩ := bind_some H
    refine goes_cutR (o := o5) (fun s3 : Unit => []) (fun r a w => bodyPost Try.prog Try.f21 (CPost w0 S0 θ [VA.k (kint .i64) r]) .ret a w) ?_ ?_ ?_
    · replace H := h4; clear h4
      refine goes_block ?_
      refine goes_loop (fun s2 : Int => [Ent.t 11 (VA.k (kslice kstr) a0), Ent.t 12 (VA.k (kint .i64) (a0.length : Int)), Ent.t 13 (VA.k (kint .i64) s2)]) (fun k s2 => smithyref19_names.l0 a0 k s2) (fun _ => rfl) H (.cons rfl (.cons rfl (.cons rfl .nil))) ?_
      intro k s2 H
      simp only [smithyref19_names.l0] at H
      refine goes_seq ?_
      refine goes_region ?_
      refine go1 (op_icmp rfl rfl (.t (has rfl)) (.t (has rfl))) rfl ?_
      refine goesO_nil ?_
      refine ends_then ?_
      refine goes_seq ?_
      refine goes_if (.t (has rfl)) H (fun hb6 H => ?_) (fun hb6 H => ?_)
      · skip
        refine goes_skip ?_
        refine ends_then ?_
        refine goes_seq ?_
        refine goes_block ?_
        refine goes_seq ?_
        refine goes_region ?_
        obtain ⟨x7, h8, H⟩ := bind_some H
        refine go1 (op_indexAddr rfl Try.underlying22 tk9 h8 (.t (has rfl)) (.t (has rfl))) rfl ?_
        refine go1 (op_loadp rfl tk9 (.t (has rfl))) rfl ?_
        refine go1 (op_assign rfl (.t (has rfl))) rfl ?_
        refine goesO_nil ?_
        refine ends_then ?_
        refine goes_seq ?_
        refine goes_region ?_
        refine go1 (op_move rfl (.t (has rfl))) rfl ?_
        obtain ⟨v9, h10, H⟩ := bind_some H
        refine go1 (op_call' rfl enters30 (smithyref03_Is.con _ _ _ h10) rfl (.cons (ArgP.k (.t (has rfl))) .nil)) rfl ?_
        refine go1 (op_not rfl (.t (has rfl))) rfl ?_
        refine goesO_nil ?_
        refine ends_then ?_
        refine goes_if (.t (has rfl)) H (fun hb11 H => ?_) (fun hb11 H => ?_)
        · skip
          refine goes_seq ?_
          refine goes_region ?_
          refine go1 (op_assign rfl (.int _ _)) rfl ?_
          refine goesO_nil ?_
          refine ends_then ?_
          obtain rfl := Option.some.inj H
          refine goes_ret (ends_block_ret (ends_then_ret (ends_then_ret (ends_block_ret (ends_cutR_ret rfl ?_)))))
          exact ends_ret' rfl rfl (.t rfl (.nil _))
        · skip
          refine goes_skip ?_
          refine ends_block ?_
          refine ends_then ?_
          refine goes_region ?_
          refine go1 (op_add rfl (.t (has rfl)) (.int _ _)) rfl ?_
          refine go1 (op_move rfl (.t (has rfl))) rfl ?_
          refine goesO_nil ?_
          exact loop_next _ H (.cons rfl (.cons rfl (.cons rfl .nil)))
      · skip
        refine goes_exit (ends_then_exit (ends_then_exit (ends_block_exit ?_)))
        obtain rfl := Option.some.inj H
        exact ends_cutR rfl .nil
    · rintro s3 rfl
      clear h4
      dsimp only at H
      refine ends_then ?_
      refine goes_seq ?_
      refine goes_region ?_
      refine go1 (op_assign rfl (.int _ _)) rfl ?_
      refine goesO_nil ?_
      refine ends_then ?_
      obtain rfl := Option.some.inj H
      exact goes_ret (ends_ret' rfl rfl (.t rfl (.nil _)))
    · rintro r' rfl a w hr
      obtain rfl := Option.some.inj H
      exact hr
theorem smithyref19_names.conF (k : Nat) (a0 : List ByteArray) (a1 : Int) (r : Int) (H : smithyref19_names.f k a0 a1 = some r) : ConF Try.prog 21 [VA.k (kslice kstr) a0, VA.k (kint .i64) a1] [VA.k (kint .i64) r] := (smithyref19_names.con k a0 a1 r H).freeL (.cons (KFree.k (KFree.int .i64) _) .nil)
end Go.Proofs.Ytmmjbobicnmilaa.F
