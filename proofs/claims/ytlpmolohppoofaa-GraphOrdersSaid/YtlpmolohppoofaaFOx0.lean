import Derived.Test.YtlpmolohppoofaaTO
set_option linter.unusedVariables false
set_option linter.unusedSimpArgs false
set_option linter.unnecessarySimpa false
set_option linter.deprecated false
namespace Go.Proofs.Ytlpmolohppoofaa.F
open Go Go.RowKit Go.Proofs.Ytlpmolohppoofaa.Sl
/-! smithy/macro.Name$1 -/
def macro_Name_1.f (a0 : Int) : Option Bool := (bif icmp .geq a0 (97 : Int) then (bif icmp .leq a0 (122 : Int) then (some (!true)) else (bif icmp .geq a0 (65 : Int) then (bif icmp .leq a0 (90 : Int) then (some (!true)) else (bif icmp .geq a0 (48 : Int) then (bif icmp .leq a0 (57 : Int) then (some (!true)) else (bif icmp .eql a0 (95 : Int) then (some (!true)) else (some (!(icmp .eql a0 (46 : Int)))))) else (bif icmp .eql a0 (95 : Int) then (some (!true)) else (some (!(icmp .eql a0 (46 : Int))))))) else (bif icmp .geq a0 (48 : Int) then (bif icmp .leq a0 (57 : Int) then (some (!true)) else (bif icmp .eql a0 (95 : Int) then (some (!true)) else (some (!(icmp .eql a0 (46 : Int)))))) else (bif icmp .eql a0 (95 : Int) then (some (!true)) else (some (!(icmp .eql a0 (46 : Int)))))))) else (bif icmp .geq a0 (65 : Int) then (bif icmp .leq a0 (90 : Int) then (some (!true)) else (bif icmp .geq a0 (48 : Int) then (bif icmp .leq a0 (57 : Int) then (some (!true)) else (bif icmp .eql a0 (95 : Int) then (some (!true)) else (some (!(icmp .eql a0 (46 : Int)))))) else (bif icmp .eql a0 (95 : Int) then (some (!true)) else (some (!(icmp .eql a0 (46 : Int))))))) else (bif icmp .geq a0 (48 : Int) then (bif icmp .leq a0 (57 : Int) then (some (!true)) else (bif icmp .eql a0 (95 : Int) then (some (!true)) else (some (!(icmp .eql a0 (46 : Int)))))) else (bif icmp .eql a0 (95 : Int) then (some (!true)) else (some (!(icmp .eql a0 (46 : Int)))))))).bind fun s1 => some s1
set_option maxRecDepth 100000 in
set_option maxHeartbeats 4000000 in
theorem macro_Name_1.con (a0 : Int) (r : Bool) (H : macro_Name_1.f a0 = some r) : Con Try.prog 88 [VA.k (kint .i32) a0] [VA.k kbool r] := by
  unfold macro_Name_1.f at H
  refine con_enter Try.func88 rfl rfl rfl (fun w0 S0 θ => ?_)
  refine goes_seq ?_
  refine goes_region ?_
  refine go1 (op_assign rfl (.bool _)) rfl ?_
  refine goesO_nil ?_
  refine ends_then ?_
  refine goes_seq ?_
  obtain ⟨s1, h2, H⟩ := bind_some H
  refine goes_cut [Ent.t 2 (VA.k kbool s1)] ?_ ?_
  · replace H := h2; clear h2
    refine goes_region ?_
    refine go1 (op_move rfl (.t (has rfl))) rfl ?_
    refine go1 (op_icmp rfl rfl (.t (has rfl)) (.int _ _)) rfl ?_
    refine go1 (op_move rfl (.t (has rfl))) rfl ?_
    refine goesO_split H (fun hb3 H => ?_) (fun hb3 H => ?_)
    · skip
      refine goG (op_move rfl (.t (has rfl))) rfl rfl rfl rfl hb3 ?_
      refine goG (op_icmp rfl rfl (.t (has rfl)) (.int _ _)) rfl rfl rfl rfl hb3 ?_
      refine go1 (op_pick_t rfl hb3 (.t (has rfl)) (.t (has rfl))) rfl ?_
      refine go1 (op_move rfl (.t (has rfl))) rfl ?_
      refine goesO_split H (fun hb4 H => ?_) (fun hb4 H => ?_)
      · skip
        refine goS rfl rfl rfl rfl rfl rfl hb4 ?_
        refine goS rfl rfl rfl rfl rfl rfl hb4 ?_
        refine goS rfl rfl rfl rfl rfl rfl hb4 ?_
        refine goSU rfl rfl rfl rfl rfl rfl ?_
        refine goSU rfl rfl rfl rfl rfl rfl ?_
        refine goS rfl rfl rfl rfl rfl rfl hb4 ?_
        refine go1 (op_pick_t rfl hb4 (.t (has rfl)) (.bool _)) rfl ?_
        refine go1 (op_move rfl (.t (has rfl))) rfl ?_
        refine goS rfl rfl rfl rfl rfl rfl rfl ?_
        refine goS rfl rfl rfl rfl rfl rfl rfl ?_
        refine goS rfl rfl rfl rfl rfl rfl rfl ?_
        refine goSU rfl rfl rfl rfl rfl rfl ?_
        refine goSU rfl rfl rfl rfl rfl rfl ?_
        refine goS rfl rfl rfl rfl rfl rfl rfl ?_
        refine go1 (op_pick_t rfl rfl (.t (has rfl)) (.bool _)) rfl ?_
        refine go1 (op_move rfl (.t (has rfl))) rfl ?_
        refine goS rfl rfl rfl rfl rfl rfl rfl ?_
        refine goS rfl rfl rfl rfl rfl rfl rfl ?_
        refine go1 (op_pick_t rfl rfl (.t (has rfl)) (.bool _)) rfl ?_
        refine go1 (op_move rfl (.t (has rfl))) rfl ?_
        refine goS rfl rfl rfl rfl rfl rfl rfl ?_
        refine goS rfl rfl rfl rfl rfl rfl rfl ?_
        refine go1 (op_pick_t rfl rfl (.t (has rfl)) (.bool _)) rfl ?_
        refine go1 (op_not rfl (.t (has rfl))) rfl ?_
        refine go1 (op_assign rfl (.t (has rfl))) rfl ?_
        refine goesO_nil ?_
        obtain rfl := Option.some.inj H
        exact ends_cut (.cons rfl .nil)
      · skip
        refine goG (op_move rfl (.t (has rfl))) rfl rfl rfl rfl hb4 ?_
        refine goG (op_icmp rfl rfl (.t (has rfl)) (.int _ _)) rfl rfl rfl rfl hb4 ?_
        refine goG (op_move rfl (.t (has rfl))) rfl rfl rfl rfl hb4 ?_
        refine goesO_split H (fun hb5 H => ?_) (fun hb5 H => ?_)
        · skip
          refine goG (op_move rfl (.t (has rfl))) rfl rfl rfl rfl hb5 ?_
          refine goG (op_icmp rfl rfl (.t (has rfl)) (.int _ _)) rfl rfl rfl rfl hb5 ?_
          refine goG (op_pick_t rfl hb5 (.t (has rfl)) (.t (has rfl))) rfl rfl rfl rfl hb4 ?_
          refine go1 (op_pick_f rfl hb4 (.t (has rfl)) (.t (has rfl))) rfl ?_
          refine go1 (op_move rfl (.t (has rfl))) rfl ?_
          refine goesO_split H (fun hb6 H => ?_) (fun hb6 H => ?_)
          · skip
            refine goS rfl rfl rfl rfl rfl rfl hb6 ?_
            refine goS rfl rfl rfl rfl rfl rfl hb6 ?_
            refine goS rfl rfl rfl rfl rfl rfl hb6 ?_
            refine goSU rfl rfl rfl rfl rfl rfl ?_
            refine goSU rfl rfl rfl rfl rfl rfl ?_
            refine goS rfl rfl rfl rfl rfl rfl hb6 ?_
            refine go1 (op_pick_t rfl hb6 (.t (has rfl)) (.bool _)) rfl ?_
            refine go1 (op_move rfl (.t (has rfl))) rfl ?_
            refine goS rfl rfl rfl rfl rfl rfl rfl ?_
            refine goS rfl rfl rfl rfl rfl rfl rfl ?_
            refine go1 (op_pick_t rfl rfl (.t (has rfl)) (.bool _)) rfl ?_
            refine go1 (op_move rfl (.t (has rfl))) rfl ?_
            refine goS rfl rfl rfl rfl rfl rfl rfl ?_
            refine goS rfl rfl rfl rfl rfl rfl rfl ?_
            refine go1 (op_pick_t rfl rfl (.t (has rfl)) (.bool _)) rfl ?_
            refine go1 (op_not rfl (.t (has rfl))) rfl ?_
            refine go1 (op_assign rfl (.t (has rfl))) rfl ?_
            refine goesO_nil ?_
            obtain rfl := Option.some.inj H
            exact ends_cut (.cons rfl .nil)
          · skip
            refine goG (op_move rfl (.t (has rfl))) rfl rfl rfl rfl hb6 ?_
            refine goG (op_icmp rfl rfl (.t (has rfl)) (.int _ _)) rfl rfl rfl rfl hb6 ?_
            refine goG (op_move rfl (.t (has rfl))) rfl rfl rfl rfl hb6 ?_
            refine goesO_split H (fun hb7 H => ?_) (fun hb7 H => ?_)
            · skip
              refine goG (op_move rfl (.t (has rfl))) rfl rfl rfl rfl hb7 ?_
              refine goG (op_icmp rfl rfl (.t (has rfl)) (.int _ _)) rfl rfl rfl rfl hb7 ?_
              refine goG (op_pick_t rfl hb7 (.t (has rfl)) (.t (has rfl))) rfl rfl rfl rfl hb6 ?_
              refine go1 (op_pick_f rfl hb6 (.t (has rfl)) (.t (has rfl))) rfl ?_
              refine go1 (op_move rfl (.t (has rfl))) rfl ?_
              refine goesO_split H (fun hb8 H => ?_) (fun hb8 H => ?_)
              · skip
                refine goS rfl rfl rfl rfl rfl rfl hb8 ?_
                refine goS rfl rfl rfl rfl rfl rfl hb8 ?_
                refine go1 (op_pick_t rfl hb8 (.t (has rfl)) (.bool _)) rfl ?_
                refine go1 (op_move rfl (.t (has rfl))) rfl ?_
                refine goS rfl rfl rfl rfl rfl rfl rfl ?_
                refine goS rfl rfl rfl rfl rfl rfl rfl ?_
                refine go1 (op_pick_t rfl rfl (.t (has rfl)) (.bool _)) rfl ?_
                refine go1 (op_not rfl (.t (has rfl))) rfl ?_
                refine go1 (op_assign rfl (.t (has rfl))) rfl ?_
                refine goesO_nil ?_
                obtain rfl := Option.some.inj H
                exact ends_cut (.cons rfl .nil)
              · skip
                refine goG (op_move rfl (.t (has rfl))) rfl rfl rfl rfl hb8 ?_
                refine goG (op_icmp rfl rfl (.t (has rfl)) (.int _ _)) rfl rfl rfl rfl hb8 ?_
                refine go1 (op_pick_f rfl hb8 (.t (has rfl)) (.t (has rfl))) rfl ?_
                refine go1 (op_move rfl (.t (has rfl))) rfl ?_
                refine goesO_split H (fun hb9 H => ?_) (fun hb9 H => ?_)
                · skip
                  refine goS rfl rfl rfl rfl rfl rfl hb9 ?_
                  refine goS rfl rfl rfl rfl rfl rfl hb9 ?_
                  refine go1 (op_pick_t rfl hb9 (.t (has rfl)) (.bool _)) rfl ?_
                  refine go1 (op_not rfl (.t (has rfl))) rfl ?_
                  refine go1 (op_assign rfl (.t (has rfl))) rfl ?_
                  refine goesO_nil ?_
                  obtain rfl := Option.some.inj H
                  exact ends_cut (.cons rfl .nil)
                · skip
                  refine goG (op_move rfl (.t (has rfl))) rfl rfl rfl rfl hb9 ?_
                  refine goG (op_icmp rfl rfl (.t (has rfl)) (.int _ _)) rfl rfl rfl rfl hb9 ?_
                  refine go1 (op_pick_f rfl hb9 (.t (has rfl)) (.t (has rfl))) rfl ?_
                  refine go1 (op_not rfl (.t (has rfl))) rfl ?_
                  refine go1 (op_assign rfl (.t (has rfl))) rfl ?_
                  refine goesO_nil ?_
                  obtain rfl := Option.some.inj H
                  exact ends_cut (.cons rfl .nil)
            · skip
              refine goS rfl rfl rfl rfl rfl rfl hb7 ?_
              refine goS rfl rfl rfl rfl rfl rfl hb7 ?_
              refine goG (op_pick_f rfl hb7 (.t (has rfl)) (.bool _)) rfl rfl rfl rfl hb6 ?_
              refine go1 (op_pick_f rfl hb6 (.t (has rfl)) (.t (has rfl))) rfl ?_
              refine go1 (op_move rfl (.t (has rfl))) rfl ?_
              refine goG (op_move rfl (.t (has rfl))) rfl rfl rfl rfl rfl ?_
              refine goG (op_icmp rfl rfl (.t (has rfl)) (.int _ _)) rfl rfl rfl rfl rfl ?_
              refine go1 (op_pick_f rfl rfl (.t (has rfl)) (.t (has rfl))) rfl ?_
              refine go1 (op_move rfl (.t (has rfl))) rfl ?_
              refine goesO_split H (fun hb10 H => ?_) (fun hb10 H => ?_)
              · skip
                refine goS rfl rfl rfl rfl rfl rfl hb10 ?_
                refine goS rfl rfl rfl rfl rfl rfl hb10 ?_
                refine go1 (op_pick_t rfl hb10 (.t (has rfl)) (.bool _)) rfl ?_
                refine go1 (op_not rfl (.t (has rfl))) rfl ?_
                refine go1 (op_assign rfl (.t (has rfl))) rfl ?_
                refine goesO_nil ?_
                obtain rfl := Option.some.inj H
                exact ends_cut (.cons rfl .nil)
              · skip
                refine goG (op_move rfl (.t (has rfl))) rfl rfl rfl rfl hb10 ?_
                refine goG (op_icmp rfl rfl (.t (has rfl)) (.int _ _)) rfl rfl rfl rfl hb10 ?_
                refine go1 (op_pick_f rfl hb10 (.t (has rfl)) (.t (has rfl))) rfl ?_
                refine go1 (op_not rfl (.t (has rfl))) rfl ?_
                refine go1 (op_assign rfl (.t (has rfl))) rfl ?_
                refine goesO_nil ?_
                obtain rfl := Option.some.inj H
                exact ends_cut (.cons rfl .nil)
        · skip
          refine goS rfl rfl rfl rfl rfl rfl hb5 ?_
          refine goS rfl rfl rfl rfl rfl rfl hb5 ?_
          refine goG (op_pick_f rfl hb5 (.t (has rfl)) (.bool _)) rfl rfl rfl rfl hb4 ?_
          refine go1 (op_pick_f rfl hb4 (.t (has rfl)) (.t (has rfl))) rfl ?_
          refine go1 (op_move rfl (.t (has rfl))) rfl ?_
          refine goG (op_move rfl (.t (has rfl))) rfl rfl rfl rfl rfl ?_
          refine goG (op_icmp rfl rfl (.t (has rfl)) (.int _ _)) rfl rfl rfl rfl rfl ?_
          refine goG (op_move rfl (.t (has rfl))) rfl rfl rfl rfl rfl ?_
          refine goesO_split H (fun hb11 H => ?_) (fun hb11 H => ?_)
          · skip
            refine goG (op_move rfl (.t (has rfl))) rfl rfl rfl rfl hb11 ?_
            refine goG (op_icmp rfl rfl (.t (has rfl)) (.int _ _)) rfl rfl rfl rfl hb11 ?_
            refine goG (op_pick_t rfl hb11 (.t (has rfl)) (.t (has rfl))) rfl rfl rfl rfl rfl ?_
            refine go1 (op_pick_f rfl rfl (.t (has rfl)) (.t (has rfl))) rfl ?_
            refine go1 (op_move rfl (.t (has rfl))) rfl ?_
            refine goesO_split H (fun hb12 H => ?_) (fun hb12 H => ?_)
            · skip
              refine goS rfl rfl rfl rfl rfl rfl hb12 ?_
              refine goS rfl rfl rfl rfl rfl rfl hb12 ?_
              refine go1 (op_pick_t rfl hb12 (.t (has rfl)) (.bool _)) rfl ?_
              refine go1 (op_move rfl (.t (has rfl))) rfl ?_
              refine goS rfl rfl rfl rfl rfl rfl rfl ?_
              refine goS rfl rfl rfl rfl rfl rfl rfl ?_
              refine go1 (op_pick_t rfl rfl (.t (has rfl)) (.bool _)) rfl ?_
              refine go1 (op_not rfl (.t (has rfl))) rfl ?_
              refine go1 (op_assign rfl (.t (has rfl))) rfl ?_
              refine goesO_nil ?_
              obtain rfl := Option.some.inj H
              exact ends_cut (.cons rfl .nil)
            · skip
              refine goG (op_move rfl (.t (has rfl))) rfl rfl rfl rfl hb12 ?_
              refine goG (op_icmp rfl rfl (.t (has rfl)) (.int _ _)) rfl rfl rfl rfl hb12 ?_
              refine go1 (op_pick_f rfl hb12 (.t (has rfl)) (.t (has rfl))) rfl ?_
              refine go1 (op_move rfl (.t (has rfl))) rfl ?_
              refine goesO_split H (fun hb13 H => ?_) (fun hb13 H => ?_)
              · skip
                refine goS rfl rfl rfl rfl rfl rfl hb13 ?_
                refine goS rfl rfl rfl rfl rfl rfl hb13 ?_
                refine go1 (op_pick_t rfl hb13 (.t (has rfl)) (.bool _)) rfl ?_
                refine go1 (op_not rfl (.t (has rfl))) rfl ?_
                refine go1 (op_assign rfl (.t (has rfl))) rfl ?_
                refine goesO_nil ?_
                obtain rfl := Option.some.inj H
                exact ends_cut (.cons rfl .nil)
              · skip
                refine goG (op_move rfl (.t (has rfl))) rfl rfl rfl rfl hb13 ?_
                refine goG (op_icmp rfl rfl (.t (has rfl)) (.int _ _)) rfl rfl rfl rfl hb13 ?_
                refine go1 (op_pick_f rfl hb13 (.t (has rfl)) (.t (has rfl))) rfl ?_
                refine go1 (op_not rfl (.t (has rfl))) rfl ?_
                refine go1 (op_assign rfl (.t (has rfl))) rfl ?_
                refine goesO_nil ?_
                obtain rfl := Option.some.inj H
                exact ends_cut (.cons rfl .nil)
          · skip
            refine goS rfl rfl rfl rfl rfl rfl hb11 ?_
            refine goS rfl rfl rfl rfl rfl rfl hb11 ?_
            refine goG (op_pick_f rfl hb11 (.t (has rfl)) (.bool _)) rfl rfl rfl rfl rfl ?_
            refine go1 (op_pick_f rfl rfl (.t (has rfl)) (.t (has rfl))) rfl ?_
            refine go1 (op_move rfl (.t (has rfl))) rfl ?_
            refine goG (op_move rfl (.t (has rfl))) rfl rfl rfl rfl rfl ?_
            refine goG (op_icmp rfl rfl (.t (has rfl)) (.int _ _)) rfl rfl rfl rfl rfl ?_
            refine go1 (op_pick_f rfl rfl (.t (has rfl)) (.t (has rfl))) rfl ?_
            refine go1 (op_move rfl (.t (has rfl))) rfl ?_
            refine goesO_split H (fun hb14 H => ?_) (fun hb14 H => ?_)
            · skip
              refine goS rfl rfl rfl rfl rfl rfl hb14 ?_
              refine goS rfl rfl rfl rfl rfl rfl hb14 ?_
              refine go1 (op_pick_t rfl hb14 (.t (has rfl)) (.bool _)) rfl ?_
              refine go1 (op_not rfl (.t (has rfl))) rfl ?_
              refine go1 (op_assign rfl (.t (has rfl))) rfl ?_
              refine goesO_nil ?_
              obtain rfl := Option.some.inj H
              exact ends_cut (.cons rfl .nil)
            · skip
              refine goG (op_move rfl (.t (has rfl))) rfl rfl rfl rfl hb14 ?_
              refine goG (op_icmp rfl rfl (.t (has rfl)) (.int _ _)) rfl rfl rfl rfl hb14 ?_
              refine go1 (op_pick_f rfl hb14 (.t (has rfl)) (.t (has rfl))) rfl ?_
              refine go1 (op_not rfl (.t (has rfl))) rfl ?_
              refine go1 (op_assign rfl (.t (has rfl))) rfl ?_
              refine goesO_nil ?_
              obtain rfl := Option.some.inj H
              exact ends_cut (.cons rfl .nil)
    · skip
      refine goS rfl rfl rfl rfl rfl rfl hb3 ?_
      refine goS rfl rfl rfl rfl rfl rfl hb3 ?_
      refine go1 (op_pick_f rfl hb3 (.t (has rfl)) (.bool _)) rfl ?_
      refine go1 (op_move rfl (.t (has rfl))) rfl ?_
      refine goG (op_move rfl (.t (has rfl))) rfl rfl rfl rfl rfl ?_
      refine goG (op_icmp rfl rfl (.t (has rfl)) (.int _ _)) rfl rfl rfl rfl rfl ?_
      refine goG (op_move rfl (.t (has rfl))) rfl rfl rfl rfl rfl ?_
      refine goesO_split H (fun hb15 H => ?_) (fun hb15 H => ?_)
      · skip
        refine goG (op_move rfl (.t (has rfl))) rfl rfl rfl rfl hb15 ?_
        refine goG (op_icmp rfl rfl (.t (has rfl)) (.int _ _)) rfl rfl rfl rfl hb15 ?_
        refine goG (op_pick_t rfl hb15 (.t (has rfl)) (.t (has rfl))) rfl rfl rfl rfl rfl ?_
        refine go1 (op_pick_f rfl rfl (.t (has rfl)) (.t (has rfl))) rfl ?_
        refine go1 (op_move rfl (.t (has rfl))) rfl ?_
        refine goesO_split H (fun hb16 H => ?_) (fun hb16 H => ?_)
        · skip
          refine goS rfl rfl rfl rfl rfl rfl hb16 ?_
          refine goS rfl rfl rfl rfl rfl rfl hb16 ?_
          refine goS rfl rfl rfl rfl rfl rfl hb16 ?_
          refine goSU rfl rfl rfl rfl rfl rfl ?_
          refine goSU rfl rfl rfl rfl rfl rfl ?_
          refine goS rfl rfl rfl rfl rfl rfl hb16 ?_
          refine go1 (op_pick_t rfl hb16 (.t (has rfl)) (.bool _)) rfl ?_
          refine go1 (op_move rfl (.t (has rfl))) rfl ?_
          refine goS rfl rfl rfl rfl rfl rfl rfl ?_
          refine goS rfl rfl rfl rfl rfl rfl rfl ?_
          refine go1 (op_pick_t rfl rfl (.t (has rfl)) (.bool _)) rfl ?_
          refine go1 (op_move rfl (.t (has rfl))) rfl ?_
          refine goS rfl rfl rfl rfl rfl rfl rfl ?_
          refine goS rfl rfl rfl rfl rfl rfl rfl ?_
          refine go1 (op_pick_t rfl rfl (.t (has rfl)) (.bool _)) rfl ?_
          refine go1 (op_not rfl (.t (has rfl))) rfl ?_
          refine go1 (op_assign rfl (.t (has rfl))) rfl ?_
          refine goesO_nil ?_
          obtain rfl := Option.some.inj H
          exact ends_cut (.cons rfl .nil)
        · skip
          refine goG (op_move rfl (.t (has rfl))) rfl rfl rfl rfl hb16 ?_
          refine goG (op_icmp rfl rfl (.t (has rfl)) (.int _ _)) rfl rfl rfl rfl hb16 ?_
          refine goG (op_move rfl (.t (has rfl))) rfl rfl rfl rfl hb16 ?_
          refine goesO_split H (fun hb17 H => ?_) (fun hb17 H => ?_)
          · skip
            refine goG (op_move rfl (.t (has rfl))) rfl rfl rfl rfl hb17 ?_
            refine goG (op_icmp rfl rfl (.t (has rfl)) (.int _ _)) rfl rfl rfl rfl hb17 ?_
            refine goG (op_pick_t rfl hb17 (.t (has rfl)) (.t (has rfl))) rfl rfl rfl rfl hb16 ?_
            refine go1 (op_pick_f rfl hb16 (.t (has rfl)) (.t (has rfl))) rfl ?_
            refine go1 (op_move rfl (.t (has rfl))) rfl ?_
            refine goesO_split H (fun hb18 H => ?_) (fun hb18 H => ?_)
            · skip
              refine goS rfl rfl rfl rfl rfl rfl hb18 ?_
              refine goS rfl rfl rfl rfl rfl rfl hb18 ?_
              refine go1 (op_pick_t rfl hb18 (.t (has rfl)) (.bool _)) rfl ?_
              refine go1 (op_move rfl (.t (has rfl))) rfl ?_
              refine goS rfl rfl rfl rfl rfl rfl rfl ?_
              refine goS rfl rfl rfl rfl rfl rfl rfl ?_
              refine go1 (op_pick_t rfl rfl (.t (has rfl)) (.bool _)) rfl ?_
              refine go1 (op_not rfl (.t (has rfl))) rfl ?_
              refine go1 (op_assign rfl (.t (has rfl))) rfl ?_
              refine goesO_nil ?_
              obtain rfl := Option.some.inj H
              exact ends_cut (.cons rfl .nil)
            · skip
              refine goG (op_move rfl (.t (has rfl))) rfl rfl rfl rfl hb18 ?_
              refine goG (op_icmp rfl rfl (.t (has rfl)) (.int _ _)) rfl rfl rfl rfl hb18 ?_
              refine go1 (op_pick_f rfl hb18 (.t (has rfl)) (.t (has rfl))) rfl ?_
              refine go1 (op_move rfl (.t (has rfl))) rfl ?_
              refine goesO_split H (fun hb19 H => ?_) (fun hb19 H => ?_)
              · skip
                refine goS rfl rfl rfl rfl rfl rfl hb19 ?_
                refine goS rfl rfl rfl rfl rfl rfl hb19 ?_
                refine go1 (op_pick_t rfl hb19 (.t (has rfl)) (.bool _)) rfl ?_
                refine go1 (op_not rfl (.t (has rfl))) rfl ?_
                refine go1 (op_assign rfl (.t (has rfl))) rfl ?_
                refine goesO_nil ?_
                obtain rfl := Option.some.inj H
                exact ends_cut (.cons rfl .nil)
              · skip
                refine goG (op_move rfl (.t (has rfl))) rfl rfl rfl rfl hb19 ?_
                refine goG (op_icmp rfl rfl (.t (has rfl)) (.int _ _)) rfl rfl rfl rfl hb19 ?_
                refine go1 (op_pick_f rfl hb19 (.t (has rfl)) (.t (has rfl))) rfl ?_
                refine go1 (op_not rfl (.t (has rfl))) rfl ?_
                refine go1 (op_assign rfl (.t (has rfl))) rfl ?_
                refine goesO_nil ?_
                obtain rfl := Option.some.inj H
                exact ends_cut (.cons rfl .nil)
          · skip
            refine goS rfl rfl rfl rfl rfl rfl hb17 ?_
            refine goS rfl rfl rfl rfl rfl rfl hb17 ?_
            refine goG (op_pick_f rfl hb17 (.t (has rfl)) (.bool _)) rfl rfl rfl rfl hb16 ?_
            refine go1 (op_pick_f rfl hb16 (.t (has rfl)) (.t (has rfl))) rfl ?_
            refine go1 (op_move rfl (.t (has rfl))) rfl ?_
            refine goG (op_move rfl (.t (has rfl))) rfl rfl rfl rfl rfl ?_
            refine goG (op_icmp rfl rfl (.t (has rfl)) (.int _ _)) rfl rfl rfl rfl rfl ?_
            refine go1 (op_pick_f rfl rfl (.t (has rfl)) (.t (has rfl))) rfl ?_
            refine go1 (op_move rfl (.t (has rfl))) rfl ?_
            refine goesO_split H (fun hb20 H => ?_) (fun hb20 H => ?_)
            · skip
              refine goS rfl rfl rfl rfl rfl rfl hb20 ?_
              refine goS rfl rfl rfl rfl rfl rfl hb20 ?_
              refine go1 (op_pick_t rfl hb20 (.t (has rfl)) (.bool _)) rfl ?_
              refine go1 (op_not rfl (.t (has rfl))) rfl ?_
              refine go1 (op_assign rfl (.t (has rfl))) rfl ?_
              refine goesO_nil ?_
              obtain rfl := Option.some.inj H
              exact ends_cut (.cons rfl .nil)
            · skip
              refine goG (op_move rfl (.t (has rfl))) rfl rfl rfl rfl hb20 ?_
              refine goG (op_icmp rfl rfl (.t (has rfl)) (.int _ _)) rfl rfl rfl rfl hb20 ?_
              refine go1 (op_pick_f rfl hb20 (.t (has rfl)) (.t (has rfl))) rfl ?_
              refine go1 (op_not rfl (.t (has rfl))) rfl ?_
              refine go1 (op_assign rfl (.t (has rfl))) rfl ?_
              refine goesO_nil ?_
              obtain rfl := Option.some.inj H
              exact ends_cut (.cons rfl .nil)
      · skip
        refine goS rfl rfl rfl rfl rfl rfl hb15 ?_
        refine goS rfl rfl rfl rfl rfl rfl hb15 ?_
        refine goG (op_pick_f rfl hb15 (.t (has rfl)) (.bool _)) rfl rfl rfl rfl rfl ?_
        refine go1 (op_pick_f rfl rfl (.t (has rfl)) (.t (has rfl))) rfl ?_
        refine go1 (op_move rfl (.t (has rfl))) rfl ?_
        refine goG (op_move rfl (.t (has rfl))) rfl rfl rfl rfl rfl ?_
        refine goG (op_icmp rfl rfl (.t (has rfl)) (.int _ _)) rfl rfl rfl rfl rfl ?_
        refine goG (op_move rfl (.t (has rfl))) rfl rfl rfl rfl rfl ?_
        refine goesO_split H (fun hb21 H => ?_) (fun hb21 H => ?_)
        · skip
          refine goG (op_move rfl (.t (has rfl))) rfl rfl rfl rfl hb21 ?_
          refine goG (op_icmp rfl rfl (.t (has rfl)) (.int _ _)) rfl rfl rfl rfl hb21 ?_
          refine goG (op_pick_t rfl hb21 (.t (has rfl)) (.t (has rfl))) rfl rfl rfl rfl rfl ?_
          refine go1 (op_pick_f rfl rfl (.t (has rfl)) (.t (has rfl))) rfl ?_
          refine go1 (op_move rfl (.t (has rfl))) rfl ?_
          refine goesO_split H (fun hb22 H => ?_) (fun hb22 H => ?_)
          · skip
            refine goS rfl rfl rfl rfl rfl rfl hb22 ?_
            refine goS rfl rfl rfl rfl rfl rfl hb22 ?_
            refine go1 (op_pick_t rfl hb22 (.t (has rfl)) (.bool _)) rfl ?_
            refine go1 (op_move rfl (.t (has rfl))) rfl ?_
            refine goS rfl rfl rfl rfl rfl rfl rfl ?_
            refine goS rfl rfl rfl rfl rfl rfl rfl ?_
            refine go1 (op_pick_t rfl rfl (.t (has rfl)) (.bool _)) rfl ?_
            refine go1 (op_not rfl (.t (has rfl))) rfl ?_
            refine go1 (op_assign rfl (.t (has rfl))) rfl ?_
            refine goesO_nil ?_
            obtain rfl := Option.some.inj H
            exact ends_cut (.cons rfl .nil)
          · skip
            refine goG (op_move rfl (.t (has rfl))) rfl rfl rfl rfl hb22 ?_
            refine goG (op_icmp rfl rfl (.t (has rfl)) (.int _ _)) rfl rfl rfl rfl hb22 ?_
            refine go1 (op_pick_f rfl hb22 (.t (has rfl)) (.t (has rfl))) rfl ?_
            refine go1 (op_move rfl (.t (has rfl))) rfl ?_
            refine goesO_split H (fun hb23 H => ?_) (fun hb23 H => ?_)
            · skip
              refine goS rfl rfl rfl rfl rfl rfl hb23 ?_
              refine goS rfl rfl rfl rfl rfl rfl hb23 ?_
              refine go1 (op_pick_t rfl hb23 (.t (has rfl)) (.bool _)) rfl ?_
              refine go1 (op_not rfl (.t (has rfl))) rfl ?_
              refine go1 (op_assign rfl (.t (has rfl))) rfl ?_
              refine goesO_nil ?_
              obtain rfl := Option.some.inj H
              exact ends_cut (.cons rfl .nil)
            · skip
              refine goG (op_move rfl (.t (has rfl))) rfl rfl rfl rfl hb23 ?_
              refine goG (op_icmp rfl rfl (.t (has rfl)) (.int _ _)) rfl rfl rfl rfl hb23 ?_
              refine go1 (op_pick_f rfl hb23 (.t (has rfl)) (.t (has rfl))) rfl ?_
              refine go1 (op_not rfl (.t (has rfl))) rfl ?_
              refine go1 (op_assign rfl (.t (has rfl))) rfl ?_
              refine goesO_nil ?_
              obtain rfl := Option.some.inj H
              exact ends_cut (.cons rfl .nil)
        · skip
          refine goS rfl rfl rfl rfl rfl rfl hb21 ?_
          refine goS rfl rfl rfl rfl rfl rfl hb21 ?_
          refine goG (op_pick_f rfl hb21 (.t (has rfl)) (.bool _)) rfl rfl rfl rfl rfl ?_
          refine go1 (op_pick_f rfl rfl (.t (has rfl)) (.t (has rfl))) rfl ?_
          refine go1 (op_move rfl (.t (has rfl))) rfl ?_
          refine goG (op_move rfl (.t (has rfl))) rfl rfl rfl rfl rfl ?_
          refine goG (op_icmp rfl rfl (.t (has rfl)) (.int _ _)) rfl rfl rfl rfl rfl ?_
          refine go1 (op_pick_f rfl rfl (.t (has rfl)) (.t (has rfl))) rfl ?_
          refine go1 (op_move rfl (.t (has rfl))) rfl ?_
          refine goesO_split H (fun hb24 H => ?_) (fun hb24 H => ?_)
          · skip
            refine goS rfl rfl rfl rfl rfl rfl hb24 ?_
            refine goS rfl rfl rfl rfl rfl rfl hb24 ?_
            refine go1 (op_pick_t rfl hb24 (.t (has rfl)) (.bool _)) rfl ?_
            refine go1 (op_not rfl (.t (has rfl))) rfl ?_
            refine go1 (op_assign rfl (.t (has rfl))) rfl ?_
            refine goesO_nil ?_
            obtain rfl := Option.some.inj H
            exact ends_cut (.cons rfl .nil)
          · skip
            refine goG (op_move rfl (.t (has rfl))) rfl rfl rfl rfl hb24 ?_
            refine goG (op_icmp rfl rfl (.t (has rfl)) (.int _ _)) rfl rfl rfl rfl hb24 ?_
            refine go1 (op_pick_f rfl hb24 (.t (has rfl)) (.t (has rfl))) rfl ?_
            refine go1 (op_not rfl (.t (has rfl))) rfl ?_
            refine go1 (op_assign rfl (.t (has rfl))) rfl ?_
            refine goesO_nil ?_
            obtain rfl := Option.some.inj H
            exact ends_cut (.cons rfl .nil)
  refine ends_then ?_
  obtain rfl := Option.some.inj H
  exact goes_ret (ends_ret' rfl rfl (.t rfl (.nil _)))
/-! strings.indexFunc -/
def strings_indexFunc.l0 (a0 : ByteArray) (a1 : Int → Option Bool) (a2 : Bool) : Nat → Nat → Option (Except Int Unit)
  | 0, _ => none
  | k + 1, s1 => bif decide (s1 < a0.size) then ((a1 ((Utf8.decode a0 s1).1 : Int)).bind fun v6 => bif (v6 == a2) then (some (Except.error (s1 : Int))) else (strings_indexFunc.l0 a0 a1 a2 k (nxPos a0 s1))) else (some (Except.ok ()))
def strings_indexFunc.f (k : Nat) (a0 : ByteArray) (a1 : Int → Option Bool) (a2 : Bool) : Option Int := (strings_indexFunc.l0 a0 a1 a2 k (0 : Nat)).bind fun o4 => match o4 with | .error r' => some r' | .ok s2 => (some (-1 : Int))
set_option maxRecDepth 100000 in
set_option maxHeartbeats 4000000 in
theorem strings_indexFunc.con (F1 : FuncId) (pre1 caps1 : List VA) (k : Nat) (a0 : ByteArray) (a1 : Int → Option Bool) (a2 : Bool) (hE1 : Enters Try.prog F1) (hp1 : ∀ (z0 : Int) r, a1 z0 = some r → Con Try.prog F1 (pre1 ++ ([VA.k (kint .i32) z0] ++ caps1)) [VA.k kbool r]) (r : Int) (H : strings_indexFunc.f k a0 a1 a2 = some r) : Con Try.prog 100 [VA.k kstr a0, VA.clo F1 pre1 caps1, VA.k kbool a2] [VA.k (kint .i64) r] := by
  unfold strings_indexFunc.f at H
  refine con_enter Try.func100 rfl rfl rfl (fun w0 S0 θ => ?_)
  refine goes_seq ?_
  refine goes_region ?_
  refine go1 (op_assign rfl (.int _ _)) rfl ?_
  refine goesO_nil ?_
  refine ends_then ?_
  refine goes_seq ?_
  refine goes_seq ?_
  refine goes_region ?_
  refine go1 (op_move rfl (.t (has rfl))) rfl ?_
  refine go3 (op_range 10 rfl Try.underlying9 (.t (has rfl))) rfl ?_
  refine goesO_nil ?_
  refine ends_then ?_
  obtain ⟨o4, h3, H⟩ := bind_some H
  refine goes_cutR (o := o4) (fun s2 : Unit => []) (fun r a w => bodyPost Try.prog Try.f100 (CPost w0 S0 θ [VA.k (kint .i64) r]) .ret a w) ?_ ?_ ?_
  · replace H := h3; clear h3
    refine goes_block ?_
    refine goes_loop (fun s1 : Nat => [Ent.t 1 (VA.clo F1 pre1 caps1), Ent.t 2 (VA.k kbool a2), Ent.t 10 (VA.ptr 10 0), Ent.h 10 (HE.iter a0 s1)]) (fun k s1 => strings_indexFunc.l0 a0 a1 a2 k s1) (fun _ => rfl) H (.cons rfl (.cons rfl (.cons rfl (.cons rfl .nil)))) ?_
    intro k s1 H
    simp only [strings_indexFunc.l0] at H
    refine goes_seq ?_
    refine goes_region ?_
    refine go2 (op_next rfl (.t (has rfl)) (has rfl)) rfl ?_
    refine go1 (op_extract_nx0 rfl (has rfl)) rfl ?_
    refine goesO_nil ?_
    refine ends_then ?_
    refine goes_seq ?_
    refine goes_if (.t (has rfl)) H (fun hb5 H => ?_) (fun hb5 H => ?_)
    · skip
      refine goes_skip ?_
      refine ends_then ?_
      refine goes_block ?_
      refine goes_seq ?_
      refine goes_region ?_
      refine go1 (op_extract_nx1 rfl hb5 (has rfl)) rfl ?_
      refine go1 (op_extract_nx2 rfl hb5 (has rfl)) rfl ?_
      refine go1 (op_assign rfl (.t (has rfl))) rfl ?_
      refine go1 (op_assign rfl (.t (has rfl))) rfl ?_
      refine goesO_nil ?_
      refine ends_then ?_
      refine goes_seq ?_
      refine goes_region ?_
      refine go1 (op_moveA rfl plain_clo (.t (has rfl))) rfl ?_
      refine go1 (op_move rfl (.t (has rfl))) rfl ?_
      obtain ⟨v6, h7, H⟩ := bind_some H
      refine go1 (op_callv rfl (.t (has rfl)) hE1 (hp1 _ _ h7) rfl (.cons (ArgP.k (.t (has rfl))) .nil)) rfl ?_
      refine go1 (op_move rfl (.t (has rfl))) rfl ?_
      refine go1 (op_beq rfl Try.underlying4 (.t (has rfl)) (.t (has rfl))) rfl ?_
      refine goesO_nil ?_
      refine ends_then ?_
      refine goes_if (.t (has rfl)) H (fun hb8 H => ?_) (fun hb8 H => ?_)
      · skip
        refine goes_seq ?_
        refine goes_region ?_
        refine go1 (op_move rfl (.t (has rfl))) rfl ?_
        refine go1 (op_assign rfl (.t (has rfl))) rfl ?_
        refine goesO_nil ?_
        refine ends_then ?_
        obtain rfl := Option.some.inj H
        refine goes_ret (ends_block_ret (ends_then_ret (ends_block_ret (ends_cutR_ret rfl ?_))))
        exact ends_ret' rfl rfl (.t rfl (.nil _))
      · skip
        refine goes_skip ?_
        refine ends_block ?_
        exact loop_next _ H (.cons rfl (.cons rfl (.cons rfl (.cons rfl .nil))))
    · skip
      refine goes_exit (ends_then_exit (ends_then_exit (ends_block_exit ?_)))
      obtain rfl := Option.some.inj H
      exact ends_cutR rfl .nil
  · rintro s2 rfl
    clear h3
    dsimp only at H
    refine ends_then ?_
    refine goes_seq ?_
    refine goes_region ?_
    refine go1 (op_assign rfl (.int _ _)) rfl ?_
    refine goesO_nil ?_
    refine ends_then ?_
    obtain rfl := Option.some.inj H
    exact goes_ret (ends_ret' rfl rfl (.t rfl (.nil _)))
  · rintro r' rfl a w hr
    obtain rfl := Option.some.inj H
    exact hr
/-! strings.IndexFunc -/
def strings_IndexFunc.f (k : Nat) (a0 : ByteArray) (a1 : Int → Option Bool) : Option Int := (strings_indexFunc.f k a0 a1 true).bind fun v1 => some v1
set_option maxRecDepth 100000 in
set_option maxHeartbeats 4000000 in
theorem strings_IndexFunc.con (F1 : FuncId) (pre1 caps1 : List VA) (k : Nat) (a0 : ByteArray) (a1 : Int → Option Bool) (hE1 : Enters Try.prog F1) (hp1 : ∀ (z0 : Int) r, a1 z0 = some r → Con Try.prog F1 (pre1 ++ ([VA.k (kint .i32) z0] ++ caps1)) [VA.k kbool r]) (r : Int) (H : strings_IndexFunc.f k a0 a1 = some r) : Con Try.prog 94 [VA.k kstr a0, VA.clo F1 pre1 caps1] [VA.k (kint .i64) r] := by
  unfold strings_IndexFunc.f at H
  refine con_enter Try.func94 rfl rfl rfl (fun w0 S0 θ => ?_)
  refine goes_seq ?_
  refine goes_region ?_
  refine go1 (op_assign rfl (.int _ _)) rfl ?_
  refine goesO_nil ?_
  refine ends_then ?_
  refine goes_seq ?_
  refine goes_region ?_
  refine go1 (op_move rfl (.t (has rfl))) rfl ?_
  refine go1 (op_moveA rfl plain_clo (.t (has rfl))) rfl ?_
  obtain ⟨v1, h2, H⟩ := bind_some H
  refine go1 (op_call' rfl enters100 (strings_indexFunc.con F1 pre1 caps1 _ _ a1 _ hE1 hp1 _ h2) rfl (.cons (ArgP.k (.t (has rfl))) (.cons (ArgP.clo (.t (has rfl))) (.cons (ArgP.k (.bool _)) .nil)))) rfl ?_
  refine go1 (op_assign rfl (.t (has rfl))) rfl ?_
  refine goesO_nil ?_
  refine ends_then ?_
  obtain rfl := Option.some.inj H
  exact goes_ret (ends_ret' rfl rfl (.t rfl (.nil _)))
/-! strings.ContainsFunc -/
def strings_ContainsFunc.f (k : Nat) (a0 : ByteArray) (a1 : Int → Option Bool) : Option Bool := (strings_IndexFunc.f k a0 a1).bind fun v1 => some (icmp .geq v1 (0 : Int))
set_option maxRecDepth 100000 in
set_option maxHeartbeats 4000000 in
theorem strings_ContainsFunc.con (F1 : FuncId) (pre1 caps1 : List VA) (k : Nat) (a0 : ByteArray) (a1 : Int → Option Bool) (hE1 : Enters Try.prog F1) (hp1 : ∀ (z0 : Int) r, a1 z0 = some r → Con Try.prog F1 (pre1 ++ ([VA.k (kint .i32) z0] ++ caps1)) [VA.k kbool r]) (r : Bool) (H : strings_ContainsFunc.f k a0 a1 = some r) : Con Try.prog 89 [VA.k kstr a0, VA.clo F1 pre1 caps1] [VA.k kbool r] := by
  unfold strings_ContainsFunc.f at H
  refine con_enter Try.func89 rfl rfl rfl (fun w0 S0 θ => ?_)
  refine goes_seq ?_
  refine goes_region ?_
  refine go1 (op_assign rfl (.bool _)) rfl ?_
  refine goesO_nil ?_
  refine ends_then ?_
  refine goes_seq ?_
  refine goes_region ?_
  refine go1 (op_move rfl (.t (has rfl))) rfl ?_
  refine go1 (op_moveA rfl plain_clo (.t (has rfl))) rfl ?_
  obtain ⟨v1, h2, H⟩ := bind_some H
  refine go1 (op_call' rfl enters94 (strings_IndexFunc.con F1 pre1 caps1 _ _ a1 hE1 hp1 _ h2) rfl (.cons (ArgP.k (.t (has rfl))) (.cons (ArgP.clo (.t (has rfl))) .nil))) rfl ?_
  refine go1 (op_icmp rfl rfl (.t (has rfl)) (.int _ _)) rfl ?_
  refine go1 (op_assign rfl (.t (has rfl))) rfl ?_
  refine goesO_nil ?_
  refine ends_then ?_
  obtain rfl := Option.some.inj H
  exact goes_ret (ends_ret' rfl rfl (.t rfl (.nil _)))
/-! smithy/macro.Name -/
def macro_Name.f (k : Nat) (a0 : ByteArray) : Option Bool := (bif icmp .gtr (a0.size : Int) (0 : Int) then (bif icmp .leq (a0.size : Int) (64 : Int) then ((strings_ContainsFunc.f k a0 (fun (z0 : Int) => macro_Name_1.f z0)).bind fun v5 => some (!v5)) else (some false)) else (some false)).bind fun s1 => some s1
set_option maxRecDepth 100000 in
set_option maxHeartbeats 4000000 in
theorem macro_Name.con (k : Nat) (a0 : ByteArray) (r : Bool) (H : macro_Name.f k a0 = some r) : Con Try.prog 78 [VA.k kstr a0] [VA.k kbool r] := by
  unfold macro_Name.f at H
  refine con_enter Try.func78 rfl rfl rfl (fun w0 S0 θ => ?_)
  refine goes_seq ?_
  refine goes_region ?_
  refine go1 (op_assign rfl (.bool _)) rfl ?_
  refine goesO_nil ?_
  refine ends_then ?_
  refine goes_seq ?_
  refine goes_region ?_
  refine go1 (op_assignA rfl plain_clo Arg.fn) rfl ?_
  refine goesO_nil ?_
  refine ends_then ?_
  refine goes_seq ?_
  obtain ⟨s1, h2, H⟩ := bind_some H
  refine goes_cut [Ent.t 2 (VA.k kbool s1)] ?_ ?_
  · replace H := h2; clear h2
    refine goes_region ?_
    refine go1 (op_move rfl (.t (has rfl))) rfl ?_
    refine go1 (op_len_str rfl rfl Try.underlying9 (.t (has rfl))) rfl ?_
    refine go1 (op_icmp rfl rfl (.t (has rfl)) (.int _ _)) rfl ?_
    refine go1 (op_move rfl (.t (has rfl))) rfl ?_
    refine goesO_split H (fun hb3 H => ?_) (fun hb3 H => ?_)
    · skip
      refine goG (op_move rfl (.t (has rfl))) rfl rfl rfl rfl hb3 ?_
      refine goG (op_len_str rfl rfl Try.underlying9 (.t (has rfl))) rfl rfl rfl rfl hb3 ?_
      refine goG (op_icmp rfl rfl (.t (has rfl)) (.int _ _)) rfl rfl rfl rfl hb3 ?_
      refine go1 (op_pick_t rfl hb3 (.t (has rfl)) (.t (has rfl))) rfl ?_
      refine go1 (op_move rfl (.t (has rfl))) rfl ?_
      refine goesO_split H (fun hb4 H => ?_) (fun hb4 H => ?_)
      · skip
        refine goG (op_move rfl (.t (has rfl))) rfl rfl rfl rfl hb4 ?_
        refine goG (op_moveA rfl plain_clo (.t (has rfl))) rfl rfl rfl rfl hb4 ?_
        obtain ⟨v5, h6, H⟩ := bind_some H
        refine goG (op_call' rfl enters89 (strings_ContainsFunc.con 88 ([]) ([]) _ _ (fun (z0 : Int) => macro_Name_1.f z0) enters88 (fun z0 r h => macro_Name_1.con z0 r h) _ h6) rfl (.cons (ArgP.k (.t (has rfl))) (.cons (ArgP.clo (.t (has rfl))) .nil))) rfl rfl rfl rfl hb4 ?_
        refine goG (op_not rfl (.t (has rfl))) rfl rfl rfl rfl hb4 ?_
        refine go1 (op_pick_t rfl hb4 (.t (has rfl)) (.t (has rfl))) rfl ?_
        refine go1 (op_assign rfl (.t (has rfl))) rfl ?_
        refine goesO_nil ?_
        obtain rfl := Option.some.inj H
        exact ends_cut (.cons rfl .nil)
      · skip
        refine goS rfl rfl rfl rfl rfl rfl hb4 ?_
        refine goS rfl rfl rfl rfl rfl rfl hb4 ?_
        refine goS rfl rfl rfl rfl rfl rfl hb4 ?_
        refine goS rfl rfl rfl rfl rfl rfl hb4 ?_
        refine go1 (op_pick_f rfl hb4 (.t (has rfl)) (.bool _)) rfl ?_
        refine go1 (op_assign rfl (.t (has rfl))) rfl ?_
        refine goesO_nil ?_
        obtain rfl := Option.some.inj H
        exact ends_cut (.cons rfl .nil)
    · skip
      refine goS rfl rfl rfl rfl rfl rfl hb3 ?_
      refine goS rfl rfl rfl rfl rfl rfl hb3 ?_
      refine goS rfl rfl rfl rfl rfl rfl hb3 ?_
      refine go1 (op_pick_f rfl hb3 (.t (has rfl)) (.bool _)) rfl ?_
      refine go1 (op_move rfl (.t (has rfl))) rfl ?_
      refine goS rfl rfl rfl rfl rfl rfl rfl ?_
      refine goS rfl rfl rfl rfl rfl rfl rfl ?_
      refine goS rfl rfl rfl rfl rfl rfl rfl ?_
      refine goS rfl rfl rfl rfl rfl rfl rfl ?_
      refine go1 (op_pick_f rfl rfl (.t (has rfl)) (.bool _)) rfl ?_
      refine go1 (op_assign rfl (.t (has rfl))) rfl ?_
      refine goesO_nil ?_
      obtain rfl := Option.some.inj H
      exact ends_cut (.cons rfl .nil)
  refine ends_then ?_
  obtain rfl := Option.some.inj H
  exact goes_ret (ends_ret' rfl rfl (.t rfl (.nil _)))
/-! smithy/macro.one -/
def macro_one.f (k : Nat) (a0 : Macro) : Option Int := (macro_Name.f k a0.Name).bind fun v1 => bif !v1 then (some (50 : Int)) else ((bif icmp .lss a0.Level (0 : Int) then (some true) else (some (icmp .gtr a0.Level (2 : Int)))).bind fun s4 => bif s4 then (some (51 : Int)) else (bif icmp .gtr (a0.Value.size : Int) (8192 : Int) then (some (41 : Int)) else (some (0 : Int))))
set_option maxRecDepth 100000 in
set_option maxHeartbeats 4000000 in
theorem macro_one.con (k : Nat) (a0 : Macro) (r : Int) (H : macro_one.f k a0 = some r) : Con Try.prog 64 [VA.k kMacro a0] [VA.k (kint .i64) r] := by
  unfold macro_one.f at H
  refine con_enter Try.func64 rfl rfl rfl (fun w0 S0 θ => ?_)
  refine goes_seq ?_
  refine goes_region ?_
  refine go3 (op_box 1 rfl (fun h => by first | rfl | cases h) (.t (has rfl))) rfl ?_
  refine go1 (op_assign rfl (.int _ _)) rfl ?_
  refine goesO_nil ?_
  refine ends_then ?_
  refine goes_seq ?_
  refine goes_block ?_
  refine goes_seq ?_
  refine goes_region ?_
  refine go1 (op_fieldAddr rfl Try.underlying73 rfl tk9 (.t (has rfl))) rfl ?_
  refine go1 (op_load rfl fldMacro_Name tk9 (.t (has rfl)) (has rfl)) rfl ?_
  obtain ⟨v1, h2, H⟩ := bind_some H
  refine go1 (op_call' rfl enters78 (macro_Name.con _ _ _ h2) rfl (.cons (ArgP.k (.t (has rfl))) .nil)) rfl ?_
  refine go1 (op_not rfl (.t (has rfl))) rfl ?_
  refine go1 (op_assign rfl (.t (has rfl))) rfl ?_
  refine goesO_nil ?_
  refine ends_then ?_
  refine goes_if (.t (has rfl)) H (fun hb3 H => ?_) (fun hb3 H => ?_)
  · skip
    refine goes_seq ?_
    refine goes_region ?_
    refine go1 (op_assign rfl (.int _ _)) rfl ?_
    refine goesO_nil ?_
    refine ends_then ?_
    obtain rfl := Option.some.inj H
    exact goes_ret (ends_block_ret (ends_then_ret (ends_ret' rfl rfl (.t rfl (.nil _)))))
  · skip
    refine goes_seq ?_
    obtain ⟨s4, h5, H⟩ := bind_some H
    refine goes_cut [Ent.t 1 (VA.ptr 1 0), Ent.t 8 (VA.k kbool s4), Ent.h 1 (HE.box 73 kMacro a0)] ?_ ?_
    · replace H := h5; clear h5
      refine goes_region ?_
      refine go1 (op_fieldAddr rfl Try.underlying73 rfl tk3 (.t (has rfl))) rfl ?_
      refine go1 (op_load rfl fldMacro_Level tk3 (.t (has rfl)) (has rfl)) rfl ?_
      refine go1 (op_icmp rfl rfl (.t (has rfl)) (.int _ _)) rfl ?_
      refine go1 (op_move rfl (.t (has rfl))) rfl ?_
      refine goesO_split H (fun hb6 H => ?_) (fun hb6 H => ?_)
      · skip
        refine goS rfl rfl rfl rfl rfl rfl hb6 ?_
        refine goS rfl rfl rfl rfl rfl rfl hb6 ?_
        refine goS rfl rfl rfl rfl rfl rfl hb6 ?_
        refine go1 (op_pick_t rfl hb6 (.t (has rfl)) (.bool _)) rfl ?_
        refine go1 (op_assign rfl (.t (has rfl))) rfl ?_
        refine goesO_nil ?_
        obtain rfl := Option.some.inj H
        exact ends_cut (.cons rfl (.cons rfl (.cons rfl .nil)))
      · skip
        refine goG (op_fieldAddr rfl Try.underlying73 rfl tk3 (.t (has rfl))) rfl rfl rfl rfl hb6 ?_
        refine goG (op_load rfl fldMacro_Level tk3 (.t (has rfl)) (has rfl)) rfl rfl rfl rfl hb6 ?_
        refine goG (op_icmp rfl rfl (.t (has rfl)) (.int _ _)) rfl rfl rfl rfl hb6 ?_
        refine go1 (op_pick_f rfl hb6 (.t (has rfl)) (.t (has rfl))) rfl ?_
        refine go1 (op_assign rfl (.t (has rfl))) rfl ?_
        refine goesO_nil ?_
        obtain rfl := Option.some.inj H
        exact ends_cut (.cons rfl (.cons rfl (.cons rfl .nil)))
    refine ends_then ?_
    refine goes_if (.t (has rfl)) H (fun hb7 H => ?_) (fun hb7 H => ?_)
    · skip
      refine goes_seq ?_
      refine goes_region ?_
      refine go1 (op_assign rfl (.int _ _)) rfl ?_
      refine goesO_nil ?_
      refine ends_then ?_
      obtain rfl := Option.some.inj H
      exact goes_ret (ends_block_ret (ends_then_ret (ends_ret' rfl rfl (.t rfl (.nil _)))))
    · skip
      refine goes_seq ?_
      refine goes_region ?_
      refine go1 (op_fieldAddr rfl Try.underlying73 rfl tk9 (.t (has rfl))) rfl ?_
      refine go1 (op_load rfl fldMacro_Value tk9 (.t (has rfl)) (has rfl)) rfl ?_
      refine go1 (op_len_str rfl rfl Try.underlying9 (.t (has rfl))) rfl ?_
      refine go1 (op_icmp rfl rfl (.t (has rfl)) (.int _ _)) rfl ?_
      refine go1 (op_assign rfl (.t (has rfl))) rfl ?_
      refine goesO_nil ?_
      refine ends_then ?_
      refine goes_if (.t (has rfl)) H (fun hb8 H => ?_) (fun hb8 H => ?_)
      · skip
        refine goes_seq ?_
        refine goes_region ?_
        refine go1 (op_assign rfl (.int _ _)) rfl ?_
        refine goesO_nil ?_
        refine ends_then ?_
        obtain rfl := Option.some.inj H
        exact goes_ret (ends_block_ret (ends_then_ret (ends_ret' rfl rfl (.t rfl (.nil _)))))
      · skip
        refine goes_skip ?_
        refine ends_block ?_
        refine ends_then ?_
        refine goes_seq ?_
        refine goes_region ?_
        refine go1 (op_assign rfl (.int _ _)) rfl ?_
        refine goesO_nil ?_
        refine ends_then ?_
        obtain rfl := Option.some.inj H
        exact goes_ret (ends_ret' rfl rfl (.t rfl (.nil _)))
/-! strings.Compare -/
def strings_Compare.f (a0 : ByteArray) (a1 : ByteArray) : Option Int := some (Lib.compareBytes a0.data.toList a1.data.toList)
theorem strings_Compare.con (a0 : ByteArray) (a1 : ByteArray) (r : Int) (H : strings_Compare.f a0 a1 = some r) : Con Try.prog 79 [VA.k kstr a0, VA.k kstr a1] [VA.k (kint .i64) r] := by
  obtain rfl := Option.some.inj H
  refine con_plain fun θ S w vs h => ?_
  match vs, h with
  | [v0, v1], h =>
    obtain ⟨h0, h1, _⟩ := h
    obtain rfl := arg_str h0
    obtain rfl := arg_str h1
    exact ⟨_, Try.strings_Compare a0 a1 w, va_int _ _⟩
/-! smithy/macro.byName -/
def macro_byName.f (a0 : Macro) (a1 : Macro) : Option Int := (strings_Compare.f a0.Name a1.Name).bind fun v1 => some v1
set_option maxRecDepth 100000 in
set_option maxHeartbeats 4000000 in
theorem macro_byName.con (a0 : Macro) (a1 : Macro) (r : Int) (H : macro_byName.f a0 a1 = some r) : Con Try.prog 65 [VA.k kMacro a0, VA.k kMacro a1] [VA.k (kint .i64) r] := by
  unfold macro_byName.f at H
  refine con_enter Try.func65 rfl rfl rfl (fun w0 S0 θ => ?_)
  refine goes_seq ?_
  refine goes_region ?_
  refine go3 (op_box 2 rfl (fun h => by first | rfl | cases h) (.t (has rfl))) rfl ?_
  refine go3 (op_box 3 rfl (fun h => by first | rfl | cases h) (.t (has rfl))) rfl ?_
  refine go1 (op_assign rfl (.int _ _)) rfl ?_
  refine goesO_nil ?_
  refine ends_then ?_
  refine goes_seq ?_
  refine goes_region ?_
  refine go1 (op_fieldAddr rfl Try.underlying73 rfl tk9 (.t (has rfl))) rfl ?_
  refine go1 (op_load rfl fldMacro_Name tk9 (.t (has rfl)) (has rfl)) rfl ?_
  refine go1 (op_fieldAddr rfl Try.underlying73 rfl tk9 (.t (has rfl))) rfl ?_
  refine go1 (op_load rfl fldMacro_Name tk9 (.t (has rfl)) (has rfl)) rfl ?_
  obtain ⟨v1, h2, H⟩ := bind_some H
  refine go1 (op_call' rfl enters79 (strings_Compare.con _ _ _ h2) rfl (.cons (ArgP.k (.t (has rfl))) (.cons (ArgP.k (.t (has rfl))) .nil))) rfl ?_
  refine go1 (op_assign rfl (.t (has rfl))) rfl ?_
  refine goesO_nil ?_
  refine ends_then ?_
  obtain rfl := Option.some.inj H
  exact goes_ret (ends_ret' rfl rfl (.t rfl (.nil _)))
/-! smithy/macro.Check -/
def macro_Check.l0 (a0 : List Macro) : Nat → Int → Option (Except Int Unit)
  | 0, _ => none
  | k + 1, s2 => bif icmp .lss s2 (a0.length : Int) then ((idx a0 s2).bind fun x7 => (macro_one.f k x7).bind fun v9 => bif icmp .neq v9 (0 : Int) then (some (Except.error v9)) else (macro_Check.l0 a0 k (IntKind.i64.wrap (s2 + (1 : Int))))) else (some (Except.ok ()))
def macro_Check.l1 (a0 : List Macro) : Nat → Int → Option (Except Int Unit)
  | 0, _ => none
  | k + 1, s12 => bif icmp .lss s12 (a0.length : Int) then ((bif icmp .gtr s12 (0 : Int) then ((idx a0 (IntKind.i64.wrap (s12 - (1 : Int)))).bind fun x20 => (idx a0 s12).bind fun x22 => (macro_byName.f x20 x22).bind fun v24 => some (icmp .geq v24 (0 : Int))) else (some false)).bind fun s17 => bif s17 then (some (Except.error (5 : Int))) else (macro_Check.l1 a0 k (IntKind.i64.wrap (s12 + (1 : Int))))) else (some (Except.ok ()))
def macro_Check.f (k : Nat) (a0 : List Macro) : Option Int := bif icmp .gtr (a0.length : Int) (256 : Int) then (some (2 : Int)) else ((macro_Check.l0 a0 k (0 : Int)).bind fun o5 => match o5 with | .error r' => some r' | .ok s3 => ((macro_Check.l1 a0 k (0 : Int)).bind fun o15 => match o15 with | .error r' => some r' | .ok s13 => (some (0 : Int))))
set_option maxRecDepth 100000 in
set_option maxHeartbeats 4000000 in
theorem macro_Check.con (k : Nat) (a0 : List Macro) (r : Int) (H : macro_Check.f k a0 = some r) : Con Try.prog 45 [VA.k (kslice kMacro) a0] [VA.k (kint .i64) r] := by
  unfold macro_Check.f at H
  refine con_enter Try.func45 rfl rfl rfl (fun w0 S0 θ => ?_)
  refine goes_seq ?_
  refine goes_region ?_
  refine go1 (op_assign rfl (.int _ _)) rfl ?_
  refine goesO_nil ?_
  refine ends_then ?_
  refine goes_seq ?_
  refine goes_seq ?_
  refine goes_region ?_
  refine go1 (op_move rfl (.t (has rfl))) rfl ?_
  refine go1 (op_len rfl rfl Try.underlying22 (.t (has rfl))) rfl ?_
  refine go1 (op_icmp rfl rfl (.t (has rfl)) (.int _ _)) rfl ?_
  refine goesO_nil ?_
  refine ends_then ?_
  refine goes_if (.t (has rfl)) H (fun hb1 H => ?_) (fun hb1 H => ?_)
  · skip
    refine goes_seq ?_
    refine goes_region ?_
    refine go1 (op_assign rfl (.int _ _)) rfl ?_
    refine goesO_nil ?_
    refine ends_then ?_
    obtain rfl := Option.some.inj H
    exact goes_ret (ends_then_ret (ends_ret' rfl rfl (.t rfl (.nil _))))
  · skip
    refine goes_skip ?_
    refine ends_then ?_
    refine goes_seq ?_
    refine goes_seq ?_
    refine goes_region ?_
    refine go1 (op_move rfl (.t (has rfl))) rfl ?_
    refine go1 (op_len rfl rfl Try.underlying22 (.t (has rfl))) rfl ?_
    refine go1 (op_move rfl (.int _ _)) rfl ?_
    refine goesO_nil ?_
    refine ends_then ?_
    obtain ⟨o5, h4, H⟩ := bind_some H
    refine goes_cutR (o := o5) (fun s3 : Unit => [Ent.t 0 (VA.k (kslice kMacro) a0)]) (fun r a w => bodyPost Try.prog Try.f45 (CPost w0 S0 θ [VA.k (kint .i64) r]) .ret a w) ?_ ?_ ?_
    · replace H := h4; clear h4
      refine goes_block ?_
      refine goes_loop (fun s2 : Int => [Ent.t 0 (VA.k (kslice kMacro) a0), Ent.t 10 (VA.k (kslice kMacro) a0), Ent.t 11 (VA.k (kint .i64) (a0.length : Int)), Ent.t 12 (VA.k (kint .i64) s2)]) (fun k s2 => macro_Check.l0 a0 k s2) (fun _ => rfl) H (.cons rfl (.cons rfl (.cons rfl (.cons rfl .nil)))) ?_
      intro k s2 H
      simp only [macro_Check.l0] at H
      refine goes_seq ?_
      refine goes_region ?_
      refine go1 (op_icmp rfl rfl (.t (has rfl)) (.t (has rfl))) rfl ?_
      refine goesO_nil ?_
      refine ends_then ?_
      refine goes_seq ?_
      refine goes_if (.t (has rfl)) H (fun hb6 H => ?_) (fun hb6 H => ?_)
      · skip
        refine goes_skip ?_
        refine ends_then ?_
        refine goes_seq ?_
        refine goes_block ?_
        refine goes_seq ?_
        refine goes_region ?_
        obtain ⟨x7, h8, H⟩ := bind_some H
        refine go1 (op_indexAddr rfl Try.underlying22 tk73 h8 (.t (has rfl)) (.t (has rfl))) rfl ?_
        refine go1 (op_loadp rfl tk73 (.t (has rfl))) rfl ?_
        refine go3 (op_alloc 4 rfl zk73) rfl ?_
        refine go1 (op_store (Fld.whole kMacro) tk73 (.t (has rfl)) (has rfl) (.t (has rfl))) rfl ?_
        refine goesO_nil ?_
        refine ends_then ?_
        refine goes_seq ?_
        refine goes_region ?_
        refine go1 (op_load rfl (Fld.whole kMacro) tk73 (.t (has rfl)) (has rfl)) rfl ?_
        obtain ⟨v9, h10, H⟩ := bind_some H
        refine go1 (op_call' rfl enters64 (macro_one.con _ _ _ h10) rfl (.cons (ArgP.k (.t (has rfl))) .nil)) rfl ?_
        refine go1 (op_assign rfl (.t (has rfl))) rfl ?_
        refine goesO_nil ?_
        refine ends_then ?_
        refine goes_seq ?_
        refine goes_region ?_
        refine go1 (op_move rfl (.t (has rfl))) rfl ?_
        refine go1 (op_icmp rfl rfl (.t (has rfl)) (.int _ _)) rfl ?_
        refine goesO_nil ?_
        refine ends_then ?_
        refine goes_if (.t (has rfl)) H (fun hb11 H => ?_) (fun hb11 H => ?_)
        · skip
          refine goes_seq ?_
          refine goes_region ?_
          refine go1 (op_move rfl (.t (has rfl))) rfl ?_
          refine go1 (op_assign rfl (.t (has rfl))) rfl ?_
          refine goesO_nil ?_
          refine ends_then ?_
          obtain rfl := Option.some.inj H
          refine goes_ret (ends_block_ret (ends_then_ret (ends_then_ret (ends_block_ret (ends_cutR_ret rfl ?_)))))
          exact ends_ret' rfl rfl (.t rfl (.nil _))
        · skip
          refine goes_skip ?_
          refine ends_block ?_
          refine ends_then ?_
          refine goes_region ?_
          refine go1 (op_add rfl (.t (has rfl)) (.int _ _)) rfl ?_
          refine go1 (op_move rfl (.t (has rfl))) rfl ?_
          refine goesO_nil ?_
          exact loop_next _ H (.cons rfl (.cons rfl (.cons rfl (.cons rfl .nil))))
      · skip
        refine goes_exit (ends_then_exit (ends_then_exit (ends_block_exit ?_)))
        obtain rfl := Option.some.inj H
        exact ends_cutR rfl (.cons rfl .nil)
    · rintro s3 rfl
      clear h4
      dsimp only at H
      refine ends_then ?_
      refine goes_seq ?_
      refine goes_seq ?_
      refine goes_region ?_
      refine go1 (op_move rfl (.t (has rfl))) rfl ?_
      refine go1 (op_len rfl rfl Try.underlying22 (.t (has rfl))) rfl ?_
      refine go1 (op_move rfl (.int _ _)) rfl ?_
      refine goesO_nil ?_
      refine ends_then ?_
      obtain ⟨o15, h14, H⟩ := bind_some H
      refine goes_cutR (o := o15) (fun s13 : Unit => []) (fun r a w => bodyPost Try.prog Try.f45 (CPost w0 S0 θ [VA.k (kint .i64) r]) .ret a w) ?_ ?_ ?_
      · replace H := h14; clear h14
        refine goes_block ?_
        refine goes_loop (fun s12 : Int => [Ent.t 0 (VA.k (kslice kMacro) a0), Ent.t 23 (VA.k (kint .i64) (a0.length : Int)), Ent.t 24 (VA.k (kint .i64) s12)]) (fun k s12 => macro_Check.l1 a0 k s12) (fun _ => rfl) H (.cons rfl (.cons rfl (.cons rfl .nil))) ?_
        intro k s12 H
        simp only [macro_Check.l1] at H
        refine goes_seq ?_
        refine goes_region ?_
        refine go1 (op_icmp rfl rfl (.t (has rfl)) (.t (has rfl))) rfl ?_
        refine goesO_nil ?_
        refine ends_then ?_
        refine goes_seq ?_
        refine goes_if (.t (has rfl)) H (fun hb16 H => ?_) (fun hb16 H => ?_)
        · skip
          refine goes_skip ?_
          refine ends_then ?_
          refine goes_seq ?_
          refine goes_block ?_
          refine goes_seq ?_
          refine goes_region ?_
          refine go1 (op_move rfl (.t (has rfl))) rfl ?_
          refine go1 (op_assign rfl (.t (has rfl))) rfl ?_
          refine goesO_nil ?_
          refine ends_then ?_
          refine goes_seq ?_
          obtain ⟨s17, h18, H⟩ := bind_some H
          refine goes_cut [Ent.t 0 (VA.k (kslice kMacro) a0), Ent.t 23 (VA.k (kint .i64) (a0.length : Int)), Ent.t 24 (VA.k (kint .i64) s12), Ent.t 41 (VA.k kbool s17)] ?_ ?_
          · replace H := h18; clear h18
            refine goes_split H (fun hb19 H => ?_) (fun hb19 H => ?_)
            · skip
              obtain ⟨x20, h21, H⟩ := bind_some H
              obtain ⟨x22, h23, H⟩ := bind_some H
              obtain ⟨v24, h25, H⟩ := bind_some H
              refine goes_drawn [[Ent.t 27 (VA.k (kint .i64) s12)], [Ent.t 28 (VA.k kbool (icmp .gtr s12 (0 : Int)))], [Ent.t 29 (VA.k kbool (icmp .gtr s12 (0 : Int)))], [Ent.t 30 (VA.k (kslice kMacro) a0)], [Ent.t 31 (VA.k (kint .i64) s12)], [Ent.t 32 (VA.k (kint .i64) (IntKind.i64.wrap (s12 - (1 : Int))))], [Ent.t 33 (VA.pt kMacro x20)], [Ent.t 34 (VA.k kMacro x20)], [Ent.t 35 (VA.k (kslice kMacro) a0)], [Ent.t 36 (VA.k (kint .i64) s12)], [Ent.t 37 (VA.pt kMacro x22)], [Ent.t 38 (VA.k kMacro x22)], [Ent.t 39 (VA.k (kint .i64) v24)], [Ent.t 40 (VA.k kbool (icmp .geq v24 (0 : Int)))], [Ent.t 41 (VA.k kbool (icmp .geq v24 (0 : Int)))]] mixed (by kernel_rfl) (by kernel_rfl) (.cons [(none, Ent.t 6 (VA.k (kint .i64) s12))] (OpSpec.run rfl rfl (op_move rfl (.t NL.h0)) rfl) (.cons (has rfl) .nil) (by kernel_rfl) (.cons [(some 0, Ent.t 27 (VA.k (kint .i64) s12))] (OpSpec.run rfl rfl (op_icmp rfl rfl (.t NL.h0) (.int _ _)) rfl) (.cons (has rfl) .nil) (by kernel_rfl) (.cons [(some 1, Ent.t 28 (VA.k kbool (icmp .gtr s12 (0 : Int))))] (OpSpec.run rfl rfl (op_move rfl (.t NL.h0)) rfl) (.cons (has rfl) .nil) (by kernel_rfl) (.cons [(some 2, Ent.t 29 (VA.k kbool (icmp .gtr s12 (0 : Int)))), (none, Ent.t 0 (VA.k (kslice kMacro) a0))] (OpSpec.runG rfl rfl rfl rfl NL.h0 hb19 (op_move rfl (.t (NL.hs NL.h0))) rfl) (.cons (has rfl) (.cons (has rfl) .nil)) (by kernel_rfl) (.cons [(some 2, Ent.t 29 (VA.k kbool (icmp .gtr s12 (0 : Int)))), (none, Ent.t 6 (VA.k (kint .i64) s12))] (OpSpec.runG rfl rfl rfl rfl NL.h0 hb19 (op_move rfl (.t (NL.hs NL.h0))) rfl) (.cons (has rfl) (.cons (has rfl) .nil)) (by kernel_rfl) (.cons [(some 2, Ent.t 29 (VA.k kbool (icmp .gtr s12 (0 : Int)))), (some 4, Ent.t 31 (VA.k (kint .i64) s12))] (OpSpec.runG rfl rfl rfl rfl NL.h0 hb19 (op_sub rfl (.t (NL.hs NL.h0)) (.int _ _)) rfl) (.cons (has rfl) (.cons (has rfl) .nil)) (by kernel_rfl) (.cons [(some 2, Ent.t 29 (VA.k kbool (icmp .gtr s12 (0 : Int)))), (some 3, Ent.t 30 (VA.k (kslice kMacro) a0)), (some 5, Ent.t 32 (VA.k (kint .i64) (IntKind.i64.wrap (s12 - (1 : Int)))))] (OpSpec.runG rfl rfl rfl rfl NL.h0 hb19 (op_indexAddr rfl Try.underlying22 tk73 h21 (.t (NL.hs NL.h0)) (.t (NL.hs (NL.hs NL.h0)))) rfl) (.cons (has rfl) (.cons (has rfl) (.cons (has rfl) .nil))) (by kernel_rfl) (.cons [(some 2, Ent.t 29 (VA.k kbool (icmp .gtr s12 (0 : Int)))), (some 6, Ent.t 33 (VA.pt kMacro x20))] (OpSpec.runG rfl rfl rfl rfl NL.h0 hb19 (op_loadp rfl tk73 (.t (NL.hs NL.h0))) rfl) (.cons (has rfl) (.cons (has rfl) .nil)) (by kernel_rfl) (.cons [(some 2, Ent.t 29 (VA.k kbool (icmp .gtr s12 (0 : Int)))), (none, Ent.t 0 (VA.k (kslice kMacro) a0))] (OpSpec.runG rfl rfl rfl rfl NL.h0 hb19 (op_move rfl (.t (NL.hs NL.h0))) rfl) (.cons (has rfl) (.cons (has rfl) .nil)) (by kernel_rfl) (.cons [(some 2, Ent.t 29 (VA.k kbool (icmp .gtr s12 (0 : Int)))), (none, Ent.t 6 (VA.k (kint .i64) s12))] (OpSpec.runG rfl rfl rfl rfl NL.h0 hb19 (op_move rfl (.t (NL.hs NL.h0))) rfl) (.cons (has rfl) (.cons (has rfl) .nil)) (by kernel_rfl) (.cons [(some 2, Ent.t 29 (VA.k kbool (icmp .gtr s12 (0 : Int)))), (some 8, Ent.t 35 (VA.k (kslice kMacro) a0)), (some 9, Ent.t 36 (VA.k (kint .i64) s12))] (OpSpec.runG rfl rfl rfl rfl NL.h0 hb19 (op_indexAddr rfl Try.underlying22 tk73 h23 (.t (NL.hs NL.h0)) (.t (NL.hs (NL.hs NL.h0)))) rfl) (.cons (has rfl) (.cons (has rfl) (.cons (has rfl) .nil))) (by kernel_rfl) (.cons [(some 2, Ent.t 29 (VA.k kbool (icmp .gtr s12 (0 : Int)))), (some 10, Ent.t 37 (VA.pt kMacro x22))] (OpSpec.runG rfl rfl rfl rfl NL.h0 hb19 (op_loadp rfl tk73 (.t (NL.hs NL.h0))) rfl) (.cons (has rfl) (.cons (has rfl) .nil)) (by kernel_rfl) (.cons [(some 2, Ent.t 29 (VA.k kbool (icmp .gtr s12 (0 : Int)))), (some 7, Ent.t 34 (VA.k kMacro x20)), (some 11, Ent.t 38 (VA.k kMacro x22))] (OpSpec.runG rfl rfl rfl rfl NL.h0 hb19 (op_call' rfl enters65 (macro_byName.con _ _ _ h25) rfl (.cons (ArgP.k (.t (NL.hs NL.h0))) (.cons (ArgP.k (.t (NL.hs (NL.hs NL.h0)))) .nil))) rfl) (.cons (has rfl) (.cons (has rfl) (.cons (has rfl) .nil))) (by kernel_rfl) (.cons [(some 2, Ent.t 29 (VA.k kbool (icmp .gtr s12 (0 : Int)))), (some 12, Ent.t 39 (VA.k (kint .i64) v24))] (OpSpec.runG rfl rfl rfl rfl NL.h0 hb19 (op_icmp rfl rfl (.t (NL.hs NL.h0)) (.int _ _)) rfl) (.cons (has rfl) (.cons (has rfl) .nil)) (by kernel_rfl) (.cons [(some 2, Ent.t 29 (VA.k kbool (icmp .gtr s12 (0 : Int)))), (some 13, Ent.t 40 (VA.k kbool (icmp .geq v24 (0 : Int))))] (OpSpec.run rfl rfl (op_pick_t rfl hb19 (.t NL.h0) (.t (NL.hs NL.h0))) rfl) (.cons (has rfl) (.cons (has rfl) .nil)) (by kernel_rfl) (.nil _)))))))))))))))) ?_
              refine ends_sub [Ent.t 0 (VA.k (kslice kMacro) a0), Ent.t 23 (VA.k (kint .i64) (a0.length : Int)), Ent.t 24 (VA.k (kint .i64) s12), Ent.t 30 (VA.k (kslice kMacro) a0), Ent.t 31 (VA.k (kint .i64) s12), Ent.t 32 (VA.k (kint .i64) (IntKind.i64.wrap (s12 - (1 : Int)))), Ent.t 33 (VA.pt kMacro x20), Ent.t 34 (VA.k kMacro x20), Ent.t 35 (VA.k (kslice kMacro) a0), Ent.t 36 (VA.k (kint .i64) s12), Ent.t 37 (VA.pt kMacro x22), Ent.t 38 (VA.k kMacro x22), Ent.t 39 (VA.k (kint .i64) v24), Ent.t 40 (VA.k kbool (icmp .geq v24 (0 : Int))), Ent.t 41 (VA.k kbool (icmp .geq v24 (0 : Int)))] (.cons rfl (.cons rfl (.cons rfl (.cons rfl (.cons rfl (.cons rfl (.cons rfl (.cons rfl (.cons rfl (.cons rfl (.cons rfl (.cons rfl (.cons rfl (.cons rfl (.cons rfl .nil))))))))))))))) ?_
              obtain rfl := Option.some.inj H
              exact ends_cut (.cons rfl (.cons rfl (.cons rfl (.cons rfl .nil))))
            · skip
              refine goes_drawn [[Ent.t 27 (VA.k (kint .i64) s12)], [Ent.t 28 (VA.k kbool (icmp .gtr s12 (0 : Int)))], [Ent.t 29 (VA.k kbool (icmp .gtr s12 (0 : Int)))], [Ent.t 30 (VA.v undef)], [Ent.t 31 (VA.v undef)], [Ent.t 32 (VA.v undef)], [Ent.t 33 (VA.v undef)], [Ent.t 34 (VA.v undef)], [Ent.t 35 (VA.v undef)], [Ent.t 36 (VA.v undef)], [Ent.t 37 (VA.v undef)], [Ent.t 38 (VA.v undef)], [Ent.t 39 (VA.v undef)], [Ent.t 40 (VA.v undef)], [Ent.t 41 (VA.k kbool false)]] mixed (by kernel_rfl) (by kernel_rfl) (.cons [(none, Ent.t 6 (VA.k (kint .i64) s12))] (OpSpec.run rfl rfl (op_move rfl (.t NL.h0)) rfl) (.cons (has rfl) .nil) (by kernel_rfl) (.cons [(some 0, Ent.t 27 (VA.k (kint .i64) s12))] (OpSpec.run rfl rfl (op_icmp rfl rfl (.t NL.h0) (.int _ _)) rfl) (.cons (has rfl) .nil) (by kernel_rfl) (.cons [(some 1, Ent.t 28 (VA.k kbool (icmp .gtr s12 (0 : Int))))] (OpSpec.run rfl rfl (op_move rfl (.t NL.h0)) rfl) (.cons (has rfl) .nil) (by kernel_rfl) (.cons [(some 2, Ent.t 29 (VA.k kbool (icmp .gtr s12 (0 : Int))))] (run_skip rfl rfl rfl rfl rfl rfl NL.h0 hb19) (.cons (has rfl) .nil) (by kernel_rfl) (.cons [(some 2, Ent.t 29 (VA.k kbool (icmp .gtr s12 (0 : Int))))] (run_skip rfl rfl rfl rfl rfl rfl NL.h0 hb19) (.cons (has rfl) .nil) (by kernel_rfl) (.cons [(some 2, Ent.t 29 (VA.k kbool (icmp .gtr s12 (0 : Int))))] (run_skip rfl rfl rfl rfl rfl rfl NL.h0 hb19) (.cons (has rfl) .nil) (by kernel_rfl) (.cons [(some 2, Ent.t 29 (VA.k kbool (icmp .gtr s12 (0 : Int))))] (run_skip rfl rfl rfl rfl rfl rfl NL.h0 hb19) (.cons (has rfl) .nil) (by kernel_rfl) (.cons [(some 2, Ent.t 29 (VA.k kbool (icmp .gtr s12 (0 : Int))))] (run_skip rfl rfl rfl rfl rfl rfl NL.h0 hb19) (.cons (has rfl) .nil) (by kernel_rfl) (.cons [(some 2, Ent.t 29 (VA.k kbool (icmp .gtr s12 (0 : Int))))] (run_skip rfl rfl rfl rfl rfl rfl NL.h0 hb19) (.cons (has rfl) .nil) (by kernel_rfl) (.cons [(some 2, Ent.t 29 (VA.k kbool (icmp .gtr s12 (0 : Int))))] (run_skip rfl rfl rfl rfl rfl rfl NL.h0 hb19) (.cons (has rfl) .nil) (by kernel_rfl) (.cons [(some 2, Ent.t 29 (VA.k kbool (icmp .gtr s12 (0 : Int))))] (run_skip rfl rfl rfl rfl rfl rfl NL.h0 hb19) (.cons (has rfl) .nil) (by kernel_rfl) (.cons [(some 2, Ent.t 29 (VA.k kbool (icmp .gtr s12 (0 : Int))))] (run_skip rfl rfl rfl rfl rfl rfl NL.h0 hb19) (.cons (has rfl) .nil) (by kernel_rfl) (.cons [(some 2, Ent.t 29 (VA.k kbool (icmp .gtr s12 (0 : Int))))] (run_skip rfl rfl rfl rfl rfl rfl NL.h0 hb19) (.cons (has rfl) .nil) (by kernel_rfl) (.cons [(some 2, Ent.t 29 (VA.k kbool (icmp .gtr s12 (0 : Int))))] (run_skip rfl rfl rfl rfl rfl rfl NL.h0 hb19) (.cons (has rfl) .nil) (by kernel_rfl) (.cons [(some 2, Ent.t 29 (VA.k kbool (icmp .gtr s12 (0 : Int))))] (OpSpec.run rfl rfl (op_pick_f rfl hb19 (.t NL.h0) (.bool _)) rfl) (.cons (has rfl) .nil) (by kernel_rfl) (.nil _)))))))))))))))) ?_
              refine ends_sub [Ent.t 0 (VA.k (kslice kMacro) a0), Ent.t 23 (VA.k (kint .i64) (a0.length : Int)), Ent.t 24 (VA.k (kint .i64) s12), Ent.t 41 (VA.k kbool false)] (.cons rfl (.cons rfl (.cons rfl (.cons rfl .nil)))) ?_
              obtain rfl := Option.some.inj H
              exact ends_cut (.cons rfl (.cons rfl (.cons rfl (.cons rfl .nil))))
          refine ends_then ?_
          refine goes_if (.t (has rfl)) H (fun hb26 H => ?_) (fun hb26 H => ?_)
          · skip
            refine goes_seq ?_
            refine goes_region ?_
            refine go1 (op_assign rfl (.int _ _)) rfl ?_
            refine goesO_nil ?_
            refine ends_then ?_
            obtain rfl := Option.some.inj H
            refine goes_ret (ends_block_ret (ends_then_ret (ends_then_ret (ends_block_ret (ends_cutR_ret rfl ?_)))))
            exact ends_ret' rfl rfl (.t rfl (.nil _))
          · skip
            refine goes_skip ?_
            refine ends_block ?_
            refine ends_then ?_
            refine goes_region ?_
            refine go1 (op_add rfl (.t (has rfl)) (.int _ _)) rfl ?_
            refine go1 (op_move rfl (.t (has rfl))) rfl ?_
            refine goesO_nil ?_
            exact loop_next _ H (.cons rfl (.cons rfl (.cons rfl .nil)))
        · skip
          refine goes_exit (ends_then_exit (ends_then_exit (ends_block_exit ?_)))
          obtain rfl := Option.some.inj H
          exact ends_cutR rfl .nil
      · rintro s13 rfl
        clear h14
        dsimp only at H
        refine ends_then ?_
        refine goes_seq ?_
        refine goes_region ?_
        refine go1 (op_assign rfl (.int _ _)) rfl ?_
        refine goesO_nil ?_
        refine ends_then ?_
        obtain rfl := Option.some.inj H
        exact goes_ret (ends_ret' rfl rfl (.t rfl (.nil _)))
      · rintro r' rfl a w hr
        obtain rfl := Option.some.inj H
        exact hr
    · rintro r' rfl a w hr
      obtain rfl := Option.some.inj H
      exact hr
/-! strings.IndexByte -/
def strings_IndexByte.f (a0 : ByteArray) (a1 : Int) : Option Int := some (Lib.indexByte a0.data.toList a1.toNat.toUInt8)
theorem strings_IndexByte.con (a0 : ByteArray) (a1 : Int) (r : Int) (H : strings_IndexByte.f a0 a1 = some r) : Con Try.prog 72 [VA.k kstr a0, VA.k (kint .u8) a1] [VA.k (kint .i64) r] := by
  obtain rfl := Option.some.inj H
  refine con_plain fun θ S w vs h => ?_
  match vs, h with
  | [v0, v1], h =>
    obtain ⟨h0, h1, _⟩ := h
    obtain rfl := arg_str h0
    obtain rfl := arg_int h1
    exact ⟨_, Try.strings_IndexByte a0 a1 w, va_int _ _⟩
/-! smithy/names.letter -/
def names_letter.f (a0 : Int) : Option Bool := (bif icmp .geq a0 (97 : Int) then (bif icmp .leq a0 (122 : Int) then (some true) else (bif icmp .geq a0 (65 : Int) then (bif icmp .leq a0 (90 : Int) then (some true) else (bif icmp .geq a0 (48 : Int) then (bif icmp .leq a0 (57 : Int) then (some true) else ((strings_IndexByte.f (⟨#[95, 45, 46, 47, 43]⟩ : ByteArray) a0).bind fun v9 => some (icmp .geq v9 (0 : Int)))) else ((strings_IndexByte.f (⟨#[95, 45, 46, 47, 43]⟩ : ByteArray) a0).bind fun v11 => some (icmp .geq v11 (0 : Int))))) else (bif icmp .geq a0 (48 : Int) then (bif icmp .leq a0 (57 : Int) then (some true) else ((strings_IndexByte.f (⟨#[95, 45, 46, 47, 43]⟩ : ByteArray) a0).bind fun v15 => some (icmp .geq v15 (0 : Int)))) else ((strings_IndexByte.f (⟨#[95, 45, 46, 47, 43]⟩ : ByteArray) a0).bind fun v17 => some (icmp .geq v17 (0 : Int)))))) else (bif icmp .geq a0 (65 : Int) then (bif icmp .leq a0 (90 : Int) then (some true) else (bif icmp .geq a0 (48 : Int) then (bif icmp .leq a0 (57 : Int) then (some true) else ((strings_IndexByte.f (⟨#[95, 45, 46, 47, 43]⟩ : ByteArray) a0).bind fun v23 => some (icmp .geq v23 (0 : Int)))) else ((strings_IndexByte.f (⟨#[95, 45, 46, 47, 43]⟩ : ByteArray) a0).bind fun v25 => some (icmp .geq v25 (0 : Int))))) else (bif icmp .geq a0 (48 : Int) then (bif icmp .leq a0 (57 : Int) then (some true) else ((strings_IndexByte.f (⟨#[95, 45, 46, 47, 43]⟩ : ByteArray) a0).bind fun v29 => some (icmp .geq v29 (0 : Int)))) else ((strings_IndexByte.f (⟨#[95, 45, 46, 47, 43]⟩ : ByteArray) a0).bind fun v31 => some (icmp .geq v31 (0 : Int)))))).bind fun s1 => some s1
set_option maxRecDepth 100000 in
set_option maxHeartbeats 4000000 in
theorem names_letter.con (a0 : Int) (r : Bool) (H : names_letter.f a0 = some r) : Con Try.prog 51 [VA.k (kint .u8) a0] [VA.k kbool r] := by
  unfold names_letter.f at H
  refine con_enter Try.func51 rfl rfl rfl (fun w0 S0 θ => ?_)
  refine goes_seq ?_
  refine goes_region ?_
  refine go1 (op_assign rfl (.bool _)) rfl ?_
  refine goesO_nil ?_
  refine ends_then ?_
  refine goes_seq ?_
  obtain ⟨s1, h2, H⟩ := bind_some H
  refine goes_cut [Ent.t 2 (VA.k kbool s1)] ?_ ?_
  · replace H := h2; clear h2
    refine goes_region ?_
    refine go1 (op_move rfl (.t (has rfl))) rfl ?_
    refine go1 (op_icmp rfl rfl (.t (has rfl)) (.int _ _)) rfl ?_
    refine go1 (op_move rfl (.t (has rfl))) rfl ?_
    refine goesO_split H (fun hb3 H => ?_) (fun hb3 H => ?_)
    · skip
      refine goG (op_move rfl (.t (has rfl))) rfl rfl rfl rfl hb3 ?_
      refine goG (op_icmp rfl rfl (.t (has rfl)) (.int _ _)) rfl rfl rfl rfl hb3 ?_
      refine go1 (op_pick_t rfl hb3 (.t (has rfl)) (.t (has rfl))) rfl ?_
      refine go1 (op_move rfl (.t (has rfl))) rfl ?_
      refine goesO_split H (fun hb4 H => ?_) (fun hb4 H => ?_)
      · skip
        refine goS rfl rfl rfl rfl rfl rfl hb4 ?_
        refine goS rfl rfl rfl rfl rfl rfl hb4 ?_
        refine goS rfl rfl rfl rfl rfl rfl hb4 ?_
        refine goSU rfl rfl rfl rfl rfl rfl ?_
        refine goSU rfl rfl rfl rfl rfl rfl ?_
        refine goS rfl rfl rfl rfl rfl rfl hb4 ?_
        refine go1 (op_pick_t rfl hb4 (.t (has rfl)) (.bool _)) rfl ?_
        refine go1 (op_move rfl (.t (has rfl))) rfl ?_
        refine goS rfl rfl rfl rfl rfl rfl rfl ?_
        refine goS rfl rfl rfl rfl rfl rfl rfl ?_
        refine goS rfl rfl rfl rfl rfl rfl rfl ?_
        refine goSU rfl rfl rfl rfl rfl rfl ?_
        refine goSU rfl rfl rfl rfl rfl rfl ?_
        refine goS rfl rfl rfl rfl rfl rfl rfl ?_
        refine go1 (op_pick_t rfl rfl (.t (has rfl)) (.bool _)) rfl ?_
        refine go1 (op_move rfl (.t (has rfl))) rfl ?_
        refine goS rfl rfl rfl rfl rfl rfl rfl ?_
        refine goS rfl rfl rfl rfl rfl rfl rfl ?_
        refine goS rfl rfl rfl rfl rfl rfl rfl ?_
        refine go1 (op_pick_t rfl rfl (.t (has rfl)) (.bool _)) rfl ?_
        refine go1 (op_assign rfl (.t (has rfl))) rfl ?_
        refine goesO_nil ?_
        obtain rfl := Option.some.inj H
        exact ends_cut (.cons rfl .nil)
      · skip
        refine goG (op_move rfl (.t (has rfl))) rfl rfl rfl rfl hb4 ?_
        refine goG (op_icmp rfl rfl (.t (has rfl)) (.int _ _)) rfl rfl rfl rfl hb4 ?_
        refine goG (op_move rfl (.t (has rfl))) rfl rfl rfl rfl hb4 ?_
        refine goesO_split H (fun hb5 H => ?_) (fun hb5 H => ?_)
        · skip
          refine goG (op_move rfl (.t (has rfl))) rfl rfl rfl rfl hb5 ?_
          refine goG (op_icmp rfl rfl (.t (has rfl)) (.int _ _)) rfl rfl rfl rfl hb5 ?_
          refine goG (op_pick_t rfl hb5 (.t (has rfl)) (.t (has rfl))) rfl rfl rfl rfl hb4 ?_
          refine go1 (op_pick_f rfl hb4 (.t (has rfl)) (.t (has rfl))) rfl ?_
          refine go1 (op_move rfl (.t (has rfl))) rfl ?_
          refine goesO_split H (fun hb6 H => ?_) (fun hb6 H => ?_)
          · skip
            refine goS rfl rfl rfl rfl rfl rfl hb6 ?_
            refine goS rfl rfl rfl rfl rfl rfl hb6 ?_
            refine goS rfl rfl rfl rfl rfl rfl hb6 ?_
            refine goSU rfl rfl rfl rfl rfl rfl ?_
            refine goSU rfl rfl rfl rfl rfl rfl ?_
            refine goS rfl rfl rfl rfl rfl rfl hb6 ?_
            refine go1 (op_pick_t rfl hb6 (.t (has rfl)) (.bool _)) rfl ?_
            refine go1 (op_move rfl (.t (has rfl))) rfl ?_
            refine goS rfl rfl rfl rfl rfl rfl rfl ?_
            refine goS rfl rfl rfl rfl rfl rfl rfl ?_
            refine goS rfl rfl rfl rfl rfl rfl rfl ?_
            refine go1 (op_pick_t rfl rfl (.t (has rfl)) (.bool _)) rfl ?_
            refine go1 (op_assign rfl (.t (has rfl))) rfl ?_
            refine goesO_nil ?_
            obtain rfl := Option.some.inj H
            exact ends_cut (.cons rfl .nil)
          · skip
            refine goG (op_move rfl (.t (has rfl))) rfl rfl rfl rfl hb6 ?_
            refine goG (op_icmp rfl rfl (.t (has rfl)) (.int _ _)) rfl rfl rfl rfl hb6 ?_
            refine goG (op_move rfl (.t (has rfl))) rfl rfl rfl rfl hb6 ?_
            refine goesO_split H (fun hb7 H => ?_) (fun hb7 H => ?_)
            · skip
              refine goG (op_move rfl (.t (has rfl))) rfl rfl rfl rfl hb7 ?_
              refine goG (op_icmp rfl rfl (.t (has rfl)) (.int _ _)) rfl rfl rfl rfl hb7 ?_
              refine goG (op_pick_t rfl hb7 (.t (has rfl)) (.t (has rfl))) rfl rfl rfl rfl hb6 ?_
              refine go1 (op_pick_f rfl hb6 (.t (has rfl)) (.t (has rfl))) rfl ?_
              refine go1 (op_move rfl (.t (has rfl))) rfl ?_
              refine goesO_split H (fun hb8 H => ?_) (fun hb8 H => ?_)
              · skip
                refine goS rfl rfl rfl rfl rfl rfl hb8 ?_
                refine goS rfl rfl rfl rfl rfl rfl hb8 ?_
                refine goS rfl rfl rfl rfl rfl rfl hb8 ?_
                refine go1 (op_pick_t rfl hb8 (.t (has rfl)) (.bool _)) rfl ?_
                refine go1 (op_assign rfl (.t (has rfl))) rfl ?_
                refine goesO_nil ?_
                obtain rfl := Option.some.inj H
                exact ends_cut (.cons rfl .nil)
              · skip
                refine goG (op_move rfl (.t (has rfl))) rfl rfl rfl rfl hb8 ?_
                obtain ⟨v9, h10, H⟩ := bind_some H
                refine goG (op_call' rfl enters72 (strings_IndexByte.con _ _ _ h10) rfl (.cons (ArgP.k (.str _)) (.cons (ArgP.k (.t (has rfl))) .nil))) rfl rfl rfl rfl hb8 ?_
                refine goG (op_icmp rfl rfl (.t (has rfl)) (.int _ _)) rfl rfl rfl rfl hb8 ?_
                refine go1 (op_pick_f rfl hb8 (.t (has rfl)) (.t (has rfl))) rfl ?_
                refine go1 (op_assign rfl (.t (has rfl))) rfl ?_
                refine goesO_nil ?_
                obtain rfl := Option.some.inj H
                exact ends_cut (.cons rfl .nil)
            · skip
              refine goS rfl rfl rfl rfl rfl rfl hb7 ?_
              refine goS rfl rfl rfl rfl rfl rfl hb7 ?_
              refine goG (op_pick_f rfl hb7 (.t (has rfl)) (.bool _)) rfl rfl rfl rfl hb6 ?_
              refine go1 (op_pick_f rfl hb6 (.t (has rfl)) (.t (has rfl))) rfl ?_
              refine go1 (op_move rfl (.t (has rfl))) rfl ?_
              refine goG (op_move rfl (.t (has rfl))) rfl rfl rfl rfl rfl ?_
              obtain ⟨v11, h12, H⟩ := bind_some H
              refine goG (op_call' rfl enters72 (strings_IndexByte.con _ _ _ h12) rfl (.cons (ArgP.k (.str _)) (.cons (ArgP.k (.t (has rfl))) .nil))) rfl rfl rfl rfl rfl ?_
              refine goG (op_icmp rfl rfl (.t (has rfl)) (.int _ _)) rfl rfl rfl rfl rfl ?_
              refine go1 (op_pick_f rfl rfl (.t (has rfl)) (.t (has rfl))) rfl ?_
              refine go1 (op_assign rfl (.t (has rfl))) rfl ?_
              refine goesO_nil ?_
              obtain rfl := Option.some.inj H
              exact ends_cut (.cons rfl .nil)
        · skip
          refine goS rfl rfl rfl rfl rfl rfl hb5 ?_
          refine goS rfl rfl rfl rfl rfl rfl hb5 ?_
          refine goG (op_pick_f rfl hb5 (.t (has rfl)) (.bool _)) rfl rfl rfl rfl hb4 ?_
          refine go1 (op_pick_f rfl hb4 (.t (has rfl)) (.t (has rfl))) rfl ?_
          refine go1 (op_move rfl (.t (has rfl))) rfl ?_
          refine goG (op_move rfl (.t (has rfl))) rfl rfl rfl rfl rfl ?_
          refine goG (op_icmp rfl rfl (.t (has rfl)) (.int _ _)) rfl rfl rfl rfl rfl ?_
          refine goG (op_move rfl (.t (has rfl))) rfl rfl rfl rfl rfl ?_
          refine goesO_split H (fun hb13 H => ?_) (fun hb13 H => ?_)
          · skip
            refine goG (op_move rfl (.t (has rfl))) rfl rfl rfl rfl hb13 ?_
            refine goG (op_icmp rfl rfl (.t (has rfl)) (.int _ _)) rfl rfl rfl rfl hb13 ?_
            refine goG (op_pick_t rfl hb13 (.t (has rfl)) (.t (has rfl))) rfl rfl rfl rfl rfl ?_
            refine go1 (op_pick_f rfl rfl (.t (has rfl)) (.t (has rfl))) rfl ?_
            refine go1 (op_move rfl (.t (has rfl))) rfl ?_
            refine goesO_split H (fun hb14 H => ?_) (fun hb14 H => ?_)
            · skip
              refine goS rfl rfl rfl rfl rfl rfl hb14 ?_
              refine goS rfl rfl rfl rfl rfl rfl hb14 ?_
              refine goS rfl rfl rfl rfl rfl rfl hb14 ?_
              refine go1 (op_pick_t rfl hb14 (.t (has rfl)) (.bool _)) rfl ?_
              refine go1 (op_assign rfl (.t (has rfl))) rfl ?_
              refine goesO_nil ?_
              obtain rfl := Option.some.inj H
              exact ends_cut (.cons rfl .nil)
            · skip
              refine goG (op_move rfl (.t (has rfl))) rfl rfl rfl rfl hb14 ?_
              obtain ⟨v15, h16, H⟩ := bind_some H
              refine goG (op_call' rfl enters72 (strings_IndexByte.con _ _ _ h16) rfl (.cons (ArgP.k (.str _)) (.cons (ArgP.k (.t (has rfl))) .nil))) rfl rfl rfl rfl hb14 ?_
              refine goG (op_icmp rfl rfl (.t (has rfl)) (.int _ _)) rfl rfl rfl rfl hb14 ?_
              refine go1 (op_pick_f rfl hb14 (.t (has rfl)) (.t (has rfl))) rfl ?_
              refine go1 (op_assign rfl (.t (has rfl))) rfl ?_
              refine goesO_nil ?_
              obtain rfl := Option.some.inj H
              exact ends_cut (.cons rfl .nil)
          · skip
            refine goS rfl rfl rfl rfl rfl rfl hb13 ?_
            refine goS rfl rfl rfl rfl rfl rfl hb13 ?_
            refine goG (op_pick_f rfl hb13 (.t (has rfl)) (.bool _)) rfl rfl rfl rfl rfl ?_
            refine go1 (op_pick_f rfl rfl (.t (has rfl)) (.t (has rfl))) rfl ?_
            refine go1 (op_move rfl (.t (has rfl))) rfl ?_
            refine goG (op_move rfl (.t (has rfl))) rfl rfl rfl rfl rfl ?_
            obtain ⟨v17, h18, H⟩ := bind_some H
            refine goG (op_call' rfl enters72 (strings_IndexByte.con _ _ _ h18) rfl (.cons (ArgP.k (.str _)) (.cons (ArgP.k (.t (has rfl))) .nil))) rfl rfl rfl rfl rfl ?_
            refine goG (op_icmp rfl rfl (.t (has rfl)) (.int _ _)) rfl rfl rfl rfl rfl ?_
            refine go1 (op_pick_f rfl rfl (.t (has rfl)) (.t (has rfl))) rfl ?_
            refine go1 (op_assign rfl (.t (has rfl))) rfl ?_
            refine goesO_nil ?_
            obtain rfl := Option.some.inj H
            exact ends_cut (.cons rfl .nil)
    · skip
      refine goS rfl rfl rfl rfl rfl rfl hb3 ?_
      refine goS rfl rfl rfl rfl rfl rfl hb3 ?_
      refine go1 (op_pick_f rfl hb3 (.t (has rfl)) (.bool _)) rfl ?_
      refine go1 (op_move rfl (.t (has rfl))) rfl ?_
      refine goG (op_move rfl (.t (has rfl))) rfl rfl rfl rfl rfl ?_
      refine goG (op_icmp rfl rfl (.t (has rfl)) (.int _ _)) rfl rfl rfl rfl rfl ?_
      refine goG (op_move rfl (.t (has rfl))) rfl rfl rfl rfl rfl ?_
      refine goesO_split H (fun hb19 H => ?_) (fun hb19 H => ?_)
      · skip
        refine goG (op_move rfl (.t (has rfl))) rfl rfl rfl rfl hb19 ?_
        refine goG (op_icmp rfl rfl (.t (has rfl)) (.int _ _)) rfl rfl rfl rfl hb19 ?_
        refine goG (op_pick_t rfl hb19 (.t (has rfl)) (.t (has rfl))) rfl rfl rfl rfl rfl ?_
        refine go1 (op_pick_f rfl rfl (.t (has rfl)) (.t (has rfl))) rfl ?_
        refine go1 (op_move rfl (.t (has rfl))) rfl ?_
        refine goesO_split H (fun hb20 H => ?_) (fun hb20 H => ?_)
        · skip
          refine goS rfl rfl rfl rfl rfl rfl hb20 ?_
          refine goS rfl rfl rfl rfl rfl rfl hb20 ?_
          refine goS rfl rfl rfl rfl rfl rfl hb20 ?_
          refine goSU rfl rfl rfl rfl rfl rfl ?_
          refine goSU rfl rfl rfl rfl rfl rfl ?_
          refine goS rfl rfl rfl rfl rfl rfl hb20 ?_
          refine go1 (op_pick_t rfl hb20 (.t (has rfl)) (.bool _)) rfl ?_
          refine go1 (op_move rfl (.t (has rfl))) rfl ?_
          refine goS rfl rfl rfl rfl rfl rfl rfl ?_
          refine goS rfl rfl rfl rfl rfl rfl rfl ?_
          refine goS rfl rfl rfl rfl rfl rfl rfl ?_
          refine go1 (op_pick_t rfl rfl (.t (has rfl)) (.bool _)) rfl ?_
          refine go1 (op_assign rfl (.t (has rfl))) rfl ?_
          refine goesO_nil ?_
          obtain rfl := Option.some.inj H
          exact ends_cut (.cons rfl .nil)
        · skip
          refine goG (op_move rfl (.t (has rfl))) rfl rfl rfl rfl hb20 ?_
          refine goG (op_icmp rfl rfl (.t (has rfl)) (.int _ _)) rfl rfl rfl rfl hb20 ?_
          refine goG (op_move rfl (.t (has rfl))) rfl rfl rfl rfl hb20 ?_
          refine goesO_split H (fun hb21 H => ?_) (fun hb21 H => ?_)
          · skip
            refine goG (op_move rfl (.t (has rfl))) rfl rfl rfl rfl hb21 ?_
            refine goG (op_icmp rfl rfl (.t (has rfl)) (.int _ _)) rfl rfl rfl rfl hb21 ?_
            refine goG (op_pick_t rfl hb21 (.t (has rfl)) (.t (has rfl))) rfl rfl rfl rfl hb20 ?_
            refine go1 (op_pick_f rfl hb20 (.t (has rfl)) (.t (has rfl))) rfl ?_
            refine go1 (op_move rfl (.t (has rfl))) rfl ?_
            refine goesO_split H (fun hb22 H => ?_) (fun hb22 H => ?_)
            · skip
              refine goS rfl rfl rfl rfl rfl rfl hb22 ?_
              refine goS rfl rfl rfl rfl rfl rfl hb22 ?_
              refine goS rfl rfl rfl rfl rfl rfl hb22 ?_
              refine go1 (op_pick_t rfl hb22 (.t (has rfl)) (.bool _)) rfl ?_
              refine go1 (op_assign rfl (.t (has rfl))) rfl ?_
              refine goesO_nil ?_
              obtain rfl := Option.some.inj H
              exact ends_cut (.cons rfl .nil)
            · skip
              refine goG (op_move rfl (.t (has rfl))) rfl rfl rfl rfl hb22 ?_
              obtain ⟨v23, h24, H⟩ := bind_some H
              refine goG (op_call' rfl enters72 (strings_IndexByte.con _ _ _ h24) rfl (.cons (ArgP.k (.str _)) (.cons (ArgP.k (.t (has rfl))) .nil))) rfl rfl rfl rfl hb22 ?_
              refine goG (op_icmp rfl rfl (.t (has rfl)) (.int _ _)) rfl rfl rfl rfl hb22 ?_
              refine go1 (op_pick_f rfl hb22 (.t (has rfl)) (.t (has rfl))) rfl ?_
              refine go1 (op_assign rfl (.t (has rfl))) rfl ?_
              refine goesO_nil ?_
              obtain rfl := Option.some.inj H
              exact ends_cut (.cons rfl .nil)
          · skip
            refine goS rfl rfl rfl rfl rfl rfl hb21 ?_
            refine goS rfl rfl rfl rfl rfl rfl hb21 ?_
            refine goG (op_pick_f rfl hb21 (.t (has rfl)) (.bool _)) rfl rfl rfl rfl hb20 ?_
            refine go1 (op_pick_f rfl hb20 (.t (has rfl)) (.t (has rfl))) rfl ?_
            refine go1 (op_move rfl (.t (has rfl))) rfl ?_
            refine goG (op_move rfl (.t (has rfl))) rfl rfl rfl rfl rfl ?_
            obtain ⟨v25, h26, H⟩ := bind_some H
            refine goG (op_call' rfl enters72 (strings_IndexByte.con _ _ _ h26) rfl (.cons (ArgP.k (.str _)) (.cons (ArgP.k (.t (has rfl))) .nil))) rfl rfl rfl rfl rfl ?_
            refine goG (op_icmp rfl rfl (.t (has rfl)) (.int _ _)) rfl rfl rfl rfl rfl ?_
            refine go1 (op_pick_f rfl rfl (.t (has rfl)) (.t (has rfl))) rfl ?_
            refine go1 (op_assign rfl (.t (has rfl))) rfl ?_
            refine goesO_nil ?_
            obtain rfl := Option.some.inj H
            exact ends_cut (.cons rfl .nil)
      · skip
        refine goS rfl rfl rfl rfl rfl rfl hb19 ?_
        refine goS rfl rfl rfl rfl rfl rfl hb19 ?_
        refine goG (op_pick_f rfl hb19 (.t (has rfl)) (.bool _)) rfl rfl rfl rfl rfl ?_
        refine go1 (op_pick_f rfl rfl (.t (has rfl)) (.t (has rfl))) rfl ?_
        refine go1 (op_move rfl (.t (has rfl))) rfl ?_
        refine goG (op_move rfl (.t (has rfl))) rfl rfl rfl rfl rfl ?_
        refine goG (op_icmp rfl rfl (.t (has rfl)) (.int _ _)) rfl rfl rfl rfl rfl ?_
        refine goG (op_move rfl (.t (has rfl))) rfl rfl rfl rfl rfl ?_
        refine goesO_split H (fun hb27 H => ?_) (fun hb27 H => ?_)
        · skip
          refine goG (op_move rfl (.t (has rfl))) rfl rfl rfl rfl hb27 ?_
          refine goG (op_icmp rfl rfl (.t (has rfl)) (.int _ _)) rfl rfl rfl rfl hb27 ?_
          refine goG (op_pick_t rfl hb27 (.t (has rfl)) (.t (has rfl))) rfl rfl rfl rfl rfl ?_
          refine go1 (op_pick_f rfl rfl (.t (has rfl)) (.t (has rfl))) rfl ?_
          refine go1 (op_move rfl (.t (has rfl))) rfl ?_
          refine goesO_split H (fun hb28 H => ?_) (fun hb28 H => ?_)
          · skip
            refine goS rfl rfl rfl rfl rfl rfl hb28 ?_
            refine goS rfl rfl rfl rfl rfl rfl hb28 ?_
            refine goS rfl rfl rfl rfl rfl rfl hb28 ?_
            refine go1 (op_pick_t rfl hb28 (.t (has rfl)) (.bool _)) rfl ?_
            refine go1 (op_assign rfl (.t (has rfl))) rfl ?_
            refine goesO_nil ?_
            obtain rfl := Option.some.inj H
            exact ends_cut (.cons rfl .nil)
          · skip
            refine goG (op_move rfl (.t (has rfl))) rfl rfl rfl rfl hb28 ?_
            obtain ⟨v29, h30, H⟩ := bind_some H
            refine goG (op_call' rfl enters72 (strings_IndexByte.con _ _ _ h30) rfl (.cons (ArgP.k (.str _)) (.cons (ArgP.k (.t (has rfl))) .nil))) rfl rfl rfl rfl hb28 ?_
            refine goG (op_icmp rfl rfl (.t (has rfl)) (.int _ _)) rfl rfl rfl rfl hb28 ?_
            refine go1 (op_pick_f rfl hb28 (.t (has rfl)) (.t (has rfl))) rfl ?_
            refine go1 (op_assign rfl (.t (has rfl))) rfl ?_
            refine goesO_nil ?_
            obtain rfl := Option.some.inj H
            exact ends_cut (.cons rfl .nil)
        · skip
          refine goS rfl rfl rfl rfl rfl rfl hb27 ?_
          refine goS rfl rfl rfl rfl rfl rfl hb27 ?_
          refine goG (op_pick_f rfl hb27 (.t (has rfl)) (.bool _)) rfl rfl rfl rfl rfl ?_
          refine go1 (op_pick_f rfl rfl (.t (has rfl)) (.t (has rfl))) rfl ?_
          refine go1 (op_move rfl (.t (has rfl))) rfl ?_
          refine goG (op_move rfl (.t (has rfl))) rfl rfl rfl rfl rfl ?_
          obtain ⟨v31, h32, H⟩ := bind_some H
          refine goG (op_call' rfl enters72 (strings_IndexByte.con _ _ _ h32) rfl (.cons (ArgP.k (.str _)) (.cons (ArgP.k (.t (has rfl))) .nil))) rfl rfl rfl rfl rfl ?_
          refine goG (op_icmp rfl rfl (.t (has rfl)) (.int _ _)) rfl rfl rfl rfl rfl ?_
          refine go1 (op_pick_f rfl rfl (.t (has rfl)) (.t (has rfl))) rfl ?_
          refine go1 (op_assign rfl (.t (has rfl))) rfl ?_
          refine goesO_nil ?_
          obtain rfl := Option.some.inj H
          exact ends_cut (.cons rfl .nil)
  refine ends_then ?_
  obtain rfl := Option.some.inj H
  exact goes_ret (ends_ret' rfl rfl (.t rfl (.nil _)))
/-! smithy/names.Check -/
def names_Check.l0 (a0 : ByteArray) : Nat → Int → Option (Except Int Unit)
  | 0, _ => none
  | k + 1, s5 => bif icmp .lss s5 (a0.size : Int) then ((bidx a0 s5).bind fun x10 => (names_letter.f x10).bind fun v12 => bif !v12 then (some (Except.error (3 : Int))) else (names_Check.l0 a0 k (IntKind.i64.wrap (s5 + (1 : Int))))) else (some (Except.ok ()))
def names_Check.f (k : Nat) (a0 : ByteArray) : Option Int := (bif icmp .eql (a0.size : Int) (0 : Int) then (some true) else (some (icmp .gtr (a0.size : Int) (64 : Int)))).bind fun s1 => bif s1 then (some (3 : Int)) else ((names_Check.l0 a0 k (0 : Int)).bind fun o8 => match o8 with | .error r' => some r' | .ok s6 => (some (0 : Int)))
set_option maxRecDepth 100000 in
set_option maxHeartbeats 4000000 in
theorem names_Check.con (k : Nat) (a0 : ByteArray) (r : Int) (H : names_Check.f k a0 = some r) : Con Try.prog 35 [VA.k kstr a0] [VA.k (kint .i64) r] := by
  unfold names_Check.f at H
  refine con_enter Try.func35 rfl rfl rfl (fun w0 S0 θ => ?_)
  refine goes_seq ?_
  refine goes_region ?_
  refine go1 (op_assign rfl (.int _ _)) rfl ?_
  refine goesO_nil ?_
  refine ends_then ?_
  refine goes_seq ?_
  refine goes_seq ?_
  obtain ⟨s1, h2, H⟩ := bind_some H
  refine goes_cut [Ent.t 0 (VA.k kstr a0), Ent.t 11 (VA.k kbool s1)] ?_ ?_
  · replace H := h2; clear h2
    refine goes_region ?_
    refine go1 (op_move rfl (.t (has rfl))) rfl ?_
    refine go1 (op_len_str rfl rfl Try.underlying9 (.t (has rfl))) rfl ?_
    refine go1 (op_icmp rfl rfl (.t (has rfl)) (.int _ _)) rfl ?_
    refine go1 (op_move rfl (.t (has rfl))) rfl ?_
    refine goesO_split H (fun hb3 H => ?_) (fun hb3 H => ?_)
    · skip
      refine goS rfl rfl rfl rfl rfl rfl hb3 ?_
      refine goS rfl rfl rfl rfl rfl rfl hb3 ?_
      refine goS rfl rfl rfl rfl rfl rfl hb3 ?_
      refine go1 (op_pick_t rfl hb3 (.t (has rfl)) (.bool _)) rfl ?_
      refine goesO_nil ?_
      obtain rfl := Option.some.inj H
      exact ends_cut (.cons rfl (.cons rfl .nil))
    · skip
      refine goG (op_move rfl (.t (has rfl))) rfl rfl rfl rfl hb3 ?_
      refine goG (op_len_str rfl rfl Try.underlying9 (.t (has rfl))) rfl rfl rfl rfl hb3 ?_
      refine goG (op_icmp rfl rfl (.t (has rfl)) (.int _ _)) rfl rfl rfl rfl hb3 ?_
      refine go1 (op_pick_f rfl hb3 (.t (has rfl)) (.t (has rfl))) rfl ?_
      refine goesO_nil ?_
      obtain rfl := Option.some.inj H
      exact ends_cut (.cons rfl (.cons rfl .nil))
  refine ends_then ?_
  refine goes_if (.t (has rfl)) H (fun hb4 H => ?_) (fun hb4 H => ?_)
  · skip
    refine goes_seq ?_
    refine goes_region ?_
    refine go1 (op_assign rfl (.int _ _)) rfl ?_
    refine goesO_nil ?_
    refine ends_then ?_
    obtain rfl := Option.some.inj H
    exact goes_ret (ends_then_ret (ends_ret' rfl rfl (.t rfl (.nil _))))
  · skip
    refine goes_skip ?_
    refine ends_then ?_
    refine goes_seq ?_
    refine goes_seq ?_
    refine goes_region ?_
    refine go1 (op_move rfl (.t (has rfl))) rfl ?_
    refine go1 (op_len_str rfl rfl Try.underlying9 (.t (has rfl))) rfl ?_
    refine go1 (op_move rfl (.int _ _)) rfl ?_
    refine goesO_nil ?_
    refine ends_then ?_
    obtain ⟨o8, h7, H⟩ := bind_some H
    refine goes_cutR (o := o8) (fun s6 : Unit => []) (fun r a w => bodyPost Try.prog Try.f35 (CPost w0 S0 θ [VA.k (kint .i64) r]) .ret a w) ?_ ?_ ?_
    · replace H := h7; clear h7
      refine goes_block ?_
      refine goes_loop (fun s5 : Int => [Ent.t 0 (VA.k kstr a0), Ent.t 13 (VA.k (kint .i64) (a0.size : Int)), Ent.t 14 (VA.k (kint .i64) s5)]) (fun k s5 => names_Check.l0 a0 k s5) (fun _ => rfl) H (.cons rfl (.cons rfl (.cons rfl .nil))) ?_
      intro k s5 H
      simp only [names_Check.l0] at H
      refine goes_seq ?_
      refine goes_region ?_
      refine go1 (op_icmp rfl rfl (.t (has rfl)) (.t (has rfl))) rfl ?_
      refine goesO_nil ?_
      refine ends_then ?_
      refine goes_seq ?_
      refine goes_if (.t (has rfl)) H (fun hb9 H => ?_) (fun hb9 H => ?_)
      · skip
        refine goes_skip ?_
        refine ends_then ?_
        refine goes_seq ?_
        refine goes_block ?_
        refine goes_seq ?_
        refine goes_region ?_
        refine go1 (op_move rfl (.t (has rfl))) rfl ?_
        refine go1 (op_assign rfl (.t (has rfl))) rfl ?_
        refine goesO_nil ?_
        refine ends_then ?_
        refine goes_seq ?_
        refine goes_region ?_
        refine go1 (op_move rfl (.t (has rfl))) rfl ?_
        refine go1 (op_move rfl (.t (has rfl))) rfl ?_
        obtain ⟨x10, h11, H⟩ := bind_some H
        refine go1 (op_index_str rfl Try.underlying9 h11 (.t (has rfl)) (.t (has rfl))) rfl ?_
        obtain ⟨v12, h13, H⟩ := bind_some H
        refine go1 (op_call' rfl enters51 (names_letter.con _ _ h13) rfl (.cons (ArgP.k (.t (has rfl))) .nil)) rfl ?_
        refine go1 (op_not rfl (.t (has rfl))) rfl ?_
        refine goesO_nil ?_
        refine ends_then ?_
        refine goes_if (.t (has rfl)) H (fun hb14 H => ?_) (fun hb14 H => ?_)
        · skip
          refine goes_seq ?_
          refine goes_region ?_
          refine go1 (op_assign rfl (.int _ _)) rfl ?_
          refine goesO_nil ?_
          refine ends_then ?_
          obtain rfl := Option.some.inj H
          refine goes_ret (ends_block_ret (ends_then_ret (ends_then_ret (ends_block_ret (ends_cutR_ret rfl ?_)))))
          exact ends_ret' rfl rfl (.t rfl (.nil _))
        · skip
          refine goes_skip ?_
          refine ends_block ?_
          refine ends_then ?_
          refine goes_region ?_
          refine go1 (op_add rfl (.t (has rfl)) (.int _ _)) rfl ?_
          refine go1 (op_move rfl (.t (has rfl))) rfl ?_
          refine goesO_nil ?_
          exact loop_next _ H (.cons rfl (.cons rfl (.cons rfl .nil)))
      · skip
        refine goes_exit (ends_then_exit (ends_then_exit (ends_block_exit ?_)))
        obtain rfl := Option.some.inj H
        exact ends_cutR rfl .nil
    · rintro s6 rfl
      clear h7
      dsimp only at H
      refine ends_then ?_
      refine goes_seq ?_
      refine goes_region ?_
      refine go1 (op_assign rfl (.int _ _)) rfl ?_
      refine goesO_nil ?_
      refine ends_then ?_
      obtain rfl := Option.some.inj H
      exact goes_ret (ends_ret' rfl rfl (.t rfl (.nil _)))
    · rintro r' rfl a w hr
      obtain rfl := Option.some.inj H
      exact hr
/-! slices.IndexFunc[[]string,string] -/
def slices_IndexFunc_string_string.l0 (a0 : List ByteArray) (a1 : ByteArray → Option Bool) : Nat → Int → Option (Except Int Unit)
  | 0, _ => none
  | k + 1, s1 => bif icmp .lss s1 (a0.length : Int) then ((idx a0 s1).bind fun x6 => (a1 x6).bind fun v8 => bif v8 then (some (Except.error s1)) else (slices_IndexFunc_string_string.l0 a0 a1 k (IntKind.i64.wrap (s1 + (1 : Int))))) else (some (Except.ok ()))
def slices_IndexFunc_string_string.f (k : Nat) (a0 : List ByteArray) (a1 : ByteArray → Option Bool) : Option Int := (slices_IndexFunc_string_string.l0 a0 a1 k (0 : Int)).bind fun o4 => match o4 with | .error r' => some r' | .ok s2 => (some (-1 : Int))
set_option maxRecDepth 100000 in
set_option maxHeartbeats 4000000 in
theorem slices_IndexFunc_string_string.con (F1 : FuncId) (pre1 caps1 : List VA) (k : Nat) (a0 : List ByteArray) (a1 : ByteArray → Option Bool) (hE1 : Enters Try.prog F1) (hp1 : ∀ (z0 : ByteArray) r, a1 z0 = some r → Con Try.prog F1 (pre1 ++ ([VA.k kstr z0] ++ caps1)) [VA.k kbool r]) (r : Int) (H : slices_IndexFunc_string_string.f k a0 a1 = some r) : Con Try.prog 91 [VA.k (kslice kstr) a0, VA.clo F1 pre1 caps1] [VA.k (kint .i64) r] := by
  unfold slices_IndexFunc_string_string.f at H
  refine con_enter Try.func91 rfl rfl rfl (fun w0 S0 θ => ?_)
  refine goes_seq ?_
  refine goes_region ?_
  refine go1 (op_assign rfl (.int _ _)) rfl ?_
  refine goesO_nil ?_
  refine ends_then ?_
  refine goes_seq ?_
  refine goes_seq ?_
  refine goes_region ?_
  refine go1 (op_move rfl (.t (has rfl))) rfl ?_
  refine go1 (op_len rfl rfl Try.underlying25 (.t (has rfl))) rfl ?_
  refine go1 (op_move rfl (.int _ _)) rfl ?_
  refine goesO_nil ?_
  refine ends_then ?_
  obtain ⟨o4, h3, H⟩ := bind_some H
  refine goes_cutR (o := o4) (fun s2 : Unit => []) (fun r a w => bodyPost Try.prog Try.f91 (CPost w0 S0 θ [VA.k (kint .i64) r]) .ret a w) ?_ ?_ ?_
  · replace H := h3; clear h3
    refine goes_block ?_
    refine goes_loop (fun s1 : Int => [Ent.t 0 (VA.k (kslice kstr) a0), Ent.t 1 (VA.clo F1 pre1 caps1), Ent.t 7 (VA.k (kint .i64) (a0.length : Int)), Ent.t 8 (VA.k (kint .i64) s1)]) (fun k s1 => slices_IndexFunc_string_string.l0 a0 a1 k s1) (fun _ => rfl) H (.cons rfl (.cons rfl (.cons rfl (.cons rfl .nil)))) ?_
    intro k s1 H
    simp only [slices_IndexFunc_string_string.l0] at H
    refine goes_seq ?_
    refine goes_region ?_
    refine go1 (op_icmp rfl rfl (.t (has rfl)) (.t (has rfl))) rfl ?_
    refine goesO_nil ?_
    refine ends_then ?_
    refine goes_seq ?_
    refine goes_if (.t (has rfl)) H (fun hb5 H => ?_) (fun hb5 H => ?_)
    · skip
      refine goes_skip ?_
      refine ends_then ?_
      refine goes_seq ?_
      refine goes_block ?_
      refine goes_seq ?_
      refine goes_region ?_
      refine go1 (op_move rfl (.t (has rfl))) rfl ?_
      refine go1 (op_assign rfl (.t (has rfl))) rfl ?_
      refine goesO_nil ?_
      refine ends_then ?_
      refine goes_seq ?_
      refine goes_region ?_
      refine go1 (op_moveA rfl plain_clo (.t (has rfl))) rfl ?_
      refine go1 (op_move rfl (.t (has rfl))) rfl ?_
      refine go1 (op_move rfl (.t (has rfl))) rfl ?_
      obtain ⟨x6, h7, H⟩ := bind_some H
      refine go1 (op_indexAddr rfl Try.underlying25 tk9 h7 (.t (has rfl)) (.t (has rfl))) rfl ?_
      refine go1 (op_loadp rfl tk9 (.t (has rfl))) rfl ?_
      obtain ⟨v8, h9, H⟩ := bind_some H
      refine go1 (op_callv rfl (.t (has rfl)) hE1 (hp1 _ _ h9) rfl (.cons (ArgP.k (.t (has rfl))) .nil)) rfl ?_
      refine goesO_nil ?_
      refine ends_then ?_
      refine goes_if (.t (has rfl)) H (fun hb10 H => ?_) (fun hb10 H => ?_)
      · skip
        refine goes_seq ?_
        refine goes_region ?_
        refine go1 (op_move rfl (.t (has rfl))) rfl ?_
        refine go1 (op_assign rfl (.t (has rfl))) rfl ?_
        refine goesO_nil ?_
        refine ends_then ?_
        obtain rfl := Option.some.inj H
        refine goes_ret (ends_block_ret (ends_then_ret (ends_then_ret (ends_block_ret (ends_cutR_ret rfl ?_)))))
        exact ends_ret' rfl rfl (.t rfl (.nil _))
      · skip
        refine goes_skip ?_
        refine ends_block ?_
        refine ends_then ?_
        refine goes_region ?_
        refine go1 (op_add rfl (.t (has rfl)) (.int _ _)) rfl ?_
        refine go1 (op_move rfl (.t (has rfl))) rfl ?_
        refine goesO_nil ?_
        exact loop_next _ H (.cons rfl (.cons rfl (.cons rfl (.cons rfl .nil))))
    · skip
      refine goes_exit (ends_then_exit (ends_then_exit (ends_block_exit ?_)))
      obtain rfl := Option.some.inj H
      exact ends_cutR rfl .nil
  · rintro s2 rfl
    clear h3
    dsimp only at H
    refine ends_then ?_
    refine goes_seq ?_
    refine goes_region ?_
    refine go1 (op_assign rfl (.int _ _)) rfl ?_
    refine goesO_nil ?_
    refine ends_then ?_
    obtain rfl := Option.some.inj H
    exact goes_ret (ends_ret' rfl rfl (.t rfl (.nil _)))
  · rintro r' rfl a w hr
    obtain rfl := Option.some.inj H
    exact hr
/-! slices.ContainsFunc[[]string,string] -/
def slices_ContainsFunc_string_string.f (k : Nat) (a0 : List ByteArray) (a1 : ByteArray → Option Bool) : Option Bool := (slices_IndexFunc_string_string.f k a0 a1).bind fun v1 => some (icmp .geq v1 (0 : Int))
set_option maxRecDepth 100000 in
set_option maxHeartbeats 4000000 in
theorem slices_ContainsFunc_string_string.con (F1 : FuncId) (pre1 caps1 : List VA) (k : Nat) (a0 : List ByteArray) (a1 : ByteArray → Option Bool) (hE1 : Enters Try.prog F1) (hp1 : ∀ (z0 : ByteArray) r, a1 z0 = some r → Con Try.prog F1 (pre1 ++ ([VA.k kstr z0] ++ caps1)) [VA.k kbool r]) (r : Bool) (H : slices_ContainsFunc_string_string.f k a0 a1 = some r) : Con Try.prog 80 [VA.k (kslice kstr) a0, VA.clo F1 pre1 caps1] [VA.k kbool r] := by
  unfold slices_ContainsFunc_string_string.f at H
  refine con_enter Try.func80 rfl rfl rfl (fun w0 S0 θ => ?_)
  refine goes_seq ?_
  refine goes_region ?_
  refine go1 (op_assign rfl (.bool _)) rfl ?_
  refine goesO_nil ?_
  refine ends_then ?_
  refine goes_seq ?_
  refine goes_region ?_
  refine go1 (op_move rfl (.t (has rfl))) rfl ?_
  refine go1 (op_moveA rfl plain_clo (.t (has rfl))) rfl ?_
  obtain ⟨v1, h2, H⟩ := bind_some H
  refine go1 (op_call' rfl enters91 (slices_IndexFunc_string_string.con F1 pre1 caps1 _ _ a1 hE1 hp1 _ h2) rfl (.cons (ArgP.k (.t (has rfl))) (.cons (ArgP.clo (.t (has rfl))) .nil))) rfl ?_
  refine go1 (op_icmp rfl rfl (.t (has rfl)) (.int _ _)) rfl ?_
  refine go1 (op_assign rfl (.t (has rfl))) rfl ?_
  refine goesO_nil ?_
  refine ends_then ?_
  obtain rfl := Option.some.inj H
  exact goes_ret (ends_ret' rfl rfl (.t rfl (.nil _)))
/-! smithy/load.named$1 -/
def load_named_1.f (k : Nat) (a0 : ByteArray) : Option Bool := (names_Check.f k a0).bind fun v1 => some (icmp .neq v1 (0 : Int))
set_option maxRecDepth 100000 in
set_option maxHeartbeats 4000000 in
theorem load_named_1.con (k : Nat) (a0 : ByteArray) (r : Bool) (H : load_named_1.f k a0 = some r) : Con Try.prog 81 [VA.k kstr a0] [VA.k kbool r] := by
  unfold load_named_1.f at H
  refine con_enter Try.func81 rfl rfl rfl (fun w0 S0 θ => ?_)
  refine goes_seq ?_
  refine goes_region ?_
  refine go1 (op_assign rfl (.bool _)) rfl ?_
  refine goesO_nil ?_
  refine ends_then ?_
  refine goes_seq ?_
  refine goes_region ?_
  refine go1 (op_move rfl (.t (has rfl))) rfl ?_
  obtain ⟨v1, h2, H⟩ := bind_some H
  refine go1 (op_call' rfl enters35 (names_Check.con _ _ _ h2) rfl (.cons (ArgP.k (.t (has rfl))) .nil)) rfl ?_
  refine go1 (op_icmp rfl rfl (.t (has rfl)) (.int _ _)) rfl ?_
  refine go1 (op_assign rfl (.t (has rfl))) rfl ?_
  refine goesO_nil ?_
  refine ends_then ?_
  obtain rfl := Option.some.inj H
  exact goes_ret (ends_ret' rfl rfl (.t rfl (.nil _)))
/-! smithy/load.named -/
def load_named.f (k : Nat) (a0 : List ByteArray) (a1 : Int) : Option Bool := (bif icmp .leq (a0.length : Int) a1 then ((slices_ContainsFunc_string_string.f k a0 (fun (z0 : ByteArray) => load_named_1.f k z0)).bind fun v4 => some (!v4)) else (some false)).bind fun s1 => some s1
set_option maxRecDepth 100000 in
set_option maxHeartbeats 4000000 in
theorem load_named.con (k : Nat) (a0 : List ByteArray) (a1 : Int) (r : Bool) (H : load_named.f k a0 a1 = some r) : Con Try.prog 66 [VA.k (kslice kstr) a0, VA.k (kint .i64) a1] [VA.k kbool r] := by
  unfold load_named.f at H
  refine con_enter Try.func66 rfl rfl rfl (fun w0 S0 θ => ?_)
  refine goes_seq ?_
  refine goes_region ?_
  refine go1 (op_assign rfl (.bool _)) rfl ?_
  refine goesO_nil ?_
  refine ends_then ?_
  refine goes_seq ?_
  obtain ⟨s1, h2, H⟩ := bind_some H
  refine goes_cut [Ent.t 4 (VA.k kbool s1)] ?_ ?_
  · replace H := h2; clear h2
    refine goes_region ?_
    refine go1 (op_move rfl (.t (has rfl))) rfl ?_
    refine go1 (op_len rfl rfl Try.underlying25 (.t (has rfl))) rfl ?_
    refine go1 (op_move rfl (.t (has rfl))) rfl ?_
    refine go1 (op_icmp rfl rfl (.t (has rfl)) (.t (has rfl))) rfl ?_
    refine go1 (op_move rfl (.t (has rfl))) rfl ?_
    refine goesO_split H (fun hb3 H => ?_) (fun hb3 H => ?_)
    · skip
      refine goG (op_move rfl (.t (has rfl))) rfl rfl rfl rfl hb3 ?_
      obtain ⟨v4, h5, H⟩ := bind_some H
      refine goG (op_call' rfl enters80 (slices_ContainsFunc_string_string.con 81 ([]) ([]) _ _ (fun (z0 : ByteArray) => load_named_1.f k z0) enters81 (fun z0 r h => load_named_1.con _ z0 r h) _ h5) rfl (.cons (ArgP.k (.t (has rfl))) (.cons ArgP.fn .nil))) rfl rfl rfl rfl hb3 ?_
      refine goG (op_not rfl (.t (has rfl))) rfl rfl rfl rfl hb3 ?_
      refine go1 (op_pick_t rfl hb3 (.t (has rfl)) (.t (has rfl))) rfl ?_
      refine go1 (op_assign rfl (.t (has rfl))) rfl ?_
      refine goesO_nil ?_
      obtain rfl := Option.some.inj H
      exact ends_cut (.cons rfl .nil)
    · skip
      refine goS rfl rfl rfl rfl rfl rfl hb3 ?_
      refine goS rfl rfl rfl rfl rfl rfl hb3 ?_
      refine goS rfl rfl rfl rfl rfl rfl hb3 ?_
      refine go1 (op_pick_f rfl hb3 (.t (has rfl)) (.bool _)) rfl ?_
      refine go1 (op_assign rfl (.t (has rfl))) rfl ?_
      refine goesO_nil ?_
      obtain rfl := Option.some.inj H
      exact ends_cut (.cons rfl .nil)
  refine ends_then ?_
  obtain rfl := Option.some.inj H
  exact goes_ret (ends_ret' rfl rfl (.t rfl (.nil _)))
end Go.Proofs.Ytlpmolohppoofaa.F
