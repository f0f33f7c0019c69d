import Derived.Test.YtodogppelokapaaFKx1
set_option linter.unusedVariables false
set_option linter.unusedSimpArgs false
set_option linter.unnecessarySimpa false
set_option linter.deprecated false
namespace Go.Proofs.Ytodogppelokapaa.F
open Go Go.RowKit Go.Proofs.Ytodogppelokapaa.Sl
/-! smithy/macro.Name$1 -/
def macro_Name_1.f (a0 : Int) : Option Bool := (bif icmp .geq a0 (97 : Int) then (bif icmp .leq a0 (122 : Int) then (some (!true)) else (bif icmp .geq a0 (65 : Int) then (bif icmp .leq a0 (90 : Int) then (some (!true)) else (bif icmp .geq a0 (48 : Int) then (bif icmp .leq a0 (57 : Int) then (some (!true)) else (bif icmp .eql a0 (95 : Int) then (some (!true)) else (some (!(icmp .eql a0 (46 : Int)))))) else (bif icmp .eql a0 (95 : Int) then (some (!true)) else (some (!(icmp .eql a0 (46 : Int))))))) else (bif icmp .geq a0 (48 : Int) then (bif icmp .leq a0 (57 : Int) then (some (!true)) else (bif icmp .eql a0 (95 : Int) then (some (!true)) else (some (!(icmp .eql a0 (46 : Int)))))) else (bif icmp .eql a0 (95 : Int) then (some (!true)) else (some (!(icmp .eql a0 (46 : Int)))))))) else (bif icmp .geq a0 (65 : Int) then (bif icmp .leq a0 (90 : Int) then (some (!true)) else (bif icmp .geq a0 (48 : Int) then (bif icmp .leq a0 (57 : Int) then (some (!true)) else (bif icmp .eql a0 (95 : Int) then (some (!true)) else (some (!(icmp .eql a0 (46 : Int)))))) else (bif icmp .eql a0 (95 : Int) then (some (!true)) else (some (!(icmp .eql a0 (46 : Int))))))) else (bif icmp .geq a0 (48 : Int) then (bif icmp .leq a0 (57 : Int) then (some (!true)) else (bif icmp .eql a0 (95 : Int) then (some (!true)) else (some (!(icmp .eql a0 (46 : Int)))))) else (bif icmp .eql a0 (95 : Int) then (some (!true)) else (some (!(icmp .eql a0 (46 : Int)))))))).bind fun s1 => some s1
set_option maxRecDepth 100000 in
set_option maxHeartbeats 4000000 in
theorem macro_Name_1.con (a0 : Int) (r : Bool) (H : macro_Name_1.f a0 = some r) : Con Try.prog 31 [VA.k (kint .i32) a0] [VA.k kbool r] := by
  unfold macro_Name_1.f at H
  refine con_enter Try.func31 rfl rfl rfl (fun w0 S0 θ => ?_)
  refine goes_seq ?_
  refine goes_region ?_
  refine go1 (op_assign rfl (.bool _)) rfl ?_
  refine goesO_nil ?_
  refine ends_then ?_
  refine goes_seq ?_
  obtain ⟨s1, h2, H⟩ := bind_some H
  refine goes_cut [Ent.t 2 (VA.k kbool s1)] ?_ ?_
  · replace H := h2; clear h2
    refine goes_region ?_
    refine go1 (op_move rfl (.t (has rfl))) rfl ?_
    refine go1 (op_icmp rfl rfl (.t (has rfl)) (.int _ _)) rfl ?_
    refine go1 (op_move rfl (.t (has rfl))) rfl ?_
    refine goesO_split H (fun hb3 H => ?_) (fun hb3 H => ?_)
    · skip
      refine goG (op_move rfl (.t (has rfl))) rfl rfl rfl rfl hb3 ?_
      refine goG (op_icmp rfl rfl (.t (has rfl)) (.int _ _)) rfl rfl rfl rfl hb3 ?_
      refine go1 (op_pick_t rfl hb3 (.t (has rfl)) (.t (has rfl))) rfl ?_
      refine go1 (op_move rfl (.t (has rfl))) rfl ?_
      refine goesO_split H (fun hb4 H => ?_) (fun hb4 H => ?_)
      · skip
        refine goS rfl rfl rfl rfl rfl rfl hb4 ?_
        refine goS rfl rfl rfl rfl rfl rfl hb4 ?_
        refine goS rfl rfl rfl rfl rfl rfl hb4 ?_
        refine goSU rfl rfl rfl rfl rfl rfl ?_
        refine goSU rfl rfl rfl rfl rfl rfl ?_
        refine goS rfl rfl rfl rfl rfl rfl hb4 ?_
        refine go1 (op_pick_t rfl hb4 (.t (has rfl)) (.bool _)) rfl ?_
        refine go1 (op_move rfl (.t (has rfl))) rfl ?_
        refine goS rfl rfl rfl rfl rfl rfl rfl ?_
        refine goS rfl rfl rfl rfl rfl rfl rfl ?_
        refine goS rfl rfl rfl rfl rfl rfl rfl ?_
        refine goSU rfl rfl rfl rfl rfl rfl ?_
        refine goSU rfl rfl rfl rfl rfl rfl ?_
        refine goS rfl rfl rfl rfl rfl rfl rfl ?_
        refine go1 (op_pick_t rfl rfl (.t (has rfl)) (.bool _)) rfl ?_
        refine go1 (op_move rfl (.t (has rfl))) rfl ?_
        refine goS rfl rfl rfl rfl rfl rfl rfl ?_
        refine goS rfl rfl rfl rfl rfl rfl rfl ?_
        refine go1 (op_pick_t rfl rfl (.t (has rfl)) (.bool _)) rfl ?_
        refine go1 (op_move rfl (.t (has rfl))) rfl ?_
        refine goS rfl rfl rfl rfl rfl rfl rfl ?_
        refine goS rfl rfl rfl rfl rfl rfl rfl ?_
        refine go1 (op_pick_t rfl rfl (.t (has rfl)) (.bool _)) rfl ?_
        refine go1 (op_not rfl (.t (has rfl))) rfl ?_
        refine go1 (op_assign rfl (.t (has rfl))) rfl ?_
        refine goesO_nil ?_
        obtain rfl := Option.some.inj H
        exact ends_cut (.cons rfl .nil)
      · skip
        refine goG (op_move rfl (.t (has rfl))) rfl rfl rfl rfl hb4 ?_
        refine goG (op_icmp rfl rfl (.t (has rfl)) (.int _ _)) rfl rfl rfl rfl hb4 ?_
        refine goG (op_move rfl (.t (has rfl))) rfl rfl rfl rfl hb4 ?_
        refine goesO_split H (fun hb5 H => ?_) (fun hb5 H => ?_)
        · skip
          refine goG (op_move rfl (.t (has rfl))) rfl rfl rfl rfl hb5 ?_
          refine goG (op_icmp rfl rfl (.t (has rfl)) (.int _ _)) rfl rfl rfl rfl hb5 ?_
          refine goG (op_pick_t rfl hb5 (.t (has rfl)) (.t (has rfl))) rfl rfl rfl rfl hb4 ?_
          refine go1 (op_pick_f rfl hb4 (.t (has rfl)) (.t (has rfl))) rfl ?_
          refine go1 (op_move rfl (.t (has rfl))) rfl ?_
          refine goesO_split H (fun hb6 H => ?_) (fun hb6 H => ?_)
          · skip
            refine goS rfl rfl rfl rfl rfl rfl hb6 ?_
            refine goS rfl rfl rfl rfl rfl rfl hb6 ?_
            refine goS rfl rfl rfl rfl rfl rfl hb6 ?_
            refine goSU rfl rfl rfl rfl rfl rfl ?_
            refine goSU rfl rfl rfl rfl rfl rfl ?_
            refine goS rfl rfl rfl rfl rfl rfl hb6 ?_
            refine go1 (op_pick_t rfl hb6 (.t (has rfl)) (.bool _)) rfl ?_
            refine go1 (op_move rfl (.t (has rfl))) rfl ?_
            refine goS rfl rfl rfl rfl rfl rfl rfl ?_
            refine goS rfl rfl rfl rfl rfl rfl rfl ?_
            refine go1 (op_pick_t rfl rfl (.t (has rfl)) (.bool _)) rfl ?_
            refine go1 (op_move rfl (.t (has rfl))) rfl ?_
            refine goS rfl rfl rfl rfl rfl rfl rfl ?_
            refine goS rfl rfl rfl rfl rfl rfl rfl ?_
            refine go1 (op_pick_t rfl rfl (.t (has rfl)) (.bool _)) rfl ?_
            refine go1 (op_not rfl (.t (has rfl))) rfl ?_
            refine go1 (op_assign rfl (.t (has rfl))) rfl ?_
            refine goesO_nil ?_
            obtain rfl := Option.some.inj H
            exact ends_cut (.cons rfl .nil)
          · skip
            refine goG (op_move rfl (.t (has rfl))) rfl rfl rfl rfl hb6 ?_
            refine goG (op_icmp rfl rfl (.t (has rfl)) (.int _ _)) rfl rfl rfl rfl hb6 ?_
            refine goG (op_move rfl (.t (has rfl))) rfl rfl rfl rfl hb6 ?_
            refine goesO_split H (fun hb7 H => ?_) (fun hb7 H => ?_)
            · skip
              refine goG (op_move rfl (.t (has rfl))) rfl rfl rfl rfl hb7 ?_
              refine goG (op_icmp rfl rfl (.t (has rfl)) (.int _ _)) rfl rfl rfl rfl hb7 ?_
              refine goG (op_pick_t rfl hb7 (.t (has rfl)) (.t (has rfl))) rfl rfl rfl rfl hb6 ?_
              refine go1 (op_pick_f rfl hb6 (.t (has rfl)) (.t (has rfl))) rfl ?_
              refine go1 (op_move rfl (.t (has rfl))) rfl ?_
              refine goesO_split H (fun hb8 H => ?_) (fun hb8 H => ?_)
              · skip
                refine goS rfl rfl rfl rfl rfl rfl hb8 ?_
                refine goS rfl rfl rfl rfl rfl rfl hb8 ?_
                refine go1 (op_pick_t rfl hb8 (.t (has rfl)) (.bool _)) rfl ?_
                refine go1 (op_move rfl (.t (has rfl))) rfl ?_
                refine goS rfl rfl rfl rfl rfl rfl rfl ?_
                refine goS rfl rfl rfl rfl rfl rfl rfl ?_
                refine go1 (op_pick_t rfl rfl (.t (has rfl)) (.bool _)) rfl ?_
                refine go1 (op_not rfl (.t (has rfl))) rfl ?_
                refine go1 (op_assign rfl (.t (has rfl))) rfl ?_
                refine goesO_nil ?_
                obtain rfl := Option.some.inj H
                exact ends_cut (.cons rfl .nil)
              · skip
                refine goG (op_move rfl (.t (has rfl))) rfl rfl rfl rfl hb8 ?_
                refine goG (op_icmp rfl rfl (.t (has rfl)) (.int _ _)) rfl rfl rfl rfl hb8 ?_
                refine go1 (op_pick_f rfl hb8 (.t (has rfl)) (.t (has rfl))) rfl ?_
                refine go1 (op_move rfl (.t (has rfl))) rfl ?_
                refine goesO_split H (fun hb9 H => ?_) (fun hb9 H => ?_)
                · skip
                  refine goS rfl rfl rfl rfl rfl rfl hb9 ?_
                  refine goS rfl rfl rfl rfl rfl rfl hb9 ?_
                  refine go1 (op_pick_t rfl hb9 (.t (has rfl)) (.bool _)) rfl ?_
                  refine go1 (op_not rfl (.t (has rfl))) rfl ?_
                  refine go1 (op_assign rfl (.t (has rfl))) rfl ?_
                  refine goesO_nil ?_
                  obtain rfl := Option.some.inj H
                  exact ends_cut (.cons rfl .nil)
                · skip
                  refine goG (op_move rfl (.t (has rfl))) rfl rfl rfl rfl hb9 ?_
                  refine goG (op_icmp rfl rfl (.t (has rfl)) (.int _ _)) rfl rfl rfl rfl hb9 ?_
                  refine go1 (op_pick_f rfl hb9 (.t (has rfl)) (.t (has rfl))) rfl ?_
                  refine go1 (op_not rfl (.t (has rfl))) rfl ?_
                  refine go1 (op_assign rfl (.t (has rfl))) rfl ?_
                  refine goesO_nil ?_
                  obtain rfl := Option.some.inj H
                  exact ends_cut (.cons rfl .nil)
            · skip
              refine goS rfl rfl rfl rfl rfl rfl hb7 ?_
              refine goS rfl rfl rfl rfl rfl rfl hb7 ?_
              refine goG (op_pick_f rfl hb7 (.t (has rfl)) (.bool _)) rfl rfl rfl rfl hb6 ?_
              refine go1 (op_pick_f rfl hb6 (.t (has rfl)) (.t (has rfl))) rfl ?_
              refine go1 (op_move rfl (.t (has rfl))) rfl ?_
              refine goG (op_move rfl (.t (has rfl))) rfl rfl rfl rfl rfl ?_
              refine goG (op_icmp rfl rfl (.t (has rfl)) (.int _ _)) rfl rfl rfl rfl rfl ?_
              refine go1 (op_pick_f rfl rfl (.t (has rfl)) (.t (has rfl))) rfl ?_
              refine go1 (op_move rfl (.t (has rfl))) rfl ?_
              refine goesO_split H (fun hb10 H => ?_) (fun hb10 H => ?_)
              · skip
                refine goS rfl rfl rfl rfl rfl rfl hb10 ?_
                refine goS rfl rfl rfl rfl rfl rfl hb10 ?_
                refine go1 (op_pick_t rfl hb10 (.t (has rfl)) (.bool _)) rfl ?_
                refine go1 (op_not rfl (.t (has rfl))) rfl ?_
                refine go1 (op_assign rfl (.t (has rfl))) rfl ?_
                refine goesO_nil ?_
                obtain rfl := Option.some.inj H
                exact ends_cut (.cons rfl .nil)
              · skip
                refine goG (op_move rfl (.t (has rfl))) rfl rfl rfl rfl hb10 ?_
                refine goG (op_icmp rfl rfl (.t (has rfl)) (.int _ _)) rfl rfl rfl rfl hb10 ?_
                refine go1 (op_pick_f rfl hb10 (.t (has rfl)) (.t (has rfl))) rfl ?_
                refine go1 (op_not rfl (.t (has rfl))) rfl ?_
                refine go1 (op_assign rfl (.t (has rfl))) rfl ?_
                refine goesO_nil ?_
                obtain rfl := Option.some.inj H
                exact ends_cut (.cons rfl .nil)
        · skip
          refine goS rfl rfl rfl rfl rfl rfl hb5 ?_
          refine goS rfl rfl rfl rfl rfl rfl hb5 ?_
          refine goG (op_pick_f rfl hb5 (.t (has rfl)) (.bool _)) rfl rfl rfl rfl hb4 ?_
          refine go1 (op_pick_f rfl hb4 (.t (has rfl)) (.t (has rfl))) rfl ?_
          refine go1 (op_move rfl (.t (has rfl))) rfl ?_
          refine goG (op_move rfl (.t (has rfl))) rfl rfl rfl rfl rfl ?_
          refine goG (op_icmp rfl rfl (.t (has rfl)) (.int _ _)) rfl rfl rfl rfl rfl ?_
          refine goG (op_move rfl (.t (has rfl))) rfl rfl rfl rfl rfl ?_
          refine goesO_split H (fun hb11 H => ?_) (fun hb11 H => ?_)
          · skip
            refine goG (op_move rfl (.t (has rfl))) rfl rfl rfl rfl hb11 ?_
            refine goG (op_icmp rfl rfl (.t (has rfl)) (.int _ _)) rfl rfl rfl rfl hb11 ?_
            refine goG (op_pick_t rfl hb11 (.t (has rfl)) (.t (has rfl))) rfl rfl rfl rfl rfl ?_
            refine go1 (op_pick_f rfl rfl (.t (has rfl)) (.t (has rfl))) rfl ?_
            refine go1 (op_move rfl (.t (has rfl))) rfl ?_
            refine goesO_split H (fun hb12 H => ?_) (fun hb12 H => ?_)
            · skip
              refine goS rfl rfl rfl rfl rfl rfl hb12 ?_
              refine goS rfl rfl rfl rfl rfl rfl hb12 ?_
              refine go1 (op_pick_t rfl hb12 (.t (has rfl)) (.bool _)) rfl ?_
              refine go1 (op_move rfl (.t (has rfl))) rfl ?_
              refine goS rfl rfl rfl rfl rfl rfl rfl ?_
              refine goS rfl rfl rfl rfl rfl rfl rfl ?_
              refine go1 (op_pick_t rfl rfl (.t (has rfl)) (.bool _)) rfl ?_
              refine go1 (op_not rfl (.t (has rfl))) rfl ?_
              refine go1 (op_assign rfl (.t (has rfl))) rfl ?_
              refine goesO_nil ?_
              obtain rfl := Option.some.inj H
              exact ends_cut (.cons rfl .nil)
            · skip
              refine goG (op_move rfl (.t (has rfl))) rfl rfl rfl rfl hb12 ?_
              refine goG (op_icmp rfl rfl (.t (has rfl)) (.int _ _)) rfl rfl rfl rfl hb12 ?_
              refine go1 (op_pick_f rfl hb12 (.t (has rfl)) (.t (has rfl))) rfl ?_
              refine go1 (op_move rfl (.t (has rfl))) rfl ?_
              refine goesO_split H (fun hb13 H => ?_) (fun hb13 H => ?_)
              · skip
                refine goS rfl rfl rfl rfl rfl rfl hb13 ?_
                refine goS rfl rfl rfl rfl rfl rfl hb13 ?_
                refine go1 (op_pick_t rfl hb13 (.t (has rfl)) (.bool _)) rfl ?_
                refine go1 (op_not rfl (.t (has rfl))) rfl ?_
                refine go1 (op_assign rfl (.t (has rfl))) rfl ?_
                refine goesO_nil ?_
                obtain rfl := Option.some.inj H
                exact ends_cut (.cons rfl .nil)
              · skip
                refine goG (op_move rfl (.t (has rfl))) rfl rfl rfl rfl hb13 ?_
                refine goG (op_icmp rfl rfl (.t (has rfl)) (.int _ _)) rfl rfl rfl rfl hb13 ?_
                refine go1 (op_pick_f rfl hb13 (.t (has rfl)) (.t (has rfl))) rfl ?_
                refine go1 (op_not rfl (.t (has rfl))) rfl ?_
                refine go1 (op_assign rfl (.t (has rfl))) rfl ?_
                refine goesO_nil ?_
                obtain rfl := Option.some.inj H
                exact ends_cut (.cons rfl .nil)
          · skip
            refine goS rfl rfl rfl rfl rfl rfl hb11 ?_
            refine goS rfl rfl rfl rfl rfl rfl hb11 ?_
            refine goG (op_pick_f rfl hb11 (.t (has rfl)) (.bool _)) rfl rfl rfl rfl rfl ?_
            refine go1 (op_pick_f rfl rfl (.t (has rfl)) (.t (has rfl))) rfl ?_
            refine go1 (op_move rfl (.t (has rfl))) rfl ?_
            refine goG (op_move rfl (.t (has rfl))) rfl rfl rfl rfl rfl ?_
            refine goG (op_icmp rfl rfl (.t (has rfl)) (.int _ _)) rfl rfl rfl rfl rfl ?_
            refine go1 (op_pick_f rfl rfl (.t (has rfl)) (.t (has rfl))) rfl ?_
            refine go1 (op_move rfl (.t (has rfl))) rfl ?_
            refine goesO_split H (fun hb14 H => ?_) (fun hb14 H => ?_)
            · skip
              refine goS rfl rfl rfl rfl rfl rfl hb14 ?_
              refine goS rfl rfl rfl rfl rfl rfl hb14 ?_
              refine go1 (op_pick_t rfl hb14 (.t (has rfl)) (.bool _)) rfl ?_
              refine go1 (op_not rfl (.t (has rfl))) rfl ?_
              refine go1 (op_assign rfl (.t (has rfl))) rfl ?_
              refine goesO_nil ?_
              obtain rfl := Option.some.inj H
              exact ends_cut (.cons rfl .nil)
            · skip
              refine goG (op_move rfl (.t (has rfl))) rfl rfl rfl rfl hb14 ?_
              refine goG (op_icmp rfl rfl (.t (has rfl)) (.int _ _)) rfl rfl rfl rfl hb14 ?_
              refine go1 (op_pick_f rfl hb14 (.t (has rfl)) (.t (has rfl))) rfl ?_
              refine go1 (op_not rfl (.t (has rfl))) rfl ?_
              refine go1 (op_assign rfl (.t (has rfl))) rfl ?_
              refine goesO_nil ?_
              obtain rfl := Option.some.inj H
              exact ends_cut (.cons rfl .nil)
    · skip
      refine goS rfl rfl rfl rfl rfl rfl hb3 ?_
      refine goS rfl rfl rfl rfl rfl rfl hb3 ?_
      refine go1 (op_pick_f rfl hb3 (.t (has rfl)) (.bool _)) rfl ?_
      refine go1 (op_move rfl (.t (has rfl))) rfl ?_
      refine goG (op_move rfl (.t (has rfl))) rfl rfl rfl rfl rfl ?_
      refine goG (op_icmp rfl rfl (.t (has rfl)) (.int _ _)) rfl rfl rfl rfl rfl ?_
      refine goG (op_move rfl (.t (has rfl))) rfl rfl rfl rfl rfl ?_
      refine goesO_split H (fun hb15 H => ?_) (fun hb15 H => ?_)
      · skip
        refine goG (op_move rfl (.t (has rfl))) rfl rfl rfl rfl hb15 ?_
        refine goG (op_icmp rfl rfl (.t (has rfl)) (.int _ _)) rfl rfl rfl rfl hb15 ?_
        refine goG (op_pick_t rfl hb15 (.t (has rfl)) (.t (has rfl))) rfl rfl rfl rfl rfl ?_
        refine go1 (op_pick_f rfl rfl (.t (has rfl)) (.t (has rfl))) rfl ?_
        refine go1 (op_move rfl (.t (has rfl))) rfl ?_
        refine goesO_split H (fun hb16 H => ?_) (fun hb16 H => ?_)
        · skip
          refine goS rfl rfl rfl rfl rfl rfl hb16 ?_
          refine goS rfl rfl rfl rfl rfl rfl hb16 ?_
          refine goS rfl rfl rfl rfl rfl rfl hb16 ?_
          refine goSU rfl rfl rfl rfl rfl rfl ?_
          refine goSU rfl rfl rfl rfl rfl rfl ?_
          refine goS rfl rfl rfl rfl rfl rfl hb16 ?_
          refine go1 (op_pick_t rfl hb16 (.t (has rfl)) (.bool _)) rfl ?_
          refine go1 (op_move rfl (.t (has rfl))) rfl ?_
          refine goS rfl rfl rfl rfl rfl rfl rfl ?_
          refine goS rfl rfl rfl rfl rfl rfl rfl ?_
          refine go1 (op_pick_t rfl rfl (.t (has rfl)) (.bool _)) rfl ?_
          refine go1 (op_move rfl (.t (has rfl))) rfl ?_
          refine goS rfl rfl rfl rfl rfl rfl rfl ?_
          refine goS rfl rfl rfl rfl rfl rfl rfl ?_
          refine go1 (op_pick_t rfl rfl (.t (has rfl)) (.bool _)) rfl ?_
          refine go1 (op_not rfl (.t (has rfl))) rfl ?_
          refine go1 (op_assign rfl (.t (has rfl))) rfl ?_
          refine goesO_nil ?_
          obtain rfl := Option.some.inj H
          exact ends_cut (.cons rfl .nil)
        · skip
          refine goG (op_move rfl (.t (has rfl))) rfl rfl rfl rfl hb16 ?_
          refine goG (op_icmp rfl rfl (.t (has rfl)) (.int _ _)) rfl rfl rfl rfl hb16 ?_
          refine goG (op_move rfl (.t (has rfl))) rfl rfl rfl rfl hb16 ?_
          refine goesO_split H (fun hb17 H => ?_) (fun hb17 H => ?_)
          · skip
            refine goG (op_move rfl (.t (has rfl))) rfl rfl rfl rfl hb17 ?_
            refine goG (op_icmp rfl rfl (.t (has rfl)) (.int _ _)) rfl rfl rfl rfl hb17 ?_
            refine goG (op_pick_t rfl hb17 (.t (has rfl)) (.t (has rfl))) rfl rfl rfl rfl hb16 ?_
            refine go1 (op_pick_f rfl hb16 (.t (has rfl)) (.t (has rfl))) rfl ?_
            refine go1 (op_move rfl (.t (has rfl))) rfl ?_
            refine goesO_split H (fun hb18 H => ?_) (fun hb18 H => ?_)
            · skip
              refine goS rfl rfl rfl rfl rfl rfl hb18 ?_
              refine goS rfl rfl rfl rfl rfl rfl hb18 ?_
              refine go1 (op_pick_t rfl hb18 (.t (has rfl)) (.bool _)) rfl ?_
              refine go1 (op_move rfl (.t (has rfl))) rfl ?_
              refine goS rfl rfl rfl rfl rfl rfl rfl ?_
              refine goS rfl rfl rfl rfl rfl rfl rfl ?_
              refine go1 (op_pick_t rfl rfl (.t (has rfl)) (.bool _)) rfl ?_
              refine go1 (op_not rfl (.t (has rfl))) rfl ?_
              refine go1 (op_assign rfl (.t (has rfl))) rfl ?_
              refine goesO_nil ?_
              obtain rfl := Option.some.inj H
              exact ends_cut (.cons rfl .nil)
            · skip
              refine goG (op_move rfl (.t (has rfl))) rfl rfl rfl rfl hb18 ?_
              refine goG (op_icmp rfl rfl (.t (has rfl)) (.int _ _)) rfl rfl rfl rfl hb18 ?_
              refine go1 (op_pick_f rfl hb18 (.t (has rfl)) (.t (has rfl))) rfl ?_
              refine go1 (op_move rfl (.t (has rfl))) rfl ?_
              refine goesO_split H (fun hb19 H => ?_) (fun hb19 H => ?_)
              · skip
                refine goS rfl rfl rfl rfl rfl rfl hb19 ?_
                refine goS rfl rfl rfl rfl rfl rfl hb19 ?_
                refine go1 (op_pick_t rfl hb19 (.t (has rfl)) (.bool _)) rfl ?_
                refine go1 (op_not rfl (.t (has rfl))) rfl ?_
                refine go1 (op_assign rfl (.t (has rfl))) rfl ?_
                refine goesO_nil ?_
                obtain rfl := Option.some.inj H
                exact ends_cut (.cons rfl .nil)
              · skip
                refine goG (op_move rfl (.t (has rfl))) rfl rfl rfl rfl hb19 ?_
                refine goG (op_icmp rfl rfl (.t (has rfl)) (.int _ _)) rfl rfl rfl rfl hb19 ?_
                refine go1 (op_pick_f rfl hb19 (.t (has rfl)) (.t (has rfl))) rfl ?_
                refine go1 (op_not rfl (.t (has rfl))) rfl ?_
                refine go1 (op_assign rfl (.t (has rfl))) rfl ?_
                refine goesO_nil ?_
                obtain rfl := Option.some.inj H
                exact ends_cut (.cons rfl .nil)
          · skip
            refine goS rfl rfl rfl rfl rfl rfl hb17 ?_
            refine goS rfl rfl rfl rfl rfl rfl hb17 ?_
            refine goG (op_pick_f rfl hb17 (.t (has rfl)) (.bool _)) rfl rfl rfl rfl hb16 ?_
            refine go1 (op_pick_f rfl hb16 (.t (has rfl)) (.t (has rfl))) rfl ?_
            refine go1 (op_move rfl (.t (has rfl))) rfl ?_
            refine goG (op_move rfl (.t (has rfl))) rfl rfl rfl rfl rfl ?_
            refine goG (op_icmp rfl rfl (.t (has rfl)) (.int _ _)) rfl rfl rfl rfl rfl ?_
            refine go1 (op_pick_f rfl rfl (.t (has rfl)) (.t (has rfl))) rfl ?_
            refine go1 (op_move rfl (.t (has rfl))) rfl ?_
            refine goesO_split H (fun hb20 H => ?_) (fun hb20 H => ?_)
            · skip
              refine goS rfl rfl rfl rfl rfl rfl hb20 ?_
              refine goS rfl rfl rfl rfl rfl rfl hb20 ?_
              refine go1 (op_pick_t rfl hb20 (.t (has rfl)) (.bool _)) rfl ?_
              refine go1 (op_not rfl (.t (has rfl))) rfl ?_
              refine go1 (op_assign rfl (.t (has rfl))) rfl ?_
              refine goesO_nil ?_
              obtain rfl := Option.some.inj H
              exact ends_cut (.cons rfl .nil)
            · skip
              refine goG (op_move rfl (.t (has rfl))) rfl rfl rfl rfl hb20 ?_
              refine goG (op_icmp rfl rfl (.t (has rfl)) (.int _ _)) rfl rfl rfl rfl hb20 ?_
              refine go1 (op_pick_f rfl hb20 (.t (has rfl)) (.t (has rfl))) rfl ?_
              refine go1 (op_not rfl (.t (has rfl))) rfl ?_
              refine go1 (op_assign rfl (.t (has rfl))) rfl ?_
              refine goesO_nil ?_
              obtain rfl := Option.some.inj H
              exact ends_cut (.cons rfl .nil)
      · skip
        refine goS rfl rfl rfl rfl rfl rfl hb15 ?_
        refine goS rfl rfl rfl rfl rfl rfl hb15 ?_
        refine goG (op_pick_f rfl hb15 (.t (has rfl)) (.bool _)) rfl rfl rfl rfl rfl ?_
        refine go1 (op_pick_f rfl rfl (.t (has rfl)) (.t (has rfl))) rfl ?_
        refine go1 (op_move rfl (.t (has rfl))) rfl ?_
        refine goG (op_move rfl (.t (has rfl))) rfl rfl rfl rfl rfl ?_
        refine goG (op_icmp rfl rfl (.t (has rfl)) (.int _ _)) rfl rfl rfl rfl rfl ?_
        refine goG (op_move rfl (.t (has rfl))) rfl rfl rfl rfl rfl ?_
        refine goesO_split H (fun hb21 H => ?_) (fun hb21 H => ?_)
        · skip
          refine goG (op_move rfl (.t (has rfl))) rfl rfl rfl rfl hb21 ?_
          refine goG (op_icmp rfl rfl (.t (has rfl)) (.int _ _)) rfl rfl rfl rfl hb21 ?_
          refine goG (op_pick_t rfl hb21 (.t (has rfl)) (.t (has rfl))) rfl rfl rfl rfl rfl ?_
          refine go1 (op_pick_f rfl rfl (.t (has rfl)) (.t (has rfl))) rfl ?_
          refine go1 (op_move rfl (.t (has rfl))) rfl ?_
          refine goesO_split H (fun hb22 H => ?_) (fun hb22 H => ?_)
          · skip
            refine goS rfl rfl rfl rfl rfl rfl hb22 ?_
            refine goS rfl rfl rfl rfl rfl rfl hb22 ?_
            refine go1 (op_pick_t rfl hb22 (.t (has rfl)) (.bool _)) rfl ?_
            refine go1 (op_move rfl (.t (has rfl))) rfl ?_
            refine goS rfl rfl rfl rfl rfl rfl rfl ?_
            refine goS rfl rfl rfl rfl rfl rfl rfl ?_
            refine go1 (op_pick_t rfl rfl (.t (has rfl)) (.bool _)) rfl ?_
            refine go1 (op_not rfl (.t (has rfl))) rfl ?_
            refine go1 (op_assign rfl (.t (has rfl))) rfl ?_
            refine goesO_nil ?_
            obtain rfl := Option.some.inj H
            exact ends_cut (.cons rfl .nil)
          · skip
            refine goG (op_move rfl (.t (has rfl))) rfl rfl rfl rfl hb22 ?_
            refine goG (op_icmp rfl rfl (.t (has rfl)) (.int _ _)) rfl rfl rfl rfl hb22 ?_
            refine go1 (op_pick_f rfl hb22 (.t (has rfl)) (.t (has rfl))) rfl ?_
            refine go1 (op_move rfl (.t (has rfl))) rfl ?_
            refine goesO_split H (fun hb23 H => ?_) (fun hb23 H => ?_)
            · skip
              refine goS rfl rfl rfl rfl rfl rfl hb23 ?_
              refine goS rfl rfl rfl rfl rfl rfl hb23 ?_
              refine go1 (op_pick_t rfl hb23 (.t (has rfl)) (.bool _)) rfl ?_
              refine go1 (op_not rfl (.t (has rfl))) rfl ?_
              refine go1 (op_assign rfl (.t (has rfl))) rfl ?_
              refine goesO_nil ?_
              obtain rfl := Option.some.inj H
              exact ends_cut (.cons rfl .nil)
            · skip
              refine goG (op_move rfl (.t (has rfl))) rfl rfl rfl rfl hb23 ?_
              refine goG (op_icmp rfl rfl (.t (has rfl)) (.int _ _)) rfl rfl rfl rfl hb23 ?_
              refine go1 (op_pick_f rfl hb23 (.t (has rfl)) (.t (has rfl))) rfl ?_
              refine go1 (op_not rfl (.t (has rfl))) rfl ?_
              refine go1 (op_assign rfl (.t (has rfl))) rfl ?_
              refine goesO_nil ?_
              obtain rfl := Option.some.inj H
              exact ends_cut (.cons rfl .nil)
        · skip
          refine goS rfl rfl rfl rfl rfl rfl hb21 ?_
          refine goS rfl rfl rfl rfl rfl rfl hb21 ?_
          refine goG (op_pick_f rfl hb21 (.t (has rfl)) (.bool _)) rfl rfl rfl rfl rfl ?_
          refine go1 (op_pick_f rfl rfl (.t (has rfl)) (.t (has rfl))) rfl ?_
          refine go1 (op_move rfl (.t (has rfl))) rfl ?_
          refine goG (op_move rfl (.t (has rfl))) rfl rfl rfl rfl rfl ?_
          refine goG (op_icmp rfl rfl (.t (has rfl)) (.int _ _)) rfl rfl rfl rfl rfl ?_
          refine go1 (op_pick_f rfl rfl (.t (has rfl)) (.t (has rfl))) rfl ?_
          refine go1 (op_move rfl (.t (has rfl))) rfl ?_
          refine goesO_split H (fun hb24 H => ?_) (fun hb24 H => ?_)
          · skip
            refine goS rfl rfl rfl rfl rfl rfl hb24 ?_
            refine goS rfl rfl rfl rfl rfl rfl hb24 ?_
            refine go1 (op_pick_t rfl hb24 (.t (has rfl)) (.bool _)) rfl ?_
            refine go1 (op_not rfl (.t (has rfl))) rfl ?_
            refine go1 (op_assign rfl (.t (has rfl))) rfl ?_
            refine goesO_nil ?_
            obtain rfl := Option.some.inj H
            exact ends_cut (.cons rfl .nil)
          · skip
            refine goG (op_move rfl (.t (has rfl))) rfl rfl rfl rfl hb24 ?_
            refine goG (op_icmp rfl rfl (.t (has rfl)) (.int _ _)) rfl rfl rfl rfl hb24 ?_
            refine go1 (op_pick_f rfl hb24 (.t (has rfl)) (.t (has rfl))) rfl ?_
            refine go1 (op_not rfl (.t (has rfl))) rfl ?_
            refine go1 (op_assign rfl (.t (has rfl))) rfl ?_
            refine goesO_nil ?_
            obtain rfl := Option.some.inj H
            exact ends_cut (.cons rfl .nil)
  refine ends_then ?_
  obtain rfl := Option.some.inj H
  exact goes_ret (ends_ret' rfl rfl (.t rfl (.nil _)))
theorem macro_Name_1.conF (a0 : Int) (r : Bool) (H : macro_Name_1.f a0 = some r) : ConF Try.prog 31 [VA.k (kint .i32) a0] [VA.k kbool r] := (macro_Name_1.con a0 r H).freeL (.cons (KFree.k KFree.bool _) .nil)
/-! strings.indexFunc -/
def strings_indexFunc.l0 (a0 : ByteArray) (a1 : Int → Option Bool) (a2 : Bool) : Nat → Nat → Option (Except Int Unit)
  | 0, _ => none
  | k + 1, s1 => bif decide (s1 < a0.size) then ((a1 ((Utf8.decode a0 s1).1 : Int)).bind fun v6 => bif (v6 == a2) then (some (Except.error (s1 : Int))) else (strings_indexFunc.l0 a0 a1 a2 k (nxPos a0 s1))) else (some (Except.ok ()))
def strings_indexFunc.f (k : Nat) (a0 : ByteArray) (a1 : Int → Option Bool) (a2 : Bool) : Option Int := (strings_indexFunc.l0 a0 a1 a2 k (0 : Nat)).bind fun o4 => match o4 with | .error r' => some r' | .ok s2 => (some (-1 : Int))
set_option maxRecDepth 100000 in
set_option maxHeartbeats 4000000 in
theorem strings_indexFunc.con (F1 : FuncId) (pre1 caps1 : List VA) (k : Nat) (a0 : ByteArray) (a1 : Int → Option Bool) (a2 : Bool) (hE1 : Enters Try.prog F1) (hp1 : ∀ (z0 : Int) r, a1 z0 = some r → Con Try.prog F1 (pre1 ++ ([VA.k (kint .i32) z0] ++ caps1)) [VA.k kbool r]) (r : Int) (H : strings_indexFunc.f k a0 a1 a2 = some r) : Con Try.prog 56 [VA.k kstr a0, VA.clo F1 pre1 caps1, VA.k kbool a2] [VA.k (kint .i64) r] := by
  unfold strings_indexFunc.f at H
  refine con_enter Try.func56 rfl rfl rfl (fun w0 S0 θ => ?_)
  refine goes_seq ?_
  refine goes_region ?_
  refine go1 (op_assign rfl (.int _ _)) rfl ?_
  refine goesO_nil ?_
  refine ends_then ?_
  refine goes_seq ?_
  refine goes_seq ?_
  refine goes_region ?_
  refine go1 (op_move rfl (.t (has rfl))) rfl ?_
  refine go3 (op_range 10 rfl Try.underlying9 (.t (has rfl))) rfl ?_
  refine goesO_nil ?_
  refine ends_then ?_
  obtain ⟨o4, h3, H⟩ := bind_some H
  refine goes_cutR (o := o4) (fun s2 : Unit => []) (fun r a w => bodyPost Try.prog Try.f56 (CPost w0 S0 θ [VA.k (kint .i64) r]) .ret a w) ?_ ?_ ?_
  · replace H := h3; clear h3
    refine goes_block ?_
    refine goes_loop (fun s1 : Nat => [Ent.t 1 (VA.clo F1 pre1 caps1), Ent.t 2 (VA.k kbool a2), Ent.t 10 (VA.ptr 10 0), Ent.h 10 (HE.iter a0 s1)]) (fun k s1 => strings_indexFunc.l0 a0 a1 a2 k s1) (fun _ => rfl) H (.cons rfl (.cons rfl (.cons rfl (.cons rfl .nil)))) ?_
    intro k s1 H
    simp only [strings_indexFunc.l0] at H
    refine goes_seq ?_
    refine goes_region ?_
    refine go2 (op_next rfl (.t (has rfl)) (has rfl)) rfl ?_
    refine go1 (op_extract_nx0 rfl (has rfl)) rfl ?_
    refine goesO_nil ?_
    refine ends_then ?_
    refine goes_seq ?_
    refine goes_if (.t (has rfl)) H (fun hb5 H => ?_) (fun hb5 H => ?_)
    · skip
      refine goes_skip ?_
      refine ends_then ?_
      refine goes_block ?_
      refine goes_seq ?_
      refine goes_region ?_
      refine go1 (op_extract_nx1 rfl hb5 (has rfl)) rfl ?_
      refine go1 (op_extract_nx2 rfl hb5 (has rfl)) rfl ?_
      refine go1 (op_assign rfl (.t (has rfl))) rfl ?_
      refine go1 (op_assign rfl (.t (has rfl))) rfl ?_
      refine goesO_nil ?_
      refine ends_then ?_
      refine goes_seq ?_
      refine goes_region ?_
      refine go1 (op_moveA rfl plain_clo (.t (has rfl))) rfl ?_
      refine go1 (op_move rfl (.t (has rfl))) rfl ?_
      obtain ⟨v6, h7, H⟩ := bind_some H
      refine go1 (op_callv rfl (.t (has rfl)) hE1 (hp1 _ _ h7) rfl (.cons (ArgP.k (.t (has rfl))) .nil)) rfl ?_
      refine go1 (op_move rfl (.t (has rfl))) rfl ?_
      refine go1 (op_beq rfl Try.underlying4 (.t (has rfl)) (.t (has rfl))) rfl ?_
      refine goesO_nil ?_
      refine ends_then ?_
      refine goes_if (.t (has rfl)) H (fun hb8 H => ?_) (fun hb8 H => ?_)
      · skip
        refine goes_seq ?_
        refine goes_region ?_
        refine go1 (op_move rfl (.t (has rfl))) rfl ?_
        refine go1 (op_assign rfl (.t (has rfl))) rfl ?_
        refine goesO_nil ?_
        refine ends_then ?_
        obtain rfl := Option.some.inj H
        refine goes_ret (ends_block_ret (ends_then_ret (ends_block_ret (ends_cutR_ret rfl ?_))))
        exact ends_ret' rfl rfl (.t rfl (.nil _))
      · skip
        refine goes_skip ?_
        refine ends_block ?_
        exact loop_next _ H (.cons rfl (.cons rfl (.cons rfl (.cons rfl .nil))))
    · skip
      refine goes_exit (ends_then_exit (ends_then_exit (ends_block_exit ?_)))
      obtain rfl := Option.some.inj H
      exact ends_cutR rfl .nil
  · rintro s2 rfl
    clear h3
    dsimp only at H
    refine ends_then ?_
    refine goes_seq ?_
    refine goes_region ?_
    refine go1 (op_assign rfl (.int _ _)) rfl ?_
    refine goesO_nil ?_
    refine ends_then ?_
    obtain rfl := Option.some.inj H
    exact goes_ret (ends_ret' rfl rfl (.t rfl (.nil _)))
  · rintro r' rfl a w hr
    obtain rfl := Option.some.inj H
    exact hr
theorem strings_indexFunc.conF (F1 : FuncId) (pre1 caps1 : List VA) (k : Nat) (a0 : ByteArray) (a1 : Int → Option Bool) (a2 : Bool) (hE1 : Enters Try.prog F1) (hp1 : ∀ (z0 : Int) r, a1 z0 = some r → Con Try.prog F1 (pre1 ++ ([VA.k (kint .i32) z0] ++ caps1)) [VA.k kbool r]) (r : Int) (H : strings_indexFunc.f k a0 a1 a2 = some r) : ConF Try.prog 56 [VA.k kstr a0, VA.clo F1 pre1 caps1, VA.k kbool a2] [VA.k (kint .i64) r] := (strings_indexFunc.con F1 pre1 caps1 k a0 a1 a2 hE1 hp1 r H).freeL (.cons (KFree.k (KFree.int .i64) _) .nil)
/-! strings.IndexFunc -/
def strings_IndexFunc.f (k : Nat) (a0 : ByteArray) (a1 : Int → Option Bool) : Option Int := (strings_indexFunc.f k a0 a1 true).bind fun v1 => some v1
set_option maxRecDepth 100000 in
set_option maxHeartbeats 4000000 in
theorem strings_IndexFunc.con (F1 : FuncId) (pre1 caps1 : List VA) (k : Nat) (a0 : ByteArray) (a1 : Int → Option Bool) (hE1 : Enters Try.prog F1) (hp1 : ∀ (z0 : Int) r, a1 z0 = some r → Con Try.prog F1 (pre1 ++ ([VA.k (kint .i32) z0] ++ caps1)) [VA.k kbool r]) (r : Int) (H : strings_IndexFunc.f k a0 a1 = some r) : Con Try.prog 46 [VA.k kstr a0, VA.clo F1 pre1 caps1] [VA.k (kint .i64) r] := by
  unfold strings_IndexFunc.f at H
  refine con_enter Try.func46 rfl rfl rfl (fun w0 S0 θ => ?_)
  refine goes_seq ?_
  refine goes_region ?_
  refine go1 (op_assign rfl (.int _ _)) rfl ?_
  refine goesO_nil ?_
  refine ends_then ?_
  refine goes_seq ?_
  refine goes_region ?_
  refine go1 (op_move rfl (.t (has rfl))) rfl ?_
  refine go1 (op_moveA rfl plain_clo (.t (has rfl))) rfl ?_
  obtain ⟨v1, h2, H⟩ := bind_some H
  refine go1 (op_call' rfl enters56 (strings_indexFunc.con F1 pre1 caps1 _ _ a1 _ hE1 hp1 _ h2) rfl (.cons (ArgP.k (.t (has rfl))) (.cons (ArgP.clo (.t (has rfl))) (.cons (ArgP.k (.bool _)) .nil)))) rfl ?_
  refine go1 (op_assign rfl (.t (has rfl))) rfl ?_
  refine goesO_nil ?_
  refine ends_then ?_
  obtain rfl := Option.some.inj H
  exact goes_ret (ends_ret' rfl rfl (.t rfl (.nil _)))
theorem strings_IndexFunc.conF (F1 : FuncId) (pre1 caps1 : List VA) (k : Nat) (a0 : ByteArray) (a1 : Int → Option Bool) (hE1 : Enters Try.prog F1) (hp1 : ∀ (z0 : Int) r, a1 z0 = some r → Con Try.prog F1 (pre1 ++ ([VA.k (kint .i32) z0] ++ caps1)) [VA.k kbool r]) (r : Int) (H : strings_IndexFunc.f k a0 a1 = some r) : ConF Try.prog 46 [VA.k kstr a0, VA.clo F1 pre1 caps1] [VA.k (kint .i64) r] := (strings_IndexFunc.con F1 pre1 caps1 k a0 a1 hE1 hp1 r H).freeL (.cons (KFree.k (KFree.int .i64) _) .nil)
/-! strings.ContainsFunc -/
def strings_ContainsFunc.f (k : Nat) (a0 : ByteArray) (a1 : Int → Option Bool) : Option Bool := (strings_IndexFunc.f k a0 a1).bind fun v1 => some (icmp .geq v1 (0 : Int))
set_option maxRecDepth 100000 in
set_option maxHeartbeats 4000000 in
theorem strings_ContainsFunc.con (F1 : FuncId) (pre1 caps1 : List VA) (k : Nat) (a0 : ByteArray) (a1 : Int → Option Bool) (hE1 : Enters Try.prog F1) (hp1 : ∀ (z0 : Int) r, a1 z0 = some r → Con Try.prog F1 (pre1 ++ ([VA.k (kint .i32) z0] ++ caps1)) [VA.k kbool r]) (r : Bool) (H : strings_ContainsFunc.f k a0 a1 = some r) : Con Try.prog 32 [VA.k kstr a0, VA.clo F1 pre1 caps1] [VA.k kbool r] := by
  unfold strings_ContainsFunc.f at H
  refine con_enter Try.func32 rfl rfl rfl (fun w0 S0 θ => ?_)
  refine goes_seq ?_
  refine goes_region ?_
  refine go1 (op_assign rfl (.bool _)) rfl ?_
  refine goesO_nil ?_
  refine ends_then ?_
  refine goes_seq ?_
  refine goes_region ?_
  refine go1 (op_move rfl (.t (has rfl))) rfl ?_
  refine go1 (op_moveA rfl plain_clo (.t (has rfl))) rfl ?_
  obtain ⟨v1, h2, H⟩ := bind_some H
  refine go1 (op_call' rfl enters46 (strings_IndexFunc.con F1 pre1 caps1 _ _ a1 hE1 hp1 _ h2) rfl (.cons (ArgP.k (.t (has rfl))) (.cons (ArgP.clo (.t (has rfl))) .nil))) rfl ?_
  refine go1 (op_icmp rfl rfl (.t (has rfl)) (.int _ _)) rfl ?_
  refine go1 (op_assign rfl (.t (has rfl))) rfl ?_
  refine goesO_nil ?_
  refine ends_then ?_
  obtain rfl := Option.some.inj H
  exact goes_ret (ends_ret' rfl rfl (.t rfl (.nil _)))
theorem strings_ContainsFunc.conF (F1 : FuncId) (pre1 caps1 : List VA) (k : Nat) (a0 : ByteArray) (a1 : Int → Option Bool) (hE1 : Enters Try.prog F1) (hp1 : ∀ (z0 : Int) r, a1 z0 = some r → Con Try.prog F1 (pre1 ++ ([VA.k (kint .i32) z0] ++ caps1)) [VA.k kbool r]) (r : Bool) (H : strings_ContainsFunc.f k a0 a1 = some r) : ConF Try.prog 32 [VA.k kstr a0, VA.clo F1 pre1 caps1] [VA.k kbool r] := (strings_ContainsFunc.con F1 pre1 caps1 k a0 a1 hE1 hp1 r H).freeL (.cons (KFree.k KFree.bool _) .nil)
/-! smithy/macro.Name -/
def macro_Name.f (k : Nat) (a0 : ByteArray) : Option Bool := (bif icmp .gtr (a0.size : Int) (0 : Int) then (bif icmp .leq (a0.size : Int) (64 : Int) then ((strings_ContainsFunc.f k a0 (fun (z0 : Int) => macro_Name_1.f z0)).bind fun v5 => some (!v5)) else (some false)) else (some false)).bind fun s1 => some s1
set_option maxRecDepth 100000 in
set_option maxHeartbeats 4000000 in
theorem macro_Name.con (k : Nat) (a0 : ByteArray) (r : Bool) (H : macro_Name.f k a0 = some r) : Con Try.prog 12 [VA.k kstr a0] [VA.k kbool r] := by
  unfold macro_Name.f at H
  refine con_enter Try.func12 rfl rfl rfl (fun w0 S0 θ => ?_)
  refine goes_seq ?_
  refine goes_region ?_
  refine go1 (op_assign rfl (.bool _)) rfl ?_
  refine goesO_nil ?_
  refine ends_then ?_
  refine goes_seq ?_
  refine goes_region ?_
  refine go1 (op_assignA rfl plain_clo Arg.fn) rfl ?_
  refine goesO_nil ?_
  refine ends_then ?_
  refine goes_seq ?_
  obtain ⟨s1, h2, H⟩ := bind_some H
  refine goes_cut [Ent.t 2 (VA.k kbool s1)] ?_ ?_
  · replace H := h2; clear h2
    refine goes_region ?_
    refine go1 (op_move rfl (.t (has rfl))) rfl ?_
    refine go1 (op_len_str rfl rfl Try.underlying9 (.t (has rfl))) rfl ?_
    refine go1 (op_icmp rfl rfl (.t (has rfl)) (.int _ _)) rfl ?_
    refine go1 (op_move rfl (.t (has rfl))) rfl ?_
    refine goesO_split H (fun hb3 H => ?_) (fun hb3 H => ?_)
    · skip
      refine goG (op_move rfl (.t (has rfl))) rfl rfl rfl rfl hb3 ?_
      refine goG (op_len_str rfl rfl Try.underlying9 (.t (has rfl))) rfl rfl rfl rfl hb3 ?_
      refine goG (op_icmp rfl rfl (.t (has rfl)) (.int _ _)) rfl rfl rfl rfl hb3 ?_
      refine go1 (op_pick_t rfl hb3 (.t (has rfl)) (.t (has rfl))) rfl ?_
      refine go1 (op_move rfl (.t (has rfl))) rfl ?_
      refine goesO_split H (fun hb4 H => ?_) (fun hb4 H => ?_)
      · skip
        refine goG (op_move rfl (.t (has rfl))) rfl rfl rfl rfl hb4 ?_
        refine goG (op_moveA rfl plain_clo (.t (has rfl))) rfl rfl rfl rfl hb4 ?_
        obtain ⟨v5, h6, H⟩ := bind_some H
        refine goG (op_call' rfl enters32 (strings_ContainsFunc.con 31 ([]) ([]) _ _ (fun (z0 : Int) => macro_Name_1.f z0) enters31 (fun z0 r h => macro_Name_1.con z0 r h) _ h6) rfl (.cons (ArgP.k (.t (has rfl))) (.cons (ArgP.clo (.t (has rfl))) .nil))) rfl rfl rfl rfl hb4 ?_
        refine goG (op_not rfl (.t (has rfl))) rfl rfl rfl rfl hb4 ?_
        refine go1 (op_pick_t rfl hb4 (.t (has rfl)) (.t (has rfl))) rfl ?_
        refine go1 (op_assign rfl (.t (has rfl))) rfl ?_
        refine goesO_nil ?_
        obtain rfl := Option.some.inj H
        exact ends_cut (.cons rfl .nil)
      · skip
        refine goS rfl rfl rfl rfl rfl rfl hb4 ?_
        refine goS rfl rfl rfl rfl rfl rfl hb4 ?_
        refine goS rfl rfl rfl rfl rfl rfl hb4 ?_
        refine goS rfl rfl rfl rfl rfl rfl hb4 ?_
        refine go1 (op_pick_f rfl hb4 (.t (has rfl)) (.bool _)) rfl ?_
        refine go1 (op_assign rfl (.t (has rfl))) rfl ?_
        refine goesO_nil ?_
        obtain rfl := Option.some.inj H
        exact ends_cut (.cons rfl .nil)
    · skip
      refine goS rfl rfl rfl rfl rfl rfl hb3 ?_
      refine goS rfl rfl rfl rfl rfl rfl hb3 ?_
      refine goS rfl rfl rfl rfl rfl rfl hb3 ?_
      refine go1 (op_pick_f rfl hb3 (.t (has rfl)) (.bool _)) rfl ?_
      refine go1 (op_move rfl (.t (has rfl))) rfl ?_
      refine goS rfl rfl rfl rfl rfl rfl rfl ?_
      refine goS rfl rfl rfl rfl rfl rfl rfl ?_
      refine goS rfl rfl rfl rfl rfl rfl rfl ?_
      refine goS rfl rfl rfl rfl rfl rfl rfl ?_
      refine go1 (op_pick_f rfl rfl (.t (has rfl)) (.bool _)) rfl ?_
      refine go1 (op_assign rfl (.t (has rfl))) rfl ?_
      refine goesO_nil ?_
      obtain rfl := Option.some.inj H
      exact ends_cut (.cons rfl .nil)
  refine ends_then ?_
  obtain rfl := Option.some.inj H
  exact goes_ret (ends_ret' rfl rfl (.t rfl (.nil _)))
theorem macro_Name.conF (k : Nat) (a0 : ByteArray) (r : Bool) (H : macro_Name.f k a0 = some r) : ConF Try.prog 12 [VA.k kstr a0] [VA.k kbool r] := (macro_Name.con k a0 r H).freeL (.cons (KFree.k KFree.bool _) .nil)
/-! smithy/macro.one -/
def macro_one.f (k : Nat) (a0 : Macro) : Option Int := (macro_Name.f k a0.Name).bind fun v1 => bif !v1 then (some (50 : Int)) else ((bif icmp .lss a0.Level (0 : Int) then (some true) else (some (icmp .gtr a0.Level (2 : Int)))).bind fun s4 => bif s4 then (some (51 : Int)) else (bif icmp .gtr (a0.Value.size : Int) (8192 : Int) then (some (41 : Int)) else (some (0 : Int))))
set_option maxRecDepth 100000 in
set_option maxHeartbeats 4000000 in
theorem macro_one.con (k : Nat) (a0 : Macro) (r : Int) (H : macro_one.f k a0 = some r) : Con Try.prog 28 [VA.k kMacro a0] [VA.k (kint .i64) r] := by
  unfold macro_one.f at H
  refine con_enter Try.func28 rfl rfl rfl (fun w0 S0 θ => ?_)
  refine goes_seq ?_
  refine goes_region ?_
  refine go3 (op_box 1 rfl (fun h => by first | rfl | cases h) (.t (has rfl))) rfl ?_
  refine go1 (op_assign rfl (.int _ _)) rfl ?_
  refine goesO_nil ?_
  refine ends_then ?_
  refine goes_seq ?_
  refine goes_block ?_
  refine goes_seq ?_
  refine goes_region ?_
  refine go1 (op_fieldAddr rfl Try.underlying30 rfl tk9 (.t (has rfl))) rfl ?_
  refine go1 (op_load rfl fldMacro_Name tk9 (.t (has rfl)) (has rfl)) rfl ?_
  obtain ⟨v1, h2, H⟩ := bind_some H
  refine go1 (op_call' rfl enters12 (macro_Name.con _ _ _ h2) rfl (.cons (ArgP.k (.t (has rfl))) .nil)) rfl ?_
  refine go1 (op_not rfl (.t (has rfl))) rfl ?_
  refine go1 (op_assign rfl (.t (has rfl))) rfl ?_
  refine goesO_nil ?_
  refine ends_then ?_
  refine goes_if (.t (has rfl)) H (fun hb3 H => ?_) (fun hb3 H => ?_)
  · skip
    refine goes_seq ?_
    refine goes_region ?_
    refine go1 (op_assign rfl (.int _ _)) rfl ?_
    refine goesO_nil ?_
    refine ends_then ?_
    obtain rfl := Option.some.inj H
    exact goes_ret (ends_block_ret (ends_then_ret (ends_ret' rfl rfl (.t rfl (.nil _)))))
  · skip
    refine goes_seq ?_
    obtain ⟨s4, h5, H⟩ := bind_some H
    refine goes_cut [Ent.t 1 (VA.ptr 1 0), Ent.t 8 (VA.k kbool s4), Ent.h 1 (HE.box 30 kMacro a0)] ?_ ?_
    · replace H := h5; clear h5
      refine goes_region ?_
      refine go1 (op_fieldAddr rfl Try.underlying30 rfl tk3 (.t (has rfl))) rfl ?_
      refine go1 (op_load rfl fldMacro_Level tk3 (.t (has rfl)) (has rfl)) rfl ?_
      refine go1 (op_icmp rfl rfl (.t (has rfl)) (.int _ _)) rfl ?_
      refine go1 (op_move rfl (.t (has rfl))) rfl ?_
      refine goesO_split H (fun hb6 H => ?_) (fun hb6 H => ?_)
      · skip
        refine goS rfl rfl rfl rfl rfl rfl hb6 ?_
        refine goS rfl rfl rfl rfl rfl rfl hb6 ?_
        refine goS rfl rfl rfl rfl rfl rfl hb6 ?_
        refine go1 (op_pick_t rfl hb6 (.t (has rfl)) (.bool _)) rfl ?_
        refine go1 (op_assign rfl (.t (has rfl))) rfl ?_
        refine goesO_nil ?_
        obtain rfl := Option.some.inj H
        exact ends_cut (.cons rfl (.cons rfl (.cons rfl .nil)))
      · skip
        refine goG (op_fieldAddr rfl Try.underlying30 rfl tk3 (.t (has rfl))) rfl rfl rfl rfl hb6 ?_
        refine goG (op_load rfl fldMacro_Level tk3 (.t (has rfl)) (has rfl)) rfl rfl rfl rfl hb6 ?_
        refine goG (op_icmp rfl rfl (.t (has rfl)) (.int _ _)) rfl rfl rfl rfl hb6 ?_
        refine go1 (op_pick_f rfl hb6 (.t (has rfl)) (.t (has rfl))) rfl ?_
        refine go1 (op_assign rfl (.t (has rfl))) rfl ?_
        refine goesO_nil ?_
        obtain rfl := Option.some.inj H
        exact ends_cut (.cons rfl (.cons rfl (.cons rfl .nil)))
    refine ends_then ?_
    refine goes_if (.t (has rfl)) H (fun hb7 H => ?_) (fun hb7 H => ?_)
    · skip
      refine goes_seq ?_
      refine goes_region ?_
      refine go1 (op_assign rfl (.int _ _)) rfl ?_
      refine goesO_nil ?_
      refine ends_then ?_
      obtain rfl := Option.some.inj H
      exact goes_ret (ends_block_ret (ends_then_ret (ends_ret' rfl rfl (.t rfl (.nil _)))))
    · skip
      refine goes_seq ?_
      refine goes_region ?_
      refine go1 (op_fieldAddr rfl Try.underlying30 rfl tk9 (.t (has rfl))) rfl ?_
      refine go1 (op_load rfl fldMacro_Value tk9 (.t (has rfl)) (has rfl)) rfl ?_
      refine go1 (op_len_str rfl rfl Try.underlying9 (.t (has rfl))) rfl ?_
      refine go1 (op_icmp rfl rfl (.t (has rfl)) (.int _ _)) rfl ?_
      refine go1 (op_assign rfl (.t (has rfl))) rfl ?_
      refine goesO_nil ?_
      refine ends_then ?_
      refine goes_if (.t (has rfl)) H (fun hb8 H => ?_) (fun hb8 H => ?_)
      · skip
        refine goes_seq ?_
        refine goes_region ?_
        refine go1 (op_assign rfl (.int _ _)) rfl ?_
        refine goesO_nil ?_
        refine ends_then ?_
        obtain rfl := Option.some.inj H
        exact goes_ret (ends_block_ret (ends_then_ret (ends_ret' rfl rfl (.t rfl (.nil _)))))
      · skip
        refine goes_skip ?_
        refine ends_block ?_
        refine ends_then ?_
        refine goes_seq ?_
        refine goes_region ?_
        refine go1 (op_assign rfl (.int _ _)) rfl ?_
        refine goesO_nil ?_
        refine ends_then ?_
        obtain rfl := Option.some.inj H
        exact goes_ret (ends_ret' rfl rfl (.t rfl (.nil _)))
theorem macro_one.conF (k : Nat) (a0 : Macro) (r : Int) (H : macro_one.f k a0 = some r) : ConF Try.prog 28 [VA.k kMacro a0] [VA.k (kint .i64) r] := (macro_one.con k a0 r H).freeL (.cons (KFree.k (KFree.int .i64) _) .nil)
/-! strings.Compare -/
def strings_Compare.f (a0 : ByteArray) (a1 : ByteArray) : Option Int := some (Lib.compareBytes a0.data.toList a1.data.toList)
theorem strings_Compare.con (a0 : ByteArray) (a1 : ByteArray) (r : Int) (H : strings_Compare.f a0 a1 = some r) : Con Try.prog 45 [VA.k kstr a0, VA.k kstr a1] [VA.k (kint .i64) r] := by
  obtain rfl := Option.some.inj H
  refine con_plain fun θ S w vs h => ?_
  match vs, h with
  | [v0, v1], h =>
    obtain ⟨h0, h1, _⟩ := h
    obtain rfl := arg_str h0
    obtain rfl := arg_str h1
    exact ⟨_, Try.strings_Compare a0 a1 w, va_int _ _⟩
theorem strings_Compare.conF (a0 : ByteArray) (a1 : ByteArray) (r : Int) (H : strings_Compare.f a0 a1 = some r) : ConF Try.prog 45 [VA.k kstr a0, VA.k kstr a1] [VA.k (kint .i64) r] := (strings_Compare.con a0 a1 r H).freeL (.cons (KFree.k (KFree.int .i64) _) .nil)
/-! smithy/macro.byName -/
def macro_byName.f (a0 : Macro) (a1 : Macro) : Option Int := (strings_Compare.f a0.Name a1.Name).bind fun v1 => some v1
set_option maxRecDepth 100000 in
set_option maxHeartbeats 4000000 in
theorem macro_byName.con (a0 : Macro) (a1 : Macro) (r : Int) (H : macro_byName.f a0 a1 = some r) : Con Try.prog 29 [VA.k kMacro a0, VA.k kMacro a1] [VA.k (kint .i64) r] := by
  unfold macro_byName.f at H
  refine con_enter Try.func29 rfl rfl rfl (fun w0 S0 θ => ?_)
  refine goes_seq ?_
  refine goes_region ?_
  refine go3 (op_box 2 rfl (fun h => by first | rfl | cases h) (.t (has rfl))) rfl ?_
  refine go3 (op_box 3 rfl (fun h => by first | rfl | cases h) (.t (has rfl))) rfl ?_
  refine go1 (op_assign rfl (.int _ _)) rfl ?_
  refine goesO_nil ?_
  refine ends_then ?_
  refine goes_seq ?_
  refine goes_region ?_
  refine go1 (op_fieldAddr rfl Try.underlying30 rfl tk9 (.t (has rfl))) rfl ?_
  refine go1 (op_load rfl fldMacro_Name tk9 (.t (has rfl)) (has rfl)) rfl ?_
  refine go1 (op_fieldAddr rfl Try.underlying30 rfl tk9 (.t (has rfl))) rfl ?_
  refine go1 (op_load rfl fldMacro_Name tk9 (.t (has rfl)) (has rfl)) rfl ?_
  obtain ⟨v1, h2, H⟩ := bind_some H
  refine go1 (op_call' rfl enters45 (strings_Compare.con _ _ _ h2) rfl (.cons (ArgP.k (.t (has rfl))) (.cons (ArgP.k (.t (has rfl))) .nil))) rfl ?_
  refine go1 (op_assign rfl (.t (has rfl))) rfl ?_
  refine goesO_nil ?_
  refine ends_then ?_
  obtain rfl := Option.some.inj H
  exact goes_ret (ends_ret' rfl rfl (.t rfl (.nil _)))
theorem macro_byName.conF (a0 : Macro) (a1 : Macro) (r : Int) (H : macro_byName.f a0 a1 = some r) : ConF Try.prog 29 [VA.k kMacro a0, VA.k kMacro a1] [VA.k (kint .i64) r] := (macro_byName.con a0 a1 r H).freeL (.cons (KFree.k (KFree.int .i64) _) .nil)
end Go.Proofs.Ytodogppelokapaa.F
