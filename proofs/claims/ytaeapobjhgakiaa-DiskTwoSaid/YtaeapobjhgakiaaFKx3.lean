import Derived.Test.YtaeapobjhgakiaaFKx2
set_option linter.unusedVariables false
set_option linter.unusedSimpArgs false
set_option linter.unnecessarySimpa false
set_option linter.deprecated false
namespace Go.Proofs.Ytaeapobjhgakiaa.F
open Go Go.RowKit Go.Proofs.Ytaeapobjhgakiaa.Sl
/-! smithy/smithyref02.Name -/
def smithyref02_Name.l0 (a0 : ByteArray) : Nat → Int → Option (Except Bool Unit)
  | 0, _ => none
  | k + 1, s1 => bif icmp .lss s1 (a0.size : Int) then ((bidx a0 s1).bind fun x6 => (bif icmp .geq x6 (97 : Int) then (bif icmp .leq x6 (122 : Int) then (some true) else (bif icmp .geq x6 (65 : Int) then (bif icmp .leq x6 (90 : Int) then (some true) else (bif icmp .geq x6 (48 : Int) then (some (icmp .leq x6 (57 : Int))) else (some false))) else (bif icmp .geq x6 (48 : Int) then (some (icmp .leq x6 (57 : Int))) else (some false)))) else (bif icmp .geq x6 (65 : Int) then (bif icmp .leq x6 (90 : Int) then (some true) else (bif icmp .geq x6 (48 : Int) then (some (icmp .leq x6 (57 : Int))) else (some false))) else (bif icmp .geq x6 (48 : Int) then (some (icmp .leq x6 (57 : Int))) else (some false)))).bind fun s8 => (bif !s8 then (bif icmp .neq x6 (95 : Int) then (bif icmp .neq x6 (45 : Int) then (bif icmp .neq x6 (46 : Int) then (bif icmp .neq x6 (47 : Int) then (some (icmp .neq x6 (43 : Int))) else (some false)) else (some false)) else (some false)) else (some false)) else (some false)).bind fun s20 => bif s20 then (some (Except.error false)) else (smithyref02_Name.l0 a0 k (IntKind.i64.wrap (s1 + (1 : Int))))) else (some (Except.ok ()))
def smithyref02_Name.f (k : Nat) (a0 : ByteArray) : Option Bool := (smithyref02_Name.l0 a0 k (0 : Int)).bind fun o4 => match o4 with | .error r' => some r' | .ok s2 => ((bif icmp .gtr (a0.size : Int) (0 : Int) then (some (icmp .leq (a0.size : Int) (64 : Int))) else (some false)).bind fun s28 => some s28)
set_option maxRecDepth 100000 in
set_option maxHeartbeats 4000000 in
theorem smithyref02_Name.con (k : Nat) (a0 : ByteArray) (r : Bool) (H : smithyref02_Name.f k a0 = some r) : Con Try.prog 40 [VA.k kstr a0] [VA.k kbool r] := by
  unfold smithyref02_Name.f at H
  refine con_enter Try.func40 rfl rfl rfl (fun w0 S0 θ => ?_)
  refine goes_seq ?_
  refine goes_region ?_
  refine go1 (op_assign rfl (.bool _)) rfl ?_
  refine goesO_nil ?_
  refine ends_then ?_
  refine goes_seq ?_
  refine goes_seq ?_
  refine goes_region ?_
  refine go1 (op_assign rfl (.int _ _)) rfl ?_
  refine goesO_nil ?_
  refine ends_then ?_
  obtain ⟨o4, h3, H⟩ := bind_some H
  refine goes_cutR (o := o4) (fun s2 : Unit => [Ent.t 0 (VA.k kstr a0)]) (fun r a w => bodyPost Try.prog Try.f40 (CPost w0 S0 θ [VA.k kbool r]) .ret a w) ?_ ?_ ?_
  · replace H := h3; clear h3
    refine goes_block ?_
    refine goes_loop (fun s1 : Int => [Ent.t 0 (VA.k kstr a0), Ent.t 3 (VA.k (kint .i64) s1)]) (fun k s1 => smithyref02_Name.l0 a0 k s1) (fun _ => rfl) H (.cons rfl (.cons rfl .nil)) ?_
    intro k s1 H
    simp only [smithyref02_Name.l0] at H
    refine goes_seq ?_
    refine goes_seq ?_
    refine goes_region ?_
    refine go1 (op_move rfl (.t (has rfl))) rfl ?_
    refine go1 (op_move rfl (.t (has rfl))) rfl ?_
    refine go1 (op_len_str rfl rfl Try.underlying9 (.t (has rfl))) rfl ?_
    refine go1 (op_icmp rfl rfl (.t (has rfl)) (.t (has rfl))) rfl ?_
    refine goesO_nil ?_
    refine ends_then ?_
    refine goes_if (.t (has rfl)) H (fun hb5 H => ?_) (fun hb5 H => ?_)
    · skip
      refine goes_skip ?_
      refine ends_then ?_
      refine goes_seq ?_
      refine goes_block ?_
      refine goes_seq ?_
      refine goes_region ?_
      refine go1 (op_move rfl (.t (has rfl))) rfl ?_
      refine go1 (op_move rfl (.t (has rfl))) rfl ?_
      obtain ⟨x6, h7, H⟩ := bind_some H
      refine go1 (op_index_str rfl Try.underlying9 h7 (.t (has rfl)) (.t (has rfl))) rfl ?_
      refine go1 (op_assign rfl (.t (has rfl))) rfl ?_
      refine goesO_nil ?_
      refine ends_then ?_
      refine goes_seq ?_
      obtain ⟨s8, h9, H⟩ := bind_some H
      refine goes_cut [Ent.t 0 (VA.k kstr a0), Ent.t 3 (VA.k (kint .i64) s1), Ent.t 4 (VA.k (kint .u8) x6), Ent.t 5 (VA.k kbool s8)] ?_ ?_
      · replace H := h9; clear h9
        refine goes_region ?_
        refine go1 (op_move rfl (.t (has rfl))) rfl ?_
        refine go1 (op_icmp rfl rfl (.t (has rfl)) (.int _ _)) rfl ?_
        refine go1 (op_move rfl (.t (has rfl))) rfl ?_
        refine goesO_split H (fun hb10 H => ?_) (fun hb10 H => ?_)
        · skip
          refine goG (op_move rfl (.t (has rfl))) rfl rfl rfl rfl hb10 ?_
          refine goG (op_icmp rfl rfl (.t (has rfl)) (.int _ _)) rfl rfl rfl rfl hb10 ?_
          refine go1 (op_pick_t rfl hb10 (.t (has rfl)) (.t (has rfl))) rfl ?_
          refine go1 (op_move rfl (.t (has rfl))) rfl ?_
          refine goesO_split H (fun hb11 H => ?_) (fun hb11 H => ?_)
          · skip
            refine goS rfl rfl rfl rfl rfl rfl hb11 ?_
            refine goS rfl rfl rfl rfl rfl rfl hb11 ?_
            refine goS rfl rfl rfl rfl rfl rfl hb11 ?_
            refine goSU rfl rfl rfl rfl rfl rfl ?_
            refine goSU rfl rfl rfl rfl rfl rfl ?_
            refine goS rfl rfl rfl rfl rfl rfl hb11 ?_
            refine go1 (op_pick_t rfl hb11 (.t (has rfl)) (.bool _)) rfl ?_
            refine go1 (op_move rfl (.t (has rfl))) rfl ?_
            refine goS rfl rfl rfl rfl rfl rfl rfl ?_
            refine goS rfl rfl rfl rfl rfl rfl rfl ?_
            refine goS rfl rfl rfl rfl rfl rfl rfl ?_
            refine goSU rfl rfl rfl rfl rfl rfl ?_
            refine goSU rfl rfl rfl rfl rfl rfl ?_
            refine goS rfl rfl rfl rfl rfl rfl rfl ?_
            refine go1 (op_pick_t rfl rfl (.t (has rfl)) (.bool _)) rfl ?_
            refine go1 (op_assign rfl (.t (has rfl))) rfl ?_
            refine goesO_nil ?_
            obtain rfl := Option.some.inj H
            exact ends_cut (.cons rfl (.cons rfl (.cons rfl (.cons rfl .nil))))
          · skip
            refine goG (op_move rfl (.t (has rfl))) rfl rfl rfl rfl hb11 ?_
            refine goG (op_icmp rfl rfl (.t (has rfl)) (.int _ _)) rfl rfl rfl rfl hb11 ?_
            refine goG (op_move rfl (.t (has rfl))) rfl rfl rfl rfl hb11 ?_
            refine goesO_split H (fun hb12 H => ?_) (fun hb12 H => ?_)
            · skip
              refine goG (op_move rfl (.t (has rfl))) rfl rfl rfl rfl hb12 ?_
              refine goG (op_icmp rfl rfl (.t (has rfl)) (.int _ _)) rfl rfl rfl rfl hb12 ?_
              refine goG (op_pick_t rfl hb12 (.t (has rfl)) (.t (has rfl))) rfl rfl rfl rfl hb11 ?_
              refine go1 (op_pick_f rfl hb11 (.t (has rfl)) (.t (has rfl))) rfl ?_
              refine go1 (op_move rfl (.t (has rfl))) rfl ?_
              refine goesO_split H (fun hb13 H => ?_) (fun hb13 H => ?_)
              · skip
                refine goS rfl rfl rfl rfl rfl rfl hb13 ?_
                refine goS rfl rfl rfl rfl rfl rfl hb13 ?_
                refine goS rfl rfl rfl rfl rfl rfl hb13 ?_
                refine goSU rfl rfl rfl rfl rfl rfl ?_
                refine goSU rfl rfl rfl rfl rfl rfl ?_
                refine goS rfl rfl rfl rfl rfl rfl hb13 ?_
                refine go1 (op_pick_t rfl hb13 (.t (has rfl)) (.bool _)) rfl ?_
                refine go1 (op_assign rfl (.t (has rfl))) rfl ?_
                refine goesO_nil ?_
                obtain rfl := Option.some.inj H
                exact ends_cut (.cons rfl (.cons rfl (.cons rfl (.cons rfl .nil))))
              · skip
                refine goG (op_move rfl (.t (has rfl))) rfl rfl rfl rfl hb13 ?_
                refine goG (op_icmp rfl rfl (.t (has rfl)) (.int _ _)) rfl rfl rfl rfl hb13 ?_
                refine goG (op_move rfl (.t (has rfl))) rfl rfl rfl rfl hb13 ?_
                refine goesO_split H (fun hb14 H => ?_) (fun hb14 H => ?_)
                · skip
                  refine goG (op_move rfl (.t (has rfl))) rfl rfl rfl rfl hb14 ?_
                  refine goG (op_icmp rfl rfl (.t (has rfl)) (.int _ _)) rfl rfl rfl rfl hb14 ?_
                  refine goG (op_pick_t rfl hb14 (.t (has rfl)) (.t (has rfl))) rfl rfl rfl rfl hb13 ?_
                  refine go1 (op_pick_f rfl hb13 (.t (has rfl)) (.t (has rfl))) rfl ?_
                  refine go1 (op_assign rfl (.t (has rfl))) rfl ?_
                  refine goesO_nil ?_
                  obtain rfl := Option.some.inj H
                  exact ends_cut (.cons rfl (.cons rfl (.cons rfl (.cons rfl .nil))))
                · skip
                  refine goS rfl rfl rfl rfl rfl rfl hb14 ?_
                  refine goS rfl rfl rfl rfl rfl rfl hb14 ?_
                  refine goG (op_pick_f rfl hb14 (.t (has rfl)) (.bool _)) rfl rfl rfl rfl hb13 ?_
                  refine go1 (op_pick_f rfl hb13 (.t (has rfl)) (.t (has rfl))) rfl ?_
                  refine go1 (op_assign rfl (.t (has rfl))) rfl ?_
                  refine goesO_nil ?_
                  obtain rfl := Option.some.inj H
                  exact ends_cut (.cons rfl (.cons rfl (.cons rfl (.cons rfl .nil))))
            · skip
              refine goS rfl rfl rfl rfl rfl rfl hb12 ?_
              refine goS rfl rfl rfl rfl rfl rfl hb12 ?_
              refine goG (op_pick_f rfl hb12 (.t (has rfl)) (.bool _)) rfl rfl rfl rfl hb11 ?_
              refine go1 (op_pick_f rfl hb11 (.t (has rfl)) (.t (has rfl))) rfl ?_
              refine go1 (op_move rfl (.t (has rfl))) rfl ?_
              refine goG (op_move rfl (.t (has rfl))) rfl rfl rfl rfl rfl ?_
              refine goG (op_icmp rfl rfl (.t (has rfl)) (.int _ _)) rfl rfl rfl rfl rfl ?_
              refine goG (op_move rfl (.t (has rfl))) rfl rfl rfl rfl rfl ?_
              refine goesO_split H (fun hb15 H => ?_) (fun hb15 H => ?_)
              · skip
                refine goG (op_move rfl (.t (has rfl))) rfl rfl rfl rfl hb15 ?_
                refine goG (op_icmp rfl rfl (.t (has rfl)) (.int _ _)) rfl rfl rfl rfl hb15 ?_
                refine goG (op_pick_t rfl hb15 (.t (has rfl)) (.t (has rfl))) rfl rfl rfl rfl rfl ?_
                refine go1 (op_pick_f rfl rfl (.t (has rfl)) (.t (has rfl))) rfl ?_
                refine go1 (op_assign rfl (.t (has rfl))) rfl ?_
                refine goesO_nil ?_
                obtain rfl := Option.some.inj H
                exact ends_cut (.cons rfl (.cons rfl (.cons rfl (.cons rfl .nil))))
              · skip
                refine goS rfl rfl rfl rfl rfl rfl hb15 ?_
                refine goS rfl rfl rfl rfl rfl rfl hb15 ?_
                refine goG (op_pick_f rfl hb15 (.t (has rfl)) (.bool _)) rfl rfl rfl rfl rfl ?_
                refine go1 (op_pick_f rfl rfl (.t (has rfl)) (.t (has rfl))) rfl ?_
                refine go1 (op_assign rfl (.t (has rfl))) rfl ?_
                refine goesO_nil ?_
                obtain rfl := Option.some.inj H
                exact ends_cut (.cons rfl (.cons rfl (.cons rfl (.cons rfl .nil))))
        · skip
          refine goS rfl rfl rfl rfl rfl rfl hb10 ?_
          refine goS rfl rfl rfl rfl rfl rfl hb10 ?_
          refine go1 (op_pick_f rfl hb10 (.t (has rfl)) (.bool _)) rfl ?_
          refine go1 (op_move rfl (.t (has rfl))) rfl ?_
          refine goG (op_move rfl (.t (has rfl))) rfl rfl rfl rfl rfl ?_
          refine goG (op_icmp rfl rfl (.t (has rfl)) (.int _ _)) rfl rfl rfl rfl rfl ?_
          refine goG (op_move rfl (.t (has rfl))) rfl rfl rfl rfl rfl ?_
          refine goesO_split H (fun hb16 H => ?_) (fun hb16 H => ?_)
          · skip
            refine goG (op_move rfl (.t (has rfl))) rfl rfl rfl rfl hb16 ?_
            refine goG (op_icmp rfl rfl (.t (has rfl)) (.int _ _)) rfl rfl rfl rfl hb16 ?_
            refine goG (op_pick_t rfl hb16 (.t (has rfl)) (.t (has rfl))) rfl rfl rfl rfl rfl ?_
            refine go1 (op_pick_f rfl rfl (.t (has rfl)) (.t (has rfl))) rfl ?_
            refine go1 (op_move rfl (.t (has rfl))) rfl ?_
            refine goesO_split H (fun hb17 H => ?_) (fun hb17 H => ?_)
            · skip
              refine goS rfl rfl rfl rfl rfl rfl hb17 ?_
              refine goS rfl rfl rfl rfl rfl rfl hb17 ?_
              refine goS rfl rfl rfl rfl rfl rfl hb17 ?_
              refine goSU rfl rfl rfl rfl rfl rfl ?_
              refine goSU rfl rfl rfl rfl rfl rfl ?_
              refine goS rfl rfl rfl rfl rfl rfl hb17 ?_
              refine go1 (op_pick_t rfl hb17 (.t (has rfl)) (.bool _)) rfl ?_
              refine go1 (op_assign rfl (.t (has rfl))) rfl ?_
              refine goesO_nil ?_
              obtain rfl := Option.some.inj H
              exact ends_cut (.cons rfl (.cons rfl (.cons rfl (.cons rfl .nil))))
            · skip
              refine goG (op_move rfl (.t (has rfl))) rfl rfl rfl rfl hb17 ?_
              refine goG (op_icmp rfl rfl (.t (has rfl)) (.int _ _)) rfl rfl rfl rfl hb17 ?_
              refine goG (op_move rfl (.t (has rfl))) rfl rfl rfl rfl hb17 ?_
              refine goesO_split H (fun hb18 H => ?_) (fun hb18 H => ?_)
              · skip
                refine goG (op_move rfl (.t (has rfl))) rfl rfl rfl rfl hb18 ?_
                refine goG (op_icmp rfl rfl (.t (has rfl)) (.int _ _)) rfl rfl rfl rfl hb18 ?_
                refine goG (op_pick_t rfl hb18 (.t (has rfl)) (.t (has rfl))) rfl rfl rfl rfl hb17 ?_
                refine go1 (op_pick_f rfl hb17 (.t (has rfl)) (.t (has rfl))) rfl ?_
                refine go1 (op_assign rfl (.t (has rfl))) rfl ?_
                refine goesO_nil ?_
                obtain rfl := Option.some.inj H
                exact ends_cut (.cons rfl (.cons rfl (.cons rfl (.cons rfl .nil))))
              · skip
                refine goS rfl rfl rfl rfl rfl rfl hb18 ?_
                refine goS rfl rfl rfl rfl rfl rfl hb18 ?_
                refine goG (op_pick_f rfl hb18 (.t (has rfl)) (.bool _)) rfl rfl rfl rfl hb17 ?_
                refine go1 (op_pick_f rfl hb17 (.t (has rfl)) (.t (has rfl))) rfl ?_
                refine go1 (op_assign rfl (.t (has rfl))) rfl ?_
                refine goesO_nil ?_
                obtain rfl := Option.some.inj H
                exact ends_cut (.cons rfl (.cons rfl (.cons rfl (.cons rfl .nil))))
          · skip
            refine goS rfl rfl rfl rfl rfl rfl hb16 ?_
            refine goS rfl rfl rfl rfl rfl rfl hb16 ?_
            refine goG (op_pick_f rfl hb16 (.t (has rfl)) (.bool _)) rfl rfl rfl rfl rfl ?_
            refine go1 (op_pick_f rfl rfl (.t (has rfl)) (.t (has rfl))) rfl ?_
            refine go1 (op_move rfl (.t (has rfl))) rfl ?_
            refine goG (op_move rfl (.t (has rfl))) rfl rfl rfl rfl rfl ?_
            refine goG (op_icmp rfl rfl (.t (has rfl)) (.int _ _)) rfl rfl rfl rfl rfl ?_
            refine goG (op_move rfl (.t (has rfl))) rfl rfl rfl rfl rfl ?_
            refine goesO_split H (fun hb19 H => ?_) (fun hb19 H => ?_)
            · skip
              refine goG (op_move rfl (.t (has rfl))) rfl rfl rfl rfl hb19 ?_
              refine goG (op_icmp rfl rfl (.t (has rfl)) (.int _ _)) rfl rfl rfl rfl hb19 ?_
              refine goG (op_pick_t rfl hb19 (.t (has rfl)) (.t (has rfl))) rfl rfl rfl rfl rfl ?_
              refine go1 (op_pick_f rfl rfl (.t (has rfl)) (.t (has rfl))) rfl ?_
              refine go1 (op_assign rfl (.t (has rfl))) rfl ?_
              refine goesO_nil ?_
              obtain rfl := Option.some.inj H
              exact ends_cut (.cons rfl (.cons rfl (.cons rfl (.cons rfl .nil))))
            · skip
              refine goS rfl rfl rfl rfl rfl rfl hb19 ?_
              refine goS rfl rfl rfl rfl rfl rfl hb19 ?_
              refine goG (op_pick_f rfl hb19 (.t (has rfl)) (.bool _)) rfl rfl rfl rfl rfl ?_
              refine go1 (op_pick_f rfl rfl (.t (has rfl)) (.t (has rfl))) rfl ?_
              refine go1 (op_assign rfl (.t (has rfl))) rfl ?_
              refine goesO_nil ?_
              obtain rfl := Option.some.inj H
              exact ends_cut (.cons rfl (.cons rfl (.cons rfl (.cons rfl .nil))))
      refine ends_then ?_
      refine goes_seq ?_
      obtain ⟨s20, h21, H⟩ := bind_some H
      refine goes_cut [Ent.t 0 (VA.k kstr a0), Ent.t 3 (VA.k (kint .i64) s1), Ent.t 58 (VA.k kbool s20)] ?_ ?_
      · replace H := h21; clear h21
        refine goes_region ?_
        refine go1 (op_move rfl (.t (has rfl))) rfl ?_
        refine go1 (op_not rfl (.t (has rfl))) rfl ?_
        refine go1 (op_move rfl (.t (has rfl))) rfl ?_
        refine goesO_split H (fun hb22 H => ?_) (fun hb22 H => ?_)
        · skip
          refine goG (op_move rfl (.t (has rfl))) rfl rfl rfl rfl hb22 ?_
          refine goG (op_icmp rfl rfl (.t (has rfl)) (.int _ _)) rfl rfl rfl rfl hb22 ?_
          refine go1 (op_pick_t rfl hb22 (.t (has rfl)) (.t (has rfl))) rfl ?_
          refine go1 (op_move rfl (.t (has rfl))) rfl ?_
          refine goesO_split H (fun hb23 H => ?_) (fun hb23 H => ?_)
          · skip
            refine goG (op_move rfl (.t (has rfl))) rfl rfl rfl rfl hb23 ?_
            refine goG (op_icmp rfl rfl (.t (has rfl)) (.int _ _)) rfl rfl rfl rfl hb23 ?_
            refine go1 (op_pick_t rfl hb23 (.t (has rfl)) (.t (has rfl))) rfl ?_
            refine go1 (op_move rfl (.t (has rfl))) rfl ?_
            refine goesO_split H (fun hb24 H => ?_) (fun hb24 H => ?_)
            · skip
              refine goG (op_move rfl (.t (has rfl))) rfl rfl rfl rfl hb24 ?_
              refine goG (op_icmp rfl rfl (.t (has rfl)) (.int _ _)) rfl rfl rfl rfl hb24 ?_
              refine go1 (op_pick_t rfl hb24 (.t (has rfl)) (.t (has rfl))) rfl ?_
              refine go1 (op_move rfl (.t (has rfl))) rfl ?_
              refine goesO_split H (fun hb25 H => ?_) (fun hb25 H => ?_)
              · skip
                refine goG (op_move rfl (.t (has rfl))) rfl rfl rfl rfl hb25 ?_
                refine goG (op_icmp rfl rfl (.t (has rfl)) (.int _ _)) rfl rfl rfl rfl hb25 ?_
                refine go1 (op_pick_t rfl hb25 (.t (has rfl)) (.t (has rfl))) rfl ?_
                refine go1 (op_move rfl (.t (has rfl))) rfl ?_
                refine goesO_split H (fun hb26 H => ?_) (fun hb26 H => ?_)
                · skip
                  refine goG (op_move rfl (.t (has rfl))) rfl rfl rfl rfl hb26 ?_
                  refine goG (op_icmp rfl rfl (.t (has rfl)) (.int _ _)) rfl rfl rfl rfl hb26 ?_
                  refine go1 (op_pick_t rfl hb26 (.t (has rfl)) (.t (has rfl))) rfl ?_
                  refine goesO_nil ?_
                  obtain rfl := Option.some.inj H
                  exact ends_cut (.cons rfl (.cons rfl (.cons rfl .nil)))
                · skip
                  refine goS rfl rfl rfl rfl rfl rfl hb26 ?_
                  refine goS rfl rfl rfl rfl rfl rfl hb26 ?_
                  refine go1 (op_pick_f rfl hb26 (.t (has rfl)) (.bool _)) rfl ?_
                  refine goesO_nil ?_
                  obtain rfl := Option.some.inj H
                  exact ends_cut (.cons rfl (.cons rfl (.cons rfl .nil)))
              · skip
                refine goS rfl rfl rfl rfl rfl rfl hb25 ?_
                refine goS rfl rfl rfl rfl rfl rfl hb25 ?_
                refine go1 (op_pick_f rfl hb25 (.t (has rfl)) (.bool _)) rfl ?_
                refine go1 (op_move rfl (.t (has rfl))) rfl ?_
                refine goS rfl rfl rfl rfl rfl rfl rfl ?_
                refine goS rfl rfl rfl rfl rfl rfl rfl ?_
                refine go1 (op_pick_f rfl rfl (.t (has rfl)) (.bool _)) rfl ?_
                refine goesO_nil ?_
                obtain rfl := Option.some.inj H
                exact ends_cut (.cons rfl (.cons rfl (.cons rfl .nil)))
            · skip
              refine goS rfl rfl rfl rfl rfl rfl hb24 ?_
              refine goS rfl rfl rfl rfl rfl rfl hb24 ?_
              refine go1 (op_pick_f rfl hb24 (.t (has rfl)) (.bool _)) rfl ?_
              refine go1 (op_move rfl (.t (has rfl))) rfl ?_
              refine goS rfl rfl rfl rfl rfl rfl rfl ?_
              refine goS rfl rfl rfl rfl rfl rfl rfl ?_
              refine go1 (op_pick_f rfl rfl (.t (has rfl)) (.bool _)) rfl ?_
              refine go1 (op_move rfl (.t (has rfl))) rfl ?_
              refine goS rfl rfl rfl rfl rfl rfl rfl ?_
              refine goS rfl rfl rfl rfl rfl rfl rfl ?_
              refine go1 (op_pick_f rfl rfl (.t (has rfl)) (.bool _)) rfl ?_
              refine goesO_nil ?_
              obtain rfl := Option.some.inj H
              exact ends_cut (.cons rfl (.cons rfl (.cons rfl .nil)))
          · skip
            refine goS rfl rfl rfl rfl rfl rfl hb23 ?_
            refine goS rfl rfl rfl rfl rfl rfl hb23 ?_
            refine go1 (op_pick_f rfl hb23 (.t (has rfl)) (.bool _)) rfl ?_
            refine go1 (op_move rfl (.t (has rfl))) rfl ?_
            refine goS rfl rfl rfl rfl rfl rfl rfl ?_
            refine goS rfl rfl rfl rfl rfl rfl rfl ?_
            refine go1 (op_pick_f rfl rfl (.t (has rfl)) (.bool _)) rfl ?_
            refine go1 (op_move rfl (.t (has rfl))) rfl ?_
            refine goS rfl rfl rfl rfl rfl rfl rfl ?_
            refine goS rfl rfl rfl rfl rfl rfl rfl ?_
            refine go1 (op_pick_f rfl rfl (.t (has rfl)) (.bool _)) rfl ?_
            refine go1 (op_move rfl (.t (has rfl))) rfl ?_
            refine goS rfl rfl rfl rfl rfl rfl rfl ?_
            refine goS rfl rfl rfl rfl rfl rfl rfl ?_
            refine go1 (op_pick_f rfl rfl (.t (has rfl)) (.bool _)) rfl ?_
            refine goesO_nil ?_
            obtain rfl := Option.some.inj H
            exact ends_cut (.cons rfl (.cons rfl (.cons rfl .nil)))
        · skip
          refine goS rfl rfl rfl rfl rfl rfl hb22 ?_
          refine goS rfl rfl rfl rfl rfl rfl hb22 ?_
          refine go1 (op_pick_f rfl hb22 (.t (has rfl)) (.bool _)) rfl ?_
          refine go1 (op_move rfl (.t (has rfl))) rfl ?_
          refine goS rfl rfl rfl rfl rfl rfl rfl ?_
          refine goS rfl rfl rfl rfl rfl rfl rfl ?_
          refine go1 (op_pick_f rfl rfl (.t (has rfl)) (.bool _)) rfl ?_
          refine go1 (op_move rfl (.t (has rfl))) rfl ?_
          refine goS rfl rfl rfl rfl rfl rfl rfl ?_
          refine goS rfl rfl rfl rfl rfl rfl rfl ?_
          refine go1 (op_pick_f rfl rfl (.t (has rfl)) (.bool _)) rfl ?_
          refine go1 (op_move rfl (.t (has rfl))) rfl ?_
          refine goS rfl rfl rfl rfl rfl rfl rfl ?_
          refine goS rfl rfl rfl rfl rfl rfl rfl ?_
          refine go1 (op_pick_f rfl rfl (.t (has rfl)) (.bool _)) rfl ?_
          refine go1 (op_move rfl (.t (has rfl))) rfl ?_
          refine goS rfl rfl rfl rfl rfl rfl rfl ?_
          refine goS rfl rfl rfl rfl rfl rfl rfl ?_
          refine go1 (op_pick_f rfl rfl (.t (has rfl)) (.bool _)) rfl ?_
          refine goesO_nil ?_
          obtain rfl := Option.some.inj H
          exact ends_cut (.cons rfl (.cons rfl (.cons rfl .nil)))
      refine ends_then ?_
      refine goes_if (.t (has rfl)) H (fun hb27 H => ?_) (fun hb27 H => ?_)
      · skip
        refine goes_seq ?_
        refine goes_region ?_
        refine go1 (op_assign rfl (.bool _)) rfl ?_
        refine goesO_nil ?_
        refine ends_then ?_
        obtain rfl := Option.some.inj H
        refine goes_ret (ends_block_ret (ends_then_ret (ends_then_ret (ends_block_ret (ends_cutR_ret rfl ?_)))))
        exact ends_ret' rfl rfl (.t rfl (.nil _))
      · skip
        refine goes_skip ?_
        refine ends_block ?_
        refine ends_then ?_
        refine goes_region ?_
        refine go1 (op_move rfl (.t (has rfl))) rfl ?_
        refine go1 (op_add rfl (.t (has rfl)) (.int _ _)) rfl ?_
        refine go1 (op_assign rfl (.t (has rfl))) rfl ?_
        refine goesO_nil ?_
        exact loop_next _ H (.cons rfl (.cons rfl .nil))
    · skip
      refine goes_exit (ends_then_exit (ends_then_exit (ends_block_exit ?_)))
      obtain rfl := Option.some.inj H
      exact ends_cutR rfl (.cons rfl .nil)
  · rintro s2 rfl
    clear h3
    dsimp only at H
    refine ends_then ?_
    refine goes_seq ?_
    obtain ⟨s28, h29, H⟩ := bind_some H
    refine goes_cut [Ent.t 2 (VA.k kbool s28)] ?_ ?_
    · replace H := h29; clear h29
      refine goes_region ?_
      refine go1 (op_move rfl (.t (has rfl))) rfl ?_
      refine go1 (op_len_str rfl rfl Try.underlying9 (.t (has rfl))) rfl ?_
      refine go1 (op_icmp rfl rfl (.t (has rfl)) (.int _ _)) rfl ?_
      refine go1 (op_move rfl (.t (has rfl))) rfl ?_
      refine goesO_split H (fun hb30 H => ?_) (fun hb30 H => ?_)
      · skip
        refine goG (op_move rfl (.t (has rfl))) rfl rfl rfl rfl hb30 ?_
        refine goG (op_len_str rfl rfl Try.underlying9 (.t (has rfl))) rfl rfl rfl rfl hb30 ?_
        refine goG (op_icmp rfl rfl (.t (has rfl)) (.int _ _)) rfl rfl rfl rfl hb30 ?_
        refine go1 (op_pick_t rfl hb30 (.t (has rfl)) (.t (has rfl))) rfl ?_
        refine go1 (op_assign rfl (.t (has rfl))) rfl ?_
        refine goesO_nil ?_
        obtain rfl := Option.some.inj H
        exact ends_cut (.cons rfl .nil)
      · skip
        refine goS rfl rfl rfl rfl rfl rfl hb30 ?_
        refine goS rfl rfl rfl rfl rfl rfl hb30 ?_
        refine goS rfl rfl rfl rfl rfl rfl hb30 ?_
        refine go1 (op_pick_f rfl hb30 (.t (has rfl)) (.bool _)) rfl ?_
        refine go1 (op_assign rfl (.t (has rfl))) rfl ?_
        refine goesO_nil ?_
        obtain rfl := Option.some.inj H
        exact ends_cut (.cons rfl .nil)
    refine ends_then ?_
    obtain rfl := Option.some.inj H
    exact goes_ret (ends_ret' rfl rfl (.t rfl (.nil _)))
  · rintro r' rfl a w hr
    obtain rfl := Option.some.inj H
    exact hr
theorem smithyref02_Name.conF (k : Nat) (a0 : ByteArray) (r : Bool) (H : smithyref02_Name.f k a0 = some r) : ConF Try.prog 40 [VA.k kstr a0] [VA.k kbool r] := (smithyref02_Name.con k a0 r H).freeL (.cons (KFree.k KFree.bool _) .nil)
/-! smithy/smithyref02.Check -/
def smithyref02_Check.l0 (a0 : Disk) : Nat → Int → Option (Except Int Unit)
  | 0, _ => none
  | k + 1, s6 => bif icmp .lss s6 (a0.Files.length : Int) then ((idx a0.Files s6).bind fun x11 => ((smithyref02_Name.f k x11.Name).bind fun v15 => bif !v15 then (some true) else (bif icmp .gtr (x11.Text.size : Int) (4096 : Int) then (some true) else (bif icmp .lss x11.Stamp (0 : Int) then (some true) else (some (icmp .gtr x11.Stamp a0.Clock))))).bind fun s13 => bif s13 then (some (Except.error (4 : Int))) else ((bif icmp .gtr s6 (0 : Int) then ((idx a0.Files (IntKind.i64.wrap (s6 - (1 : Int)))).bind fun x24 => some (scmp .geq x24.Name x11.Name)) else (some false)).bind fun s21 => bif s21 then (some (Except.error (4 : Int))) else (smithyref02_Check.l0 a0 k (IntKind.i64.wrap (s6 + (1 : Int)))))) else (some (Except.ok ()))
def smithyref02_Check.f (k : Nat) (a0 : Disk) : Option Int := (bif icmp .lss a0.Clock (0 : Int) then (some true) else (bif icmp .gtr a0.Clock (1099511627776 : Int) then (some true) else (some (icmp .gtr (a0.Files.length : Int) (256 : Int))))).bind fun s1 => bif s1 then (some (4 : Int)) else ((smithyref02_Check.l0 a0 k (0 : Int)).bind fun o9 => match o9 with | .error r' => some r' | .ok s7 => (some (0 : Int)))
set_option maxRecDepth 100000 in
set_option maxHeartbeats 4000000 in
theorem smithyref02_Check.con (k : Nat) (a0 : Disk) (r : Int) (H : smithyref02_Check.f k a0 = some r) : Con Try.prog 15 [VA.k kDisk a0] [VA.k (kint .i64) r] := by
  unfold smithyref02_Check.f at H
  refine con_enter Try.func15 rfl rfl rfl (fun w0 S0 θ => ?_)
  refine goes_seq ?_
  refine goes_region ?_
  refine go3 (op_box 1 rfl (fun h => by first | rfl | cases h) (.t (has rfl))) rfl ?_
  refine go1 (op_assign rfl (.int _ _)) rfl ?_
  refine goesO_nil ?_
  refine ends_then ?_
  refine goes_seq ?_
  refine goes_seq ?_
  obtain ⟨s1, h2, H⟩ := bind_some H
  refine goes_cut [Ent.t 1 (VA.ptr 1 0), Ent.t 18 (VA.k kbool s1), Ent.h 1 (HE.box 24 kDisk a0)] ?_ ?_
  · replace H := h2; clear h2
    refine goes_region ?_
    refine go1 (op_fieldAddr rfl Try.underlying24 rfl tk3 (.t (has rfl))) rfl ?_
    refine go1 (op_load rfl fldDisk_Clock tk3 (.t (has rfl)) (has rfl)) rfl ?_
    refine go1 (op_icmp rfl rfl (.t (has rfl)) (.int _ _)) rfl ?_
    refine go1 (op_move rfl (.t (has rfl))) rfl ?_
    refine goesO_split H (fun hb3 H => ?_) (fun hb3 H => ?_)
    · skip
      refine goS rfl rfl rfl rfl rfl rfl hb3 ?_
      refine goS rfl rfl rfl rfl rfl rfl hb3 ?_
      refine goS rfl rfl rfl rfl rfl rfl hb3 ?_
      refine go1 (op_pick_t rfl hb3 (.t (has rfl)) (.bool _)) rfl ?_
      refine go1 (op_move rfl (.t (has rfl))) rfl ?_
      refine goS rfl rfl rfl rfl rfl rfl rfl ?_
      refine goS rfl rfl rfl rfl rfl rfl rfl ?_
      refine goS rfl rfl rfl rfl rfl rfl rfl ?_
      refine goS rfl rfl rfl rfl rfl rfl rfl ?_
      refine go1 (op_pick_t rfl rfl (.t (has rfl)) (.bool _)) rfl ?_
      refine goesO_nil ?_
      obtain rfl := Option.some.inj H
      exact ends_cut (.cons rfl (.cons rfl (.cons rfl .nil)))
    · skip
      refine goG (op_fieldAddr rfl Try.underlying24 rfl tk3 (.t (has rfl))) rfl rfl rfl rfl hb3 ?_
      refine goG (op_load rfl fldDisk_Clock tk3 (.t (has rfl)) (has rfl)) rfl rfl rfl rfl hb3 ?_
      refine goG (op_icmp rfl rfl (.t (has rfl)) (.int _ _)) rfl rfl rfl rfl hb3 ?_
      refine go1 (op_pick_f rfl hb3 (.t (has rfl)) (.t (has rfl))) rfl ?_
      refine go1 (op_move rfl (.t (has rfl))) rfl ?_
      refine goesO_split H (fun hb4 H => ?_) (fun hb4 H => ?_)
      · skip
        refine goS rfl rfl rfl rfl rfl rfl hb4 ?_
        refine goS rfl rfl rfl rfl rfl rfl hb4 ?_
        refine goS rfl rfl rfl rfl rfl rfl hb4 ?_
        refine goS rfl rfl rfl rfl rfl rfl hb4 ?_
        refine go1 (op_pick_t rfl hb4 (.t (has rfl)) (.bool _)) rfl ?_
        refine goesO_nil ?_
        obtain rfl := Option.some.inj H
        exact ends_cut (.cons rfl (.cons rfl (.cons rfl .nil)))
      · skip
        refine goG (op_fieldAddr rfl Try.underlying24 rfl tk22 (.t (has rfl))) rfl rfl rfl rfl hb4 ?_
        refine goG (op_load rfl fldDisk_Files tk22 (.t (has rfl)) (has rfl)) rfl rfl rfl rfl hb4 ?_
        refine goG (op_len rfl rfl Try.underlying22 (.t (has rfl))) rfl rfl rfl rfl hb4 ?_
        refine goG (op_icmp rfl rfl (.t (has rfl)) (.int _ _)) rfl rfl rfl rfl hb4 ?_
        refine go1 (op_pick_f rfl hb4 (.t (has rfl)) (.t (has rfl))) rfl ?_
        refine goesO_nil ?_
        obtain rfl := Option.some.inj H
        exact ends_cut (.cons rfl (.cons rfl (.cons rfl .nil)))
  refine ends_then ?_
  refine goes_if (.t (has rfl)) H (fun hb5 H => ?_) (fun hb5 H => ?_)
  · skip
    refine goes_seq ?_
    refine goes_region ?_
    refine go1 (op_assign rfl (.int _ _)) rfl ?_
    refine goesO_nil ?_
    refine ends_then ?_
    obtain rfl := Option.some.inj H
    exact goes_ret (ends_then_ret (ends_ret' rfl rfl (.t rfl (.nil _))))
  · skip
    refine goes_skip ?_
    refine ends_then ?_
    refine goes_seq ?_
    refine goes_seq ?_
    refine goes_region ?_
    refine go1 (op_assign rfl (.int _ _)) rfl ?_
    refine goesO_nil ?_
    refine ends_then ?_
    obtain ⟨o9, h8, H⟩ := bind_some H
    refine goes_cutR (o := o9) (fun s7 : Unit => []) (fun r a w => bodyPost Try.prog Try.f15 (CPost w0 S0 θ [VA.k (kint .i64) r]) .ret a w) ?_ ?_ ?_
    · replace H := h8; clear h8
      refine goes_block ?_
      refine goes_loop (fun s6 : Int => [Ent.t 1 (VA.ptr 1 0), Ent.t 3 (VA.k (kint .i64) s6), Ent.h 1 (HE.box 24 kDisk a0)]) (fun k s6 => smithyref02_Check.l0 a0 k s6) (fun _ => rfl) H (.cons rfl (.cons rfl (.cons rfl .nil))) ?_
      intro k s6 H
      simp only [smithyref02_Check.l0] at H
      refine goes_seq ?_
      refine goes_seq ?_
      refine goes_region ?_
      refine go1 (op_move rfl (.t (has rfl))) rfl ?_
      refine go1 (op_fieldAddr rfl Try.underlying24 rfl tk22 (.t (has rfl))) rfl ?_
      refine go1 (op_load rfl fldDisk_Files tk22 (.t (has rfl)) (has rfl)) rfl ?_
      refine go1 (op_len rfl rfl Try.underlying22 (.t (has rfl))) rfl ?_
      refine go1 (op_icmp rfl rfl (.t (has rfl)) (.t (has rfl))) rfl ?_
      refine goesO_nil ?_
      refine ends_then ?_
      refine goes_if (.t (has rfl)) H (fun hb10 H => ?_) (fun hb10 H => ?_)
      · skip
        refine goes_skip ?_
        refine ends_then ?_
        refine goes_seq ?_
        refine goes_block ?_
        refine goes_seq ?_
        refine goes_region ?_
        refine go1 (op_fieldAddr rfl Try.underlying24 rfl tk22 (.t (has rfl))) rfl ?_
        refine go1 (op_load rfl fldDisk_Files tk22 (.t (has rfl)) (has rfl)) rfl ?_
        refine go1 (op_move rfl (.t (has rfl))) rfl ?_
        obtain ⟨x11, h12, H⟩ := bind_some H
        refine go1 (op_indexAddr rfl Try.underlying22 tk26 h12 (.t (has rfl)) (.t (has rfl))) rfl ?_
        refine go1 (op_loadp rfl tk26 (.t (has rfl))) rfl ?_
        refine go3 (op_alloc 4 rfl zk26) rfl ?_
        refine go1 (op_store (Fld.whole kFile) tk26 (.t (has rfl)) (has rfl) (.t (has rfl))) rfl ?_
        refine goesO_nil ?_
        refine ends_then ?_
        refine goes_seq ?_
        refine goes_seq ?_
        obtain ⟨s13, h14, H⟩ := bind_some H
        refine goes_cut [Ent.t 1 (VA.ptr 1 0), Ent.t 3 (VA.k (kint .i64) s6), Ent.t 4 (VA.ptr 4 0), Ent.t 52 (VA.k kbool s13), Ent.h 1 (HE.box 24 kDisk a0), Ent.h 4 (HE.box 26 kFile x11)] ?_ ?_
        · replace H := h14; clear h14
          refine goes_region ?_
          refine go1 (op_fieldAddr rfl Try.underlying26 rfl tk9 (.t (has rfl))) rfl ?_
          refine go1 (op_load rfl fldFile_Name tk9 (.t (has rfl)) (has rfl)) rfl ?_
          obtain ⟨v15, h16, H⟩ := bind_some H
          refine go1 (op_call' rfl enters40 (smithyref02_Name.con _ _ _ h16) rfl (.cons (ArgP.k (.t (has rfl))) .nil)) rfl ?_
          refine go1 (op_not rfl (.t (has rfl))) rfl ?_
          refine go1 (op_move rfl (.t (has rfl))) rfl ?_
          refine goesO_split H (fun hb17 H => ?_) (fun hb17 H => ?_)
          · skip
            refine goS rfl rfl rfl rfl rfl rfl hb17 ?_
            refine goS rfl rfl rfl rfl rfl rfl hb17 ?_
            refine goS rfl rfl rfl rfl rfl rfl hb17 ?_
            refine goS rfl rfl rfl rfl rfl rfl hb17 ?_
            refine go1 (op_pick_t rfl hb17 (.t (has rfl)) (.bool _)) rfl ?_
            refine go1 (op_move rfl (.t (has rfl))) rfl ?_
            refine goS rfl rfl rfl rfl rfl rfl rfl ?_
            refine goS rfl rfl rfl rfl rfl rfl rfl ?_
            refine goS rfl rfl rfl rfl rfl rfl rfl ?_
            refine go1 (op_pick_t rfl rfl (.t (has rfl)) (.bool _)) rfl ?_
            refine go1 (op_move rfl (.t (has rfl))) rfl ?_
            refine goS rfl rfl rfl rfl rfl rfl rfl ?_
            refine goS rfl rfl rfl rfl rfl rfl rfl ?_
            refine goS rfl rfl rfl rfl rfl rfl rfl ?_
            refine goS rfl rfl rfl rfl rfl rfl rfl ?_
            refine goS rfl rfl rfl rfl rfl rfl rfl ?_
            refine go1 (op_pick_t rfl rfl (.t (has rfl)) (.bool _)) rfl ?_
            refine goesO_nil ?_
            obtain rfl := Option.some.inj H
            exact ends_cut (.cons rfl (.cons rfl (.cons rfl (.cons rfl (.cons rfl (.cons rfl .nil))))))
          · skip
            refine goG (op_fieldAddr rfl Try.underlying26 rfl tk9 (.t (has rfl))) rfl rfl rfl rfl hb17 ?_
            refine goG (op_load rfl fldFile_Text tk9 (.t (has rfl)) (has rfl)) rfl rfl rfl rfl hb17 ?_
            refine goG (op_len_str rfl rfl Try.underlying9 (.t (has rfl))) rfl rfl rfl rfl hb17 ?_
            refine goG (op_icmp rfl rfl (.t (has rfl)) (.int _ _)) rfl rfl rfl rfl hb17 ?_
            refine go1 (op_pick_f rfl hb17 (.t (has rfl)) (.t (has rfl))) rfl ?_
            refine go1 (op_move rfl (.t (has rfl))) rfl ?_
            refine goesO_split H (fun hb18 H => ?_) (fun hb18 H => ?_)
            · skip
              refine goS rfl rfl rfl rfl rfl rfl hb18 ?_
              refine goS rfl rfl rfl rfl rfl rfl hb18 ?_
              refine goS rfl rfl rfl rfl rfl rfl hb18 ?_
              refine go1 (op_pick_t rfl hb18 (.t (has rfl)) (.bool _)) rfl ?_
              refine go1 (op_move rfl (.t (has rfl))) rfl ?_
              refine goS rfl rfl rfl rfl rfl rfl rfl ?_
              refine goS rfl rfl rfl rfl rfl rfl rfl ?_
              refine goS rfl rfl rfl rfl rfl rfl rfl ?_
              refine goS rfl rfl rfl rfl rfl rfl rfl ?_
              refine goS rfl rfl rfl rfl rfl rfl rfl ?_
              refine go1 (op_pick_t rfl rfl (.t (has rfl)) (.bool _)) rfl ?_
              refine goesO_nil ?_
              obtain rfl := Option.some.inj H
              exact ends_cut (.cons rfl (.cons rfl (.cons rfl (.cons rfl (.cons rfl (.cons rfl .nil))))))
            · skip
              refine goG (op_fieldAddr rfl Try.underlying26 rfl tk3 (.t (has rfl))) rfl rfl rfl rfl hb18 ?_
              refine goG (op_load rfl fldFile_Stamp tk3 (.t (has rfl)) (has rfl)) rfl rfl rfl rfl hb18 ?_
              refine goG (op_icmp rfl rfl (.t (has rfl)) (.int _ _)) rfl rfl rfl rfl hb18 ?_
              refine go1 (op_pick_f rfl hb18 (.t (has rfl)) (.t (has rfl))) rfl ?_
              refine go1 (op_move rfl (.t (has rfl))) rfl ?_
              refine goesO_split H (fun hb19 H => ?_) (fun hb19 H => ?_)
              · skip
                refine goS rfl rfl rfl rfl rfl rfl hb19 ?_
                refine goS rfl rfl rfl rfl rfl rfl hb19 ?_
                refine goS rfl rfl rfl rfl rfl rfl hb19 ?_
                refine goS rfl rfl rfl rfl rfl rfl hb19 ?_
                refine goS rfl rfl rfl rfl rfl rfl hb19 ?_
                refine go1 (op_pick_t rfl hb19 (.t (has rfl)) (.bool _)) rfl ?_
                refine goesO_nil ?_
                obtain rfl := Option.some.inj H
                exact ends_cut (.cons rfl (.cons rfl (.cons rfl (.cons rfl (.cons rfl (.cons rfl .nil))))))
              · skip
                refine goG (op_fieldAddr rfl Try.underlying26 rfl tk3 (.t (has rfl))) rfl rfl rfl rfl hb19 ?_
                refine goG (op_load rfl fldFile_Stamp tk3 (.t (has rfl)) (has rfl)) rfl rfl rfl rfl hb19 ?_
                refine goG (op_fieldAddr rfl Try.underlying24 rfl tk3 (.t (has rfl))) rfl rfl rfl rfl hb19 ?_
                refine goG (op_load rfl fldDisk_Clock tk3 (.t (has rfl)) (has rfl)) rfl rfl rfl rfl hb19 ?_
                refine goG (op_icmp rfl rfl (.t (has rfl)) (.t (has rfl))) rfl rfl rfl rfl hb19 ?_
                refine go1 (op_pick_f rfl hb19 (.t (has rfl)) (.t (has rfl))) rfl ?_
                refine goesO_nil ?_
                obtain rfl := Option.some.inj H
                exact ends_cut (.cons rfl (.cons rfl (.cons rfl (.cons rfl (.cons rfl (.cons rfl .nil))))))
        refine ends_then ?_
        refine goes_if (.t (has rfl)) H (fun hb20 H => ?_) (fun hb20 H => ?_)
        · skip
          refine goes_seq ?_
          refine goes_region ?_
          refine go1 (op_assign rfl (.int _ _)) rfl ?_
          refine goesO_nil ?_
          refine ends_then ?_
          obtain rfl := Option.some.inj H
          refine goes_ret (ends_then_ret (ends_block_ret (ends_then_ret (ends_then_ret (ends_block_ret (ends_cutR_ret rfl ?_))))))
          exact ends_ret' rfl rfl (.t rfl (.nil _))
        · skip
          refine goes_skip ?_
          refine ends_then ?_
          refine goes_seq ?_
          obtain ⟨s21, h22, H⟩ := bind_some H
          refine goes_cut [Ent.t 1 (VA.ptr 1 0), Ent.t 3 (VA.k (kint .i64) s6), Ent.t 66 (VA.k kbool s21), Ent.h 1 (HE.box 24 kDisk a0)] ?_ ?_
          · replace H := h22; clear h22
            refine goes_split H (fun hb23 H => ?_) (fun hb23 H => ?_)
            · skip
              obtain ⟨x24, h25, H⟩ := bind_some H
              refine goes_drawn [[Ent.t 53 (VA.k (kint .i64) s6)], [Ent.t 54 (VA.k kbool (icmp .gtr s6 (0 : Int)))], [Ent.t 55 (VA.k kbool (icmp .gtr s6 (0 : Int)))], [Ent.t 56 (VA.ptr 1 1)], [Ent.t 57 (VA.k (kslice kFile) a0.Files)], [Ent.t 58 (VA.k (kint .i64) s6)], [Ent.t 59 (VA.k (kint .i64) (IntKind.i64.wrap (s6 - (1 : Int))))], [Ent.t 60 (VA.pt kFile x24)], [Ent.t 61 (VA.pt kstr x24.Name)], [Ent.t 62 (VA.k kstr x24.Name)], [Ent.t 63 (VA.ptr 4 0)], [Ent.t 64 (VA.k kstr x11.Name)], [Ent.t 65 (VA.k kbool (scmp .geq x24.Name x11.Name))], [Ent.t 66 (VA.k kbool (scmp .geq x24.Name x11.Name))]] mixed (by kernel_rfl) (by kernel_rfl) (.cons [(none, Ent.t 3 (VA.k (kint .i64) s6))] (OpSpec.run rfl rfl (op_move rfl (.t NL.h0)) rfl) (.cons (has rfl) .nil) (by kernel_rfl) (.cons [(some 0, Ent.t 53 (VA.k (kint .i64) s6))] (OpSpec.run rfl rfl (op_icmp rfl rfl (.t NL.h0) (.int _ _)) rfl) (.cons (has rfl) .nil) (by kernel_rfl) (.cons [(some 1, Ent.t 54 (VA.k kbool (icmp .gtr s6 (0 : Int))))] (OpSpec.run rfl rfl (op_move rfl (.t NL.h0)) rfl) (.cons (has rfl) .nil) (by kernel_rfl) (.cons [(some 2, Ent.t 55 (VA.k kbool (icmp .gtr s6 (0 : Int)))), (none, Ent.t 1 (VA.ptr 1 0))] (OpSpec.runG rfl rfl rfl rfl NL.h0 hb23 (op_fieldAddr rfl Try.underlying24 rfl tk22 (.t (NL.hs NL.h0))) rfl) (.cons (has rfl) (.cons (has rfl) .nil)) (by kernel_rfl) (.cons [(some 2, Ent.t 55 (VA.k kbool (icmp .gtr s6 (0 : Int)))), (some 3, Ent.t 56 (VA.ptr 1 1)), (none, Ent.h 1 (HE.box 24 kDisk a0))] (OpSpec.runG rfl rfl rfl rfl NL.h0 hb23 (op_load rfl fldDisk_Files tk22 (.t (NL.hs NL.h0)) (NL.hs (NL.hs NL.h0))) rfl) (.cons (has rfl) (.cons (has rfl) (.cons (has rfl) .nil))) (by kernel_rfl) (.cons [(some 2, Ent.t 55 (VA.k kbool (icmp .gtr s6 (0 : Int)))), (none, Ent.t 3 (VA.k (kint .i64) s6))] (OpSpec.runG rfl rfl rfl rfl NL.h0 hb23 (op_move rfl (.t (NL.hs NL.h0))) rfl) (.cons (has rfl) (.cons (has rfl) .nil)) (by kernel_rfl) (.cons [(some 2, Ent.t 55 (VA.k kbool (icmp .gtr s6 (0 : Int)))), (some 5, Ent.t 58 (VA.k (kint .i64) s6))] (OpSpec.runG rfl rfl rfl rfl NL.h0 hb23 (op_sub rfl (.t (NL.hs NL.h0)) (.int _ _)) rfl) (.cons (has rfl) (.cons (has rfl) .nil)) (by kernel_rfl) (.cons [(some 2, Ent.t 55 (VA.k kbool (icmp .gtr s6 (0 : Int)))), (some 4, Ent.t 57 (VA.k (kslice kFile) a0.Files)), (some 6, Ent.t 59 (VA.k (kint .i64) (IntKind.i64.wrap (s6 - (1 : Int)))))] (OpSpec.runG rfl rfl rfl rfl NL.h0 hb23 (op_indexAddr rfl Try.underlying22 tk26 h25 (.t (NL.hs NL.h0)) (.t (NL.hs (NL.hs NL.h0)))) rfl) (.cons (has rfl) (.cons (has rfl) (.cons (has rfl) .nil))) (by kernel_rfl) (.cons [(some 2, Ent.t 55 (VA.k kbool (icmp .gtr s6 (0 : Int)))), (some 7, Ent.t 60 (VA.pt kFile x24))] (OpSpec.runG rfl rfl rfl rfl NL.h0 hb23 (op_fieldAddrp rfl fldFile_Name Try.underlying26 rfl tk9 (.t (NL.hs NL.h0))) rfl) (.cons (has rfl) (.cons (has rfl) .nil)) (by kernel_rfl) (.cons [(some 2, Ent.t 55 (VA.k kbool (icmp .gtr s6 (0 : Int)))), (some 8, Ent.t 61 (VA.pt kstr x24.Name))] (OpSpec.runG rfl rfl rfl rfl NL.h0 hb23 (op_loadp rfl tk9 (.t (NL.hs NL.h0))) rfl) (.cons (has rfl) (.cons (has rfl) .nil)) (by kernel_rfl) (.cons [(some 2, Ent.t 55 (VA.k kbool (icmp .gtr s6 (0 : Int)))), (none, Ent.t 4 (VA.ptr 4 0))] (OpSpec.runG rfl rfl rfl rfl NL.h0 hb23 (op_fieldAddr rfl Try.underlying26 rfl tk9 (.t (NL.hs NL.h0))) rfl) (.cons (has rfl) (.cons (has rfl) .nil)) (by kernel_rfl) (.cons [(some 2, Ent.t 55 (VA.k kbool (icmp .gtr s6 (0 : Int)))), (some 10, Ent.t 63 (VA.ptr 4 0)), (none, Ent.h 4 (HE.box 26 kFile x11))] (OpSpec.runG rfl rfl rfl rfl NL.h0 hb23 (op_load rfl fldFile_Name tk9 (.t (NL.hs NL.h0)) (NL.hs (NL.hs NL.h0))) rfl) (.cons (has rfl) (.cons (has rfl) (.cons (has rfl) .nil))) (by kernel_rfl) (.cons [(some 2, Ent.t 55 (VA.k kbool (icmp .gtr s6 (0 : Int)))), (some 9, Ent.t 62 (VA.k kstr x24.Name)), (some 11, Ent.t 64 (VA.k kstr x11.Name))] (OpSpec.runG rfl rfl rfl rfl NL.h0 hb23 (op_scmp rfl rfl (.t (NL.hs NL.h0)) (.t (NL.hs (NL.hs NL.h0)))) rfl) (.cons (has rfl) (.cons (has rfl) (.cons (has rfl) .nil))) (by kernel_rfl) (.cons [(some 2, Ent.t 55 (VA.k kbool (icmp .gtr s6 (0 : Int)))), (some 12, Ent.t 65 (VA.k kbool (scmp .geq x24.Name x11.Name)))] (OpSpec.run rfl rfl (op_pick_t rfl hb23 (.t NL.h0) (.t (NL.hs NL.h0))) rfl) (.cons (has rfl) (.cons (has rfl) .nil)) (by kernel_rfl) (.nil _))))))))))))))) ?_
              refine ends_sub [Ent.t 1 (VA.ptr 1 0), Ent.t 3 (VA.k (kint .i64) s6), Ent.t 56 (VA.ptr 1 1), Ent.t 57 (VA.k (kslice kFile) a0.Files), Ent.t 58 (VA.k (kint .i64) s6), Ent.t 59 (VA.k (kint .i64) (IntKind.i64.wrap (s6 - (1 : Int)))), Ent.t 60 (VA.pt kFile x24), Ent.t 61 (VA.pt kstr x24.Name), Ent.t 62 (VA.k kstr x24.Name), Ent.t 63 (VA.ptr 4 0), Ent.t 64 (VA.k kstr x11.Name), Ent.t 65 (VA.k kbool (scmp .geq x24.Name x11.Name)), Ent.t 66 (VA.k kbool (scmp .geq x24.Name x11.Name)), Ent.h 1 (HE.box 24 kDisk a0), Ent.h 4 (HE.box 26 kFile x11)] (.cons rfl (.cons rfl (.cons rfl (.cons rfl (.cons rfl (.cons rfl (.cons rfl (.cons rfl (.cons rfl (.cons rfl (.cons rfl (.cons rfl (.cons rfl (.cons rfl (.cons rfl .nil))))))))))))))) ?_
              obtain rfl := Option.some.inj H
              exact ends_cut (.cons rfl (.cons rfl (.cons rfl (.cons rfl .nil))))
            · skip
              refine goes_drawn [[Ent.t 53 (VA.k (kint .i64) s6)], [Ent.t 54 (VA.k kbool (icmp .gtr s6 (0 : Int)))], [Ent.t 55 (VA.k kbool (icmp .gtr s6 (0 : Int)))], [Ent.t 56 (VA.v undef)], [Ent.t 57 (VA.v undef)], [Ent.t 58 (VA.v undef)], [Ent.t 59 (VA.v undef)], [Ent.t 60 (VA.v undef)], [Ent.t 61 (VA.v undef)], [Ent.t 62 (VA.v undef)], [Ent.t 63 (VA.v undef)], [Ent.t 64 (VA.v undef)], [Ent.t 65 (VA.v undef)], [Ent.t 66 (VA.k kbool false)]] mixed (by kernel_rfl) (by kernel_rfl) (.cons [(none, Ent.t 3 (VA.k (kint .i64) s6))] (OpSpec.run rfl rfl (op_move rfl (.t NL.h0)) rfl) (.cons (has rfl) .nil) (by kernel_rfl) (.cons [(some 0, Ent.t 53 (VA.k (kint .i64) s6))] (OpSpec.run rfl rfl (op_icmp rfl rfl (.t NL.h0) (.int _ _)) rfl) (.cons (has rfl) .nil) (by kernel_rfl) (.cons [(some 1, Ent.t 54 (VA.k kbool (icmp .gtr s6 (0 : Int))))] (OpSpec.run rfl rfl (op_move rfl (.t NL.h0)) rfl) (.cons (has rfl) .nil) (by kernel_rfl) (.cons [(some 2, Ent.t 55 (VA.k kbool (icmp .gtr s6 (0 : Int))))] (run_skip rfl rfl rfl rfl rfl rfl NL.h0 hb23) (.cons (has rfl) .nil) (by kernel_rfl) (.cons [(some 2, Ent.t 55 (VA.k kbool (icmp .gtr s6 (0 : Int))))] (run_skip rfl rfl rfl rfl rfl rfl NL.h0 hb23) (.cons (has rfl) .nil) (by kernel_rfl) (.cons [(some 2, Ent.t 55 (VA.k kbool (icmp .gtr s6 (0 : Int))))] (run_skip rfl rfl rfl rfl rfl rfl NL.h0 hb23) (.cons (has rfl) .nil) (by kernel_rfl) (.cons [(some 2, Ent.t 55 (VA.k kbool (icmp .gtr s6 (0 : Int))))] (run_skip rfl rfl rfl rfl rfl rfl NL.h0 hb23) (.cons (has rfl) .nil) (by kernel_rfl) (.cons [(some 2, Ent.t 55 (VA.k kbool (icmp .gtr s6 (0 : Int))))] (run_skip rfl rfl rfl rfl rfl rfl NL.h0 hb23) (.cons (has rfl) .nil) (by kernel_rfl) (.cons [(some 2, Ent.t 55 (VA.k kbool (icmp .gtr s6 (0 : Int))))] (run_skip rfl rfl rfl rfl rfl rfl NL.h0 hb23) (.cons (has rfl) .nil) (by kernel_rfl) (.cons [(some 2, Ent.t 55 (VA.k kbool (icmp .gtr s6 (0 : Int))))] (run_skip rfl rfl rfl rfl rfl rfl NL.h0 hb23) (.cons (has rfl) .nil) (by kernel_rfl) (.cons [(some 2, Ent.t 55 (VA.k kbool (icmp .gtr s6 (0 : Int))))] (run_skip rfl rfl rfl rfl rfl rfl NL.h0 hb23) (.cons (has rfl) .nil) (by kernel_rfl) (.cons [(some 2, Ent.t 55 (VA.k kbool (icmp .gtr s6 (0 : Int))))] (run_skip rfl rfl rfl rfl rfl rfl NL.h0 hb23) (.cons (has rfl) .nil) (by kernel_rfl) (.cons [(some 2, Ent.t 55 (VA.k kbool (icmp .gtr s6 (0 : Int))))] (run_skip rfl rfl rfl rfl rfl rfl NL.h0 hb23) (.cons (has rfl) .nil) (by kernel_rfl) (.cons [(some 2, Ent.t 55 (VA.k kbool (icmp .gtr s6 (0 : Int))))] (OpSpec.run rfl rfl (op_pick_f rfl hb23 (.t NL.h0) (.bool _)) rfl) (.cons (has rfl) .nil) (by kernel_rfl) (.nil _))))))))))))))) ?_
              refine ends_sub [Ent.t 1 (VA.ptr 1 0), Ent.t 3 (VA.k (kint .i64) s6), Ent.t 66 (VA.k kbool false), Ent.h 1 (HE.box 24 kDisk a0)] (.cons rfl (.cons rfl (.cons rfl (.cons rfl .nil)))) ?_
              obtain rfl := Option.some.inj H
              exact ends_cut (.cons rfl (.cons rfl (.cons rfl (.cons rfl .nil))))
          refine ends_then ?_
          refine goes_if (.t (has rfl)) H (fun hb26 H => ?_) (fun hb26 H => ?_)
          · skip
            refine goes_seq ?_
            refine goes_region ?_
            refine go1 (op_assign rfl (.int _ _)) rfl ?_
            refine goesO_nil ?_
            refine ends_then ?_
            obtain rfl := Option.some.inj H
            refine goes_ret (ends_block_ret (ends_then_ret (ends_then_ret (ends_block_ret (ends_cutR_ret rfl ?_)))))
            exact ends_ret' rfl rfl (.t rfl (.nil _))
          · skip
            refine goes_skip ?_
            refine ends_block ?_
            refine ends_then ?_
            refine goes_region ?_
            refine go1 (op_move rfl (.t (has rfl))) rfl ?_
            refine go1 (op_add rfl (.t (has rfl)) (.int _ _)) rfl ?_
            refine go1 (op_assign rfl (.t (has rfl))) rfl ?_
            refine goesO_nil ?_
            exact loop_next _ H (.cons rfl (.cons rfl (.cons rfl .nil)))
      · skip
        refine goes_exit (ends_then_exit (ends_then_exit (ends_block_exit ?_)))
        obtain rfl := Option.some.inj H
        exact ends_cutR rfl .nil
    · rintro s7 rfl
      clear h8
      dsimp only at H
      refine ends_then ?_
      refine goes_seq ?_
      refine goes_region ?_
      refine go1 (op_assign rfl (.int _ _)) rfl ?_
      refine goesO_nil ?_
      refine ends_then ?_
      obtain rfl := Option.some.inj H
      exact goes_ret (ends_ret' rfl rfl (.t rfl (.nil _)))
    · rintro r' rfl a w hr
      obtain rfl := Option.some.inj H
      exact hr
theorem smithyref02_Check.conF (k : Nat) (a0 : Disk) (r : Int) (H : smithyref02_Check.f k a0 = some r) : ConF Try.prog 15 [VA.k kDisk a0] [VA.k (kint .i64) r] := (smithyref02_Check.con k a0 r H).freeL (.cons (KFree.k (KFree.int .i64) _) .nil)
end Go.Proofs.Ytaeapobjhgakiaa.F
