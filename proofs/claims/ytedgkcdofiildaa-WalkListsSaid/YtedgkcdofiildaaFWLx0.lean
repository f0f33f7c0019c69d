import Derived.Test.YtedgkcdofiildaaTWL
set_option linter.unusedVariables false
set_option linter.unusedSimpArgs false
set_option linter.unnecessarySimpa false
set_option linter.deprecated false
namespace Go.Proofs.Ytedgkcdofiildaa.F
open Go Go.RowKit Go.Proofs.Ytedgkcdofiildaa.Sl
/-! strings.IndexByte -/
def strings_IndexByte.f (a0 : ByteArray) (a1 : Int) : Option Int := some (Lib.indexByte a0.data.toList a1.toNat.toUInt8)
theorem strings_IndexByte.con (a0 : ByteArray) (a1 : Int) (r : Int) (H : strings_IndexByte.f a0 a1 = some r) : Con Try.prog 68 [VA.k kstr a0, VA.k (kint .u8) a1] [VA.k (kint .i64) r] := by
  obtain rfl := Option.some.inj H
  refine con_plain fun θ S w vs h => ?_
  match vs, h with
  | [v0, v1], h =>
    obtain ⟨h0, h1, _⟩ := h
    obtain rfl := arg_str h0
    obtain rfl := arg_int h1
    exact ⟨_, Try.strings_IndexByte a0 a1 w, va_int _ _⟩
theorem strings_IndexByte.conF (a0 : ByteArray) (a1 : Int) (r : Int) (H : strings_IndexByte.f a0 a1 = some r) : ConF Try.prog 68 [VA.k kstr a0, VA.k (kint .u8) a1] [VA.k (kint .i64) r] := (strings_IndexByte.con a0 a1 r H).freeL (.cons (KFree.k (KFree.int .i64) _) .nil)
/-! smithy/names.letter -/
def names_letter.f (a0 : Int) : Option Bool := (bif icmp .geq a0 (97 : Int) then (bif icmp .leq a0 (122 : Int) then (some true) else (bif icmp .geq a0 (65 : Int) then (bif icmp .leq a0 (90 : Int) then (some true) else (bif icmp .geq a0 (48 : Int) then (bif icmp .leq a0 (57 : Int) then (some true) else ((strings_IndexByte.f (⟨#[95, 45, 46, 47, 43]⟩ : ByteArray) a0).bind fun v9 => some (icmp .geq v9 (0 : Int)))) else ((strings_IndexByte.f (⟨#[95, 45, 46, 47, 43]⟩ : ByteArray) a0).bind fun v11 => some (icmp .geq v11 (0 : Int))))) else (bif icmp .geq a0 (48 : Int) then (bif icmp .leq a0 (57 : Int) then (some true) else ((strings_IndexByte.f (⟨#[95, 45, 46, 47, 43]⟩ : ByteArray) a0).bind fun v15 => some (icmp .geq v15 (0 : Int)))) else ((strings_IndexByte.f (⟨#[95, 45, 46, 47, 43]⟩ : ByteArray) a0).bind fun v17 => some (icmp .geq v17 (0 : Int)))))) else (bif icmp .geq a0 (65 : Int) then (bif icmp .leq a0 (90 : Int) then (some true) else (bif icmp .geq a0 (48 : Int) then (bif icmp .leq a0 (57 : Int) then (some true) else ((strings_IndexByte.f (⟨#[95, 45, 46, 47, 43]⟩ : ByteArray) a0).bind fun v23 => some (icmp .geq v23 (0 : Int)))) else ((strings_IndexByte.f (⟨#[95, 45, 46, 47, 43]⟩ : ByteArray) a0).bind fun v25 => some (icmp .geq v25 (0 : Int))))) else (bif icmp .geq a0 (48 : Int) then (bif icmp .leq a0 (57 : Int) then (some true) else ((strings_IndexByte.f (⟨#[95, 45, 46, 47, 43]⟩ : ByteArray) a0).bind fun v29 => some (icmp .geq v29 (0 : Int)))) else ((strings_IndexByte.f (⟨#[95, 45, 46, 47, 43]⟩ : ByteArray) a0).bind fun v31 => some (icmp .geq v31 (0 : Int)))))).bind fun s1 => some s1
set_option maxRecDepth 100000 in
set_option maxHeartbeats 4000000 in
theorem names_letter.con (a0 : Int) (r : Bool) (H : names_letter.f a0 = some r) : Con Try.prog 64 [VA.k (kint .u8) a0] [VA.k kbool r] := by
  unfold names_letter.f at H
  refine con_enter Try.func64 rfl rfl rfl (fun w0 S0 θ => ?_)
  refine goes_seq ?_
  refine goes_region ?_
  refine go1 (op_assign rfl (.bool _)) rfl ?_
  refine goesO_nil ?_
  refine ends_then ?_
  refine goes_seq ?_
  obtain ⟨s1, h2, H⟩ := bind_some H
  refine goes_cut [Ent.t 2 (VA.k kbool s1)] ?_ ?_
  · replace H := h2; clear h2
    refine goes_region ?_
    refine go1 (op_move rfl (.t (has rfl))) rfl ?_
    refine go1 (op_icmp rfl rfl (.t (has rfl)) (.int _ _)) rfl ?_
    refine go1 (op_move rfl (.t (has rfl))) rfl ?_
    refine goesO_split H (fun hb3 H => ?_) (fun hb3 H => ?_)
    · skip
      refine goG (op_move rfl (.t (has rfl))) rfl rfl rfl rfl hb3 ?_
      refine goG (op_icmp rfl rfl (.t (has rfl)) (.int _ _)) rfl rfl rfl rfl hb3 ?_
      refine go1 (op_pick_t rfl hb3 (.t (has rfl)) (.t (has rfl))) rfl ?_
      refine go1 (op_move rfl (.t (has rfl))) rfl ?_
      refine goesO_split H (fun hb4 H => ?_) (fun hb4 H => ?_)
      · skip
        refine goS rfl rfl rfl rfl rfl rfl hb4 ?_
        refine goS rfl rfl rfl rfl rfl rfl hb4 ?_
        refine goS rfl rfl rfl rfl rfl rfl hb4 ?_
        refine goSU rfl rfl rfl rfl rfl rfl ?_
        refine goSU rfl rfl rfl rfl rfl rfl ?_
        refine goS rfl rfl rfl rfl rfl rfl hb4 ?_
        refine go1 (op_pick_t rfl hb4 (.t (has rfl)) (.bool _)) rfl ?_
        refine go1 (op_move rfl (.t (has rfl))) rfl ?_
        refine goS rfl rfl rfl rfl rfl rfl rfl ?_
        refine goS rfl rfl rfl rfl rfl rfl rfl ?_
        refine goS rfl rfl rfl rfl rfl rfl rfl ?_
        refine goSU rfl rfl rfl rfl rfl rfl ?_
        refine goSU rfl rfl rfl rfl rfl rfl ?_
        refine goS rfl rfl rfl rfl rfl rfl rfl ?_
        refine go1 (op_pick_t rfl rfl (.t (has rfl)) (.bool _)) rfl ?_
        refine go1 (op_move rfl (.t (has rfl))) rfl ?_
        refine goS rfl rfl rfl rfl rfl rfl rfl ?_
        refine goS rfl rfl rfl rfl rfl rfl rfl ?_
        refine goS rfl rfl rfl rfl rfl rfl rfl ?_
        refine go1 (op_pick_t rfl rfl (.t (has rfl)) (.bool _)) rfl ?_
        refine go1 (op_assign rfl (.t (has rfl))) rfl ?_
        refine goesO_nil ?_
        obtain rfl := Option.some.inj H
        exact ends_cut (.cons rfl .nil)
      · skip
        refine goG (op_move rfl (.t (has rfl))) rfl rfl rfl rfl hb4 ?_
        refine goG (op_icmp rfl rfl (.t (has rfl)) (.int _ _)) rfl rfl rfl rfl hb4 ?_
        refine goG (op_move rfl (.t (has rfl))) rfl rfl rfl rfl hb4 ?_
        refine goesO_split H (fun hb5 H => ?_) (fun hb5 H => ?_)
        · skip
          refine goG (op_move rfl (.t (has rfl))) rfl rfl rfl rfl hb5 ?_
          refine goG (op_icmp rfl rfl (.t (has rfl)) (.int _ _)) rfl rfl rfl rfl hb5 ?_
          refine goG (op_pick_t rfl hb5 (.t (has rfl)) (.t (has rfl))) rfl rfl rfl rfl hb4 ?_
          refine go1 (op_pick_f rfl hb4 (.t (has rfl)) (.t (has rfl))) rfl ?_
          refine go1 (op_move rfl (.t (has rfl))) rfl ?_
          refine goesO_split H (fun hb6 H => ?_) (fun hb6 H => ?_)
          · skip
            refine goS rfl rfl rfl rfl rfl rfl hb6 ?_
            refine goS rfl rfl rfl rfl rfl rfl hb6 ?_
            refine goS rfl rfl rfl rfl rfl rfl hb6 ?_
            refine goSU rfl rfl rfl rfl rfl rfl ?_
            refine goSU rfl rfl rfl rfl rfl rfl ?_
            refine goS rfl rfl rfl rfl rfl rfl hb6 ?_
            refine go1 (op_pick_t rfl hb6 (.t (has rfl)) (.bool _)) rfl ?_
            refine go1 (op_move rfl (.t (has rfl))) rfl ?_
            refine goS rfl rfl rfl rfl rfl rfl rfl ?_
            refine goS rfl rfl rfl rfl rfl rfl rfl ?_
            refine goS rfl rfl rfl rfl rfl rfl rfl ?_
            refine go1 (op_pick_t rfl rfl (.t (has rfl)) (.bool _)) rfl ?_
            refine go1 (op_assign rfl (.t (has rfl))) rfl ?_
            refine goesO_nil ?_
            obtain rfl := Option.some.inj H
            exact ends_cut (.cons rfl .nil)
          · skip
            refine goG (op_move rfl (.t (has rfl))) rfl rfl rfl rfl hb6 ?_
            refine goG (op_icmp rfl rfl (.t (has rfl)) (.int _ _)) rfl rfl rfl rfl hb6 ?_
            refine goG (op_move rfl (.t (has rfl))) rfl rfl rfl rfl hb6 ?_
            refine goesO_split H (fun hb7 H => ?_) (fun hb7 H => ?_)
            · skip
              refine goG (op_move rfl (.t (has rfl))) rfl rfl rfl rfl hb7 ?_
              refine goG (op_icmp rfl rfl (.t (has rfl)) (.int _ _)) rfl rfl rfl rfl hb7 ?_
              refine goG (op_pick_t rfl hb7 (.t (has rfl)) (.t (has rfl))) rfl rfl rfl rfl hb6 ?_
              refine go1 (op_pick_f rfl hb6 (.t (has rfl)) (.t (has rfl))) rfl ?_
              refine go1 (op_move rfl (.t (has rfl))) rfl ?_
              refine goesO_split H (fun hb8 H => ?_) (fun hb8 H => ?_)
              · skip
                refine goS rfl rfl rfl rfl rfl rfl hb8 ?_
                refine goS rfl rfl rfl rfl rfl rfl hb8 ?_
                refine goS rfl rfl rfl rfl rfl rfl hb8 ?_
                refine go1 (op_pick_t rfl hb8 (.t (has rfl)) (.bool _)) rfl ?_
                refine go1 (op_assign rfl (.t (has rfl))) rfl ?_
                refine goesO_nil ?_
                obtain rfl := Option.some.inj H
                exact ends_cut (.cons rfl .nil)
              · skip
                refine goG (op_move rfl (.t (has rfl))) rfl rfl rfl rfl hb8 ?_
                obtain ⟨v9, h10, H⟩ := bind_some H
                refine goG (op_call' rfl enters68 (strings_IndexByte.con _ _ _ h10) rfl (.cons (ArgP.k (.str _)) (.cons (ArgP.k (.t (has rfl))) .nil))) rfl rfl rfl rfl hb8 ?_
                refine goG (op_icmp rfl rfl (.t (has rfl)) (.int _ _)) rfl rfl rfl rfl hb8 ?_
                refine go1 (op_pick_f rfl hb8 (.t (has rfl)) (.t (has rfl))) rfl ?_
                refine go1 (op_assign rfl (.t (has rfl))) rfl ?_
                refine goesO_nil ?_
                obtain rfl := Option.some.inj H
                exact ends_cut (.cons rfl .nil)
            · skip
              refine goS rfl rfl rfl rfl rfl rfl hb7 ?_
              refine goS rfl rfl rfl rfl rfl rfl hb7 ?_
              refine goG (op_pick_f rfl hb7 (.t (has rfl)) (.bool _)) rfl rfl rfl rfl hb6 ?_
              refine go1 (op_pick_f rfl hb6 (.t (has rfl)) (.t (has rfl))) rfl ?_
              refine go1 (op_move rfl (.t (has rfl))) rfl ?_
              refine goG (op_move rfl (.t (has rfl))) rfl rfl rfl rfl rfl ?_
              obtain ⟨v11, h12, H⟩ := bind_some H
              refine goG (op_call' rfl enters68 (strings_IndexByte.con _ _ _ h12) rfl (.cons (ArgP.k (.str _)) (.cons (ArgP.k (.t (has rfl))) .nil))) rfl rfl rfl rfl rfl ?_
              refine goG (op_icmp rfl rfl (.t (has rfl)) (.int _ _)) rfl rfl rfl rfl rfl ?_
              refine go1 (op_pick_f rfl rfl (.t (has rfl)) (.t (has rfl))) rfl ?_
              refine go1 (op_assign rfl (.t (has rfl))) rfl ?_
              refine goesO_nil ?_
              obtain rfl := Option.some.inj H
              exact ends_cut (.cons rfl .nil)
        · skip
          refine goS rfl rfl rfl rfl rfl rfl hb5 ?_
          refine goS rfl rfl rfl rfl rfl rfl hb5 ?_
          refine goG (op_pick_f rfl hb5 (.t (has rfl)) (.bool _)) rfl rfl rfl rfl hb4 ?_
          refine go1 (op_pick_f rfl hb4 (.t (has rfl)) (.t (has rfl))) rfl ?_
          refine go1 (op_move rfl (.t (has rfl))) rfl ?_
          refine goG (op_move rfl (.t (has rfl))) rfl rfl rfl rfl rfl ?_
          refine goG (op_icmp rfl rfl (.t (has rfl)) (.int _ _)) rfl rfl rfl rfl rfl ?_
          refine goG (op_move rfl (.t (has rfl))) rfl rfl rfl rfl rfl ?_
          refine goesO_split H (fun hb13 H => ?_) (fun hb13 H => ?_)
          · skip
            refine goG (op_move rfl (.t (has rfl))) rfl rfl rfl rfl hb13 ?_
            refine goG (op_icmp rfl rfl (.t (has rfl)) (.int _ _)) rfl rfl rfl rfl hb13 ?_
            refine goG (op_pick_t rfl hb13 (.t (has rfl)) (.t (has rfl))) rfl rfl rfl rfl rfl ?_
            refine go1 (op_pick_f rfl rfl (.t (has rfl)) (.t (has rfl))) rfl ?_
            refine go1 (op_move rfl (.t (has rfl))) rfl ?_
            refine goesO_split H (fun hb14 H => ?_) (fun hb14 H => ?_)
            · skip
              refine goS rfl rfl rfl rfl rfl rfl hb14 ?_
              refine goS rfl rfl rfl rfl rfl rfl hb14 ?_
              refine goS rfl rfl rfl rfl rfl rfl hb14 ?_
              refine go1 (op_pick_t rfl hb14 (.t (has rfl)) (.bool _)) rfl ?_
              refine go1 (op_assign rfl (.t (has rfl))) rfl ?_
              refine goesO_nil ?_
              obtain rfl := Option.some.inj H
              exact ends_cut (.cons rfl .nil)
            · skip
              refine goG (op_move rfl (.t (has rfl))) rfl rfl rfl rfl hb14 ?_
              obtain ⟨v15, h16, H⟩ := bind_some H
              refine goG (op_call' rfl enters68 (strings_IndexByte.con _ _ _ h16) rfl (.cons (ArgP.k (.str _)) (.cons (ArgP.k (.t (has rfl))) .nil))) rfl rfl rfl rfl hb14 ?_
              refine goG (op_icmp rfl rfl (.t (has rfl)) (.int _ _)) rfl rfl rfl rfl hb14 ?_
              refine go1 (op_pick_f rfl hb14 (.t (has rfl)) (.t (has rfl))) rfl ?_
              refine go1 (op_assign rfl (.t (has rfl))) rfl ?_
              refine goesO_nil ?_
              obtain rfl := Option.some.inj H
              exact ends_cut (.cons rfl .nil)
          · skip
            refine goS rfl rfl rfl rfl rfl rfl hb13 ?_
            refine goS rfl rfl rfl rfl rfl rfl hb13 ?_
            refine goG (op_pick_f rfl hb13 (.t (has rfl)) (.bool _)) rfl rfl rfl rfl rfl ?_
            refine go1 (op_pick_f rfl rfl (.t (has rfl)) (.t (has rfl))) rfl ?_
            refine go1 (op_move rfl (.t (has rfl))) rfl ?_
            refine goG (op_move rfl (.t (has rfl))) rfl rfl rfl rfl rfl ?_
            obtain ⟨v17, h18, H⟩ := bind_some H
            refine goG (op_call' rfl enters68 (strings_IndexByte.con _ _ _ h18) rfl (.cons (ArgP.k (.str _)) (.cons (ArgP.k (.t (has rfl))) .nil))) rfl rfl rfl rfl rfl ?_
            refine goG (op_icmp rfl rfl (.t (has rfl)) (.int _ _)) rfl rfl rfl rfl rfl ?_
            refine go1 (op_pick_f rfl rfl (.t (has rfl)) (.t (has rfl))) rfl ?_
            refine go1 (op_assign rfl (.t (has rfl))) rfl ?_
            refine goesO_nil ?_
            obtain rfl := Option.some.inj H
            exact ends_cut (.cons rfl .nil)
    · skip
      refine goS rfl rfl rfl rfl rfl rfl hb3 ?_
      refine goS rfl rfl rfl rfl rfl rfl hb3 ?_
      refine go1 (op_pick_f rfl hb3 (.t (has rfl)) (.bool _)) rfl ?_
      refine go1 (op_move rfl (.t (has rfl))) rfl ?_
      refine goG (op_move rfl (.t (has rfl))) rfl rfl rfl rfl rfl ?_
      refine goG (op_icmp rfl rfl (.t (has rfl)) (.int _ _)) rfl rfl rfl rfl rfl ?_
      refine goG (op_move rfl (.t (has rfl))) rfl rfl rfl rfl rfl ?_
      refine goesO_split H (fun hb19 H => ?_) (fun hb19 H => ?_)
      · skip
        refine goG (op_move rfl (.t (has rfl))) rfl rfl rfl rfl hb19 ?_
        refine goG (op_icmp rfl rfl (.t (has rfl)) (.int _ _)) rfl rfl rfl rfl hb19 ?_
        refine goG (op_pick_t rfl hb19 (.t (has rfl)) (.t (has rfl))) rfl rfl rfl rfl rfl ?_
        refine go1 (op_pick_f rfl rfl (.t (has rfl)) (.t (has rfl))) rfl ?_
        refine go1 (op_move rfl (.t (has rfl))) rfl ?_
        refine goesO_split H (fun hb20 H => ?_) (fun hb20 H => ?_)
        · skip
          refine goS rfl rfl rfl rfl rfl rfl hb20 ?_
          refine goS rfl rfl rfl rfl rfl rfl hb20 ?_
          refine goS rfl rfl rfl rfl rfl rfl hb20 ?_
          refine goSU rfl rfl rfl rfl rfl rfl ?_
          refine goSU rfl rfl rfl rfl rfl rfl ?_
          refine goS rfl rfl rfl rfl rfl rfl hb20 ?_
          refine go1 (op_pick_t rfl hb20 (.t (has rfl)) (.bool _)) rfl ?_
          refine go1 (op_move rfl (.t (has rfl))) rfl ?_
          refine goS rfl rfl rfl rfl rfl rfl rfl ?_
          refine goS rfl rfl rfl rfl rfl rfl rfl ?_
          refine goS rfl rfl rfl rfl rfl rfl rfl ?_
          refine go1 (op_pick_t rfl rfl (.t (has rfl)) (.bool _)) rfl ?_
          refine go1 (op_assign rfl (.t (has rfl))) rfl ?_
          refine goesO_nil ?_
          obtain rfl := Option.some.inj H
          exact ends_cut (.cons rfl .nil)
        · skip
          refine goG (op_move rfl (.t (has rfl))) rfl rfl rfl rfl hb20 ?_
          refine goG (op_icmp rfl rfl (.t (has rfl)) (.int _ _)) rfl rfl rfl rfl hb20 ?_
          refine goG (op_move rfl (.t (has rfl))) rfl rfl rfl rfl hb20 ?_
          refine goesO_split H (fun hb21 H => ?_) (fun hb21 H => ?_)
          · skip
            refine goG (op_move rfl (.t (has rfl))) rfl rfl rfl rfl hb21 ?_
            refine goG (op_icmp rfl rfl (.t (has rfl)) (.int _ _)) rfl rfl rfl rfl hb21 ?_
            refine goG (op_pick_t rfl hb21 (.t (has rfl)) (.t (has rfl))) rfl rfl rfl rfl hb20 ?_
            refine go1 (op_pick_f rfl hb20 (.t (has rfl)) (.t (has rfl))) rfl ?_
            refine go1 (op_move rfl (.t (has rfl))) rfl ?_
            refine goesO_split H (fun hb22 H => ?_) (fun hb22 H => ?_)
            · skip
              refine goS rfl rfl rfl rfl rfl rfl hb22 ?_
              refine goS rfl rfl rfl rfl rfl rfl hb22 ?_
              refine goS rfl rfl rfl rfl rfl rfl hb22 ?_
              refine go1 (op_pick_t rfl hb22 (.t (has rfl)) (.bool _)) rfl ?_
              refine go1 (op_assign rfl (.t (has rfl))) rfl ?_
              refine goesO_nil ?_
              obtain rfl := Option.some.inj H
              exact ends_cut (.cons rfl .nil)
            · skip
              refine goG (op_move rfl (.t (has rfl))) rfl rfl rfl rfl hb22 ?_
              obtain ⟨v23, h24, H⟩ := bind_some H
              refine goG (op_call' rfl enters68 (strings_IndexByte.con _ _ _ h24) rfl (.cons (ArgP.k (.str _)) (.cons (ArgP.k (.t (has rfl))) .nil))) rfl rfl rfl rfl hb22 ?_
              refine goG (op_icmp rfl rfl (.t (has rfl)) (.int _ _)) rfl rfl rfl rfl hb22 ?_
              refine go1 (op_pick_f rfl hb22 (.t (has rfl)) (.t (has rfl))) rfl ?_
              refine go1 (op_assign rfl (.t (has rfl))) rfl ?_
              refine goesO_nil ?_
              obtain rfl := Option.some.inj H
              exact ends_cut (.cons rfl .nil)
          · skip
            refine goS rfl rfl rfl rfl rfl rfl hb21 ?_
            refine goS rfl rfl rfl rfl rfl rfl hb21 ?_
            refine goG (op_pick_f rfl hb21 (.t (has rfl)) (.bool _)) rfl rfl rfl rfl hb20 ?_
            refine go1 (op_pick_f rfl hb20 (.t (has rfl)) (.t (has rfl))) rfl ?_
            refine go1 (op_move rfl (.t (has rfl))) rfl ?_
            refine goG (op_move rfl (.t (has rfl))) rfl rfl rfl rfl rfl ?_
            obtain ⟨v25, h26, H⟩ := bind_some H
            refine goG (op_call' rfl enters68 (strings_IndexByte.con _ _ _ h26) rfl (.cons (ArgP.k (.str _)) (.cons (ArgP.k (.t (has rfl))) .nil))) rfl rfl rfl rfl rfl ?_
            refine goG (op_icmp rfl rfl (.t (has rfl)) (.int _ _)) rfl rfl rfl rfl rfl ?_
            refine go1 (op_pick_f rfl rfl (.t (has rfl)) (.t (has rfl))) rfl ?_
            refine go1 (op_assign rfl (.t (has rfl))) rfl ?_
            refine goesO_nil ?_
            obtain rfl := Option.some.inj H
            exact ends_cut (.cons rfl .nil)
      · skip
        refine goS rfl rfl rfl rfl rfl rfl hb19 ?_
        refine goS rfl rfl rfl rfl rfl rfl hb19 ?_
        refine goG (op_pick_f rfl hb19 (.t (has rfl)) (.bool _)) rfl rfl rfl rfl rfl ?_
        refine go1 (op_pick_f rfl rfl (.t (has rfl)) (.t (has rfl))) rfl ?_
        refine go1 (op_move rfl (.t (has rfl))) rfl ?_
        refine goG (op_move rfl (.t (has rfl))) rfl rfl rfl rfl rfl ?_
        refine goG (op_icmp rfl rfl (.t (has rfl)) (.int _ _)) rfl rfl rfl rfl rfl ?_
        refine goG (op_move rfl (.t (has rfl))) rfl rfl rfl rfl rfl ?_
        refine goesO_split H (fun hb27 H => ?_) (fun hb27 H => ?_)
        · skip
          refine goG (op_move rfl (.t (has rfl))) rfl rfl rfl rfl hb27 ?_
          refine goG (op_icmp rfl rfl (.t (has rfl)) (.int _ _)) rfl rfl rfl rfl hb27 ?_
          refine goG (op_pick_t rfl hb27 (.t (has rfl)) (.t (has rfl))) rfl rfl rfl rfl rfl ?_
          refine go1 (op_pick_f rfl rfl (.t (has rfl)) (.t (has rfl))) rfl ?_
          refine go1 (op_move rfl (.t (has rfl))) rfl ?_
          refine goesO_split H (fun hb28 H => ?_) (fun hb28 H => ?_)
          · skip
            refine goS rfl rfl rfl rfl rfl rfl hb28 ?_
            refine goS rfl rfl rfl rfl rfl rfl hb28 ?_
            refine goS rfl rfl rfl rfl rfl rfl hb28 ?_
            refine go1 (op_pick_t rfl hb28 (.t (has rfl)) (.bool _)) rfl ?_
            refine go1 (op_assign rfl (.t (has rfl))) rfl ?_
            refine goesO_nil ?_
            obtain rfl := Option.some.inj H
            exact ends_cut (.cons rfl .nil)
          · skip
            refine goG (op_move rfl (.t (has rfl))) rfl rfl rfl rfl hb28 ?_
            obtain ⟨v29, h30, H⟩ := bind_some H
            refine goG (op_call' rfl enters68 (strings_IndexByte.con _ _ _ h30) rfl (.cons (ArgP.k (.str _)) (.cons (ArgP.k (.t (has rfl))) .nil))) rfl rfl rfl rfl hb28 ?_
            refine goG (op_icmp rfl rfl (.t (has rfl)) (.int _ _)) rfl rfl rfl rfl hb28 ?_
            refine go1 (op_pick_f rfl hb28 (.t (has rfl)) (.t (has rfl))) rfl ?_
            refine go1 (op_assign rfl (.t (has rfl))) rfl ?_
            refine goesO_nil ?_
            obtain rfl := Option.some.inj H
            exact ends_cut (.cons rfl .nil)
        · skip
          refine goS rfl rfl rfl rfl rfl rfl hb27 ?_
          refine goS rfl rfl rfl rfl rfl rfl hb27 ?_
          refine goG (op_pick_f rfl hb27 (.t (has rfl)) (.bool _)) rfl rfl rfl rfl rfl ?_
          refine go1 (op_pick_f rfl rfl (.t (has rfl)) (.t (has rfl))) rfl ?_
          refine go1 (op_move rfl (.t (has rfl))) rfl ?_
          refine goG (op_move rfl (.t (has rfl))) rfl rfl rfl rfl rfl ?_
          obtain ⟨v31, h32, H⟩ := bind_some H
          refine goG (op_call' rfl enters68 (strings_IndexByte.con _ _ _ h32) rfl (.cons (ArgP.k (.str _)) (.cons (ArgP.k (.t (has rfl))) .nil))) rfl rfl rfl rfl rfl ?_
          refine goG (op_icmp rfl rfl (.t (has rfl)) (.int _ _)) rfl rfl rfl rfl rfl ?_
          refine go1 (op_pick_f rfl rfl (.t (has rfl)) (.t (has rfl))) rfl ?_
          refine go1 (op_assign rfl (.t (has rfl))) rfl ?_
          refine goesO_nil ?_
          obtain rfl := Option.some.inj H
          exact ends_cut (.cons rfl .nil)
  refine ends_then ?_
  obtain rfl := Option.some.inj H
  exact goes_ret (ends_ret' rfl rfl (.t rfl (.nil _)))
theorem names_letter.conF (a0 : Int) (r : Bool) (H : names_letter.f a0 = some r) : ConF Try.prog 64 [VA.k (kint .u8) a0] [VA.k kbool r] := (names_letter.con a0 r H).freeL (.cons (KFree.k KFree.bool _) .nil)
/-! smithy/names.Check -/
def names_Check.l0 (a0 : ByteArray) : Nat → Int → Option (Except Int Unit)
  | 0, _ => none
  | k + 1, s5 => bif icmp .lss s5 (a0.size : Int) then ((bidx a0 s5).bind fun x10 => (names_letter.f x10).bind fun v12 => bif !v12 then (some (Except.error (3 : Int))) else (names_Check.l0 a0 k (IntKind.i64.wrap (s5 + (1 : Int))))) else (some (Except.ok ()))
def names_Check.f (k : Nat) (a0 : ByteArray) : Option Int := (bif icmp .eql (a0.size : Int) (0 : Int) then (some true) else (some (icmp .gtr (a0.size : Int) (64 : Int)))).bind fun s1 => bif s1 then (some (3 : Int)) else ((names_Check.l0 a0 k (0 : Int)).bind fun o8 => match o8 with | .error r' => some r' | .ok s6 => (some (0 : Int)))
set_option maxRecDepth 100000 in
set_option maxHeartbeats 4000000 in
theorem names_Check.con (k : Nat) (a0 : ByteArray) (r : Int) (H : names_Check.f k a0 = some r) : Con Try.prog 55 [VA.k kstr a0] [VA.k (kint .i64) r] := by
  unfold names_Check.f at H
  refine con_enter Try.func55 rfl rfl rfl (fun w0 S0 θ => ?_)
  refine goes_seq ?_
  refine goes_region ?_
  refine go1 (op_assign rfl (.int _ _)) rfl ?_
  refine goesO_nil ?_
  refine ends_then ?_
  refine goes_seq ?_
  refine goes_seq ?_
  obtain ⟨s1, h2, H⟩ := bind_some H
  refine goes_cut [Ent.t 0 (VA.k kstr a0), Ent.t 11 (VA.k kbool s1)] ?_ ?_
  · replace H := h2; clear h2
    refine goes_region ?_
    refine go1 (op_move rfl (.t (has rfl))) rfl ?_
    refine go1 (op_len_str rfl rfl Try.underlying9 (.t (has rfl))) rfl ?_
    refine go1 (op_icmp rfl rfl (.t (has rfl)) (.int _ _)) rfl ?_
    refine go1 (op_move rfl (.t (has rfl))) rfl ?_
    refine goesO_split H (fun hb3 H => ?_) (fun hb3 H => ?_)
    · skip
      refine goS rfl rfl rfl rfl rfl rfl hb3 ?_
      refine goS rfl rfl rfl rfl rfl rfl hb3 ?_
      refine goS rfl rfl rfl rfl rfl rfl hb3 ?_
      refine go1 (op_pick_t rfl hb3 (.t (has rfl)) (.bool _)) rfl ?_
      refine goesO_nil ?_
      obtain rfl := Option.some.inj H
      exact ends_cut (.cons rfl (.cons rfl .nil))
    · skip
      refine goG (op_move rfl (.t (has rfl))) rfl rfl rfl rfl hb3 ?_
      refine goG (op_len_str rfl rfl Try.underlying9 (.t (has rfl))) rfl rfl rfl rfl hb3 ?_
      refine goG (op_icmp rfl rfl (.t (has rfl)) (.int _ _)) rfl rfl rfl rfl hb3 ?_
      refine go1 (op_pick_f rfl hb3 (.t (has rfl)) (.t (has rfl))) rfl ?_
      refine goesO_nil ?_
      obtain rfl := Option.some.inj H
      exact ends_cut (.cons rfl (.cons rfl .nil))
  refine ends_then ?_
  refine goes_if (.t (has rfl)) H (fun hb4 H => ?_) (fun hb4 H => ?_)
  · skip
    refine goes_seq ?_
    refine goes_region ?_
    refine go1 (op_assign rfl (.int _ _)) rfl ?_
    refine goesO_nil ?_
    refine ends_then ?_
    obtain rfl := Option.some.inj H
    exact goes_ret (ends_then_ret (ends_ret' rfl rfl (.t rfl (.nil _))))
  · skip
    refine goes_skip ?_
    refine ends_then ?_
    refine goes_seq ?_
    refine goes_seq ?_
    refine goes_region ?_
    refine go1 (op_move rfl (.t (has rfl))) rfl ?_
    refine go1 (op_len_str rfl rfl Try.underlying9 (.t (has rfl))) rfl ?_
    refine go1 (op_move rfl (.int _ _)) rfl ?_
    refine goesO_nil ?_
    refine ends_then ?_
    obtain ⟨o8, h7, H⟩ := bind_some H
    refine goes_cutR (o := o8) (fun s6 : Unit => []) (fun r a w => bodyPost Try.prog Try.f55 (CPost w0 S0 θ [VA.k (kint .i64) r]) .ret a w) ?_ ?_ ?_
    · replace H := h7; clear h7
      refine goes_block ?_
      refine goes_loop (fun s5 : Int => [Ent.t 0 (VA.k kstr a0), Ent.t 13 (VA.k (kint .i64) (a0.size : Int)), Ent.t 14 (VA.k (kint .i64) s5)]) (fun k s5 => names_Check.l0 a0 k s5) (fun _ => rfl) H (.cons rfl (.cons rfl (.cons rfl .nil))) ?_
      intro k s5 H
      simp only [names_Check.l0] at H
      refine goes_seq ?_
      refine goes_region ?_
      refine go1 (op_icmp rfl rfl (.t (has rfl)) (.t (has rfl))) rfl ?_
      refine goesO_nil ?_
      refine ends_then ?_
      refine goes_seq ?_
      refine goes_if (.t (has rfl)) H (fun hb9 H => ?_) (fun hb9 H => ?_)
      · skip
        refine goes_skip ?_
        refine ends_then ?_
        refine goes_seq ?_
        refine goes_block ?_
        refine goes_seq ?_
        refine goes_region ?_
        refine go1 (op_move rfl (.t (has rfl))) rfl ?_
        refine go1 (op_assign rfl (.t (has rfl))) rfl ?_
        refine goesO_nil ?_
        refine ends_then ?_
        refine goes_seq ?_
        refine goes_region ?_
        refine go1 (op_move rfl (.t (has rfl))) rfl ?_
        refine go1 (op_move rfl (.t (has rfl))) rfl ?_
        obtain ⟨x10, h11, H⟩ := bind_some H
        refine go1 (op_index_str rfl Try.underlying9 h11 (.t (has rfl)) (.t (has rfl))) rfl ?_
        obtain ⟨v12, h13, H⟩ := bind_some H
        refine go1 (op_call' rfl enters64 (names_letter.con _ _ h13) rfl (.cons (ArgP.k (.t (has rfl))) .nil)) rfl ?_
        refine go1 (op_not rfl (.t (has rfl))) rfl ?_
        refine goesO_nil ?_
        refine ends_then ?_
        refine goes_if (.t (has rfl)) H (fun hb14 H => ?_) (fun hb14 H => ?_)
        · skip
          refine goes_seq ?_
          refine goes_region ?_
          refine go1 (op_assign rfl (.int _ _)) rfl ?_
          refine goesO_nil ?_
          refine ends_then ?_
          obtain rfl := Option.some.inj H
          refine goes_ret (ends_block_ret (ends_then_ret (ends_then_ret (ends_block_ret (ends_cutR_ret rfl ?_)))))
          exact ends_ret' rfl rfl (.t rfl (.nil _))
        · skip
          refine goes_skip ?_
          refine ends_block ?_
          refine ends_then ?_
          refine goes_region ?_
          refine go1 (op_add rfl (.t (has rfl)) (.int _ _)) rfl ?_
          refine go1 (op_move rfl (.t (has rfl))) rfl ?_
          refine goesO_nil ?_
          exact loop_next _ H (.cons rfl (.cons rfl (.cons rfl .nil)))
      · skip
        refine goes_exit (ends_then_exit (ends_then_exit (ends_block_exit ?_)))
        obtain rfl := Option.some.inj H
        exact ends_cutR rfl .nil
    · rintro s6 rfl
      clear h7
      dsimp only at H
      refine ends_then ?_
      refine goes_seq ?_
      refine goes_region ?_
      refine go1 (op_assign rfl (.int _ _)) rfl ?_
      refine goesO_nil ?_
      refine ends_then ?_
      obtain rfl := Option.some.inj H
      exact goes_ret (ends_ret' rfl rfl (.t rfl (.nil _)))
    · rintro r' rfl a w hr
      obtain rfl := Option.some.inj H
      exact hr
theorem names_Check.conF (k : Nat) (a0 : ByteArray) (r : Int) (H : names_Check.f k a0 = some r) : ConF Try.prog 55 [VA.k kstr a0] [VA.k (kint .i64) r] := (names_Check.con k a0 r H).freeL (.cons (KFree.k (KFree.int .i64) _) .nil)
/-! slices.Index[[]string,string] -/
def slices_Index_string_string.l0 (a0 : List ByteArray) (a1 : ByteArray) : Nat → Int → Option (Except Int Unit)
  | 0, _ => none
  | k + 1, s1 => bif icmp .lss s1 (a0.length : Int) then ((idx a0 s1).bind fun x6 => bif scmp .eql a1 x6 then (some (Except.error s1)) else (slices_Index_string_string.l0 a0 a1 k (IntKind.i64.wrap (s1 + (1 : Int))))) else (some (Except.ok ()))
def slices_Index_string_string.f (k : Nat) (a0 : List ByteArray) (a1 : ByteArray) : Option Int := (slices_Index_string_string.l0 a0 a1 k (0 : Int)).bind fun o4 => match o4 with | .error r' => some r' | .ok s2 => (some (-1 : Int))
set_option maxRecDepth 100000 in
set_option maxHeartbeats 4000000 in
theorem slices_Index_string_string.con (k : Nat) (a0 : List ByteArray) (a1 : ByteArray) (r : Int) (H : slices_Index_string_string.f k a0 a1 = some r) : Con Try.prog 67 [VA.k (kslice kstr) a0, VA.k kstr a1] [VA.k (kint .i64) r] := by
  unfold slices_Index_string_string.f at H
  refine con_enter Try.func67 rfl rfl rfl (fun w0 S0 θ => ?_)
  refine goes_seq ?_
  refine goes_region ?_
  refine go1 (op_assign rfl (.int _ _)) rfl ?_
  refine goesO_nil ?_
  refine ends_then ?_
  refine goes_seq ?_
  refine goes_seq ?_
  refine goes_region ?_
  refine go1 (op_move rfl (.t (has rfl))) rfl ?_
  refine go1 (op_len rfl rfl Try.underlying23 (.t (has rfl))) rfl ?_
  refine go1 (op_move rfl (.int _ _)) rfl ?_
  refine goesO_nil ?_
  refine ends_then ?_
  obtain ⟨o4, h3, H⟩ := bind_some H
  refine goes_cutR (o := o4) (fun s2 : Unit => []) (fun r a w => bodyPost Try.prog Try.f67 (CPost w0 S0 θ [VA.k (kint .i64) r]) .ret a w) ?_ ?_ ?_
  · replace H := h3; clear h3
    refine goes_block ?_
    refine goes_loop (fun s1 : Int => [Ent.t 0 (VA.k (kslice kstr) a0), Ent.t 1 (VA.k kstr a1), Ent.t 7 (VA.k (kint .i64) (a0.length : Int)), Ent.t 8 (VA.k (kint .i64) s1)]) (fun k s1 => slices_Index_string_string.l0 a0 a1 k s1) (fun _ => rfl) H (.cons rfl (.cons rfl (.cons rfl (.cons rfl .nil)))) ?_
    intro k s1 H
    simp only [slices_Index_string_string.l0] at H
    refine goes_seq ?_
    refine goes_region ?_
    refine go1 (op_icmp rfl rfl (.t (has rfl)) (.t (has rfl))) rfl ?_
    refine goesO_nil ?_
    refine ends_then ?_
    refine goes_seq ?_
    refine goes_if (.t (has rfl)) H (fun hb5 H => ?_) (fun hb5 H => ?_)
    · skip
      refine goes_skip ?_
      refine ends_then ?_
      refine goes_seq ?_
      refine goes_block ?_
      refine goes_seq ?_
      refine goes_region ?_
      refine go1 (op_move rfl (.t (has rfl))) rfl ?_
      refine go1 (op_assign rfl (.t (has rfl))) rfl ?_
      refine goesO_nil ?_
      refine ends_then ?_
      refine goes_seq ?_
      refine goes_region ?_
      refine go1 (op_move rfl (.t (has rfl))) rfl ?_
      refine go1 (op_move rfl (.t (has rfl))) rfl ?_
      refine go1 (op_move rfl (.t (has rfl))) rfl ?_
      obtain ⟨x6, h7, H⟩ := bind_some H
      refine go1 (op_indexAddr rfl Try.underlying23 tk9 h7 (.t (has rfl)) (.t (has rfl))) rfl ?_
      refine go1 (op_loadp rfl tk9 (.t (has rfl))) rfl ?_
      refine go1 (op_scmp rfl rfl (.t (has rfl)) (.t (has rfl))) rfl ?_
      refine goesO_nil ?_
      refine ends_then ?_
      refine goes_if (.t (has rfl)) H (fun hb8 H => ?_) (fun hb8 H => ?_)
      · skip
        refine goes_seq ?_
        refine goes_region ?_
        refine go1 (op_move rfl (.t (has rfl))) rfl ?_
        refine go1 (op_assign rfl (.t (has rfl))) rfl ?_
        refine goesO_nil ?_
        refine ends_then ?_
        obtain rfl := Option.some.inj H
        refine goes_ret (ends_block_ret (ends_then_ret (ends_then_ret (ends_block_ret (ends_cutR_ret rfl ?_)))))
        exact ends_ret' rfl rfl (.t rfl (.nil _))
      · skip
        refine goes_skip ?_
        refine ends_block ?_
        refine ends_then ?_
        refine goes_region ?_
        refine go1 (op_add rfl (.t (has rfl)) (.int _ _)) rfl ?_
        refine go1 (op_move rfl (.t (has rfl))) rfl ?_
        refine goesO_nil ?_
        exact loop_next _ H (.cons rfl (.cons rfl (.cons rfl (.cons rfl .nil))))
    · skip
      refine goes_exit (ends_then_exit (ends_then_exit (ends_block_exit ?_)))
      obtain rfl := Option.some.inj H
      exact ends_cutR rfl .nil
  · rintro s2 rfl
    clear h3
    dsimp only at H
    refine ends_then ?_
    refine goes_seq ?_
    refine goes_region ?_
    refine go1 (op_assign rfl (.int _ _)) rfl ?_
    refine goesO_nil ?_
    refine ends_then ?_
    obtain rfl := Option.some.inj H
    exact goes_ret (ends_ret' rfl rfl (.t rfl (.nil _)))
  · rintro r' rfl a w hr
    obtain rfl := Option.some.inj H
    exact hr
theorem slices_Index_string_string.conF (k : Nat) (a0 : List ByteArray) (a1 : ByteArray) (r : Int) (H : slices_Index_string_string.f k a0 a1 = some r) : ConF Try.prog 67 [VA.k (kslice kstr) a0, VA.k kstr a1] [VA.k (kint .i64) r] := (slices_Index_string_string.con k a0 a1 r H).freeL (.cons (KFree.k (KFree.int .i64) _) .nil)
/-! slices.Contains[[]string,string] -/
def slices_Contains_string_string.f (k : Nat) (a0 : List ByteArray) (a1 : ByteArray) : Option Bool := (slices_Index_string_string.f k a0 a1).bind fun v1 => some (icmp .geq v1 (0 : Int))
set_option maxRecDepth 100000 in
set_option maxHeartbeats 4000000 in
theorem slices_Contains_string_string.con (k : Nat) (a0 : List ByteArray) (a1 : ByteArray) (r : Bool) (H : slices_Contains_string_string.f k a0 a1 = some r) : Con Try.prog 63 [VA.k (kslice kstr) a0, VA.k kstr a1] [VA.k kbool r] := by
  unfold slices_Contains_string_string.f at H
  refine con_enter Try.func63 rfl rfl rfl (fun w0 S0 θ => ?_)
  refine goes_seq ?_
  refine goes_region ?_
  refine go1 (op_assign rfl (.bool _)) rfl ?_
  refine goesO_nil ?_
  refine ends_then ?_
  refine goes_seq ?_
  refine goes_region ?_
  refine go1 (op_move rfl (.t (has rfl))) rfl ?_
  refine go1 (op_move rfl (.t (has rfl))) rfl ?_
  obtain ⟨v1, h2, H⟩ := bind_some H
  refine go1 (op_call' rfl enters67 (slices_Index_string_string.con _ _ _ _ h2) rfl (.cons (ArgP.k (.t (has rfl))) (.cons (ArgP.k (.t (has rfl))) .nil))) rfl ?_
  refine go1 (op_icmp rfl rfl (.t (has rfl)) (.int _ _)) rfl ?_
  refine go1 (op_assign rfl (.t (has rfl))) rfl ?_
  refine goesO_nil ?_
  refine ends_then ?_
  obtain rfl := Option.some.inj H
  exact goes_ret (ends_ret' rfl rfl (.t rfl (.nil _)))
theorem slices_Contains_string_string.conF (k : Nat) (a0 : List ByteArray) (a1 : ByteArray) (r : Bool) (H : slices_Contains_string_string.f k a0 a1 = some r) : ConF Try.prog 63 [VA.k (kslice kstr) a0, VA.k kstr a1] [VA.k kbool r] := (slices_Contains_string_string.con k a0 a1 r H).freeL (.cons (KFree.k KFree.bool _) .nil)
/-! slices.IndexFunc[[]string,string] -/
def slices_IndexFunc_string_string.l0 (a0 : List ByteArray) (a1 : ByteArray → Option Bool) : Nat → Int → Option (Except Int Unit)
  | 0, _ => none
  | k + 1, s1 => bif icmp .lss s1 (a0.length : Int) then ((idx a0 s1).bind fun x6 => (a1 x6).bind fun v8 => bif v8 then (some (Except.error s1)) else (slices_IndexFunc_string_string.l0 a0 a1 k (IntKind.i64.wrap (s1 + (1 : Int))))) else (some (Except.ok ()))
def slices_IndexFunc_string_string.f (k : Nat) (a0 : List ByteArray) (a1 : ByteArray → Option Bool) : Option Int := (slices_IndexFunc_string_string.l0 a0 a1 k (0 : Int)).bind fun o4 => match o4 with | .error r' => some r' | .ok s2 => (some (-1 : Int))
set_option maxRecDepth 100000 in
set_option maxHeartbeats 4000000 in
theorem slices_IndexFunc_string_string.con (F1 : FuncId) (pre1 caps1 : List VA) (k : Nat) (a0 : List ByteArray) (a1 : ByteArray → Option Bool) (hE1 : Enters Try.prog F1) (hp1 : ∀ (z0 : ByteArray) r, a1 z0 = some r → Con Try.prog F1 (pre1 ++ ([VA.k kstr z0] ++ caps1)) [VA.k kbool r]) (r : Int) (H : slices_IndexFunc_string_string.f k a0 a1 = some r) : Con Try.prog 57 [VA.k (kslice kstr) a0, VA.clo F1 pre1 caps1] [VA.k (kint .i64) r] := by
  unfold slices_IndexFunc_string_string.f at H
  refine con_enter Try.func57 rfl rfl rfl (fun w0 S0 θ => ?_)
  refine goes_seq ?_
  refine goes_region ?_
  refine go1 (op_assign rfl (.int _ _)) rfl ?_
  refine goesO_nil ?_
  refine ends_then ?_
  refine goes_seq ?_
  refine goes_seq ?_
  refine goes_region ?_
  refine go1 (op_move rfl (.t (has rfl))) rfl ?_
  refine go1 (op_len rfl rfl Try.underlying23 (.t (has rfl))) rfl ?_
  refine go1 (op_move rfl (.int _ _)) rfl ?_
  refine goesO_nil ?_
  refine ends_then ?_
  obtain ⟨o4, h3, H⟩ := bind_some H
  refine goes_cutR (o := o4) (fun s2 : Unit => []) (fun r a w => bodyPost Try.prog Try.f57 (CPost w0 S0 θ [VA.k (kint .i64) r]) .ret a w) ?_ ?_ ?_
  · replace H := h3; clear h3
    refine goes_block ?_
    refine goes_loop (fun s1 : Int => [Ent.t 0 (VA.k (kslice kstr) a0), Ent.t 1 (VA.clo F1 pre1 caps1), Ent.t 7 (VA.k (kint .i64) (a0.length : Int)), Ent.t 8 (VA.k (kint .i64) s1)]) (fun k s1 => slices_IndexFunc_string_string.l0 a0 a1 k s1) (fun _ => rfl) H (.cons rfl (.cons rfl (.cons rfl (.cons rfl .nil)))) ?_
    intro k s1 H
    simp only [slices_IndexFunc_string_string.l0] at H
    refine goes_seq ?_
    refine goes_region ?_
    refine go1 (op_icmp rfl rfl (.t (has rfl)) (.t (has rfl))) rfl ?_
    refine goesO_nil ?_
    refine ends_then ?_
    refine goes_seq ?_
    refine goes_if (.t (has rfl)) H (fun hb5 H => ?_) (fun hb5 H => ?_)
    · skip
      refine goes_skip ?_
      refine ends_then ?_
      refine goes_seq ?_
      refine goes_block ?_
      refine goes_seq ?_
      refine goes_region ?_
      refine go1 (op_move rfl (.t (has rfl))) rfl ?_
      refine go1 (op_assign rfl (.t (has rfl))) rfl ?_
      refine goesO_nil ?_
      refine ends_then ?_
      refine goes_seq ?_
      refine goes_region ?_
      refine go1 (op_moveA rfl plain_clo (.t (has rfl))) rfl ?_
      refine go1 (op_move rfl (.t (has rfl))) rfl ?_
      refine go1 (op_move rfl (.t (has rfl))) rfl ?_
      obtain ⟨x6, h7, H⟩ := bind_some H
      refine go1 (op_indexAddr rfl Try.underlying23 tk9 h7 (.t (has rfl)) (.t (has rfl))) rfl ?_
      refine go1 (op_loadp rfl tk9 (.t (has rfl))) rfl ?_
      obtain ⟨v8, h9, H⟩ := bind_some H
      refine go1 (op_callv rfl (.t (has rfl)) hE1 (hp1 _ _ h9) rfl (.cons (ArgP.k (.t (has rfl))) .nil)) rfl ?_
      refine goesO_nil ?_
      refine ends_then ?_
      refine goes_if (.t (has rfl)) H (fun hb10 H => ?_) (fun hb10 H => ?_)
      · skip
        refine goes_seq ?_
        refine goes_region ?_
        refine go1 (op_move rfl (.t (has rfl))) rfl ?_
        refine go1 (op_assign rfl (.t (has rfl))) rfl ?_
        refine goesO_nil ?_
        refine ends_then ?_
        obtain rfl := Option.some.inj H
        refine goes_ret (ends_block_ret (ends_then_ret (ends_then_ret (ends_block_ret (ends_cutR_ret rfl ?_)))))
        exact ends_ret' rfl rfl (.t rfl (.nil _))
      · skip
        refine goes_skip ?_
        refine ends_block ?_
        refine ends_then ?_
        refine goes_region ?_
        refine go1 (op_add rfl (.t (has rfl)) (.int _ _)) rfl ?_
        refine go1 (op_move rfl (.t (has rfl))) rfl ?_
        refine goesO_nil ?_
        exact loop_next _ H (.cons rfl (.cons rfl (.cons rfl (.cons rfl .nil))))
    · skip
      refine goes_exit (ends_then_exit (ends_then_exit (ends_block_exit ?_)))
      obtain rfl := Option.some.inj H
      exact ends_cutR rfl .nil
  · rintro s2 rfl
    clear h3
    dsimp only at H
    refine ends_then ?_
    refine goes_seq ?_
    refine goes_region ?_
    refine go1 (op_assign rfl (.int _ _)) rfl ?_
    refine goesO_nil ?_
    refine ends_then ?_
    obtain rfl := Option.some.inj H
    exact goes_ret (ends_ret' rfl rfl (.t rfl (.nil _)))
  · rintro r' rfl a w hr
    obtain rfl := Option.some.inj H
    exact hr
theorem slices_IndexFunc_string_string.conF (F1 : FuncId) (pre1 caps1 : List VA) (k : Nat) (a0 : List ByteArray) (a1 : ByteArray → Option Bool) (hE1 : Enters Try.prog F1) (hp1 : ∀ (z0 : ByteArray) r, a1 z0 = some r → Con Try.prog F1 (pre1 ++ ([VA.k kstr z0] ++ caps1)) [VA.k kbool r]) (r : Int) (H : slices_IndexFunc_string_string.f k a0 a1 = some r) : ConF Try.prog 57 [VA.k (kslice kstr) a0, VA.clo F1 pre1 caps1] [VA.k (kint .i64) r] := (slices_IndexFunc_string_string.con F1 pre1 caps1 k a0 a1 hE1 hp1 r H).freeL (.cons (KFree.k (KFree.int .i64) _) .nil)
/-! slices.ContainsFunc[[]string,string] -/
def slices_ContainsFunc_string_string.f (k : Nat) (a0 : List ByteArray) (a1 : ByteArray → Option Bool) : Option Bool := (slices_IndexFunc_string_string.f k a0 a1).bind fun v1 => some (icmp .geq v1 (0 : Int))
set_option maxRecDepth 100000 in
set_option maxHeartbeats 4000000 in
theorem slices_ContainsFunc_string_string.con (F1 : FuncId) (pre1 caps1 : List VA) (k : Nat) (a0 : List ByteArray) (a1 : ByteArray → Option Bool) (hE1 : Enters Try.prog F1) (hp1 : ∀ (z0 : ByteArray) r, a1 z0 = some r → Con Try.prog F1 (pre1 ++ ([VA.k kstr z0] ++ caps1)) [VA.k kbool r]) (r : Bool) (H : slices_ContainsFunc_string_string.f k a0 a1 = some r) : Con Try.prog 37 [VA.k (kslice kstr) a0, VA.clo F1 pre1 caps1] [VA.k kbool r] := by
  unfold slices_ContainsFunc_string_string.f at H
  refine con_enter Try.func37 rfl rfl rfl (fun w0 S0 θ => ?_)
  refine goes_seq ?_
  refine goes_region ?_
  refine go1 (op_assign rfl (.bool _)) rfl ?_
  refine goesO_nil ?_
  refine ends_then ?_
  refine goes_seq ?_
  refine goes_region ?_
  refine go1 (op_move rfl (.t (has rfl))) rfl ?_
  refine go1 (op_moveA rfl plain_clo (.t (has rfl))) rfl ?_
  obtain ⟨v1, h2, H⟩ := bind_some H
  refine go1 (op_call' rfl enters57 (slices_IndexFunc_string_string.con F1 pre1 caps1 _ _ a1 hE1 hp1 _ h2) rfl (.cons (ArgP.k (.t (has rfl))) (.cons (ArgP.clo (.t (has rfl))) .nil))) rfl ?_
  refine go1 (op_icmp rfl rfl (.t (has rfl)) (.int _ _)) rfl ?_
  refine go1 (op_assign rfl (.t (has rfl))) rfl ?_
  refine goesO_nil ?_
  refine ends_then ?_
  obtain rfl := Option.some.inj H
  exact goes_ret (ends_ret' rfl rfl (.t rfl (.nil _)))
theorem slices_ContainsFunc_string_string.conF (F1 : FuncId) (pre1 caps1 : List VA) (k : Nat) (a0 : List ByteArray) (a1 : ByteArray → Option Bool) (hE1 : Enters Try.prog F1) (hp1 : ∀ (z0 : ByteArray) r, a1 z0 = some r → Con Try.prog F1 (pre1 ++ ([VA.k kstr z0] ++ caps1)) [VA.k kbool r]) (r : Bool) (H : slices_ContainsFunc_string_string.f k a0 a1 = some r) : ConF Try.prog 37 [VA.k (kslice kstr) a0, VA.clo F1 pre1 caps1] [VA.k kbool r] := (slices_ContainsFunc_string_string.con F1 pre1 caps1 k a0 a1 hE1 hp1 r H).freeL (.cons (KFree.k KFree.bool _) .nil)
/-! smithy/resolve.right$1 -/
def resolve_right_1.f (a0 : ByteArray) : Option Bool := some (icmp .gtr (a0.size : Int) (65536 : Int))
set_option maxRecDepth 100000 in
set_option maxHeartbeats 4000000 in
theorem resolve_right_1.con (a0 : ByteArray) (r : Bool) (H : resolve_right_1.f a0 = some r) : Con Try.prog 66 [VA.k kstr a0] [VA.k kbool r] := by
  unfold resolve_right_1.f at H
  refine con_enter Try.func66 rfl rfl rfl (fun w0 S0 θ => ?_)
  refine goes_seq ?_
  refine goes_region ?_
  refine go1 (op_assign rfl (.bool _)) rfl ?_
  refine goesO_nil ?_
  refine ends_then ?_
  refine goes_seq ?_
  refine goes_region ?_
  refine go1 (op_move rfl (.t (has rfl))) rfl ?_
  refine go1 (op_len_str rfl rfl Try.underlying9 (.t (has rfl))) rfl ?_
  refine go1 (op_icmp rfl rfl (.t (has rfl)) (.int _ _)) rfl ?_
  refine go1 (op_assign rfl (.t (has rfl))) rfl ?_
  refine goesO_nil ?_
  refine ends_then ?_
  obtain rfl := Option.some.inj H
  exact goes_ret (ends_ret' rfl rfl (.t rfl (.nil _)))
theorem resolve_right_1.conF (a0 : ByteArray) (r : Bool) (H : resolve_right_1.f a0 = some r) : ConF Try.prog 66 [VA.k kstr a0] [VA.k kbool r] := (resolve_right_1.con a0 r H).freeL (.cons (KFree.k KFree.bool _) .nil)
end Go.Proofs.Ytedgkcdofiildaa.F
