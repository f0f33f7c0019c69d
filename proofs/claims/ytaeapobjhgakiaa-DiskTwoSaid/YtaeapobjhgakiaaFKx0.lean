import Derived.Test.YtaeapobjhgakiaaTK
set_option linter.unusedVariables false
set_option linter.unusedSimpArgs false
set_option linter.unnecessarySimpa false
set_option linter.deprecated false
namespace Go.Proofs.Ytaeapobjhgakiaa.F
open Go Go.RowKit Go.Proofs.Ytaeapobjhgakiaa.Sl
/-! strings.IndexByte -/
def strings_IndexByte.f (a0 : ByteArray) (a1 : Int) : Option Int := some (Lib.indexByte a0.data.toList a1.toNat.toUInt8)
theorem strings_IndexByte.con (a0 : ByteArray) (a1 : Int) (r : Int) (H : strings_IndexByte.f a0 a1 = some r) : Con Try.prog 58 [VA.k kstr a0, VA.k (kint .u8) a1] [VA.k (kint .i64) r] := by
  obtain rfl := Option.some.inj H
  refine con_plain fun θ S w vs h => ?_
  match vs, h with
  | [v0, v1], h =>
    obtain ⟨h0, h1, _⟩ := h
    obtain rfl := arg_str h0
    obtain rfl := arg_int h1
    exact ⟨_, Try.strings_IndexByte a0 a1 w, va_int _ _⟩
theorem strings_IndexByte.conF (a0 : ByteArray) (a1 : Int) (r : Int) (H : strings_IndexByte.f a0 a1 = some r) : ConF Try.prog 58 [VA.k kstr a0, VA.k (kint .u8) a1] [VA.k (kint .i64) r] := (strings_IndexByte.con a0 a1 r H).freeL (.cons (KFree.k (KFree.int .i64) _) .nil)
/-! smithy/disk.named -/
def disk_named.l0 (a0 : ByteArray) : Nat → Int → Option (Except Bool Unit)
  | 0, _ => none
  | k + 1, s5 => bif icmp .lss s5 (a0.size : Int) then ((bidx a0 s5).bind fun x10 => (bif icmp .geq x10 (65 : Int) then (bif icmp .leq x10 (90 : Int) then (some (!true)) else (bif icmp .geq x10 (97 : Int) then (bif icmp .leq x10 (122 : Int) then (some (!true)) else (bif icmp .geq x10 (48 : Int) then (bif icmp .leq x10 (57 : Int) then (some (!true)) else ((strings_IndexByte.f (⟨#[95, 45, 46, 47, 43]⟩ : ByteArray) x10).bind fun v20 => some (!(icmp .geq v20 (0 : Int))))) else ((strings_IndexByte.f (⟨#[95, 45, 46, 47, 43]⟩ : ByteArray) x10).bind fun v22 => some (!(icmp .geq v22 (0 : Int)))))) else (bif icmp .geq x10 (48 : Int) then (bif icmp .leq x10 (57 : Int) then (some (!true)) else ((strings_IndexByte.f (⟨#[95, 45, 46, 47, 43]⟩ : ByteArray) x10).bind fun v26 => some (!(icmp .geq v26 (0 : Int))))) else ((strings_IndexByte.f (⟨#[95, 45, 46, 47, 43]⟩ : ByteArray) x10).bind fun v28 => some (!(icmp .geq v28 (0 : Int))))))) else (bif icmp .geq x10 (97 : Int) then (bif icmp .leq x10 (122 : Int) then (some (!true)) else (bif icmp .geq x10 (48 : Int) then (bif icmp .leq x10 (57 : Int) then (some (!true)) else ((strings_IndexByte.f (⟨#[95, 45, 46, 47, 43]⟩ : ByteArray) x10).bind fun v34 => some (!(icmp .geq v34 (0 : Int))))) else ((strings_IndexByte.f (⟨#[95, 45, 46, 47, 43]⟩ : ByteArray) x10).bind fun v36 => some (!(icmp .geq v36 (0 : Int)))))) else (bif icmp .geq x10 (48 : Int) then (bif icmp .leq x10 (57 : Int) then (some (!true)) else ((strings_IndexByte.f (⟨#[95, 45, 46, 47, 43]⟩ : ByteArray) x10).bind fun v40 => some (!(icmp .geq v40 (0 : Int))))) else ((strings_IndexByte.f (⟨#[95, 45, 46, 47, 43]⟩ : ByteArray) x10).bind fun v42 => some (!(icmp .geq v42 (0 : Int))))))).bind fun s12 => bif s12 then (some (Except.error false)) else (disk_named.l0 a0 k (IntKind.i64.wrap (s5 + (1 : Int))))) else (some (Except.ok ()))
def disk_named.f (k : Nat) (a0 : ByteArray) : Option Bool := (bif icmp .lss (a0.size : Int) (1 : Int) then (some true) else (some (icmp .gtr (a0.size : Int) (64 : Int)))).bind fun s1 => bif s1 then (some false) else ((disk_named.l0 a0 k (0 : Int)).bind fun o8 => match o8 with | .error r' => some r' | .ok s6 => (some true))
set_option maxRecDepth 100000 in
set_option maxHeartbeats 4000000 in
theorem disk_named.con (k : Nat) (a0 : ByteArray) (r : Bool) (H : disk_named.f k a0 = some r) : Con Try.prog 39 [VA.k kstr a0] [VA.k kbool r] := by
  unfold disk_named.f at H
  refine con_enter Try.func39 rfl rfl rfl (fun w0 S0 θ => ?_)
  refine goes_seq ?_
  refine goes_region ?_
  refine go1 (op_assign rfl (.bool _)) rfl ?_
  refine goesO_nil ?_
  refine ends_then ?_
  refine goes_seq ?_
  refine goes_seq ?_
  obtain ⟨s1, h2, H⟩ := bind_some H
  refine goes_cut [Ent.t 0 (VA.k kstr a0), Ent.t 12 (VA.k kbool s1)] ?_ ?_
  · replace H := h2; clear h2
    refine goes_region ?_
    refine go1 (op_move rfl (.t (has rfl))) rfl ?_
    refine go1 (op_len_str rfl rfl Try.underlying9 (.t (has rfl))) rfl ?_
    refine go1 (op_icmp rfl rfl (.t (has rfl)) (.int _ _)) rfl ?_
    refine go1 (op_move rfl (.t (has rfl))) rfl ?_
    refine goesO_split H (fun hb3 H => ?_) (fun hb3 H => ?_)
    · skip
      refine goS rfl rfl rfl rfl rfl rfl hb3 ?_
      refine goS rfl rfl rfl rfl rfl rfl hb3 ?_
      refine goS rfl rfl rfl rfl rfl rfl hb3 ?_
      refine go1 (op_pick_t rfl hb3 (.t (has rfl)) (.bool _)) rfl ?_
      refine goesO_nil ?_
      obtain rfl := Option.some.inj H
      exact ends_cut (.cons rfl (.cons rfl .nil))
    · skip
      refine goG (op_move rfl (.t (has rfl))) rfl rfl rfl rfl hb3 ?_
      refine goG (op_len_str rfl rfl Try.underlying9 (.t (has rfl))) rfl rfl rfl rfl hb3 ?_
      refine goG (op_icmp rfl rfl (.t (has rfl)) (.int _ _)) rfl rfl rfl rfl hb3 ?_
      refine go1 (op_pick_f rfl hb3 (.t (has rfl)) (.t (has rfl))) rfl ?_
      refine goesO_nil ?_
      obtain rfl := Option.some.inj H
      exact ends_cut (.cons rfl (.cons rfl .nil))
  refine ends_then ?_
  refine goes_if (.t (has rfl)) H (fun hb4 H => ?_) (fun hb4 H => ?_)
  · skip
    refine goes_seq ?_
    refine goes_region ?_
    refine go1 (op_assign rfl (.bool _)) rfl ?_
    refine goesO_nil ?_
    refine ends_then ?_
    obtain rfl := Option.some.inj H
    exact goes_ret (ends_then_ret (ends_ret' rfl rfl (.t rfl (.nil _))))
  · skip
    refine goes_skip ?_
    refine ends_then ?_
    refine goes_seq ?_
    refine goes_seq ?_
    refine goes_region ?_
    refine go1 (op_move rfl (.t (has rfl))) rfl ?_
    refine go1 (op_len_str rfl rfl Try.underlying9 (.t (has rfl))) rfl ?_
    refine go1 (op_move rfl (.int _ _)) rfl ?_
    refine goesO_nil ?_
    refine ends_then ?_
    obtain ⟨o8, h7, H⟩ := bind_some H
    refine goes_cutR (o := o8) (fun s6 : Unit => []) (fun r a w => bodyPost Try.prog Try.f39 (CPost w0 S0 θ [VA.k kbool r]) .ret a w) ?_ ?_ ?_
    · replace H := h7; clear h7
      refine goes_block ?_
      refine goes_loop (fun s5 : Int => [Ent.t 0 (VA.k kstr a0), Ent.t 14 (VA.k (kint .i64) (a0.size : Int)), Ent.t 15 (VA.k (kint .i64) s5)]) (fun k s5 => disk_named.l0 a0 k s5) (fun _ => rfl) H (.cons rfl (.cons rfl (.cons rfl .nil))) ?_
      intro k s5 H
      simp only [disk_named.l0] at H
      refine goes_seq ?_
      refine goes_region ?_
      refine go1 (op_icmp rfl rfl (.t (has rfl)) (.t (has rfl))) rfl ?_
      refine goesO_nil ?_
      refine ends_then ?_
      refine goes_seq ?_
      refine goes_if (.t (has rfl)) H (fun hb9 H => ?_) (fun hb9 H => ?_)
      · skip
        refine goes_skip ?_
        refine ends_then ?_
        refine goes_seq ?_
        refine goes_block ?_
        refine goes_seq ?_
        refine goes_region ?_
        refine go1 (op_move rfl (.t (has rfl))) rfl ?_
        refine go1 (op_assign rfl (.t (has rfl))) rfl ?_
        refine goesO_nil ?_
        refine ends_then ?_
        refine goes_seq ?_
        refine goes_region ?_
        refine go1 (op_move rfl (.t (has rfl))) rfl ?_
        refine go1 (op_move rfl (.t (has rfl))) rfl ?_
        obtain ⟨x10, h11, H⟩ := bind_some H
        refine go1 (op_index_str rfl Try.underlying9 h11 (.t (has rfl)) (.t (has rfl))) rfl ?_
        refine go1 (op_assign rfl (.t (has rfl))) rfl ?_
        refine goesO_nil ?_
        refine ends_then ?_
        refine goes_seq ?_
        obtain ⟨s12, h13, H⟩ := bind_some H
        refine goes_cut [Ent.t 0 (VA.k kstr a0), Ent.t 14 (VA.k (kint .i64) (a0.size : Int)), Ent.t 15 (VA.k (kint .i64) s5), Ent.t 48 (VA.k kbool s12)] ?_ ?_
        · replace H := h13; clear h13
          refine goes_region ?_
          refine go1 (op_move rfl (.t (has rfl))) rfl ?_
          refine go1 (op_icmp rfl rfl (.t (has rfl)) (.int _ _)) rfl ?_
          refine go1 (op_move rfl (.t (has rfl))) rfl ?_
          refine goesO_split H (fun hb14 H => ?_) (fun hb14 H => ?_)
          · skip
            refine goG (op_move rfl (.t (has rfl))) rfl rfl rfl rfl hb14 ?_
            refine goG (op_icmp rfl rfl (.t (has rfl)) (.int _ _)) rfl rfl rfl rfl hb14 ?_
            refine go1 (op_pick_t rfl hb14 (.t (has rfl)) (.t (has rfl))) rfl ?_
            refine go1 (op_move rfl (.t (has rfl))) rfl ?_
            refine goesO_split H (fun hb15 H => ?_) (fun hb15 H => ?_)
            · skip
              refine goS rfl rfl rfl rfl rfl rfl hb15 ?_
              refine goS rfl rfl rfl rfl rfl rfl hb15 ?_
              refine goS rfl rfl rfl rfl rfl rfl hb15 ?_
              refine goSU rfl rfl rfl rfl rfl rfl ?_
              refine goSU rfl rfl rfl rfl rfl rfl ?_
              refine goS rfl rfl rfl rfl rfl rfl hb15 ?_
              refine go1 (op_pick_t rfl hb15 (.t (has rfl)) (.bool _)) rfl ?_
              refine go1 (op_move rfl (.t (has rfl))) rfl ?_
              refine goS rfl rfl rfl rfl rfl rfl rfl ?_
              refine goS rfl rfl rfl rfl rfl rfl rfl ?_
              refine goS rfl rfl rfl rfl rfl rfl rfl ?_
              refine goSU rfl rfl rfl rfl rfl rfl ?_
              refine goSU rfl rfl rfl rfl rfl rfl ?_
              refine goS rfl rfl rfl rfl rfl rfl rfl ?_
              refine go1 (op_pick_t rfl rfl (.t (has rfl)) (.bool _)) rfl ?_
              refine go1 (op_move rfl (.t (has rfl))) rfl ?_
              refine goS rfl rfl rfl rfl rfl rfl rfl ?_
              refine goS rfl rfl rfl rfl rfl rfl rfl ?_
              refine goS rfl rfl rfl rfl rfl rfl rfl ?_
              refine go1 (op_pick_t rfl rfl (.t (has rfl)) (.bool _)) rfl ?_
              refine go1 (op_not rfl (.t (has rfl))) rfl ?_
              refine goesO_nil ?_
              obtain rfl := Option.some.inj H
              exact ends_cut (.cons rfl (.cons rfl (.cons rfl (.cons rfl .nil))))
            · skip
              refine goG (op_move rfl (.t (has rfl))) rfl rfl rfl rfl hb15 ?_
              refine goG (op_icmp rfl rfl (.t (has rfl)) (.int _ _)) rfl rfl rfl rfl hb15 ?_
              refine goG (op_move rfl (.t (has rfl))) rfl rfl rfl rfl hb15 ?_
              refine goesO_split H (fun hb16 H => ?_) (fun hb16 H => ?_)
              · skip
                refine goG (op_move rfl (.t (has rfl))) rfl rfl rfl rfl hb16 ?_
                refine goG (op_icmp rfl rfl (.t (has rfl)) (.int _ _)) rfl rfl rfl rfl hb16 ?_
                refine goG (op_pick_t rfl hb16 (.t (has rfl)) (.t (has rfl))) rfl rfl rfl rfl hb15 ?_
                refine go1 (op_pick_f rfl hb15 (.t (has rfl)) (.t (has rfl))) rfl ?_
                refine go1 (op_move rfl (.t (has rfl))) rfl ?_
                refine goesO_split H (fun hb17 H => ?_) (fun hb17 H => ?_)
                · skip
                  refine goS rfl rfl rfl rfl rfl rfl hb17 ?_
                  refine goS rfl rfl rfl rfl rfl rfl hb17 ?_
                  refine goS rfl rfl rfl rfl rfl rfl hb17 ?_
                  refine goSU rfl rfl rfl rfl rfl rfl ?_
                  refine goSU rfl rfl rfl rfl rfl rfl ?_
                  refine goS rfl rfl rfl rfl rfl rfl hb17 ?_
                  refine go1 (op_pick_t rfl hb17 (.t (has rfl)) (.bool _)) rfl ?_
                  refine go1 (op_move rfl (.t (has rfl))) rfl ?_
                  refine goS rfl rfl rfl rfl rfl rfl rfl ?_
                  refine goS rfl rfl rfl rfl rfl rfl rfl ?_
                  refine goS rfl rfl rfl rfl rfl rfl rfl ?_
                  refine go1 (op_pick_t rfl rfl (.t (has rfl)) (.bool _)) rfl ?_
                  refine go1 (op_not rfl (.t (has rfl))) rfl ?_
                  refine goesO_nil ?_
                  obtain rfl := Option.some.inj H
                  exact ends_cut (.cons rfl (.cons rfl (.cons rfl (.cons rfl .nil))))
                · skip
                  refine goG (op_move rfl (.t (has rfl))) rfl rfl rfl rfl hb17 ?_
                  refine goG (op_icmp rfl rfl (.t (has rfl)) (.int _ _)) rfl rfl rfl rfl hb17 ?_
                  refine goG (op_move rfl (.t (has rfl))) rfl rfl rfl rfl hb17 ?_
                  refine goesO_split H (fun hb18 H => ?_) (fun hb18 H => ?_)
                  · skip
                    refine goG (op_move rfl (.t (has rfl))) rfl rfl rfl rfl hb18 ?_
                    refine goG (op_icmp rfl rfl (.t (has rfl)) (.int _ _)) rfl rfl rfl rfl hb18 ?_
                    refine goG (op_pick_t rfl hb18 (.t (has rfl)) (.t (has rfl))) rfl rfl rfl rfl hb17 ?_
                    refine go1 (op_pick_f rfl hb17 (.t (has rfl)) (.t (has rfl))) rfl ?_
                    refine go1 (op_move rfl (.t (has rfl))) rfl ?_
                    refine goesO_split H (fun hb19 H => ?_) (fun hb19 H => ?_)
                    · skip
                      refine goS rfl rfl rfl rfl rfl rfl hb19 ?_
                      refine goS rfl rfl rfl rfl rfl rfl hb19 ?_
                      refine goS rfl rfl rfl rfl rfl rfl hb19 ?_
                      refine go1 (op_pick_t rfl hb19 (.t (has rfl)) (.bool _)) rfl ?_
                      refine go1 (op_not rfl (.t (has rfl))) rfl ?_
                      refine goesO_nil ?_
                      obtain rfl := Option.some.inj H
                      exact ends_cut (.cons rfl (.cons rfl (.cons rfl (.cons rfl .nil))))
                    · skip
                      refine goG (op_move rfl (.t (has rfl))) rfl rfl rfl rfl hb19 ?_
                      obtain ⟨v20, h21, H⟩ := bind_some H
                      refine goG (op_call' rfl enters58 (strings_IndexByte.con _ _ _ h21) rfl (.cons (ArgP.k (.str _)) (.cons (ArgP.k (.t (has rfl))) .nil))) rfl rfl rfl rfl hb19 ?_
                      refine goG (op_icmp rfl rfl (.t (has rfl)) (.int _ _)) rfl rfl rfl rfl hb19 ?_
                      refine go1 (op_pick_f rfl hb19 (.t (has rfl)) (.t (has rfl))) rfl ?_
                      refine go1 (op_not rfl (.t (has rfl))) rfl ?_
                      refine goesO_nil ?_
                      obtain rfl := Option.some.inj H
                      exact ends_cut (.cons rfl (.cons rfl (.cons rfl (.cons rfl .nil))))
                  · skip
                    refine goS rfl rfl rfl rfl rfl rfl hb18 ?_
                    refine goS rfl rfl rfl rfl rfl rfl hb18 ?_
                    refine goG (op_pick_f rfl hb18 (.t (has rfl)) (.bool _)) rfl rfl rfl rfl hb17 ?_
                    refine go1 (op_pick_f rfl hb17 (.t (has rfl)) (.t (has rfl))) rfl ?_
                    refine go1 (op_move rfl (.t (has rfl))) rfl ?_
                    refine goG (op_move rfl (.t (has rfl))) rfl rfl rfl rfl rfl ?_
                    obtain ⟨v22, h23, H⟩ := bind_some H
                    refine goG (op_call' rfl enters58 (strings_IndexByte.con _ _ _ h23) rfl (.cons (ArgP.k (.str _)) (.cons (ArgP.k (.t (has rfl))) .nil))) rfl rfl rfl rfl rfl ?_
                    refine goG (op_icmp rfl rfl (.t (has rfl)) (.int _ _)) rfl rfl rfl rfl rfl ?_
                    refine go1 (op_pick_f rfl rfl (.t (has rfl)) (.t (has rfl))) rfl ?_
                    refine go1 (op_not rfl (.t (has rfl))) rfl ?_
                    refine goesO_nil ?_
                    obtain rfl := Option.some.inj H
                    exact ends_cut (.cons rfl (.cons rfl (.cons rfl (.cons rfl .nil))))
              · skip
                refine goS rfl rfl rfl rfl rfl rfl hb16 ?_
                refine goS rfl rfl rfl rfl rfl rfl hb16 ?_
                refine goG (op_pick_f rfl hb16 (.t (has rfl)) (.bool _)) rfl rfl rfl rfl hb15 ?_
                refine go1 (op_pick_f rfl hb15 (.t (has rfl)) (.t (has rfl))) rfl ?_
                refine go1 (op_move rfl (.t (has rfl))) rfl ?_
                refine goG (op_move rfl (.t (has rfl))) rfl rfl rfl rfl rfl ?_
                refine goG (op_icmp rfl rfl (.t (has rfl)) (.int _ _)) rfl rfl rfl rfl rfl ?_
                refine goG (op_move rfl (.t (has rfl))) rfl rfl rfl rfl rfl ?_
                refine goesO_split H (fun hb24 H => ?_) (fun hb24 H => ?_)
                · skip
                  refine goG (op_move rfl (.t (has rfl))) rfl rfl rfl rfl hb24 ?_
                  refine goG (op_icmp rfl rfl (.t (has rfl)) (.int _ _)) rfl rfl rfl rfl hb24 ?_
                  refine goG (op_pick_t rfl hb24 (.t (has rfl)) (.t (has rfl))) rfl rfl rfl rfl rfl ?_
                  refine go1 (op_pick_f rfl rfl (.t (has rfl)) (.t (has rfl))) rfl ?_
                  refine go1 (op_move rfl (.t (has rfl))) rfl ?_
                  refine goesO_split H (fun hb25 H => ?_) (fun hb25 H => ?_)
                  · skip
                    refine goS rfl rfl rfl rfl rfl rfl hb25 ?_
                    refine goS rfl rfl rfl rfl rfl rfl hb25 ?_
                    refine goS rfl rfl rfl rfl rfl rfl hb25 ?_
                    refine go1 (op_pick_t rfl hb25 (.t (has rfl)) (.bool _)) rfl ?_
                    refine go1 (op_not rfl (.t (has rfl))) rfl ?_
                    refine goesO_nil ?_
                    obtain rfl := Option.some.inj H
                    exact ends_cut (.cons rfl (.cons rfl (.cons rfl (.cons rfl .nil))))
                  · skip
                    refine goG (op_move rfl (.t (has rfl))) rfl rfl rfl rfl hb25 ?_
                    obtain ⟨v26, h27, H⟩ := bind_some H
                    refine goG (op_call' rfl enters58 (strings_IndexByte.con _ _ _ h27) rfl (.cons (ArgP.k (.str _)) (.cons (ArgP.k (.t (has rfl))) .nil))) rfl rfl rfl rfl hb25 ?_
                    refine goG (op_icmp rfl rfl (.t (has rfl)) (.int _ _)) rfl rfl rfl rfl hb25 ?_
                    refine go1 (op_pick_f rfl hb25 (.t (has rfl)) (.t (has rfl))) rfl ?_
                    refine go1 (op_not rfl (.t (has rfl))) rfl ?_
                    refine goesO_nil ?_
                    obtain rfl := Option.some.inj H
                    exact ends_cut (.cons rfl (.cons rfl (.cons rfl (.cons rfl .nil))))
                · skip
                  refine goS rfl rfl rfl rfl rfl rfl hb24 ?_
                  refine goS rfl rfl rfl rfl rfl rfl hb24 ?_
                  refine goG (op_pick_f rfl hb24 (.t (has rfl)) (.bool _)) rfl rfl rfl rfl rfl ?_
                  refine go1 (op_pick_f rfl rfl (.t (has rfl)) (.t (has rfl))) rfl ?_
                  refine go1 (op_move rfl (.t (has rfl))) rfl ?_
                  refine goG (op_move rfl (.t (has rfl))) rfl rfl rfl rfl rfl ?_
                  obtain ⟨v28, h29, H⟩ := bind_some H
                  refine goG (op_call' rfl enters58 (strings_IndexByte.con _ _ _ h29) rfl (.cons (ArgP.k (.str _)) (.cons (ArgP.k (.t (has rfl))) .nil))) rfl rfl rfl rfl rfl ?_
                  refine goG (op_icmp rfl rfl (.t (has rfl)) (.int _ _)) rfl rfl rfl rfl rfl ?_
                  refine go1 (op_pick_f rfl rfl (.t (has rfl)) (.t (has rfl))) rfl ?_
                  refine go1 (op_not rfl (.t (has rfl))) rfl ?_
                  refine goesO_nil ?_
                  obtain rfl := Option.some.inj H
                  exact ends_cut (.cons rfl (.cons rfl (.cons rfl (.cons rfl .nil))))
          · skip
            refine goS rfl rfl rfl rfl rfl rfl hb14 ?_
            refine goS rfl rfl rfl rfl rfl rfl hb14 ?_
            refine go1 (op_pick_f rfl hb14 (.t (has rfl)) (.bool _)) rfl ?_
            refine go1 (op_move rfl (.t (has rfl))) rfl ?_
            refine goG (op_move rfl (.t (has rfl))) rfl rfl rfl rfl rfl ?_
            refine goG (op_icmp rfl rfl (.t (has rfl)) (.int _ _)) rfl rfl rfl rfl rfl ?_
            refine goG (op_move rfl (.t (has rfl))) rfl rfl rfl rfl rfl ?_
            refine goesO_split H (fun hb30 H => ?_) (fun hb30 H => ?_)
            · skip
              refine goG (op_move rfl (.t (has rfl))) rfl rfl rfl rfl hb30 ?_
              refine goG (op_icmp rfl rfl (.t (has rfl)) (.int _ _)) rfl rfl rfl rfl hb30 ?_
              refine goG (op_pick_t rfl hb30 (.t (has rfl)) (.t (has rfl))) rfl rfl rfl rfl rfl ?_
              refine go1 (op_pick_f rfl rfl (.t (has rfl)) (.t (has rfl))) rfl ?_
              refine go1 (op_move rfl (.t (has rfl))) rfl ?_
              refine goesO_split H (fun hb31 H => ?_) (fun hb31 H => ?_)
              · skip
                refine goS rfl rfl rfl rfl rfl rfl hb31 ?_
                refine goS rfl rfl rfl rfl rfl rfl hb31 ?_
                refine goS rfl rfl rfl rfl rfl rfl hb31 ?_
                refine goSU rfl rfl rfl rfl rfl rfl ?_
                refine goSU rfl rfl rfl rfl rfl rfl ?_
                refine goS rfl rfl rfl rfl rfl rfl hb31 ?_
                refine go1 (op_pick_t rfl hb31 (.t (has rfl)) (.bool _)) rfl ?_
                refine go1 (op_move rfl (.t (has rfl))) rfl ?_
                refine goS rfl rfl rfl rfl rfl rfl rfl ?_
                refine goS rfl rfl rfl rfl rfl rfl rfl ?_
                refine goS rfl rfl rfl rfl rfl rfl rfl ?_
                refine go1 (op_pick_t rfl rfl (.t (has rfl)) (.bool _)) rfl ?_
                refine go1 (op_not rfl (.t (has rfl))) rfl ?_
                refine goesO_nil ?_
                obtain rfl := Option.some.inj H
                exact ends_cut (.cons rfl (.cons rfl (.cons rfl (.cons rfl .nil))))
              · skip
                refine goG (op_move rfl (.t (has rfl))) rfl rfl rfl rfl hb31 ?_
                refine goG (op_icmp rfl rfl (.t (has rfl)) (.int _ _)) rfl rfl rfl rfl hb31 ?_
                refine goG (op_move rfl (.t (has rfl))) rfl rfl rfl rfl hb31 ?_
                refine goesO_split H (fun hb32 H => ?_) (fun hb32 H => ?_)
                · skip
                  refine goG (op_move rfl (.t (has rfl))) rfl rfl rfl rfl hb32 ?_
                  refine goG (op_icmp rfl rfl (.t (has rfl)) (.int _ _)) rfl rfl rfl rfl hb32 ?_
                  refine goG (op_pick_t rfl hb32 (.t (has rfl)) (.t (has rfl))) rfl rfl rfl rfl hb31 ?_
                  refine go1 (op_pick_f rfl hb31 (.t (has rfl)) (.t (has rfl))) rfl ?_
                  refine go1 (op_move rfl (.t (has rfl))) rfl ?_
                  refine goesO_split H (fun hb33 H => ?_) (fun hb33 H => ?_)
                  · skip
                    refine goS rfl rfl rfl rfl rfl rfl hb33 ?_
                    refine goS rfl rfl rfl rfl rfl rfl hb33 ?_
                    refine goS rfl rfl rfl rfl rfl rfl hb33 ?_
                    refine go1 (op_pick_t rfl hb33 (.t (has rfl)) (.bool _)) rfl ?_
                    refine go1 (op_not rfl (.t (has rfl))) rfl ?_
                    refine goesO_nil ?_
                    obtain rfl := Option.some.inj H
                    exact ends_cut (.cons rfl (.cons rfl (.cons rfl (.cons rfl .nil))))
                  · skip
                    refine goG (op_move rfl (.t (has rfl))) rfl rfl rfl rfl hb33 ?_
                    obtain ⟨v34, h35, H⟩ := bind_some H
                    refine goG (op_call' rfl enters58 (strings_IndexByte.con _ _ _ h35) rfl (.cons (ArgP.k (.str _)) (.cons (ArgP.k (.t (has rfl))) .nil))) rfl rfl rfl rfl hb33 ?_
                    refine goG (op_icmp rfl rfl (.t (has rfl)) (.int _ _)) rfl rfl rfl rfl hb33 ?_
                    refine go1 (op_pick_f rfl hb33 (.t (has rfl)) (.t (has rfl))) rfl ?_
                    refine go1 (op_not rfl (.t (has rfl))) rfl ?_
                    refine goesO_nil ?_
                    obtain rfl := Option.some.inj H
                    exact ends_cut (.cons rfl (.cons rfl (.cons rfl (.cons rfl .nil))))
                · skip
                  refine goS rfl rfl rfl rfl rfl rfl hb32 ?_
                  refine goS rfl rfl rfl rfl rfl rfl hb32 ?_
                  refine goG (op_pick_f rfl hb32 (.t (has rfl)) (.bool _)) rfl rfl rfl rfl hb31 ?_
                  refine go1 (op_pick_f rfl hb31 (.t (has rfl)) (.t (has rfl))) rfl ?_
                  refine go1 (op_move rfl (.t (has rfl))) rfl ?_
                  refine goG (op_move rfl (.t (has rfl))) rfl rfl rfl rfl rfl ?_
                  obtain ⟨v36, h37, H⟩ := bind_some H
                  refine goG (op_call' rfl enters58 (strings_IndexByte.con _ _ _ h37) rfl (.cons (ArgP.k (.str _)) (.cons (ArgP.k (.t (has rfl))) .nil))) rfl rfl rfl rfl rfl ?_
                  refine goG (op_icmp rfl rfl (.t (has rfl)) (.int _ _)) rfl rfl rfl rfl rfl ?_
                  refine go1 (op_pick_f rfl rfl (.t (has rfl)) (.t (has rfl))) rfl ?_
                  refine go1 (op_not rfl (.t (has rfl))) rfl ?_
                  refine goesO_nil ?_
                  obtain rfl := Option.some.inj H
                  exact ends_cut (.cons rfl (.cons rfl (.cons rfl (.cons rfl .nil))))
            · skip
              refine goS rfl rfl rfl rfl rfl rfl hb30 ?_
              refine goS rfl rfl rfl rfl rfl rfl hb30 ?_
              refine goG (op_pick_f rfl hb30 (.t (has rfl)) (.bool _)) rfl rfl rfl rfl rfl ?_
              refine go1 (op_pick_f rfl rfl (.t (has rfl)) (.t (has rfl))) rfl ?_
              refine go1 (op_move rfl (.t (has rfl))) rfl ?_
              refine goG (op_move rfl (.t (has rfl))) rfl rfl rfl rfl rfl ?_
              refine goG (op_icmp rfl rfl (.t (has rfl)) (.int _ _)) rfl rfl rfl rfl rfl ?_
              refine goG (op_move rfl (.t (has rfl))) rfl rfl rfl rfl rfl ?_
              refine goesO_split H (fun hb38 H => ?_) (fun hb38 H => ?_)
              · skip
                refine goG (op_move rfl (.t (has rfl))) rfl rfl rfl rfl hb38 ?_
                refine goG (op_icmp rfl rfl (.t (has rfl)) (.int _ _)) rfl rfl rfl rfl hb38 ?_
                refine goG (op_pick_t rfl hb38 (.t (has rfl)) (.t (has rfl))) rfl rfl rfl rfl rfl ?_
                refine go1 (op_pick_f rfl rfl (.t (has rfl)) (.t (has rfl))) rfl ?_
                refine go1 (op_move rfl (.t (has rfl))) rfl ?_
                refine goesO_split H (fun hb39 H => ?_) (fun hb39 H => ?_)
                · skip
                  refine goS rfl rfl rfl rfl rfl rfl hb39 ?_
                  refine goS rfl rfl rfl rfl rfl rfl hb39 ?_
                  refine goS rfl rfl rfl rfl rfl rfl hb39 ?_
                  refine go1 (op_pick_t rfl hb39 (.t (has rfl)) (.bool _)) rfl ?_
                  refine go1 (op_not rfl (.t (has rfl))) rfl ?_
                  refine goesO_nil ?_
                  obtain rfl := Option.some.inj H
                  exact ends_cut (.cons rfl (.cons rfl (.cons rfl (.cons rfl .nil))))
                · skip
                  refine goG (op_move rfl (.t (has rfl))) rfl rfl rfl rfl hb39 ?_
                  obtain ⟨v40, h41, H⟩ := bind_some H
                  refine goG (op_call' rfl enters58 (strings_IndexByte.con _ _ _ h41) rfl (.cons (ArgP.k (.str _)) (.cons (ArgP.k (.t (has rfl))) .nil))) rfl rfl rfl rfl hb39 ?_
                  refine goG (op_icmp rfl rfl (.t (has rfl)) (.int _ _)) rfl rfl rfl rfl hb39 ?_
                  refine go1 (op_pick_f rfl hb39 (.t (has rfl)) (.t (has rfl))) rfl ?_
                  refine go1 (op_not rfl (.t (has rfl))) rfl ?_
                  refine goesO_nil ?_
                  obtain rfl := Option.some.inj H
                  exact ends_cut (.cons rfl (.cons rfl (.cons rfl (.cons rfl .nil))))
              · skip
                refine goS rfl rfl rfl rfl rfl rfl hb38 ?_
                refine goS rfl rfl rfl rfl rfl rfl hb38 ?_
                refine goG (op_pick_f rfl hb38 (.t (has rfl)) (.bool _)) rfl rfl rfl rfl rfl ?_
                refine go1 (op_pick_f rfl rfl (.t (has rfl)) (.t (has rfl))) rfl ?_
                refine go1 (op_move rfl (.t (has rfl))) rfl ?_
                refine goG (op_move rfl (.t (has rfl))) rfl rfl rfl rfl rfl ?_
                obtain ⟨v42, h43, H⟩ := bind_some H
                refine goG (op_call' rfl enters58 (strings_IndexByte.con _ _ _ h43) rfl (.cons (ArgP.k (.str _)) (.cons (ArgP.k (.t (has rfl))) .nil))) rfl rfl rfl rfl rfl ?_
                refine goG (op_icmp rfl rfl (.t (has rfl)) (.int _ _)) rfl rfl rfl rfl rfl ?_
                refine go1 (op_pick_f rfl rfl (.t (has rfl)) (.t (has rfl))) rfl ?_
                refine go1 (op_not rfl (.t (has rfl))) rfl ?_
                refine goesO_nil ?_
                obtain rfl := Option.some.inj H
                exact ends_cut (.cons rfl (.cons rfl (.cons rfl (.cons rfl .nil))))
        refine ends_then ?_
        refine goes_if (.t (has rfl)) H (fun hb44 H => ?_) (fun hb44 H => ?_)
        · skip
          refine goes_seq ?_
          refine goes_region ?_
          refine go1 (op_assign rfl (.bool _)) rfl ?_
          refine goesO_nil ?_
          refine ends_then ?_
          obtain rfl := Option.some.inj H
          refine goes_ret (ends_block_ret (ends_then_ret (ends_then_ret (ends_block_ret (ends_cutR_ret rfl ?_)))))
          exact ends_ret' rfl rfl (.t rfl (.nil _))
        · skip
          refine goes_skip ?_
          refine ends_block ?_
          refine ends_then ?_
          refine goes_region ?_
          refine go1 (op_add rfl (.t (has rfl)) (.int _ _)) rfl ?_
          refine go1 (op_move rfl (.t (has rfl))) rfl ?_
          refine goesO_nil ?_
          exact loop_next _ H (.cons rfl (.cons rfl (.cons rfl .nil)))
      · skip
        refine goes_exit (ends_then_exit (ends_then_exit (ends_block_exit ?_)))
        obtain rfl := Option.some.inj H
        exact ends_cutR rfl .nil
    · rintro s6 rfl
      clear h7
      dsimp only at H
      refine ends_then ?_
      refine goes_seq ?_
      refine goes_region ?_
      refine go1 (op_assign rfl (.bool _)) rfl ?_
      refine goesO_nil ?_
      refine ends_then ?_
      obtain rfl := Option.some.inj H
      exact goes_ret (ends_ret' rfl rfl (.t rfl (.nil _)))
    · rintro r' rfl a w hr
      obtain rfl := Option.some.inj H
      exact hr
theorem disk_named.conF (k : Nat) (a0 : ByteArray) (r : Bool) (H : disk_named.f k a0 = some r) : ConF Try.prog 39 [VA.k kstr a0] [VA.k kbool r] := (disk_named.con k a0 r H).freeL (.cons (KFree.k KFree.bool _) .nil)
/-! smithy/disk.Check -/
def disk_Check.l0 (a0 : Disk) : Nat → (File × Int) → Option (Except Int Unit)
  | 0, _ => none
  | k + 1, s6 => bif icmp .lss s6.2 (a0.Files.length : Int) then ((idx a0.Files s6.2).bind fun x11 => ((disk_named.f k x11.Name).bind fun v15 => bif !v15 then (some true) else (bif icmp .gtr s6.2 (0 : Int) then (bif scmp .leq x11.Name s6.1.Name then (some true) else (bif icmp .gtr (x11.Text.size : Int) (4096 : Int) then (some true) else (bif icmp .lss x11.Stamp (0 : Int) then (some true) else (some (icmp .gtr x11.Stamp a0.Clock))))) else (bif icmp .gtr (x11.Text.size : Int) (4096 : Int) then (some true) else (bif icmp .lss x11.Stamp (0 : Int) then (some true) else (some (icmp .gtr x11.Stamp a0.Clock)))))).bind fun s13 => bif s13 then (some (Except.error (4 : Int))) else (disk_Check.l0 a0 k (x11, IntKind.i64.wrap (s6.2 + (1 : Int))))) else (some (Except.ok ()))
def disk_Check.f (k : Nat) (a0 : Disk) : Option Int := (bif icmp .lss a0.Clock (0 : Int) then (some true) else (bif icmp .gtr a0.Clock (1099511627776 : Int) then (some true) else (some (icmp .gtr (a0.Files.length : Int) (256 : Int))))).bind fun s1 => bif s1 then (some (4 : Int)) else ((disk_Check.l0 a0 k ((⟨ByteArray.empty, ByteArray.empty, (0 : Int)⟩ : File), (0 : Int))).bind fun o9 => match o9 with | .error r' => some r' | .ok s7 => (some (0 : Int)))
set_option maxRecDepth 100000 in
set_option maxHeartbeats 4000000 in
theorem disk_Check.con (k : Nat) (a0 : Disk) (r : Int) (H : disk_Check.f k a0 = some r) : Con Try.prog 14 [VA.k kDisk a0] [VA.k (kint .i64) r] := by
  unfold disk_Check.f at H
  refine con_enter Try.func14 rfl rfl rfl (fun w0 S0 θ => ?_)
  refine goes_seq ?_
  refine goes_region ?_
  refine go3 (op_box 1 rfl (fun h => by first | rfl | cases h) (.t (has rfl))) rfl ?_
  refine go1 (op_assign rfl (.int _ _)) rfl ?_
  refine goesO_nil ?_
  refine ends_then ?_
  refine goes_seq ?_
  refine goes_seq ?_
  obtain ⟨s1, h2, H⟩ := bind_some H
  refine goes_cut [Ent.t 1 (VA.ptr 1 0), Ent.t 19 (VA.k kbool s1), Ent.h 1 (HE.box 24 kDisk a0)] ?_ ?_
  · replace H := h2; clear h2
    refine goes_region ?_
    refine go1 (op_fieldAddr rfl Try.underlying24 rfl tk3 (.t (has rfl))) rfl ?_
    refine go1 (op_load rfl fldDisk_Clock tk3 (.t (has rfl)) (has rfl)) rfl ?_
    refine go1 (op_icmp rfl rfl (.t (has rfl)) (.int _ _)) rfl ?_
    refine go1 (op_move rfl (.t (has rfl))) rfl ?_
    refine goesO_split H (fun hb3 H => ?_) (fun hb3 H => ?_)
    · skip
      refine goS rfl rfl rfl rfl rfl rfl hb3 ?_
      refine goS rfl rfl rfl rfl rfl rfl hb3 ?_
      refine goS rfl rfl rfl rfl rfl rfl hb3 ?_
      refine go1 (op_pick_t rfl hb3 (.t (has rfl)) (.bool _)) rfl ?_
      refine go1 (op_move rfl (.t (has rfl))) rfl ?_
      refine goS rfl rfl rfl rfl rfl rfl rfl ?_
      refine goS rfl rfl rfl rfl rfl rfl rfl ?_
      refine goS rfl rfl rfl rfl rfl rfl rfl ?_
      refine goS rfl rfl rfl rfl rfl rfl rfl ?_
      refine go1 (op_pick_t rfl rfl (.t (has rfl)) (.bool _)) rfl ?_
      refine goesO_nil ?_
      obtain rfl := Option.some.inj H
      exact ends_cut (.cons rfl (.cons rfl (.cons rfl .nil)))
    · skip
      refine goG (op_fieldAddr rfl Try.underlying24 rfl tk3 (.t (has rfl))) rfl rfl rfl rfl hb3 ?_
      refine goG (op_load rfl fldDisk_Clock tk3 (.t (has rfl)) (has rfl)) rfl rfl rfl rfl hb3 ?_
      refine goG (op_icmp rfl rfl (.t (has rfl)) (.int _ _)) rfl rfl rfl rfl hb3 ?_
      refine go1 (op_pick_f rfl hb3 (.t (has rfl)) (.t (has rfl))) rfl ?_
      refine go1 (op_move rfl (.t (has rfl))) rfl ?_
      refine goesO_split H (fun hb4 H => ?_) (fun hb4 H => ?_)
      · skip
        refine goS rfl rfl rfl rfl rfl rfl hb4 ?_
        refine goS rfl rfl rfl rfl rfl rfl hb4 ?_
        refine goS rfl rfl rfl rfl rfl rfl hb4 ?_
        refine goS rfl rfl rfl rfl rfl rfl hb4 ?_
        refine go1 (op_pick_t rfl hb4 (.t (has rfl)) (.bool _)) rfl ?_
        refine goesO_nil ?_
        obtain rfl := Option.some.inj H
        exact ends_cut (.cons rfl (.cons rfl (.cons rfl .nil)))
      · skip
        refine goG (op_fieldAddr rfl Try.underlying24 rfl tk22 (.t (has rfl))) rfl rfl rfl rfl hb4 ?_
        refine goG (op_load rfl fldDisk_Files tk22 (.t (has rfl)) (has rfl)) rfl rfl rfl rfl hb4 ?_
        refine goG (op_len rfl rfl Try.underlying22 (.t (has rfl))) rfl rfl rfl rfl hb4 ?_
        refine goG (op_icmp rfl rfl (.t (has rfl)) (.int _ _)) rfl rfl rfl rfl hb4 ?_
        refine go1 (op_pick_f rfl hb4 (.t (has rfl)) (.t (has rfl))) rfl ?_
        refine goesO_nil ?_
        obtain rfl := Option.some.inj H
        exact ends_cut (.cons rfl (.cons rfl (.cons rfl .nil)))
  refine ends_then ?_
  refine goes_if (.t (has rfl)) H (fun hb5 H => ?_) (fun hb5 H => ?_)
  · skip
    refine goes_seq ?_
    refine goes_region ?_
    refine go1 (op_assign rfl (.int _ _)) rfl ?_
    refine goesO_nil ?_
    refine ends_then ?_
    obtain rfl := Option.some.inj H
    exact goes_ret (ends_then_ret (ends_ret' rfl rfl (.t rfl (.nil _))))
  · skip
    refine goes_skip ?_
    refine ends_then ?_
    refine goes_seq ?_
    refine goes_region ?_
    refine go1 (op_build (pl := [(0, 1), (1, 1), (2, 1)]) rfl rfl Try.underlying26 (by kernel_rfl) zk26 (.nil _)) rfl ?_
    refine go3 (op_alloc 3 rfl zk26) rfl ?_
    refine go1 (op_store (Fld.whole kFile) tk26 (.t (has rfl)) (has rfl) (.t (has rfl))) rfl ?_
    refine goesO_nil ?_
    refine ends_then ?_
    refine goes_seq ?_
    refine goes_seq ?_
    refine goes_region ?_
    refine go1 (op_fieldAddr rfl Try.underlying24 rfl tk22 (.t (has rfl))) rfl ?_
    refine go1 (op_load rfl fldDisk_Files tk22 (.t (has rfl)) (has rfl)) rfl ?_
    refine go1 (op_len rfl rfl Try.underlying22 (.t (has rfl))) rfl ?_
    refine go1 (op_move rfl (.int _ _)) rfl ?_
    refine goesO_nil ?_
    refine ends_then ?_
    obtain ⟨o9, h8, H⟩ := bind_some H
    refine goes_cutR (o := o9) (fun s7 : Unit => []) (fun r a w => bodyPost Try.prog Try.f14 (CPost w0 S0 θ [VA.k (kint .i64) r]) .ret a w) ?_ ?_ ?_
    · replace H := h8; clear h8
      refine goes_block ?_
      refine goes_loop (fun s6 : File × Int => [Ent.t 1 (VA.ptr 1 0), Ent.t 3 (VA.ptr 3 0), Ent.t 22 (VA.k (kslice kFile) a0.Files), Ent.t 23 (VA.k (kint .i64) (a0.Files.length : Int)), Ent.t 24 (VA.k (kint .i64) s6.2), Ent.h 1 (HE.box 24 kDisk a0), Ent.h 3 (HE.box 26 kFile s6.1)]) (fun k s6 => disk_Check.l0 a0 k s6) (fun _ => rfl) H (.cons rfl (.cons rfl (.cons rfl (.cons rfl (.cons rfl (.cons rfl (.cons rfl .nil))))))) ?_
      intro k s6 H
      simp only [disk_Check.l0] at H
      refine goes_seq ?_
      refine goes_region ?_
      refine go1 (op_icmp rfl rfl (.t (has rfl)) (.t (has rfl))) rfl ?_
      refine goesO_nil ?_
      refine ends_then ?_
      refine goes_seq ?_
      refine goes_if (.t (has rfl)) H (fun hb10 H => ?_) (fun hb10 H => ?_)
      · skip
        refine goes_skip ?_
        refine ends_then ?_
        refine goes_seq ?_
        refine goes_block ?_
        refine goes_seq ?_
        refine goes_region ?_
        refine go1 (op_move rfl (.t (has rfl))) rfl ?_
        obtain ⟨x11, h12, H⟩ := bind_some H
        refine go1 (op_indexAddr rfl Try.underlying22 tk26 h12 (.t (has rfl)) (.t (has rfl))) rfl ?_
        refine go1 (op_loadp rfl tk26 (.t (has rfl))) rfl ?_
        refine go3 (op_alloc 5 rfl zk26) rfl ?_
        refine go1 (op_assign rfl (.t (has rfl))) rfl ?_
        refine go1 (op_store (Fld.whole kFile) tk26 (.t (has rfl)) (has rfl) (.t (has rfl))) rfl ?_
        refine goesO_nil ?_
        refine ends_then ?_
        refine goes_seq ?_
        refine goes_seq ?_
        obtain ⟨s13, h14, H⟩ := bind_some H
        refine goes_cut [Ent.t 1 (VA.ptr 1 0), Ent.t 3 (VA.ptr 3 0), Ent.t 5 (VA.ptr 5 0), Ent.t 22 (VA.k (kslice kFile) a0.Files), Ent.t 23 (VA.k (kint .i64) (a0.Files.length : Int)), Ent.t 24 (VA.k (kint .i64) s6.2), Ent.t 61 (VA.k kbool s13), Ent.h 1 (HE.box 24 kDisk a0), Ent.h 3 (HE.box 26 kFile s6.1), Ent.h 5 (HE.box 26 kFile x11)] ?_ ?_
        · replace H := h14; clear h14
          refine goes_region ?_
          refine go1 (op_fieldAddr rfl Try.underlying26 rfl tk9 (.t (has rfl))) rfl ?_
          refine go1 (op_load rfl fldFile_Name tk9 (.t (has rfl)) (has rfl)) rfl ?_
          obtain ⟨v15, h16, H⟩ := bind_some H
          refine go1 (op_call' rfl enters39 (disk_named.con _ _ _ h16) rfl (.cons (ArgP.k (.t (has rfl))) .nil)) rfl ?_
          refine go1 (op_not rfl (.t (has rfl))) rfl ?_
          refine go1 (op_move rfl (.t (has rfl))) rfl ?_
          refine goesO_split H (fun hb17 H => ?_) (fun hb17 H => ?_)
          · skip
            refine goS rfl rfl rfl rfl rfl rfl hb17 ?_
            refine goS rfl rfl rfl rfl rfl rfl hb17 ?_
            refine goS rfl rfl rfl rfl rfl rfl hb17 ?_
            refine goSU rfl rfl rfl rfl rfl rfl ?_
            refine goSU rfl rfl rfl rfl rfl rfl ?_
            refine goSU rfl rfl rfl rfl rfl rfl ?_
            refine goSU rfl rfl rfl rfl rfl rfl ?_
            refine goSU rfl rfl rfl rfl rfl rfl ?_
            refine goS rfl rfl rfl rfl rfl rfl hb17 ?_
            refine go1 (op_pick_t rfl hb17 (.t (has rfl)) (.bool _)) rfl ?_
            refine go1 (op_move rfl (.t (has rfl))) rfl ?_
            refine goS rfl rfl rfl rfl rfl rfl rfl ?_
            refine goS rfl rfl rfl rfl rfl rfl rfl ?_
            refine goS rfl rfl rfl rfl rfl rfl rfl ?_
            refine goS rfl rfl rfl rfl rfl rfl rfl ?_
            refine go1 (op_pick_t rfl rfl (.t (has rfl)) (.bool _)) rfl ?_
            refine go1 (op_move rfl (.t (has rfl))) rfl ?_
            refine goS rfl rfl rfl rfl rfl rfl rfl ?_
            refine goS rfl rfl rfl rfl rfl rfl rfl ?_
            refine goS rfl rfl rfl rfl rfl rfl rfl ?_
            refine go1 (op_pick_t rfl rfl (.t (has rfl)) (.bool _)) rfl ?_
            refine go1 (op_move rfl (.t (has rfl))) rfl ?_
            refine goS rfl rfl rfl rfl rfl rfl rfl ?_
            refine goS rfl rfl rfl rfl rfl rfl rfl ?_
            refine goS rfl rfl rfl rfl rfl rfl rfl ?_
            refine goS rfl rfl rfl rfl rfl rfl rfl ?_
            refine goS rfl rfl rfl rfl rfl rfl rfl ?_
            refine go1 (op_pick_t rfl rfl (.t (has rfl)) (.bool _)) rfl ?_
            refine goesO_nil ?_
            obtain rfl := Option.some.inj H
            exact ends_cut (.cons rfl (.cons rfl (.cons rfl (.cons rfl (.cons rfl (.cons rfl (.cons rfl (.cons rfl (.cons rfl (.cons rfl .nil))))))))))
          · skip
            refine goG (op_move rfl (.t (has rfl))) rfl rfl rfl rfl hb17 ?_
            refine goG (op_icmp rfl rfl (.t (has rfl)) (.int _ _)) rfl rfl rfl rfl hb17 ?_
            refine goG (op_move rfl (.t (has rfl))) rfl rfl rfl rfl hb17 ?_
            refine goesO_split H (fun hb18 H => ?_) (fun hb18 H => ?_)
            · skip
              refine goG (op_fieldAddr rfl Try.underlying26 rfl tk9 (.t (has rfl))) rfl rfl rfl rfl hb18 ?_
              refine goG (op_load rfl fldFile_Name tk9 (.t (has rfl)) (has rfl)) rfl rfl rfl rfl hb18 ?_
              refine goG (op_fieldAddr rfl Try.underlying26 rfl tk9 (.t (has rfl))) rfl rfl rfl rfl hb18 ?_
              refine goG (op_load rfl fldFile_Name tk9 (.t (has rfl)) (has rfl)) rfl rfl rfl rfl hb18 ?_
              refine goG (op_scmp rfl rfl (.t (has rfl)) (.t (has rfl))) rfl rfl rfl rfl hb18 ?_
              refine goG (op_pick_t rfl hb18 (.t (has rfl)) (.t (has rfl))) rfl rfl rfl rfl hb17 ?_
              refine go1 (op_pick_f rfl hb17 (.t (has rfl)) (.t (has rfl))) rfl ?_
              refine go1 (op_move rfl (.t (has rfl))) rfl ?_
              refine goesO_split H (fun hb19 H => ?_) (fun hb19 H => ?_)
              · skip
                refine goS rfl rfl rfl rfl rfl rfl hb19 ?_
                refine goS rfl rfl rfl rfl rfl rfl hb19 ?_
                refine goS rfl rfl rfl rfl rfl rfl hb19 ?_
                refine goS rfl rfl rfl rfl rfl rfl hb19 ?_
                refine go1 (op_pick_t rfl hb19 (.t (has rfl)) (.bool _)) rfl ?_
                refine go1 (op_move rfl (.t (has rfl))) rfl ?_
                refine goS rfl rfl rfl rfl rfl rfl rfl ?_
                refine goS rfl rfl rfl rfl rfl rfl rfl ?_
                refine goS rfl rfl rfl rfl rfl rfl rfl ?_
                refine go1 (op_pick_t rfl rfl (.t (has rfl)) (.bool _)) rfl ?_
                refine go1 (op_move rfl (.t (has rfl))) rfl ?_
                refine goS rfl rfl rfl rfl rfl rfl rfl ?_
                refine goS rfl rfl rfl rfl rfl rfl rfl ?_
                refine goS rfl rfl rfl rfl rfl rfl rfl ?_
                refine goS rfl rfl rfl rfl rfl rfl rfl ?_
                refine goS rfl rfl rfl rfl rfl rfl rfl ?_
                refine go1 (op_pick_t rfl rfl (.t (has rfl)) (.bool _)) rfl ?_
                refine goesO_nil ?_
                obtain rfl := Option.some.inj H
                exact ends_cut (.cons rfl (.cons rfl (.cons rfl (.cons rfl (.cons rfl (.cons rfl (.cons rfl (.cons rfl (.cons rfl (.cons rfl .nil))))))))))
              · skip
                refine goG (op_fieldAddr rfl Try.underlying26 rfl tk9 (.t (has rfl))) rfl rfl rfl rfl hb19 ?_
                refine goG (op_load rfl fldFile_Text tk9 (.t (has rfl)) (has rfl)) rfl rfl rfl rfl hb19 ?_
                refine goG (op_len_str rfl rfl Try.underlying9 (.t (has rfl))) rfl rfl rfl rfl hb19 ?_
                refine goG (op_icmp rfl rfl (.t (has rfl)) (.int _ _)) rfl rfl rfl rfl hb19 ?_
                refine go1 (op_pick_f rfl hb19 (.t (has rfl)) (.t (has rfl))) rfl ?_
                refine go1 (op_move rfl (.t (has rfl))) rfl ?_
                refine goesO_split H (fun hb20 H => ?_) (fun hb20 H => ?_)
                · skip
                  refine goS rfl rfl rfl rfl rfl rfl hb20 ?_
                  refine goS rfl rfl rfl rfl rfl rfl hb20 ?_
                  refine goS rfl rfl rfl rfl rfl rfl hb20 ?_
                  refine go1 (op_pick_t rfl hb20 (.t (has rfl)) (.bool _)) rfl ?_
                  refine go1 (op_move rfl (.t (has rfl))) rfl ?_
                  refine goS rfl rfl rfl rfl rfl rfl rfl ?_
                  refine goS rfl rfl rfl rfl rfl rfl rfl ?_
                  refine goS rfl rfl rfl rfl rfl rfl rfl ?_
                  refine goS rfl rfl rfl rfl rfl rfl rfl ?_
                  refine goS rfl rfl rfl rfl rfl rfl rfl ?_
                  refine go1 (op_pick_t rfl rfl (.t (has rfl)) (.bool _)) rfl ?_
                  refine goesO_nil ?_
                  obtain rfl := Option.some.inj H
                  exact ends_cut (.cons rfl (.cons rfl (.cons rfl (.cons rfl (.cons rfl (.cons rfl (.cons rfl (.cons rfl (.cons rfl (.cons rfl .nil))))))))))
                · skip
                  refine goG (op_fieldAddr rfl Try.underlying26 rfl tk3 (.t (has rfl))) rfl rfl rfl rfl hb20 ?_
                  refine goG (op_load rfl fldFile_Stamp tk3 (.t (has rfl)) (has rfl)) rfl rfl rfl rfl hb20 ?_
                  refine goG (op_icmp rfl rfl (.t (has rfl)) (.int _ _)) rfl rfl rfl rfl hb20 ?_
                  refine go1 (op_pick_f rfl hb20 (.t (has rfl)) (.t (has rfl))) rfl ?_
                  refine go1 (op_move rfl (.t (has rfl))) rfl ?_
                  refine goesO_split H (fun hb21 H => ?_) (fun hb21 H => ?_)
                  · skip
                    refine goS rfl rfl rfl rfl rfl rfl hb21 ?_
                    refine goS rfl rfl rfl rfl rfl rfl hb21 ?_
                    refine goS rfl rfl rfl rfl rfl rfl hb21 ?_
                    refine goS rfl rfl rfl rfl rfl rfl hb21 ?_
                    refine goS rfl rfl rfl rfl rfl rfl hb21 ?_
                    refine go1 (op_pick_t rfl hb21 (.t (has rfl)) (.bool _)) rfl ?_
                    refine goesO_nil ?_
                    obtain rfl := Option.some.inj H
                    exact ends_cut (.cons rfl (.cons rfl (.cons rfl (.cons rfl (.cons rfl (.cons rfl (.cons rfl (.cons rfl (.cons rfl (.cons rfl .nil))))))))))
                  · skip
                    refine goG (op_fieldAddr rfl Try.underlying26 rfl tk3 (.t (has rfl))) rfl rfl rfl rfl hb21 ?_
                    refine goG (op_load rfl fldFile_Stamp tk3 (.t (has rfl)) (has rfl)) rfl rfl rfl rfl hb21 ?_
                    refine goG (op_fieldAddr rfl Try.underlying24 rfl tk3 (.t (has rfl))) rfl rfl rfl rfl hb21 ?_
                    refine goG (op_load rfl fldDisk_Clock tk3 (.t (has rfl)) (has rfl)) rfl rfl rfl rfl hb21 ?_
                    refine goG (op_icmp rfl rfl (.t (has rfl)) (.t (has rfl))) rfl rfl rfl rfl hb21 ?_
                    refine go1 (op_pick_f rfl hb21 (.t (has rfl)) (.t (has rfl))) rfl ?_
                    refine goesO_nil ?_
                    obtain rfl := Option.some.inj H
                    exact ends_cut (.cons rfl (.cons rfl (.cons rfl (.cons rfl (.cons rfl (.cons rfl (.cons rfl (.cons rfl (.cons rfl (.cons rfl .nil))))))))))
            · skip
              refine goS rfl rfl rfl rfl rfl rfl hb18 ?_
              refine goS rfl rfl rfl rfl rfl rfl hb18 ?_
              refine goS rfl rfl rfl rfl rfl rfl hb18 ?_
              refine goS rfl rfl rfl rfl rfl rfl hb18 ?_
              refine goS rfl rfl rfl rfl rfl rfl hb18 ?_
              refine goG (op_pick_f rfl hb18 (.t (has rfl)) (.bool _)) rfl rfl rfl rfl hb17 ?_
              refine go1 (op_pick_f rfl hb17 (.t (has rfl)) (.t (has rfl))) rfl ?_
              refine go1 (op_move rfl (.t (has rfl))) rfl ?_
              refine goG (op_fieldAddr rfl Try.underlying26 rfl tk9 (.t (has rfl))) rfl rfl rfl rfl rfl ?_
              refine goG (op_load rfl fldFile_Text tk9 (.t (has rfl)) (has rfl)) rfl rfl rfl rfl rfl ?_
              refine goG (op_len_str rfl rfl Try.underlying9 (.t (has rfl))) rfl rfl rfl rfl rfl ?_
              refine goG (op_icmp rfl rfl (.t (has rfl)) (.int _ _)) rfl rfl rfl rfl rfl ?_
              refine go1 (op_pick_f rfl rfl (.t (has rfl)) (.t (has rfl))) rfl ?_
              refine go1 (op_move rfl (.t (has rfl))) rfl ?_
              refine goesO_split H (fun hb22 H => ?_) (fun hb22 H => ?_)
              · skip
                refine goS rfl rfl rfl rfl rfl rfl hb22 ?_
                refine goS rfl rfl rfl rfl rfl rfl hb22 ?_
                refine goS rfl rfl rfl rfl rfl rfl hb22 ?_
                refine go1 (op_pick_t rfl hb22 (.t (has rfl)) (.bool _)) rfl ?_
                refine go1 (op_move rfl (.t (has rfl))) rfl ?_
                refine goS rfl rfl rfl rfl rfl rfl rfl ?_
                refine goS rfl rfl rfl rfl rfl rfl rfl ?_
                refine goS rfl rfl rfl rfl rfl rfl rfl ?_
                refine goS rfl rfl rfl rfl rfl rfl rfl ?_
                refine goS rfl rfl rfl rfl rfl rfl rfl ?_
                refine go1 (op_pick_t rfl rfl (.t (has rfl)) (.bool _)) rfl ?_
                refine goesO_nil ?_
                obtain rfl := Option.some.inj H
                exact ends_cut (.cons rfl (.cons rfl (.cons rfl (.cons rfl (.cons rfl (.cons rfl (.cons rfl (.cons rfl (.cons rfl (.cons rfl .nil))))))))))
              · skip
                refine goG (op_fieldAddr rfl Try.underlying26 rfl tk3 (.t (has rfl))) rfl rfl rfl rfl hb22 ?_
                refine goG (op_load rfl fldFile_Stamp tk3 (.t (has rfl)) (has rfl)) rfl rfl rfl rfl hb22 ?_
                refine goG (op_icmp rfl rfl (.t (has rfl)) (.int _ _)) rfl rfl rfl rfl hb22 ?_
                refine go1 (op_pick_f rfl hb22 (.t (has rfl)) (.t (has rfl))) rfl ?_
                refine go1 (op_move rfl (.t (has rfl))) rfl ?_
                refine goesO_split H (fun hb23 H => ?_) (fun hb23 H => ?_)
                · skip
                  refine goS rfl rfl rfl rfl rfl rfl hb23 ?_
                  refine goS rfl rfl rfl rfl rfl rfl hb23 ?_
                  refine goS rfl rfl rfl rfl rfl rfl hb23 ?_
                  refine goS rfl rfl rfl rfl rfl rfl hb23 ?_
                  refine goS rfl rfl rfl rfl rfl rfl hb23 ?_
                  refine go1 (op_pick_t rfl hb23 (.t (has rfl)) (.bool _)) rfl ?_
                  refine goesO_nil ?_
                  obtain rfl := Option.some.inj H
                  exact ends_cut (.cons rfl (.cons rfl (.cons rfl (.cons rfl (.cons rfl (.cons rfl (.cons rfl (.cons rfl (.cons rfl (.cons rfl .nil))))))))))
                · skip
                  refine goG (op_fieldAddr rfl Try.underlying26 rfl tk3 (.t (has rfl))) rfl rfl rfl rfl hb23 ?_
                  refine goG (op_load rfl fldFile_Stamp tk3 (.t (has rfl)) (has rfl)) rfl rfl rfl rfl hb23 ?_
                  refine goG (op_fieldAddr rfl Try.underlying24 rfl tk3 (.t (has rfl))) rfl rfl rfl rfl hb23 ?_
                  refine goG (op_load rfl fldDisk_Clock tk3 (.t (has rfl)) (has rfl)) rfl rfl rfl rfl hb23 ?_
                  refine goG (op_icmp rfl rfl (.t (has rfl)) (.t (has rfl))) rfl rfl rfl rfl hb23 ?_
                  refine go1 (op_pick_f rfl hb23 (.t (has rfl)) (.t (has rfl))) rfl ?_
                  refine goesO_nil ?_
                  obtain rfl := Option.some.inj H
                  exact ends_cut (.cons rfl (.cons rfl (.cons rfl (.cons rfl (.cons rfl (.cons rfl (.cons rfl (.cons rfl (.cons rfl (.cons rfl .nil))))))))))
        refine ends_then ?_
        refine goes_if (.t (has rfl)) H (fun hb24 H => ?_) (fun hb24 H => ?_)
        · skip
          refine goes_seq ?_
          refine goes_region ?_
          refine go1 (op_assign rfl (.int _ _)) rfl ?_
          refine goesO_nil ?_
          refine ends_then ?_
          obtain rfl := Option.some.inj H
          refine goes_ret (ends_then_ret (ends_block_ret (ends_then_ret (ends_then_ret (ends_block_ret (ends_cutR_ret rfl ?_))))))
          exact ends_ret' rfl rfl (.t rfl (.nil _))
        · skip
          refine goes_skip ?_
          refine ends_then ?_
          refine goes_region ?_
          refine go1 (op_load rfl (Fld.whole kFile) tk26 (.t (has rfl)) (has rfl)) rfl ?_
          refine go1 (op_store (Fld.whole kFile) tk26 (.t (has rfl)) (has rfl) (.t (has rfl))) rfl ?_
          refine goesO_nil ?_
          refine ends_block ?_
          refine ends_then ?_
          refine goes_region ?_
          refine go1 (op_add rfl (.t (has rfl)) (.int _ _)) rfl ?_
          refine go1 (op_move rfl (.t (has rfl))) rfl ?_
          refine goesO_nil ?_
          exact loop_next _ H (.cons rfl (.cons rfl (.cons rfl (.cons rfl (.cons rfl (.cons rfl (.cons rfl .nil)))))))
      · skip
        refine goes_exit (ends_then_exit (ends_then_exit (ends_block_exit ?_)))
        obtain rfl := Option.some.inj H
        exact ends_cutR rfl .nil
    · rintro s7 rfl
      clear h8
      dsimp only at H
      refine ends_then ?_
      refine goes_seq ?_
      refine goes_region ?_
      refine go1 (op_assign rfl (.int _ _)) rfl ?_
      refine goesO_nil ?_
      refine ends_then ?_
      obtain rfl := Option.some.inj H
      exact goes_ret (ends_ret' rfl rfl (.t rfl (.nil _)))
    · rintro r' rfl a w hr
      obtain rfl := Option.some.inj H
      exact hr
theorem disk_Check.conF (k : Nat) (a0 : Disk) (r : Int) (H : disk_Check.f k a0 = some r) : ConF Try.prog 14 [VA.k kDisk a0] [VA.k (kint .i64) r] := (disk_Check.con k a0 r H).freeL (.cons (KFree.k (KFree.int .i64) _) .nil)
/-! smithy/disk.asked -/
def disk_asked.f (k : Nat) (a0 : Disk) (a1 : ByteArray) : Option Int := (disk_Check.f k a0).bind fun v1 => bif icmp .neq v1 (0 : Int) then (some v1) else ((disk_named.f k a1).bind fun v4 => bif !v4 then (some (3 : Int)) else (some (0 : Int)))
set_option maxRecDepth 100000 in
set_option maxHeartbeats 4000000 in
theorem disk_asked.con (k : Nat) (a0 : Disk) (a1 : ByteArray) (r : Int) (H : disk_asked.f k a0 a1 = some r) : Con Try.prog 35 [VA.k kDisk a0, VA.k kstr a1] [VA.k (kint .i64) r] := by
  unfold disk_asked.f at H
  refine con_enter Try.func35 rfl rfl rfl (fun w0 S0 θ => ?_)
  refine goes_seq ?_
  refine goes_region ?_
  refine go3 (op_box 2 rfl (fun h => by first | rfl | cases h) (.t (has rfl))) rfl ?_
  refine go1 (op_assign rfl (.int _ _)) rfl ?_
  refine goesO_nil ?_
  refine ends_then ?_
  refine goes_seq ?_
  refine goes_seq ?_
  refine goes_region ?_
  refine go1 (op_load rfl (Fld.whole kDisk) tk24 (.t (has rfl)) (has rfl)) rfl ?_
  obtain ⟨v1, h2, H⟩ := bind_some H
  refine go1 (op_call' rfl enters14 (disk_Check.con _ _ _ h2) rfl (.cons (ArgP.k (.t (has rfl))) .nil)) rfl ?_
  refine go1 (op_assign rfl (.t (has rfl))) rfl ?_
  refine goesO_nil ?_
  refine ends_then ?_
  refine goes_seq ?_
  refine goes_region ?_
  refine go1 (op_move rfl (.t (has rfl))) rfl ?_
  refine go1 (op_icmp rfl rfl (.t (has rfl)) (.int _ _)) rfl ?_
  refine goesO_nil ?_
  refine ends_then ?_
  refine goes_if (.t (has rfl)) H (fun hb3 H => ?_) (fun hb3 H => ?_)
  · skip
    refine goes_seq ?_
    refine goes_region ?_
    refine go1 (op_move rfl (.t (has rfl))) rfl ?_
    refine go1 (op_assign rfl (.t (has rfl))) rfl ?_
    refine goesO_nil ?_
    refine ends_then ?_
    obtain rfl := Option.some.inj H
    exact goes_ret (ends_then_ret (ends_ret' rfl rfl (.t rfl (.nil _))))
  · skip
    refine goes_skip ?_
    refine ends_then ?_
    refine goes_seq ?_
    refine goes_seq ?_
    refine goes_region ?_
    refine go1 (op_move rfl (.t (has rfl))) rfl ?_
    obtain ⟨v4, h5, H⟩ := bind_some H
    refine go1 (op_call' rfl enters39 (disk_named.con _ _ _ h5) rfl (.cons (ArgP.k (.t (has rfl))) .nil)) rfl ?_
    refine go1 (op_not rfl (.t (has rfl))) rfl ?_
    refine goesO_nil ?_
    refine ends_then ?_
    refine goes_if (.t (has rfl)) H (fun hb6 H => ?_) (fun hb6 H => ?_)
    · skip
      refine goes_seq ?_
      refine goes_region ?_
      refine go1 (op_assign rfl (.int _ _)) rfl ?_
      refine goesO_nil ?_
      refine ends_then ?_
      obtain rfl := Option.some.inj H
      exact goes_ret (ends_then_ret (ends_ret' rfl rfl (.t rfl (.nil _))))
    · skip
      refine goes_skip ?_
      refine ends_then ?_
      refine goes_seq ?_
      refine goes_region ?_
      refine go1 (op_assign rfl (.int _ _)) rfl ?_
      refine goesO_nil ?_
      refine ends_then ?_
      obtain rfl := Option.some.inj H
      exact goes_ret (ends_ret' rfl rfl (.t rfl (.nil _)))
theorem disk_asked.conF (k : Nat) (a0 : Disk) (a1 : ByteArray) (r : Int) (H : disk_asked.f k a0 a1 = some r) : ConF Try.prog 35 [VA.k kDisk a0, VA.k kstr a1] [VA.k (kint .i64) r] := (disk_asked.con k a0 a1 r H).freeL (.cons (KFree.k (KFree.int .i64) _) .nil)
end Go.Proofs.Ytaeapobjhgakiaa.F
