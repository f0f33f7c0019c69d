import Derived.Test.YtodogppelokapaaTK
set_option linter.unusedVariables false
set_option linter.unusedSimpArgs false
set_option linter.unnecessarySimpa false
set_option linter.deprecated false
namespace Go.Proofs.Ytodogppelokapaa.F
open Go Go.RowKit Go.Proofs.Ytodogppelokapaa.Sl
/-! smithy/macro.closing -/
def macro_closing.f (a0 : Int) : Option Int := bif icmp .eql a0 (40 : Int) then (some (41 : Int)) else (some (125 : Int))
set_option maxRecDepth 100000 in
set_option maxHeartbeats 4000000 in
theorem macro_closing.con (a0 : Int) (r : Int) (H : macro_closing.f a0 = some r) : Con Try.prog 40 [VA.k (kint .u8) a0] [VA.k (kint .u8) r] := by
  unfold macro_closing.f at H
  refine con_enter Try.func40 rfl rfl rfl (fun w0 S0 θ => ?_)
  refine goes_seq ?_
  refine goes_region ?_
  refine go1 (op_assign rfl (.int _ _)) rfl ?_
  refine goesO_nil ?_
  refine ends_then ?_
  refine goes_seq ?_
  refine goes_seq ?_
  refine goes_region ?_
  refine go1 (op_move rfl (.t (has rfl))) rfl ?_
  refine go1 (op_icmp rfl rfl (.t (has rfl)) (.int _ _)) rfl ?_
  refine goesO_nil ?_
  refine ends_then ?_
  refine goes_if (.t (has rfl)) H (fun hb1 H => ?_) (fun hb1 H => ?_)
  · skip
    refine goes_seq ?_
    refine goes_region ?_
    refine go1 (op_assign rfl (.int _ _)) rfl ?_
    refine goesO_nil ?_
    refine ends_then ?_
    obtain rfl := Option.some.inj H
    exact goes_ret (ends_then_ret (ends_ret' rfl rfl (.t rfl (.nil _))))
  · skip
    refine goes_skip ?_
    refine ends_then ?_
    refine goes_seq ?_
    refine goes_region ?_
    refine go1 (op_assign rfl (.int _ _)) rfl ?_
    refine goesO_nil ?_
    refine ends_then ?_
    obtain rfl := Option.some.inj H
    exact goes_ret (ends_ret' rfl rfl (.t rfl (.nil _)))
theorem macro_closing.conF (a0 : Int) (r : Int) (H : macro_closing.f a0 = some r) : ConF Try.prog 40 [VA.k (kint .u8) a0] [VA.k (kint .u8) r] := (macro_closing.con a0 r H).freeL (.cons (KFree.k (KFree.int .u8) _) .nil)
/-! strings.IndexByte -/
def strings_IndexByte.f (a0 : ByteArray) (a1 : Int) : Option Int := some (Lib.indexByte a0.data.toList a1.toNat.toUInt8)
theorem strings_IndexByte.con (a0 : ByteArray) (a1 : Int) (r : Int) (H : strings_IndexByte.f a0 a1 = some r) : Con Try.prog 39 [VA.k kstr a0, VA.k (kint .u8) a1] [VA.k (kint .i64) r] := by
  obtain rfl := Option.some.inj H
  refine con_plain fun θ S w vs h => ?_
  match vs, h with
  | [v0, v1], h =>
    obtain ⟨h0, h1, _⟩ := h
    obtain rfl := arg_str h0
    obtain rfl := arg_int h1
    exact ⟨_, Try.strings_IndexByte a0 a1 w, va_int _ _⟩
theorem strings_IndexByte.conF (a0 : ByteArray) (a1 : Int) (r : Int) (H : strings_IndexByte.f a0 a1 = some r) : ConF Try.prog 39 [VA.k kstr a0, VA.k (kint .u8) a1] [VA.k (kint .i64) r] := (strings_IndexByte.con a0 a1 r H).freeL (.cons (KFree.k (KFree.int .i64) _) .nil)
/-! slices.Sort[[]string,string] -/
def slices_Sort_string_string.f (a0 : List ByteArray) : Option (List ByteArray) := bif Nat.blt a0.length 4611686018427387904 then some (sortB a0) else none
theorem slices_Sort_string_string.con (a0 : List ByteArray) (r : List ByteArray) (H : slices_Sort_string_string.f a0 = some r) : ConE Try.prog 41 [900, 500900] [Ent.r 900 9 kstr a0] [VA.rw 900 (a0).length] [] [Ent.r 900 9 kstr r] := by
  unfold slices_Sort_string_string.f at H
  cases hb : Nat.blt a0.length 4611686018427387904 with
  | false => rw [hb] at H; cases H
  | true =>
    rw [hb, cond_true] at H
    obtain rfl := Option.some.inj H
    exact conE_sort (fun blk off cap ss w h1 h2 h3 => Try.slices_Sort_string blk off cap ss w h1 h2 h3) (fun p cap w => Try.slices_Sort_string_none p cap w) a0 (blt_lt hb)
theorem slices_Sort_string_string.len {a0 r : List ByteArray} (H : slices_Sort_string_string.f a0 = some r) : (a0).length = (r).length := by
  unfold slices_Sort_string_string.f at H
  cases hb : Nat.blt a0.length 4611686018427387904 with
  | false => rw [hb] at H; cases H
  | true =>
    rw [hb, cond_true] at H
    obtain rfl := Option.some.inj H
    exact (sortB_length a0).symm
theorem slices_Sort_string_string.conF (a0 : List ByteArray) (r : List ByteArray) (H : slices_Sort_string_string.f a0 = some r) : ConEF Try.prog 41 [900, 500900] [Ent.r 900 9 kstr a0] [VA.rw 900 (a0).length] [] [Ent.r 900 9 kstr r] := (slices_Sort_string_string.con a0 r H).freeL .nil (fun e he => by rcases List.mem_cons.1 he with rfl | he; exact freeEnt_r KFree.str _ _ _; cases he)
/-! slices.Compact[[]string,string] -/
def slices_Compact_string_string.f (a0 : List ByteArray) : Option (List ByteArray) := some (compactB a0)
theorem slices_Compact_string_string.con (a0 : List ByteArray) (r : List ByteArray) (H : slices_Compact_string_string.f a0 = some r) : ConE Try.prog 42 [] [Ent.r 900 9 kstr a0] [VA.rw 900 (a0).length] [VA.own 9 kstr r] [] := by
  obtain rfl := Option.some.inj H
  exact conE_compact (fun blk off cap zs w h1 h2 h3 => Try.slices_Compact_string blk off cap zs w h1 h2 h3) (fun a cap w => Try.slices_Compact_string_empty a cap w) a0
theorem slices_Compact_string_string.conF (a0 : List ByteArray) (r : List ByteArray) (H : slices_Compact_string_string.f a0 = some r) : ConEF Try.prog 42 [] [Ent.r 900 9 kstr a0] [VA.rw 900 (a0).length] [VA.own 9 kstr r] [] := (slices_Compact_string_string.con a0 r H).freeL (.cons (KFree.own KFree.str _ _) .nil) (fun e he => by cases he)
/-! internal/stringslite.Index -/
def internal_stringslite_Index.f (a0 : ByteArray) (a1 : ByteArray) : Option Int := match a1.data.toList with
  | [c] => some (Lib.indexByte a0.data.toList c)
  | _ => none
theorem internal_stringslite_Index.con (a0 : ByteArray) (a1 : ByteArray) (r : Int) (H : internal_stringslite_Index.f a0 a1 = some r) : Con Try.prog 70 [VA.k kstr a0, VA.k kstr a1] [VA.k (kint .i64) r] := by
  unfold internal_stringslite_Index.f at H
  obtain ⟨⟨l⟩⟩ := a1
  match l, H with
  | [c], H =>
    obtain rfl := Option.some.inj H
    refine con_plain fun θ S w vs h => ?_
    match vs, h with
    | [v0, v1], h =>
      obtain ⟨h0, h1, _⟩ := h
      obtain rfl := arg_str h0
      obtain rfl := arg_str h1
      exact ⟨_, Try.stringslite_Index_one a0 c w, va_int _ _⟩
theorem internal_stringslite_Index.conF (a0 : ByteArray) (a1 : ByteArray) (r : Int) (H : internal_stringslite_Index.f a0 a1 = some r) : ConF Try.prog 70 [VA.k kstr a0, VA.k kstr a1] [VA.k (kint .i64) r] := (internal_stringslite_Index.con a0 a1 r H).freeL (.cons (KFree.k (KFree.int .i64) _) .nil)
/-! internal/stringslite.Cut -/
def internal_stringslite_Cut.f (a0 : ByteArray) (a1 : ByteArray) : Option (ByteArray × ByteArray × Bool) := (internal_stringslite_Index.f a0 a1).bind fun v1 => bif icmp .geq v1 (0 : Int) then ((ssub a0 (0 : Int) v1).bind fun x4 => (ssub a0 (IntKind.i64.wrap (v1 + (a1.size : Int))) (a0.size : Int)).bind fun x6 => some (x4, x6, true)) else (some (a0, (⟨#[]⟩ : ByteArray), false))
set_option maxRecDepth 100000 in
set_option maxHeartbeats 4000000 in
theorem internal_stringslite_Cut.con (a0 : ByteArray) (a1 : ByteArray) (r : ByteArray × ByteArray × Bool) (H : internal_stringslite_Cut.f a0 a1 = some r) : Con Try.prog 54 [VA.k kstr a0, VA.k kstr a1] [VA.k kstr r.1, VA.k kstr r.2.1, VA.k kbool r.2.2] := by
  unfold internal_stringslite_Cut.f at H
  refine con_enter Try.func54 rfl rfl rfl (fun w0 S0 θ => ?_)
  refine goes_seq ?_
  refine goes_region ?_
  refine go1 (op_assign rfl (.str _)) rfl ?_
  refine go1 (op_assign rfl (.str _)) rfl ?_
  refine go1 (op_assign rfl (.bool _)) rfl ?_
  refine goesO_nil ?_
  refine ends_then ?_
  refine goes_seq ?_
  refine goes_seq ?_
  refine goes_region ?_
  refine go1 (op_move rfl (.t (has rfl))) rfl ?_
  refine go1 (op_move rfl (.t (has rfl))) rfl ?_
  obtain ⟨v1, h2, H⟩ := bind_some H
  refine go1 (op_call' rfl enters70 (internal_stringslite_Index.con _ _ _ h2) rfl (.cons (ArgP.k (.t (has rfl))) (.cons (ArgP.k (.t (has rfl))) .nil))) rfl ?_
  refine go1 (op_assign rfl (.t (has rfl))) rfl ?_
  refine goesO_nil ?_
  refine ends_then ?_
  refine goes_seq ?_
  refine goes_region ?_
  refine go1 (op_move rfl (.t (has rfl))) rfl ?_
  refine go1 (op_icmp rfl rfl (.t (has rfl)) (.int _ _)) rfl ?_
  refine goesO_nil ?_
  refine ends_then ?_
  refine goes_if (.t (has rfl)) H (fun hb3 H => ?_) (fun hb3 H => ?_)
  · skip
    refine goes_seq ?_
    obtain ⟨x4, h5, H⟩ := bind_some H
    obtain ⟨x6, h7, H⟩ := bind_some H
    refine goes_drawn [[Ent.t 13 (VA.k kstr a0)], [Ent.t 14 (VA.k (kint .i64) v1)], [Ent.t 15 (VA.k kstr x4)], [Ent.t 16 (VA.k kstr a0)], [Ent.t 17 (VA.k (kint .i64) v1)], [Ent.t 18 (VA.k kstr a1)], [Ent.t 19 (VA.k (kint .i64) (a1.size : Int))], [Ent.t 20 (VA.k (kint .i64) (IntKind.i64.wrap (v1 + (a1.size : Int))))], [Ent.t 21 (VA.k kstr x6)], [Ent.t 4 (VA.k kstr x4)], [Ent.t 5 (VA.k kstr x6)], [Ent.t 6 (VA.k kbool true)]] mixed (by kernel_rfl) (by kernel_rfl) (.cons [(none, Ent.t 0 (VA.k kstr a0))] (OpSpec.run rfl rfl (op_move rfl (.t NL.h0)) rfl) (.cons (has rfl) .nil) (by kernel_rfl) (.cons [(none, Ent.t 7 (VA.k (kint .i64) v1))] (OpSpec.run rfl rfl (op_move rfl (.t NL.h0)) rfl) (.cons (has rfl) .nil) (by kernel_rfl) (.cons [(some 0, Ent.t 13 (VA.k kstr a0)), (some 1, Ent.t 14 (VA.k (kint .i64) v1))] (OpSpec.run rfl rfl (op_slice_str (l := none) (h := some _) rfl Try.underlying9 h5 (.t NL.h0) trivial (.t (NL.hs NL.h0))) rfl) (.cons (has rfl) (.cons (has rfl) .nil)) (by kernel_rfl) (.cons [(none, Ent.t 0 (VA.k kstr a0))] (OpSpec.run rfl rfl (op_move rfl (.t NL.h0)) rfl) (.cons (has rfl) .nil) (by kernel_rfl) (.cons [(none, Ent.t 7 (VA.k (kint .i64) v1))] (OpSpec.run rfl rfl (op_move rfl (.t NL.h0)) rfl) (.cons (has rfl) .nil) (by kernel_rfl) (.cons [(none, Ent.t 1 (VA.k kstr a1))] (OpSpec.run rfl rfl (op_move rfl (.t NL.h0)) rfl) (.cons (has rfl) .nil) (by kernel_rfl) (.cons [(some 5, Ent.t 18 (VA.k kstr a1))] (OpSpec.run rfl rfl (op_len_str rfl rfl Try.underlying9 (.t NL.h0)) rfl) (.cons (has rfl) .nil) (by kernel_rfl) (.cons [(some 4, Ent.t 17 (VA.k (kint .i64) v1)), (some 6, Ent.t 19 (VA.k (kint .i64) (a1.size : Int)))] (OpSpec.run rfl rfl (op_add rfl (.t NL.h0) (.t (NL.hs NL.h0))) rfl) (.cons (has rfl) (.cons (has rfl) .nil)) (by kernel_rfl) (.cons [(some 3, Ent.t 16 (VA.k kstr a0)), (some 7, Ent.t 20 (VA.k (kint .i64) (IntKind.i64.wrap (v1 + (a1.size : Int)))))] (OpSpec.run rfl rfl (op_slice_str (l := some _) (h := none) rfl Try.underlying9 h7 (.t NL.h0) (.t (NL.hs NL.h0)) trivial) rfl) (.cons (has rfl) (.cons (has rfl) .nil)) (by kernel_rfl) (.cons [(some 2, Ent.t 15 (VA.k kstr x4))] (OpSpec.run rfl rfl (op_assign rfl (.t NL.h0)) rfl) (.cons (has rfl) .nil) (by kernel_rfl) (.cons [(some 8, Ent.t 21 (VA.k kstr x6))] (OpSpec.run rfl rfl (op_assign rfl (.t NL.h0)) rfl) (.cons (has rfl) .nil) (by kernel_rfl) (.cons [] (OpSpec.run rfl rfl (op_assign rfl (.bool _)) rfl) .nil (by kernel_rfl) (.nil _))))))))))))) ?_
    refine ends_sub [Ent.t 4 (VA.k kstr x4), Ent.t 5 (VA.k kstr x6), Ent.t 6 (VA.k kbool true)] (.cons rfl (.cons rfl (.cons rfl .nil))) ?_
    refine ends_then ?_
    obtain rfl := Option.some.inj H
    exact goes_ret (ends_then_ret (ends_ret' rfl rfl (.t rfl (.t rfl (.t rfl (.nil _))))))
  · skip
    refine goes_skip ?_
    refine ends_then ?_
    refine goes_seq ?_
    refine goes_region ?_
    refine go1 (op_move rfl (.t (has rfl))) rfl ?_
    refine go1 (op_assign rfl (.t (has rfl))) rfl ?_
    refine go1 (op_assign rfl (.str _)) rfl ?_
    refine go1 (op_assign rfl (.bool _)) rfl ?_
    refine goesO_nil ?_
    refine ends_then ?_
    obtain rfl := Option.some.inj H
    exact goes_ret (ends_ret' rfl rfl (.t rfl (.t rfl (.t rfl (.nil _)))))
theorem internal_stringslite_Cut.conF (a0 : ByteArray) (a1 : ByteArray) (r : ByteArray × ByteArray × Bool) (H : internal_stringslite_Cut.f a0 a1 = some r) : ConF Try.prog 54 [VA.k kstr a0, VA.k kstr a1] [VA.k kstr r.1, VA.k kstr r.2.1, VA.k kbool r.2.2] := (internal_stringslite_Cut.con a0 a1 r H).freeL (.cons (KFree.k KFree.str _) (.cons (KFree.k KFree.str _) (.cons (KFree.k KFree.bool _) .nil)))
/-! strings.Cut -/
def strings_Cut.f (a0 : ByteArray) (a1 : ByteArray) : Option (ByteArray × ByteArray × Bool) := (internal_stringslite_Cut.f a0 a1).bind fun v1 => some (v1.1, v1.2.1, v1.2.2)
set_option maxRecDepth 100000 in
set_option maxHeartbeats 4000000 in
theorem strings_Cut.con (a0 : ByteArray) (a1 : ByteArray) (r : ByteArray × ByteArray × Bool) (H : strings_Cut.f a0 a1 = some r) : Con Try.prog 43 [VA.k kstr a0, VA.k kstr a1] [VA.k kstr r.1, VA.k kstr r.2.1, VA.k kbool r.2.2] := by
  unfold strings_Cut.f at H
  refine con_enter Try.func43 rfl rfl rfl (fun w0 S0 θ => ?_)
  refine goes_seq ?_
  refine goes_region ?_
  refine go1 (op_assign rfl (.str _)) rfl ?_
  refine go1 (op_assign rfl (.str _)) rfl ?_
  refine go1 (op_assign rfl (.bool _)) rfl ?_
  refine goesO_nil ?_
  refine ends_then ?_
  refine goes_seq ?_
  refine goes_region ?_
  refine go1 (op_move rfl (.t (has rfl))) rfl ?_
  refine go1 (op_move rfl (.t (has rfl))) rfl ?_
  obtain ⟨v1, h2, H⟩ := bind_some H
  refine goN (op_calls' rfl enters54 (internal_stringslite_Cut.con _ _ _ h2) rfl rfl (.cons (ArgP.k (.t (has rfl))) (.cons (ArgP.k (.t (has rfl))) .nil))) rfl ?_
  refine go1 (op_extract rfl plain_k (has rfl)) rfl ?_
  refine go1 (op_extract rfl plain_k (has rfl)) rfl ?_
  refine go1 (op_extract rfl plain_k (has rfl)) rfl ?_
  refine go1 (op_assign rfl (.t (has rfl))) rfl ?_
  refine go1 (op_assign rfl (.t (has rfl))) rfl ?_
  refine go1 (op_assign rfl (.t (has rfl))) rfl ?_
  refine goesO_nil ?_
  refine ends_then ?_
  obtain rfl := Option.some.inj H
  exact goes_ret (ends_ret' rfl rfl (.t rfl (.t rfl (.t rfl (.nil _)))))
theorem strings_Cut.conF (a0 : ByteArray) (a1 : ByteArray) (r : ByteArray × ByteArray × Bool) (H : strings_Cut.f a0 a1 = some r) : ConF Try.prog 43 [VA.k kstr a0, VA.k kstr a1] [VA.k kstr r.1, VA.k kstr r.2.1, VA.k kbool r.2.2] := (strings_Cut.con a0 a1 r H).freeL (.cons (KFree.k KFree.str _) (.cons (KFree.k KFree.str _) (.cons (KFree.k KFree.bool _) .nil)))
/-! smithy/macro.Refs -/
def macro_Refs.l0 (a0 : ByteArray) : Nat → ((List ByteArray) × Int) → Option (Except ((List ByteArray) × Int) (List ByteArray))
  | 0, _ => none
  | k + 1, s2 => bif icmp .lss (IntKind.i64.wrap (s2.2 + (1 : Int))) (a0.size : Int) then (((bidx a0 s2.2).bind fun x10 => bif icmp .neq x10 (36 : Int) then (some (Except.ok (s2.1, s2.2))) else ((bidx a0 (IntKind.i64.wrap (s2.2 + (1 : Int)))).bind fun x13 => bif icmp .eql x13 (36 : Int) then (some (Except.ok (s2.1, IntKind.i64.wrap (s2.2 + (1 : Int))))) else ((bif icmp .eql x13 (40 : Int) then (some (icmp .eql x13 (40 : Int))) else (some (icmp .eql x13 (123 : Int)))).bind fun s16 => bif s16 then ((ssub a0 (IntKind.i64.wrap (IntKind.i64.wrap (s2.2 + (1 : Int)) + (1 : Int))) (a0.size : Int)).bind fun x20 => (bidx a0 (IntKind.i64.wrap (s2.2 + (1 : Int)))).bind fun x22 => (macro_closing.f x22).bind fun v24 => (strings_IndexByte.f x20 v24).bind fun v26 => bif icmp .lss v26 (0 : Int) then ((slices_Sort_string_string.f s2.1).bind fun v29 => (slices_Compact_string_string.f v29).bind fun v31 => some (Except.error (v31, (0 : Int)))) else ((ssub a0 (IntKind.i64.wrap (IntKind.i64.wrap (s2.2 + (1 : Int)) + (1 : Int))) (IntKind.i64.wrap (IntKind.i64.wrap (IntKind.i64.wrap (s2.2 + (1 : Int)) + (1 : Int)) + v26))).bind fun x33 => (strings_Cut.f x33 (⟨#[58]⟩ : ByteArray)).bind fun v35 => (app 16 s2.1 ([v35.1])).bind fun x37 => some (Except.ok (x37, IntKind.i64.wrap (IntKind.i64.wrap (s2.2 + (1 : Int)) + IntKind.i64.wrap (v26 + (1 : Int))))))) else ((app 16 s2.1 ([strOfNums ([x13])])).bind fun x39 => some (Except.ok (x39, IntKind.i64.wrap (s2.2 + (1 : Int)))))))).bind fun o9 => match o9 with | .error r' => some (Except.error r') | .ok s7 => (macro_Refs.l0 a0 k (s7.1, IntKind.i64.wrap (s7.2 + (1 : Int))))) else (some (Except.ok s2.1))
def macro_Refs.f (k : Nat) (a0 : ByteArray) : Option ((List ByteArray) × Int) := bif icmp .gtr (a0.size : Int) (65536 : Int) then (some (([] : List ByteArray), (2 : Int))) else ((macro_Refs.l0 a0 k (([] : List ByteArray), (0 : Int))).bind fun o5 => match o5 with | .error r' => some r' | .ok s3 => ((slices_Sort_string_string.f s3).bind fun v41 => (slices_Compact_string_string.f v41).bind fun v43 => some (v43, (0 : Int))))
set_option maxRecDepth 100000 in
set_option maxHeartbeats 4000000 in
theorem macro_Refs.con (k : Nat) (a0 : ByteArray) (r : (List ByteArray) × Int) (H : macro_Refs.f k a0 = some r) : Con Try.prog 25 [VA.k kstr a0] [VA.own 9 kstr r.1, VA.k (kint .i64) r.2] := by
  unfold macro_Refs.f at H
  refine con_enter Try.func25 rfl rfl rfl (fun w0 S0 θ => ?_)
  refine goes_seq ?_
  refine goes_region ?_
  refine go1 (op_assign_nil 9 kstr (.inr rfl) rfl) rfl ?_
  refine go1 (op_assign rfl (.int _ _)) rfl ?_
  refine goesO_nil ?_
  refine ends_then ?_
  refine goes_seq ?_
  refine goes_seq ?_
  refine goes_region ?_
  refine go1 (op_move rfl (.t (has rfl))) rfl ?_
  refine go1 (op_len_str rfl rfl Try.underlying9 (.t (has rfl))) rfl ?_
  refine go1 (op_icmp rfl rfl (.t (has rfl)) (.int _ _)) rfl ?_
  refine goesO_nil ?_
  refine ends_then ?_
  refine goes_if (.t (has rfl)) H (fun hb1 H => ?_) (fun hb1 H => ?_)
  · skip
    refine goes_seq ?_
    refine goes_region ?_
    refine go1 (op_assign_nil 9 kstr (.inr rfl) rfl) rfl ?_
    refine go1 (op_assign rfl (.int _ _)) rfl ?_
    refine goesO_nil ?_
    refine ends_then ?_
    obtain rfl := Option.some.inj H
    exact goes_ret (ends_then_ret (ends_ret' rfl rfl (.t rfl (.t rfl (.nil _)))))
  · skip
    refine goes_skip ?_
    refine ends_then ?_
    refine goes_seq ?_
    refine goes_region ?_
    refine go1 (op_assign_nil 9 kstr (.inr rfl) rfl) rfl ?_
    refine goesO_nil ?_
    refine ends_then ?_
    refine goes_seq ?_
    refine goes_seq ?_
    refine goes_region ?_
    refine go1 (op_assign rfl (.int _ _)) rfl ?_
    refine goesO_nil ?_
    refine ends_then ?_
    obtain ⟨o5, h4, H⟩ := bind_some H
    refine goes_cutR (o := o5) (fun s3 : (List ByteArray) => [Ent.t 4 (VA.own 9 kstr s3)]) (fun r a w => bodyPost Try.prog Try.f25 (CPost w0 S0 θ [VA.own 9 kstr r.1, VA.k (kint .i64) r.2]) .ret a w) ?_ ?_ ?_
    · replace H := h4; clear h4
      refine goes_block ?_
      refine goes_loop (fun s2 : (List ByteArray) × Int => [Ent.t 0 (VA.k kstr a0), Ent.t 4 (VA.own 9 kstr s2.1), Ent.t 5 (VA.k (kint .i64) s2.2)]) (fun k s2 => macro_Refs.l0 a0 k s2) (fun _ => rfl) H (.cons rfl (.cons rfl (.cons rfl .nil))) ?_
      intro k s2 H
      simp only [macro_Refs.l0] at H
      refine goes_seq ?_
      refine goes_seq ?_
      refine goes_region ?_
      refine go1 (op_move rfl (.t (has rfl))) rfl ?_
      refine go1 (op_add rfl (.t (has rfl)) (.int _ _)) rfl ?_
      refine go1 (op_move rfl (.t (has rfl))) rfl ?_
      refine go1 (op_len_str rfl rfl Try.underlying9 (.t (has rfl))) rfl ?_
      refine go1 (op_icmp rfl rfl (.t (has rfl)) (.t (has rfl))) rfl ?_
      refine goesO_nil ?_
      refine ends_then ?_
      refine goes_if (.t (has rfl)) H (fun hb6 H => ?_) (fun hb6 H => ?_)
      · skip
        refine goes_skip ?_
        refine ends_then ?_
        refine goes_seq ?_
        obtain ⟨o9, h8, H⟩ := bind_some H
        refine goes_cutR (o := o9) (fun s7 : (List ByteArray) × Int => [Ent.t 0 (VA.k kstr a0), Ent.t 4 (VA.own 9 kstr s7.1), Ent.t 5 (VA.k (kint .i64) s7.2)]) (fun r a w => bodyPost Try.prog Try.f25 (CPost w0 S0 θ [VA.own 9 kstr r.1, VA.k (kint .i64) r.2]) .ret a w) ?_ ?_ ?_
        · replace H := h8; clear h8
          refine goes_block ?_
          refine goes_seq ?_
          refine goes_seq ?_
          refine goes_region ?_
          refine go1 (op_move rfl (.t (has rfl))) rfl ?_
          refine go1 (op_move rfl (.t (has rfl))) rfl ?_
          obtain ⟨x10, h11, H⟩ := bind_some H
          refine go1 (op_index_str rfl Try.underlying9 h11 (.t (has rfl)) (.t (has rfl))) rfl ?_
          refine go1 (op_icmp rfl rfl (.t (has rfl)) (.int _ _)) rfl ?_
          refine goesO_nil ?_
          refine ends_then ?_
          refine goes_if (.t (has rfl)) H (fun hb12 H => ?_) (fun hb12 H => ?_)
          · skip
            refine goes_exit (ends_then_exit (ends_block_exit ?_))
            obtain rfl := Option.some.inj H
            exact ends_cutR rfl (.cons rfl (.cons rfl (.cons rfl .nil)))
          · skip
            refine goes_skip ?_
            refine ends_then ?_
            refine goes_seq ?_
            refine goes_region ?_
            refine go1 (op_move rfl (.t (has rfl))) rfl ?_
            refine go1 (op_add rfl (.t (has rfl)) (.int _ _)) rfl ?_
            refine go1 (op_assign rfl (.t (has rfl))) rfl ?_
            refine goesO_nil ?_
            refine ends_then ?_
            refine goes_seq ?_
            refine goes_region ?_
            refine go1 (op_move rfl (.t (has rfl))) rfl ?_
            refine go1 (op_move rfl (.t (has rfl))) rfl ?_
            obtain ⟨x13, h14, H⟩ := bind_some H
            refine go1 (op_index_str rfl Try.underlying9 h14 (.t (has rfl)) (.t (has rfl))) rfl ?_
            refine go1 (op_assign rfl (.t (has rfl))) rfl ?_
            refine goesO_nil ?_
            refine ends_then ?_
            refine goes_seq ?_
            refine goes_region ?_
            refine go1 (op_move rfl (.t (has rfl))) rfl ?_
            refine goesO_nil ?_
            refine ends_then ?_
            refine goes_block ?_
            refine goes_seq ?_
            refine goes_region ?_
            refine go1 (op_icmp rfl rfl (.t (has rfl)) (.int _ _)) rfl ?_
            refine go1 (op_assign rfl (.t (has rfl))) rfl ?_
            refine goesO_nil ?_
            refine ends_then ?_
            refine goes_if (.t (has rfl)) H (fun hb15 H => ?_) (fun hb15 H => ?_)
            · skip
              refine goes_skip ?_
              refine ends_block ?_
              refine ends_block ?_
              obtain rfl := Option.some.inj H
              exact ends_cutR rfl (.cons rfl (.cons rfl (.cons rfl .nil)))
            · skip
              refine goes_seq ?_
              refine goes_seq ?_
              refine goes_region ?_
              refine go1 (op_icmp rfl rfl (.t (has rfl)) (.int _ _)) rfl ?_
              refine go1 (op_assign rfl (.t (has rfl))) rfl ?_
              refine goesO_nil ?_
              refine ends_then ?_
              obtain ⟨s16, h17, H⟩ := bind_some H
              refine goes_cut [Ent.t 0 (VA.k kstr a0), Ent.t 4 (VA.own 9 kstr s2.1), Ent.t 5 (VA.k (kint .i64) (IntKind.i64.wrap (s2.2 + (1 : Int)))), Ent.t 6 (VA.k (kint .u8) x13), Ent.t 39 (VA.k kbool s16)] ?_ ?_
              · replace H := h17; clear h17
                refine goes_if (.t (has rfl)) H (fun hb18 H => ?_) (fun hb18 H => ?_)
                · skip
                  refine goes_skip ?_
                  obtain rfl := Option.some.inj H
                  exact ends_cut (.cons rfl (.cons rfl (.cons rfl (.cons rfl (.cons rfl .nil)))))
                · skip
                  refine goes_region ?_
                  refine go1 (op_icmp rfl rfl (.t (has rfl)) (.int _ _)) rfl ?_
                  refine go1 (op_assign rfl (.t (has rfl))) rfl ?_
                  refine goesO_nil ?_
                  obtain rfl := Option.some.inj H
                  exact ends_cut (.cons rfl (.cons rfl (.cons rfl (.cons rfl (.cons rfl .nil)))))
              refine ends_then ?_
              refine goes_if (.t (has rfl)) H (fun hb19 H => ?_) (fun hb19 H => ?_)
              · skip
                refine goes_seq ?_
                obtain ⟨x20, h21, H⟩ := bind_some H
                obtain ⟨x22, h23, H⟩ := bind_some H
                obtain ⟨v24, h25, H⟩ := bind_some H
                obtain ⟨v26, h27, H⟩ := bind_some H
                refine goes_drawn [[Ent.t 42 (VA.k kstr a0)], [Ent.t 43 (VA.k (kint .i64) (IntKind.i64.wrap (s2.2 + (1 : Int))))], [Ent.t 44 (VA.k (kint .i64) (IntKind.i64.wrap (IntKind.i64.wrap (s2.2 + (1 : Int)) + (1 : Int))))], [Ent.t 45 (VA.k kstr x20)], [Ent.t 46 (VA.k kstr a0)], [Ent.t 47 (VA.k (kint .i64) (IntKind.i64.wrap (s2.2 + (1 : Int))))], [Ent.t 48 (VA.k (kint .u8) x22)], [Ent.t 49 (VA.k (kint .u8) v24)], [Ent.t 50 (VA.k (kint .i64) v26)], [Ent.t 7 (VA.k (kint .i64) v26)]] mixed (by kernel_rfl) (by kernel_rfl) (.cons [(none, Ent.t 0 (VA.k kstr a0))] (OpSpec.run rfl rfl (op_move rfl (.t NL.h0)) rfl) (.cons (has rfl) .nil) (by kernel_rfl) (.cons [(none, Ent.t 5 (VA.k (kint .i64) (IntKind.i64.wrap (s2.2 + (1 : Int)))))] (OpSpec.run rfl rfl (op_move rfl (.t NL.h0)) rfl) (.cons (has rfl) .nil) (by kernel_rfl) (.cons [(some 1, Ent.t 43 (VA.k (kint .i64) (IntKind.i64.wrap (s2.2 + (1 : Int)))))] (OpSpec.run rfl rfl (op_add rfl (.t NL.h0) (.int _ _)) rfl) (.cons (has rfl) .nil) (by kernel_rfl) (.cons [(some 0, Ent.t 42 (VA.k kstr a0)), (some 2, Ent.t 44 (VA.k (kint .i64) (IntKind.i64.wrap (IntKind.i64.wrap (s2.2 + (1 : Int)) + (1 : Int)))))] (OpSpec.run rfl rfl (op_slice_str (l := some _) (h := none) rfl Try.underlying9 h21 (.t NL.h0) (.t (NL.hs NL.h0)) trivial) rfl) (.cons (has rfl) (.cons (has rfl) .nil)) (by kernel_rfl) (.cons [(none, Ent.t 0 (VA.k kstr a0))] (OpSpec.run rfl rfl (op_move rfl (.t NL.h0)) rfl) (.cons (has rfl) .nil) (by kernel_rfl) (.cons [(none, Ent.t 5 (VA.k (kint .i64) (IntKind.i64.wrap (s2.2 + (1 : Int)))))] (OpSpec.run rfl rfl (op_move rfl (.t NL.h0)) rfl) (.cons (has rfl) .nil) (by kernel_rfl) (.cons [(some 4, Ent.t 46 (VA.k kstr a0)), (some 5, Ent.t 47 (VA.k (kint .i64) (IntKind.i64.wrap (s2.2 + (1 : Int)))))] (OpSpec.run rfl rfl (op_index_str rfl Try.underlying9 h23 (.t NL.h0) (.t (NL.hs NL.h0))) rfl) (.cons (has rfl) (.cons (has rfl) .nil)) (by kernel_rfl) (.cons [(some 6, Ent.t 48 (VA.k (kint .u8) x22))] (OpSpec.run rfl rfl (op_call' rfl enters40 (macro_closing.con _ _ h25) rfl (.cons (ArgP.k (.t NL.h0)) .nil)) rfl) (.cons (has rfl) .nil) (by kernel_rfl) (.cons [(some 3, Ent.t 45 (VA.k kstr x20)), (some 7, Ent.t 49 (VA.k (kint .u8) v24))] (OpSpec.run rfl rfl (op_call' rfl enters39 (strings_IndexByte.con _ _ _ h27) rfl (.cons (ArgP.k (.t NL.h0)) (.cons (ArgP.k (.t (NL.hs NL.h0))) .nil))) rfl) (.cons (has rfl) (.cons (has rfl) .nil)) (by kernel_rfl) (.cons [(some 8, Ent.t 50 (VA.k (kint .i64) v26))] (OpSpec.run rfl rfl (op_assign rfl (.t NL.h0)) rfl) (.cons (has rfl) .nil) (by kernel_rfl) (.nil _))))))))))) ?_
                refine ends_sub [Ent.t 0 (VA.k kstr a0), Ent.t 4 (VA.own 9 kstr s2.1), Ent.t 5 (VA.k (kint .i64) (IntKind.i64.wrap (s2.2 + (1 : Int)))), Ent.t 7 (VA.k (kint .i64) v26)] (.cons rfl (.cons rfl (.cons rfl (.cons rfl .nil)))) ?_
                refine ends_then ?_
                refine goes_seq ?_
                refine goes_seq ?_
                refine goes_region ?_
                refine go1 (op_move rfl (.t (has rfl))) rfl ?_
                refine go1 (op_icmp rfl rfl (.t (has rfl)) (.int _ _)) rfl ?_
                refine goesO_nil ?_
                refine ends_then ?_
                refine goes_if (.t (has rfl)) H (fun hb28 H => ?_) (fun hb28 H => ?_)
                · skip
                  refine goes_seq ?_
                  refine goes_region ?_
                  refine goesO_number 4 900 rfl rfl rfl ?_
                  refine go1 (op_moveA rfl plain_rw (.t (has rfl))) rfl ?_
                  obtain ⟨v29, h30, H⟩ := bind_some H
                  refine goN (op_callE [] [] rfl enters41 (slices_Sort_string_string.con _ _ h30) rfl (.cons (has rfl) .nil) (.cons (ArgP.a plain_rw (.t (has rfl))) .nil)) rfl ?_
                  refine goesO_relen 4 (slices_Sort_string_string.len h30) rfl ?_
                  refine goesO_nil ?_
                  refine ends_then ?_
                  refine goes_seq ?_
                  refine goes_region ?_
                  refine go1 (op_moveA rfl plain_rw (.t (has rfl))) rfl ?_
                  obtain ⟨v31, h32, H⟩ := bind_some H
                  refine goN (op_callE [5000900] [] rfl enters42 (slices_Compact_string_string.con _ _ h32) rfl (.cons (has rfl) .nil) (.cons (ArgP.a plain_rw (.t (has rfl))) .nil)) rfl ?_
                  refine go2 (op_mv (.inr rfl) rfl rfl (has rfl)) rfl ?_
                  refine go1 (op_assign rfl (.int _ _)) rfl ?_
                  refine goesO_nil ?_
                  refine ends_then ?_
                  obtain rfl := Option.some.inj H
                  refine goes_ret (ends_then_ret (ends_block_ret (ends_block_ret (ends_cutR_ret rfl ?_))))
                  exact ends_ret' rfl rfl (.t rfl (.t rfl (.nil _)))
                · skip
                  refine goes_skip ?_
                  refine ends_then ?_
                  refine goes_seq ?_
                  refine goes_region ?_
                  refine go1 (op_move rfl (.t (has rfl))) rfl ?_
                  refine go1 (op_move rfl (.t (has rfl))) rfl ?_
                  refine go1 (op_add rfl (.t (has rfl)) (.int _ _)) rfl ?_
                  refine go1 (op_move rfl (.t (has rfl))) rfl ?_
                  refine go1 (op_add rfl (.t (has rfl)) (.int _ _)) rfl ?_
                  refine go1 (op_move rfl (.t (has rfl))) rfl ?_
                  refine go1 (op_add rfl (.t (has rfl)) (.t (has rfl))) rfl ?_
                  obtain ⟨x33, h34, H⟩ := bind_some H
                  refine go1 (op_slice_str (l := some _) (h := some _) rfl Try.underlying9 h34 (.t (has rfl)) (.t (has rfl)) (.t (has rfl))) rfl ?_
                  obtain ⟨v35, h36, H⟩ := bind_some H
                  refine goN (op_calls' rfl enters43 (strings_Cut.con _ _ _ h36) rfl rfl (.cons (ArgP.k (.t (has rfl))) (.cons (ArgP.k (.str _)) .nil))) rfl ?_
                  refine go1 (op_same (.inl rfl) rfl rfl) rfl ?_
                  refine go1 (op_extract_same rfl plain_k (has rfl) (has rfl)) rfl ?_
                  refine go1 (op_extract_same rfl plain_k (has rfl) (has rfl)) rfl ?_
                  refine go1 (op_extract_same rfl plain_k (has rfl) (has rfl)) rfl ?_
                  refine go1 (op_assign rfl (.t (has rfl))) rfl ?_
                  refine go1 (op_assign rfl (.t (has rfl))) rfl ?_
                  refine go1 (op_assign rfl (.t (has rfl))) rfl ?_
                  refine goesO_nil ?_
                  refine ends_then ?_
                  refine goes_seq ?_
                  refine goes_region ?_
                  refine go2 (op_mv (.inl rfl) rfl rfl (has rfl)) rfl ?_
                  refine go1 (op_move rfl (.t (has rfl))) rfl ?_
                  refine go1 (op_buildSlice rfl at49 (fun h => by first | rfl | cases h) rfl rfl rfl (.cons (.t (has rfl)) (.nil _))) rfl ?_
                  obtain ⟨x37, h38, H⟩ := bind_some H
                  refine go2 (op_append rfl rfl at49 h38 (has rfl) (ReadsArg.own (.t (has rfl)))) rfl ?_
                  refine go2 (op_mv (.inr rfl) rfl rfl (has rfl)) rfl ?_
                  refine goesO_nil ?_
                  refine ends_then ?_
                  refine goes_region ?_
                  refine go1 (op_move rfl (.t (has rfl))) rfl ?_
                  refine go1 (op_move rfl (.t (has rfl))) rfl ?_
                  refine go1 (op_add rfl (.t (has rfl)) (.int _ _)) rfl ?_
                  refine go1 (op_add rfl (.t (has rfl)) (.t (has rfl))) rfl ?_
                  refine go1 (op_assign rfl (.t (has rfl))) rfl ?_
                  refine goesO_nil ?_
                  refine ends_block ?_
                  refine ends_block ?_
                  obtain rfl := Option.some.inj H
                  exact ends_cutR rfl (.cons rfl (.cons rfl (.cons rfl .nil)))
              · skip
                refine goes_region ?_
                refine go2 (op_mv (.inl rfl) rfl rfl (has rfl)) rfl ?_
                refine go1 (op_move rfl (.t (has rfl))) rfl ?_
                refine go1 (op_buildSlice rfl at72 (fun h => by first | rfl | cases h) rfl rfl rfl (.cons (.t (has rfl)) (.nil _))) rfl ?_
                refine go1 (op_bytes_str rfl Try.underlying72 Try.underlying5 Try.underlying9 (ReadsArg.own (.t (has rfl)))) rfl ?_
                refine go1 (op_buildSlice rfl at49 (fun h => by first | rfl | cases h) rfl rfl rfl (.cons (.t (has rfl)) (.nil _))) rfl ?_
                obtain ⟨x39, h40, H⟩ := bind_some H
                refine go2 (op_append rfl rfl at49 h40 (has rfl) (ReadsArg.own (.t (has rfl)))) rfl ?_
                refine go2 (op_mv (.inr rfl) rfl rfl (has rfl)) rfl ?_
                refine goesO_nil ?_
                refine ends_block ?_
                refine ends_block ?_
                obtain rfl := Option.some.inj H
                exact ends_cutR rfl (.cons rfl (.cons rfl (.cons rfl .nil)))
        · rintro s7 rfl
          clear h8
          dsimp only at H
          refine ends_then ?_
          refine goes_region ?_
          refine go1 (op_move rfl (.t (has rfl))) rfl ?_
          refine go1 (op_add rfl (.t (has rfl)) (.int _ _)) rfl ?_
          refine go1 (op_assign rfl (.t (has rfl))) rfl ?_
          refine goesO_nil ?_
          exact loop_next _ H (.cons rfl (.cons rfl (.cons rfl .nil)))
        · rintro r' rfl a w hr
          obtain rfl := Option.some.inj H
          exact ⟨_, rfl, hr⟩
      · skip
        refine goes_exit (ends_then_exit (ends_then_exit (ends_block_exit ?_)))
        obtain rfl := Option.some.inj H
        exact ends_cutR rfl (.cons rfl .nil)
    · rintro s3 rfl
      clear h4
      dsimp only at H
      refine ends_then ?_
      refine goes_seq ?_
      refine goes_region ?_
      refine goesO_number 4 900 rfl rfl rfl ?_
      refine go1 (op_moveA rfl plain_rw (.t (has rfl))) rfl ?_
      obtain ⟨v41, h42, H⟩ := bind_some H
      refine goN (op_callE [] [] rfl enters41 (slices_Sort_string_string.con _ _ h42) rfl (.cons (has rfl) .nil) (.cons (ArgP.a plain_rw (.t (has rfl))) .nil)) rfl ?_
      refine goesO_relen 4 (slices_Sort_string_string.len h42) rfl ?_
      refine goesO_nil ?_
      refine ends_then ?_
      refine goes_seq ?_
      refine goes_region ?_
      refine go1 (op_moveA rfl plain_rw (.t (has rfl))) rfl ?_
      obtain ⟨v43, h44, H⟩ := bind_some H
      refine goN (op_callE [5000900] [] rfl enters42 (slices_Compact_string_string.con _ _ h44) rfl (.cons (has rfl) .nil) (.cons (ArgP.a plain_rw (.t (has rfl))) .nil)) rfl ?_
      refine go2 (op_mv (.inr rfl) rfl rfl (has rfl)) rfl ?_
      refine go1 (op_assign rfl (.int _ _)) rfl ?_
      refine goesO_nil ?_
      refine ends_then ?_
      obtain rfl := Option.some.inj H
      exact goes_ret (ends_ret' rfl rfl (.t rfl (.t rfl (.nil _))))
    · rintro r' rfl a w hr
      obtain rfl := Option.some.inj H
      exact hr
theorem macro_Refs.conF (k : Nat) (a0 : ByteArray) (r : (List ByteArray) × Int) (H : macro_Refs.f k a0 = some r) : ConF Try.prog 25 [VA.k kstr a0] [VA.own 9 kstr r.1, VA.k (kint .i64) r.2] := (macro_Refs.con k a0 r H).freeL (.cons (KFree.own KFree.str _ _) (.cons (KFree.k (KFree.int .i64) _) .nil))
/-! smithy/smithyref05.put -/
def smithyref05_put.l0 (a0 : List ByteArray) (a1 : ByteArray) : Nat → Int → Option Int
  | 0, _ => none
  | k + 1, s1 => (bif icmp .lss s1 (a0.length : Int) then ((idx a0 s1).bind fun x7 => some (scmp .lss x7 a1)) else (some false)).bind fun s4 => bif s4 then (smithyref05_put.l0 a0 a1 k (IntKind.i64.wrap (s1 + (1 : Int)))) else (some s1)
def smithyref05_put.f (k : Nat) (a0 : List ByteArray) (a1 : ByteArray) : Option (List ByteArray) := (smithyref05_put.l0 a0 a1 k (0 : Int)).bind fun s2 => (bif icmp .lss s2 (a0.length : Int) then ((idx a0 s2).bind fun x13 => some (scmp .eql x13 a1)) else (some false)).bind fun s10 => bif s10 then (some a0) else ((sub a0 (0 : Int) s2).bind fun x16 => (app 16 ([] : List ByteArray) x16).bind fun x18 => (app 16 x18 ([a1])).bind fun x20 => (sub a0 s2 (a0.length : Int)).bind fun x22 => (app 16 x20 x22).bind fun x24 => some x24)
set_option maxRecDepth 100000 in
set_option maxHeartbeats 4000000 in
theorem smithyref05_put.con (k : Nat) (a0 : List ByteArray) (a1 : ByteArray) (r : List ByteArray) (H : smithyref05_put.f k a0 a1 = some r) : Con Try.prog 44 [VA.k (kslice kstr) a0, VA.k kstr a1] [VA.k (kslice kstr) r] := by
  unfold smithyref05_put.f at H
  refine con_enter Try.func44 rfl rfl rfl (fun w0 S0 θ => ?_)
  refine goes_seq ?_
  refine goes_region ?_
  refine go1 (op_assign_nil 9 kstr (.inr rfl) rfl) rfl ?_
  refine goesO_nil ?_
  refine ends_then ?_
  refine goes_seq ?_
  refine goes_region ?_
  refine go1 (op_assign rfl (.int _ _)) rfl ?_
  refine goesO_nil ?_
  refine ends_then ?_
  refine goes_seq ?_
  obtain ⟨s2, h3, H⟩ := bind_some H
  refine goes_cut [Ent.t 0 (VA.k (kslice kstr) a0), Ent.t 1 (VA.k kstr a1), Ent.t 5 (VA.k (kint .i64) s2)] ?_ ?_
  · replace H := h3; clear h3
    refine goes_block ?_
    refine goes_loop (fun s1 : Int => [Ent.t 0 (VA.k (kslice kstr) a0), Ent.t 1 (VA.k kstr a1), Ent.t 5 (VA.k (kint .i64) s1)]) (fun k s1 => smithyref05_put.l0 a0 a1 k s1) (fun _ => rfl) H (.cons rfl (.cons rfl (.cons rfl .nil))) ?_
    intro k s1 H
    simp only [smithyref05_put.l0] at H
    refine goes_seq ?_
    refine goes_seq ?_
    obtain ⟨s4, h5, H⟩ := bind_some H
    refine goes_cut [Ent.t 0 (VA.k (kslice kstr) a0), Ent.t 1 (VA.k kstr a1), Ent.t 5 (VA.k (kint .i64) s1), Ent.t 18 (VA.k kbool s4)] ?_ ?_
    · replace H := h5; clear h5
      refine goes_region ?_
      refine go1 (op_move rfl (.t (has rfl))) rfl ?_
      refine go1 (op_move rfl (.t (has rfl))) rfl ?_
      refine go1 (op_len rfl rfl Try.underlying49 (.t (has rfl))) rfl ?_
      refine go1 (op_icmp rfl rfl (.t (has rfl)) (.t (has rfl))) rfl ?_
      refine go1 (op_move rfl (.t (has rfl))) rfl ?_
      refine goesO_split H (fun hb6 H => ?_) (fun hb6 H => ?_)
      · skip
        refine goG (op_move rfl (.t (has rfl))) rfl rfl rfl rfl hb6 ?_
        refine goG (op_move rfl (.t (has rfl))) rfl rfl rfl rfl hb6 ?_
        obtain ⟨x7, h8, H⟩ := bind_some H
        refine goG (op_indexAddr rfl Try.underlying49 tk9 h8 (.t (has rfl)) (.t (has rfl))) rfl rfl rfl rfl hb6 ?_
        refine goG (op_loadp rfl tk9 (.t (has rfl))) rfl rfl rfl rfl hb6 ?_
        refine goG (op_move rfl (.t (has rfl))) rfl rfl rfl rfl hb6 ?_
        refine goG (op_scmp rfl rfl (.t (has rfl)) (.t (has rfl))) rfl rfl rfl rfl hb6 ?_
        refine go1 (op_pick_t rfl hb6 (.t (has rfl)) (.t (has rfl))) rfl ?_
        refine goesO_nil ?_
        obtain rfl := Option.some.inj H
        exact ends_cut (.cons rfl (.cons rfl (.cons rfl (.cons rfl .nil))))
      · skip
        refine goS rfl rfl rfl rfl rfl rfl hb6 ?_
        refine goS rfl rfl rfl rfl rfl rfl hb6 ?_
        refine goS rfl rfl rfl rfl rfl rfl hb6 ?_
        refine goS rfl rfl rfl rfl rfl rfl hb6 ?_
        refine goS rfl rfl rfl rfl rfl rfl hb6 ?_
        refine goS rfl rfl rfl rfl rfl rfl hb6 ?_
        refine go1 (op_pick_f rfl hb6 (.t (has rfl)) (.bool _)) rfl ?_
        refine goesO_nil ?_
        obtain rfl := Option.some.inj H
        exact ends_cut (.cons rfl (.cons rfl (.cons rfl (.cons rfl .nil))))
    refine ends_then ?_
    refine goes_if (.t (has rfl)) H (fun hb9 H => ?_) (fun hb9 H => ?_)
    · skip
      refine goes_skip ?_
      refine ends_then ?_
      refine goes_block ?_
      refine goes_region ?_
      refine go1 (op_move rfl (.t (has rfl))) rfl ?_
      refine go1 (op_add rfl (.t (has rfl)) (.int _ _)) rfl ?_
      refine go1 (op_assign rfl (.t (has rfl))) rfl ?_
      refine goesO_nil ?_
      refine ends_block ?_
      exact loop_next _ H (.cons rfl (.cons rfl (.cons rfl .nil)))
    · skip
      refine goes_exit (ends_then_exit (ends_then_exit (ends_block_exit ?_)))
      obtain rfl := Option.some.inj H
      exact ends_cut (.cons rfl (.cons rfl (.cons rfl .nil)))
  refine ends_then ?_
  refine goes_seq ?_
  refine goes_seq ?_
  obtain ⟨s10, h11, H⟩ := bind_some H
  refine goes_cut [Ent.t 0 (VA.k (kslice kstr) a0), Ent.t 1 (VA.k kstr a1), Ent.t 5 (VA.k (kint .i64) s2), Ent.t 32 (VA.k kbool s10)] ?_ ?_
  · replace H := h11; clear h11
    refine goes_region ?_
    refine go1 (op_move rfl (.t (has rfl))) rfl ?_
    refine go1 (op_move rfl (.t (has rfl))) rfl ?_
    refine go1 (op_len rfl rfl Try.underlying49 (.t (has rfl))) rfl ?_
    refine go1 (op_icmp rfl rfl (.t (has rfl)) (.t (has rfl))) rfl ?_
    refine go1 (op_move rfl (.t (has rfl))) rfl ?_
    refine goesO_split H (fun hb12 H => ?_) (fun hb12 H => ?_)
    · skip
      refine goG (op_move rfl (.t (has rfl))) rfl rfl rfl rfl hb12 ?_
      refine goG (op_move rfl (.t (has rfl))) rfl rfl rfl rfl hb12 ?_
      obtain ⟨x13, h14, H⟩ := bind_some H
      refine goG (op_indexAddr rfl Try.underlying49 tk9 h14 (.t (has rfl)) (.t (has rfl))) rfl rfl rfl rfl hb12 ?_
      refine goG (op_loadp rfl tk9 (.t (has rfl))) rfl rfl rfl rfl hb12 ?_
      refine goG (op_move rfl (.t (has rfl))) rfl rfl rfl rfl hb12 ?_
      refine goG (op_scmp rfl rfl (.t (has rfl)) (.t (has rfl))) rfl rfl rfl rfl hb12 ?_
      refine go1 (op_pick_t rfl hb12 (.t (has rfl)) (.t (has rfl))) rfl ?_
      refine goesO_nil ?_
      obtain rfl := Option.some.inj H
      exact ends_cut (.cons rfl (.cons rfl (.cons rfl (.cons rfl .nil))))
    · skip
      refine goS rfl rfl rfl rfl rfl rfl hb12 ?_
      refine goS rfl rfl rfl rfl rfl rfl hb12 ?_
      refine goS rfl rfl rfl rfl rfl rfl hb12 ?_
      refine goS rfl rfl rfl rfl rfl rfl hb12 ?_
      refine goS rfl rfl rfl rfl rfl rfl hb12 ?_
      refine goS rfl rfl rfl rfl rfl rfl hb12 ?_
      refine go1 (op_pick_f rfl hb12 (.t (has rfl)) (.bool _)) rfl ?_
      refine goesO_nil ?_
      obtain rfl := Option.some.inj H
      exact ends_cut (.cons rfl (.cons rfl (.cons rfl (.cons rfl .nil))))
  refine ends_then ?_
  refine goes_if (.t (has rfl)) H (fun hb15 H => ?_) (fun hb15 H => ?_)
  · skip
    refine goes_seq ?_
    refine goes_region ?_
    refine go1 (op_move rfl (.t (has rfl))) rfl ?_
    refine go1 (op_assign rfl (.t (has rfl))) rfl ?_
    refine goesO_nil ?_
    refine ends_then ?_
    obtain rfl := Option.some.inj H
    exact goes_ret (ends_then_ret (ends_ret' rfl rfl (.t rfl (.nil _))))
  · skip
    refine goes_skip ?_
    refine ends_then ?_
    refine goes_seq ?_
    refine goes_region ?_
    refine go1 (op_assign_nil 9 kstr (.inr rfl) rfl) rfl ?_
    refine goesO_nil ?_
    refine ends_then ?_
    refine goes_seq ?_
    refine goes_region ?_
    refine go2 (op_mv (.inl rfl) rfl rfl (has rfl)) rfl ?_
    refine go1 (op_move rfl (.t (has rfl))) rfl ?_
    refine go1 (op_move rfl (.t (has rfl))) rfl ?_
    obtain ⟨x16, h17, H⟩ := bind_some H
    refine go1 (op_slice (l := none) (h := some _) rfl Try.underlying49 tk9 h17 (.t (has rfl)) trivial (.t (has rfl))) rfl ?_
    obtain ⟨x18, h19, H⟩ := bind_some H
    refine go2 (op_append rfl rfl at49 h19 (has rfl) (ReadsArg.k (.t (has rfl)))) rfl ?_
    refine go2 (op_mv (.inr rfl) rfl rfl (has rfl)) rfl ?_
    refine goesO_nil ?_
    refine ends_then ?_
    refine goes_seq ?_
    refine goes_region ?_
    refine go2 (op_mv (.inl rfl) rfl rfl (has rfl)) rfl ?_
    refine go1 (op_move rfl (.t (has rfl))) rfl ?_
    refine go1 (op_buildSlice rfl at49 (fun h => by first | rfl | cases h) rfl rfl rfl (.cons (.t (has rfl)) (.nil _))) rfl ?_
    obtain ⟨x20, h21, H⟩ := bind_some H
    refine go2 (op_append rfl rfl at49 h21 (has rfl) (ReadsArg.own (.t (has rfl)))) rfl ?_
    refine go2 (op_mv (.inr rfl) rfl rfl (has rfl)) rfl ?_
    refine goesO_nil ?_
    refine ends_then ?_
    refine goes_seq ?_
    refine goes_region ?_
    refine go2 (op_mv (.inl rfl) rfl rfl (has rfl)) rfl ?_
    refine go1 (op_move rfl (.t (has rfl))) rfl ?_
    refine go1 (op_move rfl (.t (has rfl))) rfl ?_
    obtain ⟨x22, h23, H⟩ := bind_some H
    refine go1 (op_slice (l := some _) (h := none) rfl Try.underlying49 tk9 h23 (.t (has rfl)) (.t (has rfl)) trivial) rfl ?_
    obtain ⟨x24, h25, H⟩ := bind_some H
    refine go2 (op_append rfl rfl at49 h25 (has rfl) (ReadsArg.k (.t (has rfl)))) rfl ?_
    refine go2 (op_mv (.inr rfl) rfl rfl (has rfl)) rfl ?_
    refine goesO_nil ?_
    refine ends_then ?_
    refine goes_settle 4 rfl rfl ?_
    obtain rfl := Option.some.inj H
    exact goes_ret (ends_ret' rfl rfl (.t rfl (.nil _)))
end Go.Proofs.Ytodogppelokapaa.F
