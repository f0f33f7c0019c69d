import Derived.Test.YtodogppelokapaaFKx4
set_option linter.unusedVariables false
set_option linter.unusedSimpArgs false
set_option linter.unnecessarySimpa false
set_option linter.deprecated false
namespace Go.Proofs.Ytodogppelokapaa.F
open Go Go.RowKit Go.Proofs.Ytodogppelokapaa.Sl
/-! smithy/macro.closing -/

/-! internal/stringslite.Cut -/

/-! strings.Cut -/

/-! smithy/macro.Refs -/
set_option maxHeartbeats 4000000 in
set_option maxRecDepth 100000 in
theorem macro_Refs.l0.mono (a0 : ByteArray) : ∀ {k k' : Nat}, k ≤ k' → ∀ s, Le (macro_Refs.l0 a0 k s) (macro_Refs.l0 a0 k' s) := by
  intro k
  induction k with
  | zero => exact fun _ s => Le.none _
  | succ k ih =>
    intro k' hk s
    cases k' with
    | zero => exact absurd hk (by omega)
    | succ k' =>
      have hk' := Nat.le_of_succ_le_succ hk
      simp only [macro_Refs.l0]
      repeat' (first | with_reducible exact Le.refl _ | exact ih hk' _ | refine Le.cond ?_ ?_ | refine Le.bind ?_ (fun _ => ?_) | cases ‹Except _ _› | intro _)
noncomputable def macro_Refs.l0.v (a0 : ByteArray) (s : (List ByteArray) × Int) : Option (Except ((List ByteArray) × Int) (List ByteArray)) := lim (fun k => macro_Refs.l0 a0 k s)
theorem macro_Refs.l0.tends (a0 : ByteArray) (s : (List ByteArray) × Int) : Tends (fun k => macro_Refs.l0 a0 k s) (macro_Refs.l0.v a0 s) := tends_lim (fun hk => macro_Refs.l0.mono a0 hk s)
set_option maxHeartbeats 4000000 in
set_option maxRecDepth 100000 in
theorem macro_Refs.l0.v_eq (a0 : ByteArray) (s2 : (List ByteArray) × Int) : macro_Refs.l0.v a0 s2 = bif icmp .lss (IntKind.i64.wrap (s2.2 + (1 : Int))) (a0.size : Int) then (((bidx a0 s2.2).bind fun x10 => bif icmp .neq x10 (36 : Int) then (some (Except.ok (s2.1, s2.2))) else ((bidx a0 (IntKind.i64.wrap (s2.2 + (1 : Int)))).bind fun x13 => bif icmp .eql x13 (36 : Int) then (some (Except.ok (s2.1, IntKind.i64.wrap (s2.2 + (1 : Int))))) else ((bif icmp .eql x13 (40 : Int) then (some (icmp .eql x13 (40 : Int))) else (some (icmp .eql x13 (123 : Int)))).bind fun s16 => bif s16 then ((ssub a0 (IntKind.i64.wrap (IntKind.i64.wrap (s2.2 + (1 : Int)) + (1 : Int))) (a0.size : Int)).bind fun x20 => (bidx a0 (IntKind.i64.wrap (s2.2 + (1 : Int)))).bind fun x22 => (macro_closing.f x22).bind fun v24 => (strings_IndexByte.f x20 v24).bind fun v26 => bif icmp .lss v26 (0 : Int) then ((slices_Sort_string_string.f s2.1).bind fun v29 => (slices_Compact_string_string.f v29).bind fun v31 => some (Except.error (v31, (0 : Int)))) else ((ssub a0 (IntKind.i64.wrap (IntKind.i64.wrap (s2.2 + (1 : Int)) + (1 : Int))) (IntKind.i64.wrap (IntKind.i64.wrap (IntKind.i64.wrap (s2.2 + (1 : Int)) + (1 : Int)) + v26))).bind fun x33 => (strings_Cut.f x33 (⟨#[58]⟩ : ByteArray)).bind fun v35 => (app 16 s2.1 ([v35.1])).bind fun x37 => some (Except.ok (x37, IntKind.i64.wrap (IntKind.i64.wrap (s2.2 + (1 : Int)) + IntKind.i64.wrap (v26 + (1 : Int))))))) else ((app 16 s2.1 ([strOfNums ([x13])])).bind fun x39 => some (Except.ok (x39, IntKind.i64.wrap (s2.2 + (1 : Int)))))))).bind fun o9 => match o9 with | .error r' => some (Except.error r') | .ok s7 => (macro_Refs.l0.v a0 (s7.1, IntKind.i64.wrap (s7.2 + (1 : Int))))) else (some (Except.ok s2.1)) := (macro_Refs.l0.tends a0 s2).shift.uniq (by
  simp only [macro_Refs.l0]
  repeat' (first | with_reducible exact Tends.const _ | apply macro_Refs.l0.tends | refine Tends.cond ?_ ?_ | refine Tends.bind ?_ (fun _ => ?_) | cases ‹Except _ _› | intro _))
set_option maxHeartbeats 4000000 in
set_option maxRecDepth 100000 in
theorem macro_Refs.mono {k k' : Nat} (hk' : k ≤ k') (a0 : ByteArray) : Le (macro_Refs.f k a0 ) (macro_Refs.f k' a0 ) := by
  simp only [macro_Refs.f]
  repeat' (first | with_reducible exact Le.refl _ | refine macro_Refs.l0.mono _ hk' _ | refine Le.cond ?_ ?_ | refine Le.bind ?_ (fun _ => ?_) | cases ‹Except _ _› | intro _)
noncomputable def macro_Refs.v (a0 : ByteArray) : Option ((List ByteArray) × Int) := lim (fun k => macro_Refs.f k a0 )
theorem macro_Refs.tends (a0 : ByteArray) : Tends (fun k => macro_Refs.f k a0 ) (macro_Refs.v a0 ) := tends_lim (fun hk => macro_Refs.mono hk a0 )
set_option maxHeartbeats 4000000 in
set_option maxRecDepth 100000 in
theorem macro_Refs.v_eq (a0 : ByteArray) : macro_Refs.v a0 = bif icmp .gtr (a0.size : Int) (65536 : Int) then (some (([] : List ByteArray), (2 : Int))) else ((macro_Refs.l0.v a0 (([] : List ByteArray), (0 : Int))).bind fun o5 => match o5 with | .error r' => some r' | .ok s3 => ((slices_Sort_string_string.f s3).bind fun v41 => (slices_Compact_string_string.f v41).bind fun v43 => some (v43, (0 : Int)))) := (macro_Refs.tends a0 ).uniq (by
  simp only [macro_Refs.f]
  repeat' (first | with_reducible exact Tends.const _ | apply macro_Refs.l0.tends | refine Tends.cond ?_ ?_ | refine Tends.bind ?_ (fun _ => ?_) | cases ‹Except _ _› | intro _))
/-! smithy/smithyref05.put -/
set_option maxHeartbeats 4000000 in
set_option maxRecDepth 100000 in
theorem smithyref05_put.l0.mono (a0 : List ByteArray) (a1 : ByteArray) : ∀ {k k' : Nat}, k ≤ k' → ∀ s, Le (smithyref05_put.l0 a0 a1 k s) (smithyref05_put.l0 a0 a1 k' s) := by
  intro k
  induction k with
  | zero => exact fun _ s => Le.none _
  | succ k ih =>
    intro k' hk s
    cases k' with
    | zero => exact absurd hk (by omega)
    | succ k' =>
      have hk' := Nat.le_of_succ_le_succ hk
      simp only [smithyref05_put.l0]
      repeat' (first | with_reducible exact Le.refl _ | exact ih hk' _ | refine Le.cond ?_ ?_ | refine Le.bind ?_ (fun _ => ?_) | cases ‹Except _ _› | intro _)
noncomputable def smithyref05_put.l0.v (a0 : List ByteArray) (a1 : ByteArray) (s : Int) : Option Int := lim (fun k => smithyref05_put.l0 a0 a1 k s)
theorem smithyref05_put.l0.tends (a0 : List ByteArray) (a1 : ByteArray) (s : Int) : Tends (fun k => smithyref05_put.l0 a0 a1 k s) (smithyref05_put.l0.v a0 a1 s) := tends_lim (fun hk => smithyref05_put.l0.mono a0 a1 hk s)
set_option maxHeartbeats 4000000 in
set_option maxRecDepth 100000 in
theorem smithyref05_put.l0.v_eq (a0 : List ByteArray) (a1 : ByteArray) (s1 : Int) : smithyref05_put.l0.v a0 a1 s1 = (bif icmp .lss s1 (a0.length : Int) then ((idx a0 s1).bind fun x7 => some (scmp .lss x7 a1)) else (some false)).bind fun s4 => bif s4 then (smithyref05_put.l0.v a0 a1 (IntKind.i64.wrap (s1 + (1 : Int)))) else (some s1) := (smithyref05_put.l0.tends a0 a1 s1).shift.uniq (by
  simp only [smithyref05_put.l0]
  repeat' (first | with_reducible exact Tends.const _ | apply smithyref05_put.l0.tends | refine Tends.cond ?_ ?_ | refine Tends.bind ?_ (fun _ => ?_) | cases ‹Except _ _› | intro _))
set_option maxHeartbeats 4000000 in
set_option maxRecDepth 100000 in
theorem smithyref05_put.mono {k k' : Nat} (hk' : k ≤ k') (a0 : List ByteArray) (a1 : ByteArray) : Le (smithyref05_put.f k a0 a1 ) (smithyref05_put.f k' a0 a1 ) := by
  simp only [smithyref05_put.f]
  repeat' (first | with_reducible exact Le.refl _ | refine smithyref05_put.l0.mono _ _ hk' _ | refine Le.cond ?_ ?_ | refine Le.bind ?_ (fun _ => ?_) | cases ‹Except _ _› | intro _)
noncomputable def smithyref05_put.v (a0 : List ByteArray) (a1 : ByteArray) : Option (List ByteArray) := lim (fun k => smithyref05_put.f k a0 a1 )
theorem smithyref05_put.tends (a0 : List ByteArray) (a1 : ByteArray) : Tends (fun k => smithyref05_put.f k a0 a1 ) (smithyref05_put.v a0 a1 ) := tends_lim (fun hk => smithyref05_put.mono hk a0 a1 )
set_option maxHeartbeats 4000000 in
set_option maxRecDepth 100000 in
theorem smithyref05_put.v_eq (a0 : List ByteArray) (a1 : ByteArray) : smithyref05_put.v a0 a1 = (smithyref05_put.l0.v a0 a1 (0 : Int)).bind fun s2 => (bif icmp .lss s2 (a0.length : Int) then ((idx a0 s2).bind fun x13 => some (scmp .eql x13 a1)) else (some false)).bind fun s10 => bif s10 then (some a0) else ((sub a0 (0 : Int) s2).bind fun x16 => (app 16 ([] : List ByteArray) x16).bind fun x18 => (app 16 x18 ([a1])).bind fun x20 => (sub a0 s2 (a0.length : Int)).bind fun x22 => (app 16 x20 x22).bind fun x24 => some x24) := (smithyref05_put.tends a0 a1 ).uniq (by
  simp only [smithyref05_put.f]
  repeat' (first | with_reducible exact Tends.const _ | apply smithyref05_put.l0.tends | refine Tends.cond ?_ ?_ | refine Tends.bind ?_ (fun _ => ?_) | cases ‹Except _ _› | intro _))
/-! smithy/smithyref05.Refs -/
set_option maxHeartbeats 4000000 in
set_option maxRecDepth 100000 in
theorem smithyref05_Refs.l1.mono (a0 : ByteArray) (s20 : Int) : ∀ {k k' : Nat}, k ≤ k' → ∀ s, Le (smithyref05_Refs.l1 a0 s20 k s) (smithyref05_Refs.l1 a0 s20 k' s) := by
  intro k
  induction k with
  | zero => exact fun _ s => Le.none _
  | succ k ih =>
    intro k' hk s
    cases k' with
    | zero => exact absurd hk (by omega)
    | succ k' =>
      have hk' := Nat.le_of_succ_le_succ hk
      simp only [smithyref05_Refs.l1]
      repeat' (first | with_reducible exact Le.refl _ | exact ih hk' _ | refine Le.cond ?_ ?_ | refine Le.bind ?_ (fun _ => ?_) | cases ‹Except _ _› | intro _)
noncomputable def smithyref05_Refs.l1.v (a0 : ByteArray) (s20 : Int) (s : Int) : Option Int := lim (fun k => smithyref05_Refs.l1 a0 s20 k s)
theorem smithyref05_Refs.l1.tends (a0 : ByteArray) (s20 : Int) (s : Int) : Tends (fun k => smithyref05_Refs.l1 a0 s20 k s) (smithyref05_Refs.l1.v a0 s20 s) := tends_lim (fun hk => smithyref05_Refs.l1.mono a0 s20 hk s)
set_option maxHeartbeats 4000000 in
set_option maxRecDepth 100000 in
theorem smithyref05_Refs.l1.v_eq (a0 : ByteArray) (s20 : Int) (s23 : Int) : smithyref05_Refs.l1.v a0 s20 s23 = (bif icmp .lss s23 (a0.size : Int) then ((bidx a0 s23).bind fun x29 => some (icmp .neq x29 s20)) else (some false)).bind fun s26 => bif s26 then (smithyref05_Refs.l1.v a0 s20 (IntKind.i64.wrap (s23 + (1 : Int)))) else (some s23) := (smithyref05_Refs.l1.tends a0 s20 s23).shift.uniq (by
  simp only [smithyref05_Refs.l1]
  repeat' (first | with_reducible exact Tends.const _ | apply smithyref05_Refs.l1.tends | refine Tends.cond ?_ ?_ | refine Tends.bind ?_ (fun _ => ?_) | cases ‹Except _ _› | intro _))
set_option maxHeartbeats 4000000 in
set_option maxRecDepth 100000 in
theorem smithyref05_Refs.l2.mono (a0 : ByteArray) (s2 : (List ByteArray) × Int) : ∀ {k k' : Nat}, k ≤ k' → ∀ s, Le (smithyref05_Refs.l2 a0 s2 k s) (smithyref05_Refs.l2 a0 s2 k' s) := by
  intro k
  induction k with
  | zero => exact fun _ s => Le.none _
  | succ k ih =>
    intro k' hk s
    cases k' with
    | zero => exact absurd hk (by omega)
    | succ k' =>
      have hk' := Nat.le_of_succ_le_succ hk
      simp only [smithyref05_Refs.l2]
      repeat' (first | with_reducible exact Le.refl _ | exact ih hk' _ | refine Le.cond ?_ ?_ | refine Le.bind ?_ (fun _ => ?_) | cases ‹Except _ _› | intro _)
noncomputable def smithyref05_Refs.l2.v (a0 : ByteArray) (s2 : (List ByteArray) × Int) (s : Int × Int) : Option Int := lim (fun k => smithyref05_Refs.l2 a0 s2 k s)
theorem smithyref05_Refs.l2.tends (a0 : ByteArray) (s2 : (List ByteArray) × Int) (s : Int × Int) : Tends (fun k => smithyref05_Refs.l2 a0 s2 k s) (smithyref05_Refs.l2.v a0 s2 s) := tends_lim (fun hk => smithyref05_Refs.l2.mono a0 s2 hk s)
set_option maxHeartbeats 4000000 in
set_option maxRecDepth 100000 in
theorem smithyref05_Refs.l2.v_eq (a0 : ByteArray) (s2 : (List ByteArray) × Int) (s33 : Int × Int) : smithyref05_Refs.l2.v a0 s2 s33 = bif icmp .gtr s33.2 (IntKind.i64.wrap (s2.2 + (1 : Int))) then (((bidx a0 s33.2).bind fun x39 => bif icmp .eql x39 (58 : Int) then (some s33.2) else (some s33.1)).bind fun s37 => smithyref05_Refs.l2.v a0 s2 (s37, IntKind.i64.wrap (s33.2 - (1 : Int)))) else (some s33.1) := (smithyref05_Refs.l2.tends a0 s2 s33).shift.uniq (by
  simp only [smithyref05_Refs.l2]
  repeat' (first | with_reducible exact Tends.const _ | apply smithyref05_Refs.l2.tends | refine Tends.cond ?_ ?_ | refine Tends.bind ?_ (fun _ => ?_) | cases ‹Except _ _› | intro _))
set_option maxHeartbeats 4000000 in
set_option maxRecDepth 100000 in
theorem smithyref05_Refs.l0.mono (a0 : ByteArray) : ∀ {k k' : Nat}, k ≤ k' → ∀ s, Le (smithyref05_Refs.l0 a0 k s) (smithyref05_Refs.l0 a0 k' s) := by
  intro k
  induction k with
  | zero => exact fun _ s => Le.none _
  | succ k ih =>
    intro k' hk s
    cases k' with
    | zero => exact absurd hk (by omega)
    | succ k' =>
      have hk' := Nat.le_of_succ_le_succ hk
      simp only [smithyref05_Refs.l0]
      repeat' (first | with_reducible exact Le.refl _ | exact ih hk' _ | apply smithyref05_put.mono (hk' := hk') | refine smithyref05_Refs.l1.mono _ _ hk' _ | refine smithyref05_Refs.l2.mono _ _ hk' _ | refine Le.cond ?_ ?_ | refine Le.bind ?_ (fun _ => ?_) | cases ‹Except _ _› | intro _)
noncomputable def smithyref05_Refs.l0.v (a0 : ByteArray) (s : (List ByteArray) × Int) : Option (List ByteArray) := lim (fun k => smithyref05_Refs.l0 a0 k s)
theorem smithyref05_Refs.l0.tends (a0 : ByteArray) (s : (List ByteArray) × Int) : Tends (fun k => smithyref05_Refs.l0 a0 k s) (smithyref05_Refs.l0.v a0 s) := tends_lim (fun hk => smithyref05_Refs.l0.mono a0 hk s)
set_option maxHeartbeats 4000000 in
set_option maxRecDepth 100000 in
theorem smithyref05_Refs.l0.v_eq (a0 : ByteArray) (s2 : (List ByteArray) × Int) : smithyref05_Refs.l0.v a0 s2 = bif icmp .lss (IntKind.i64.wrap (s2.2 + (1 : Int))) (a0.size : Int) then ((bidx a0 s2.2).bind fun x6 => bif icmp .neq x6 (36 : Int) then (smithyref05_Refs.l0.v a0 (s2.1, IntKind.i64.wrap (s2.2 + (1 : Int)))) else ((bidx a0 (IntKind.i64.wrap (s2.2 + (1 : Int)))).bind fun x9 => bif icmp .eql x9 (36 : Int) then (smithyref05_Refs.l0.v a0 (s2.1, IntKind.i64.wrap (IntKind.i64.wrap (s2.2 + (1 : Int)) + (1 : Int)))) else ((bif icmp .neq x9 (40 : Int) then (some (icmp .neq x9 (123 : Int))) else (some false)).bind fun s12 => bif s12 then ((ssub a0 (IntKind.i64.wrap (s2.2 + (1 : Int))) (IntKind.i64.wrap (IntKind.i64.wrap (s2.2 + (1 : Int)) + (1 : Int)))).bind fun x16 => (smithyref05_put.v s2.1 x16).bind fun v18 => smithyref05_Refs.l0.v a0 (v18, IntKind.i64.wrap (IntKind.i64.wrap (s2.2 + (1 : Int)) + (1 : Int)))) else ((bif icmp .eql x9 (123 : Int) then (some (125 : Int)) else (some (41 : Int))).bind fun s20 => (smithyref05_Refs.l1.v a0 s20 (IntKind.i64.wrap (IntKind.i64.wrap (s2.2 + (1 : Int)) + (1 : Int)))).bind fun s24 => bif icmp .eql s24 (a0.size : Int) then (some s2.1) else ((smithyref05_Refs.l2.v a0 s2 (s24, IntKind.i64.wrap (s24 - (1 : Int)))).bind fun s34 => (ssub a0 (IntKind.i64.wrap (IntKind.i64.wrap (s2.2 + (1 : Int)) + (1 : Int))) s34).bind fun x42 => (smithyref05_put.v s2.1 x42).bind fun v44 => smithyref05_Refs.l0.v a0 (v44, IntKind.i64.wrap (s24 + (1 : Int)))))))) else (some s2.1) := (smithyref05_Refs.l0.tends a0 s2).shift.uniq (by
  simp only [smithyref05_Refs.l0]
  repeat' (first | with_reducible exact Tends.const _ | apply smithyref05_put.tends | apply smithyref05_Refs.l1.tends | apply smithyref05_Refs.l2.tends | apply smithyref05_Refs.l0.tends | refine Tends.cond ?_ ?_ | refine Tends.bind ?_ (fun _ => ?_) | cases ‹Except _ _› | intro _))
set_option maxHeartbeats 4000000 in
set_option maxRecDepth 100000 in
theorem smithyref05_Refs.mono {k k' : Nat} (hk' : k ≤ k') (a0 : ByteArray) : Le (smithyref05_Refs.f k a0 ) (smithyref05_Refs.f k' a0 ) := by
  simp only [smithyref05_Refs.f]
  repeat' (first | with_reducible exact Le.refl _ | refine smithyref05_Refs.l0.mono _ hk' _ | refine Le.cond ?_ ?_ | refine Le.bind ?_ (fun _ => ?_) | cases ‹Except _ _› | intro _)
noncomputable def smithyref05_Refs.v (a0 : ByteArray) : Option ((List ByteArray) × Int) := lim (fun k => smithyref05_Refs.f k a0 )
theorem smithyref05_Refs.tends (a0 : ByteArray) : Tends (fun k => smithyref05_Refs.f k a0 ) (smithyref05_Refs.v a0 ) := tends_lim (fun hk => smithyref05_Refs.mono hk a0 )
set_option maxHeartbeats 4000000 in
set_option maxRecDepth 100000 in
theorem smithyref05_Refs.v_eq (a0 : ByteArray) : smithyref05_Refs.v a0 = bif icmp .gtr (a0.size : Int) (65536 : Int) then (some (([] : List ByteArray), (2 : Int))) else ((smithyref05_Refs.l0.v a0 (([] : List ByteArray), (0 : Int))).bind fun s3 => some (s3, (0 : Int))) := (smithyref05_Refs.tends a0 ).uniq (by
  simp only [smithyref05_Refs.f]
  repeat' (first | with_reducible exact Tends.const _ | apply smithyref05_Refs.l0.tends | refine Tends.cond ?_ ?_ | refine Tends.bind ?_ (fun _ => ?_) | cases ‹Except _ _› | intro _))
/-! smithy/smithyplain.Texts -/
set_option maxHeartbeats 4000000 in
set_option maxRecDepth 100000 in
theorem smithyplain_Texts.l0.mono (a0 : List ByteArray) (a1 : List ByteArray) : ∀ {k k' : Nat}, k ≤ k' → ∀ s, Le (smithyplain_Texts.l0 a0 a1 k s) (smithyplain_Texts.l0 a0 a1 k' s) := by
  intro k
  induction k with
  | zero => exact fun _ s => Le.none _
  | succ k ih =>
    intro k' hk s
    cases k' with
    | zero => exact absurd hk (by omega)
    | succ k' =>
      have hk' := Nat.le_of_succ_le_succ hk
      simp only [smithyplain_Texts.l0]
      repeat' (first | with_reducible exact Le.refl _ | exact ih hk' _ | refine Le.cond ?_ ?_ | refine Le.bind ?_ (fun _ => ?_) | cases ‹Except _ _› | intro _)
noncomputable def smithyplain_Texts.l0.v (a0 : List ByteArray) (a1 : List ByteArray) (s : Int) : Option (Except Bool Unit) := lim (fun k => smithyplain_Texts.l0 a0 a1 k s)
theorem smithyplain_Texts.l0.tends (a0 : List ByteArray) (a1 : List ByteArray) (s : Int) : Tends (fun k => smithyplain_Texts.l0 a0 a1 k s) (smithyplain_Texts.l0.v a0 a1 s) := tends_lim (fun hk => smithyplain_Texts.l0.mono a0 a1 hk s)
set_option maxHeartbeats 4000000 in
set_option maxRecDepth 100000 in
theorem smithyplain_Texts.l0.v_eq (a0 : List ByteArray) (a1 : List ByteArray) (s2 : Int) : smithyplain_Texts.l0.v a0 a1 s2 = bif icmp .lss s2 (a0.length : Int) then ((idx a0 s2).bind fun x7 => (idx a1 s2).bind fun x9 => bif scmp .neq x7 x9 then (some (Except.error false)) else (smithyplain_Texts.l0.v a0 a1 (IntKind.i64.wrap (s2 + (1 : Int))))) else (some (Except.ok ())) := (smithyplain_Texts.l0.tends a0 a1 s2).shift.uniq (by
  simp only [smithyplain_Texts.l0]
  repeat' (first | with_reducible exact Tends.const _ | apply smithyplain_Texts.l0.tends | refine Tends.cond ?_ ?_ | refine Tends.bind ?_ (fun _ => ?_) | cases ‹Except _ _› | intro _))
set_option maxHeartbeats 4000000 in
set_option maxRecDepth 100000 in
theorem smithyplain_Texts.mono {k k' : Nat} (hk' : k ≤ k') (a0 : List ByteArray) (a1 : List ByteArray) : Le (smithyplain_Texts.f k a0 a1 ) (smithyplain_Texts.f k' a0 a1 ) := by
  simp only [smithyplain_Texts.f]
  repeat' (first | with_reducible exact Le.refl _ | refine smithyplain_Texts.l0.mono _ _ hk' _ | refine Le.cond ?_ ?_ | refine Le.bind ?_ (fun _ => ?_) | cases ‹Except _ _› | intro _)
noncomputable def smithyplain_Texts.v (a0 : List ByteArray) (a1 : List ByteArray) : Option Bool := lim (fun k => smithyplain_Texts.f k a0 a1 )
theorem smithyplain_Texts.tends (a0 : List ByteArray) (a1 : List ByteArray) : Tends (fun k => smithyplain_Texts.f k a0 a1 ) (smithyplain_Texts.v a0 a1 ) := tends_lim (fun hk => smithyplain_Texts.mono hk a0 a1 )
set_option maxHeartbeats 4000000 in
set_option maxRecDepth 100000 in
theorem smithyplain_Texts.v_eq (a0 : List ByteArray) (a1 : List ByteArray) : smithyplain_Texts.v a0 a1 = bif icmp .neq (a0.length : Int) (a1.length : Int) then (some false) else ((smithyplain_Texts.l0.v a0 a1 (0 : Int)).bind fun o5 => match o5 with | .error r' => some r' | .ok s3 => (some true)) := (smithyplain_Texts.tends a0 a1 ).uniq (by
  simp only [smithyplain_Texts.f]
  repeat' (first | with_reducible exact Tends.const _ | apply smithyplain_Texts.l0.tends | refine Tends.cond ?_ ?_ | refine Tends.bind ?_ (fun _ => ?_) | cases ‹Except _ _› | intro _))
/-! smithy/macro.Name$1 -/

/-! strings.indexFunc -/
set_option maxHeartbeats 4000000 in
set_option maxRecDepth 100000 in
theorem strings_indexFunc.l0.mono {a1 a1' : Int → Option Bool} (hpa1 : ∀ z0, Le (a1 z0) (a1' z0)) (a0 : ByteArray) (a2 : Bool) : ∀ {k k' : Nat}, k ≤ k' → ∀ s, Le (strings_indexFunc.l0 a0 a1 a2 k s) (strings_indexFunc.l0 a0 a1' a2 k' s) := by
  intro k
  induction k with
  | zero => exact fun _ s => Le.none _
  | succ k ih =>
    intro k' hk s
    cases k' with
    | zero => exact absurd hk (by omega)
    | succ k' =>
      have hk' := Nat.le_of_succ_le_succ hk
      simp only [strings_indexFunc.l0]
      repeat' (first | with_reducible exact Le.refl _ | exact hpa1 _ | exact ih hk' _ | refine Le.cond ?_ ?_ | refine Le.bind ?_ (fun _ => ?_) | cases ‹Except _ _› | intro _)
noncomputable def strings_indexFunc.l0.v (a0 : ByteArray) (a1 : Int → Option Bool) (a2 : Bool) (s : Nat) : Option (Except Int Unit) := lim (fun k => strings_indexFunc.l0 a0 a1 a2 k s)
theorem strings_indexFunc.l0.tends (a0 : ByteArray) (a1 : Int → Option Bool) (a2 : Bool) (s : Nat) : Tends (fun k => strings_indexFunc.l0 a0 a1 a2 k s) (strings_indexFunc.l0.v a0 a1 a2 s) := tends_lim (fun hk => strings_indexFunc.l0.mono (fun _ => Le.refl _) a0 a2 hk s)
set_option maxHeartbeats 4000000 in
set_option maxRecDepth 100000 in
theorem strings_indexFunc.l0.v_eq (a0 : ByteArray) (a1 : Int → Option Bool) (a2 : Bool) (s1 : Nat) : strings_indexFunc.l0.v a0 a1 a2 s1 = bif decide (s1 < a0.size) then ((a1 ((Utf8.decode a0 s1).1 : Int)).bind fun v6 => bif (v6 == a2) then (some (Except.error (s1 : Int))) else (strings_indexFunc.l0.v a0 a1 a2 (nxPos a0 s1))) else (some (Except.ok ())) := (strings_indexFunc.l0.tends a0 a1 a2 s1).shift.uniq (by
  simp only [strings_indexFunc.l0]
  repeat' (first | with_reducible exact Tends.const _ | apply strings_indexFunc.l0.tends | refine Tends.cond ?_ ?_ | refine Tends.bind ?_ (fun _ => ?_) | cases ‹Except _ _› | intro _))
set_option maxHeartbeats 4000000 in
set_option maxRecDepth 100000 in
theorem strings_indexFunc.l0.tendsP {pa1 : Nat → Int → Option Bool} {qa1 : Int → Option Bool} (hpa1 : ∀ z0, Tends (fun j => pa1 j z0) (qa1 z0)) (a0 : ByteArray) (a2 : Bool) : ∀ (K : Nat) s, Tends (fun j => strings_indexFunc.l0 a0 (pa1 j) a2 K s) (strings_indexFunc.l0 a0 qa1 a2 K s) := by
  intro K
  induction K with
  | zero => exact fun s => Tends.const _
  | succ K ih =>
    intro s
    simp only [strings_indexFunc.l0]
    repeat' (first | with_reducible exact Tends.const _ | exact hpa1 _ | exact ih _ | refine Tends.cond ?_ ?_ | refine Tends.bind ?_ (fun _ => ?_) | cases ‹Except _ _› | intro _)
set_option maxHeartbeats 4000000 in
set_option maxRecDepth 100000 in
theorem strings_indexFunc.mono {k k' : Nat} (hk' : k ≤ k') {a1 a1' : Int → Option Bool} (hpa1 : ∀ z0, Le (a1 z0) (a1' z0)) (a0 : ByteArray) (a2 : Bool) : Le (strings_indexFunc.f k a0 a1 a2 ) (strings_indexFunc.f k' a0 a1' a2 ) := by
  simp only [strings_indexFunc.f]
  repeat' (first | with_reducible exact Le.refl _ | exact hpa1 _ | refine strings_indexFunc.l0.mono hpa1 _ _ hk' _ | refine Le.cond ?_ ?_ | refine Le.bind ?_ (fun _ => ?_) | cases ‹Except _ _› | intro _)
noncomputable def strings_indexFunc.v (a0 : ByteArray) (a1 : Int → Option Bool) (a2 : Bool) : Option Int := lim (fun k => strings_indexFunc.f k a0 a1 a2 )
theorem strings_indexFunc.tends (a0 : ByteArray) (a1 : Int → Option Bool) (a2 : Bool) : Tends (fun k => strings_indexFunc.f k a0 a1 a2 ) (strings_indexFunc.v a0 a1 a2 ) := tends_lim (fun hk => strings_indexFunc.mono hk (fun _ => Le.refl _) a0 a2 )
set_option maxHeartbeats 4000000 in
set_option maxRecDepth 100000 in
theorem strings_indexFunc.v_eq (a0 : ByteArray) (a1 : Int → Option Bool) (a2 : Bool) : strings_indexFunc.v a0 a1 a2 = (strings_indexFunc.l0.v a0 a1 a2 (0 : Nat)).bind fun o4 => match o4 with | .error r' => some r' | .ok s2 => (some (-1 : Int)) := (strings_indexFunc.tends a0 a1 a2 ).uniq (by
  simp only [strings_indexFunc.f]
  repeat' (first | with_reducible exact Tends.const _ | apply strings_indexFunc.l0.tends | refine Tends.cond ?_ ?_ | refine Tends.bind ?_ (fun _ => ?_) | cases ‹Except _ _› | intro _))
set_option maxHeartbeats 4000000 in
set_option maxRecDepth 100000 in
theorem strings_indexFunc.tendsP {pa1 : Nat → Int → Option Bool} {qa1 : Int → Option Bool} (hpa1 : ∀ z0, Tends (fun j => pa1 j z0) (qa1 z0)) (a0 : ByteArray) (a2 : Bool) (K : Nat) : Tends (fun j => strings_indexFunc.f K a0 (pa1 j) a2 ) (strings_indexFunc.f K a0 qa1 a2 ) := by
  simp only [strings_indexFunc.f]
  repeat' (first | with_reducible exact Tends.const _ | exact hpa1 _ | refine strings_indexFunc.l0.tendsP hpa1 _ _ _ _ | refine Tends.cond ?_ ?_ | refine Tends.bind ?_ (fun _ => ?_) | cases ‹Except _ _› | intro _)
theorem strings_indexFunc.tends2 {pa1 : Nat → Int → Option Bool} {qa1 : Int → Option Bool} (hpa1 : ∀ z0, Tends (fun j => pa1 j z0) (qa1 z0)) (a0 : ByteArray) (a2 : Bool) : Tends (fun k => strings_indexFunc.f k a0 (pa1 k) a2 ) (strings_indexFunc.v a0 qa1 a2 ) := Tends.diag (f := fun K j => strings_indexFunc.f K a0 (pa1 j) a2 ) (fun K => strings_indexFunc.tendsP hpa1 a0 a2 K) (fun h j => strings_indexFunc.mono h (fun _ => Le.refl _) a0 a2 ) (strings_indexFunc.tends a0 qa1 a2 )
/-! strings.IndexFunc -/
set_option maxHeartbeats 4000000 in
set_option maxRecDepth 100000 in
theorem strings_IndexFunc.mono {k k' : Nat} (hk' : k ≤ k') {a1 a1' : Int → Option Bool} (hpa1 : ∀ z0, Le (a1 z0) (a1' z0)) (a0 : ByteArray) : Le (strings_IndexFunc.f k a0 a1 ) (strings_IndexFunc.f k' a0 a1' ) := by
  simp only [strings_IndexFunc.f]
  repeat' (first | with_reducible exact Le.refl _ | exact hpa1 _ | apply strings_indexFunc.mono (hk' := hk') | refine Le.cond ?_ ?_ | refine Le.bind ?_ (fun _ => ?_) | cases ‹Except _ _› | intro _)
noncomputable def strings_IndexFunc.v (a0 : ByteArray) (a1 : Int → Option Bool) : Option Int := lim (fun k => strings_IndexFunc.f k a0 a1 )
theorem strings_IndexFunc.tends (a0 : ByteArray) (a1 : Int → Option Bool) : Tends (fun k => strings_IndexFunc.f k a0 a1 ) (strings_IndexFunc.v a0 a1 ) := tends_lim (fun hk => strings_IndexFunc.mono hk (fun _ => Le.refl _) a0 )
set_option maxHeartbeats 4000000 in
set_option maxRecDepth 100000 in
theorem strings_IndexFunc.v_eq (a0 : ByteArray) (a1 : Int → Option Bool) : strings_IndexFunc.v a0 a1 = (strings_indexFunc.v a0 a1 true).bind fun v1 => some v1 := (strings_IndexFunc.tends a0 a1 ).uniq (by
  simp only [strings_IndexFunc.f]
  repeat' (first | with_reducible exact Tends.const _ | apply strings_indexFunc.tends2 | refine Tends.cond ?_ ?_ | refine Tends.bind ?_ (fun _ => ?_) | cases ‹Except _ _› | intro _))
set_option maxHeartbeats 4000000 in
set_option maxRecDepth 100000 in
theorem strings_IndexFunc.tendsP {pa1 : Nat → Int → Option Bool} {qa1 : Int → Option Bool} (hpa1 : ∀ z0, Tends (fun j => pa1 j z0) (qa1 z0)) (a0 : ByteArray) (K : Nat) : Tends (fun j => strings_IndexFunc.f K a0 (pa1 j) ) (strings_IndexFunc.f K a0 qa1 ) := by
  simp only [strings_IndexFunc.f]
  repeat' (first | with_reducible exact Tends.const _ | exact hpa1 _ | apply strings_indexFunc.tendsP | refine Tends.cond ?_ ?_ | refine Tends.bind ?_ (fun _ => ?_) | cases ‹Except _ _› | intro _)
theorem strings_IndexFunc.tends2 {pa1 : Nat → Int → Option Bool} {qa1 : Int → Option Bool} (hpa1 : ∀ z0, Tends (fun j => pa1 j z0) (qa1 z0)) (a0 : ByteArray) : Tends (fun k => strings_IndexFunc.f k a0 (pa1 k) ) (strings_IndexFunc.v a0 qa1 ) := Tends.diag (f := fun K j => strings_IndexFunc.f K a0 (pa1 j) ) (fun K => strings_IndexFunc.tendsP hpa1 a0 K) (fun h j => strings_IndexFunc.mono h (fun _ => Le.refl _) a0 ) (strings_IndexFunc.tends a0 qa1 )
/-! strings.ContainsFunc -/
set_option maxHeartbeats 4000000 in
set_option maxRecDepth 100000 in
theorem strings_ContainsFunc.mono {k k' : Nat} (hk' : k ≤ k') {a1 a1' : Int → Option Bool} (hpa1 : ∀ z0, Le (a1 z0) (a1' z0)) (a0 : ByteArray) : Le (strings_ContainsFunc.f k a0 a1 ) (strings_ContainsFunc.f k' a0 a1' ) := by
  simp only [strings_ContainsFunc.f]
  repeat' (first | with_reducible exact Le.refl _ | exact hpa1 _ | apply strings_IndexFunc.mono (hk' := hk') | refine Le.cond ?_ ?_ | refine Le.bind ?_ (fun _ => ?_) | cases ‹Except _ _› | intro _)
noncomputable def strings_ContainsFunc.v (a0 : ByteArray) (a1 : Int → Option Bool) : Option Bool := lim (fun k => strings_ContainsFunc.f k a0 a1 )
theorem strings_ContainsFunc.tends (a0 : ByteArray) (a1 : Int → Option Bool) : Tends (fun k => strings_ContainsFunc.f k a0 a1 ) (strings_ContainsFunc.v a0 a1 ) := tends_lim (fun hk => strings_ContainsFunc.mono hk (fun _ => Le.refl _) a0 )
set_option maxHeartbeats 4000000 in
set_option maxRecDepth 100000 in
theorem strings_ContainsFunc.v_eq (a0 : ByteArray) (a1 : Int → Option Bool) : strings_ContainsFunc.v a0 a1 = (strings_IndexFunc.v a0 a1).bind fun v1 => some (icmp .geq v1 (0 : Int)) := (strings_ContainsFunc.tends a0 a1 ).uniq (by
  simp only [strings_ContainsFunc.f]
  repeat' (first | with_reducible exact Tends.const _ | apply strings_IndexFunc.tends2 | refine Tends.cond ?_ ?_ | refine Tends.bind ?_ (fun _ => ?_) | cases ‹Except _ _› | intro _))
set_option maxHeartbeats 4000000 in
set_option maxRecDepth 100000 in
theorem strings_ContainsFunc.tendsP {pa1 : Nat → Int → Option Bool} {qa1 : Int → Option Bool} (hpa1 : ∀ z0, Tends (fun j => pa1 j z0) (qa1 z0)) (a0 : ByteArray) (K : Nat) : Tends (fun j => strings_ContainsFunc.f K a0 (pa1 j) ) (strings_ContainsFunc.f K a0 qa1 ) := by
  simp only [strings_ContainsFunc.f]
  repeat' (first | with_reducible exact Tends.const _ | exact hpa1 _ | apply strings_IndexFunc.tendsP | refine Tends.cond ?_ ?_ | refine Tends.bind ?_ (fun _ => ?_) | cases ‹Except _ _› | intro _)
theorem strings_ContainsFunc.tends2 {pa1 : Nat → Int → Option Bool} {qa1 : Int → Option Bool} (hpa1 : ∀ z0, Tends (fun j => pa1 j z0) (qa1 z0)) (a0 : ByteArray) : Tends (fun k => strings_ContainsFunc.f k a0 (pa1 k) ) (strings_ContainsFunc.v a0 qa1 ) := Tends.diag (f := fun K j => strings_ContainsFunc.f K a0 (pa1 j) ) (fun K => strings_ContainsFunc.tendsP hpa1 a0 K) (fun h j => strings_ContainsFunc.mono h (fun _ => Le.refl _) a0 ) (strings_ContainsFunc.tends a0 qa1 )
/-! smithy/macro.Name -/
set_option maxHeartbeats 4000000 in
set_option maxRecDepth 100000 in
theorem macro_Name.mono {k k' : Nat} (hk' : k ≤ k') (a0 : ByteArray) : Le (macro_Name.f k a0 ) (macro_Name.f k' a0 ) := by
  simp only [macro_Name.f]
  repeat' (first | with_reducible exact Le.refl _ | apply strings_ContainsFunc.mono (hk' := hk') | refine Le.cond ?_ ?_ | refine Le.bind ?_ (fun _ => ?_) | cases ‹Except _ _› | intro _)
noncomputable def macro_Name.v (a0 : ByteArray) : Option Bool := lim (fun k => macro_Name.f k a0 )
theorem macro_Name.tends (a0 : ByteArray) : Tends (fun k => macro_Name.f k a0 ) (macro_Name.v a0 ) := tends_lim (fun hk => macro_Name.mono hk a0 )
set_option maxHeartbeats 4000000 in
set_option maxRecDepth 100000 in
theorem macro_Name.v_eq (a0 : ByteArray) : macro_Name.v a0 = (bif icmp .gtr (a0.size : Int) (0 : Int) then (bif icmp .leq (a0.size : Int) (64 : Int) then ((strings_ContainsFunc.v a0 (fun (z0 : Int) => macro_Name_1.f z0)).bind fun v5 => some (!v5)) else (some false)) else (some false)).bind fun s1 => some s1 := (macro_Name.tends a0 ).uniq (by
  simp only [macro_Name.f]
  repeat' (first | with_reducible exact Tends.const _ | apply strings_ContainsFunc.tends2 | refine Tends.cond ?_ ?_ | refine Tends.bind ?_ (fun _ => ?_) | cases ‹Except _ _› | intro _))
/-! smithy/macro.one -/
set_option maxHeartbeats 4000000 in
set_option maxRecDepth 100000 in
theorem macro_one.mono {k k' : Nat} (hk' : k ≤ k') (a0 : Macro) : Le (macro_one.f k a0 ) (macro_one.f k' a0 ) := by
  simp only [macro_one.f]
  repeat' (first | with_reducible exact Le.refl _ | apply macro_Name.mono (hk' := hk') | refine Le.cond ?_ ?_ | refine Le.bind ?_ (fun _ => ?_) | cases ‹Except _ _› | intro _)
noncomputable def macro_one.v (a0 : Macro) : Option Int := lim (fun k => macro_one.f k a0 )
theorem macro_one.tends (a0 : Macro) : Tends (fun k => macro_one.f k a0 ) (macro_one.v a0 ) := tends_lim (fun hk => macro_one.mono hk a0 )
set_option maxHeartbeats 4000000 in
set_option maxRecDepth 100000 in
theorem macro_one.v_eq (a0 : Macro) : macro_one.v a0 = (macro_Name.v a0.Name).bind fun v1 => bif !v1 then (some (50 : Int)) else ((bif icmp .lss a0.Level (0 : Int) then (some true) else (some (icmp .gtr a0.Level (2 : Int)))).bind fun s4 => bif s4 then (some (51 : Int)) else (bif icmp .gtr (a0.Value.size : Int) (8192 : Int) then (some (41 : Int)) else (some (0 : Int)))) := (macro_one.tends a0 ).uniq (by
  simp only [macro_one.f]
  repeat' (first | with_reducible exact Tends.const _ | apply macro_Name.tends | refine Tends.cond ?_ ?_ | refine Tends.bind ?_ (fun _ => ?_) | cases ‹Except _ _› | intro _))
/-! smithy/macro.byName -/

/-! smithy/macro.Check -/
set_option maxHeartbeats 4000000 in
set_option maxRecDepth 100000 in
theorem macro_Check.l0.mono (a0 : List Macro) : ∀ {k k' : Nat}, k ≤ k' → ∀ s, Le (macro_Check.l0 a0 k s) (macro_Check.l0 a0 k' s) := by
  intro k
  induction k with
  | zero => exact fun _ s => Le.none _
  | succ k ih =>
    intro k' hk s
    cases k' with
    | zero => exact absurd hk (by omega)
    | succ k' =>
      have hk' := Nat.le_of_succ_le_succ hk
      simp only [macro_Check.l0]
      repeat' (first | with_reducible exact Le.refl _ | exact ih hk' _ | apply macro_one.mono (hk' := hk') | refine Le.cond ?_ ?_ | refine Le.bind ?_ (fun _ => ?_) | cases ‹Except _ _› | intro _)
noncomputable def macro_Check.l0.v (a0 : List Macro) (s : Int) : Option (Except Int Unit) := lim (fun k => macro_Check.l0 a0 k s)
theorem macro_Check.l0.tends (a0 : List Macro) (s : Int) : Tends (fun k => macro_Check.l0 a0 k s) (macro_Check.l0.v a0 s) := tends_lim (fun hk => macro_Check.l0.mono a0 hk s)
set_option maxHeartbeats 4000000 in
set_option maxRecDepth 100000 in
theorem macro_Check.l0.v_eq (a0 : List Macro) (s2 : Int) : macro_Check.l0.v a0 s2 = bif icmp .lss s2 (a0.length : Int) then ((idx a0 s2).bind fun x7 => (macro_one.v x7).bind fun v9 => bif icmp .neq v9 (0 : Int) then (some (Except.error v9)) else (macro_Check.l0.v a0 (IntKind.i64.wrap (s2 + (1 : Int))))) else (some (Except.ok ())) := (macro_Check.l0.tends a0 s2).shift.uniq (by
  simp only [macro_Check.l0]
  repeat' (first | with_reducible exact Tends.const _ | apply macro_one.tends | apply macro_Check.l0.tends | refine Tends.cond ?_ ?_ | refine Tends.bind ?_ (fun _ => ?_) | cases ‹Except _ _› | intro _))
set_option maxHeartbeats 4000000 in
set_option maxRecDepth 100000 in
theorem macro_Check.l1.mono (a0 : List Macro) : ∀ {k k' : Nat}, k ≤ k' → ∀ s, Le (macro_Check.l1 a0 k s) (macro_Check.l1 a0 k' s) := by
  intro k
  induction k with
  | zero => exact fun _ s => Le.none _
  | succ k ih =>
    intro k' hk s
    cases k' with
    | zero => exact absurd hk (by omega)
    | succ k' =>
      have hk' := Nat.le_of_succ_le_succ hk
      simp only [macro_Check.l1]
      repeat' (first | with_reducible exact Le.refl _ | exact ih hk' _ | refine Le.cond ?_ ?_ | refine Le.bind ?_ (fun _ => ?_) | cases ‹Except _ _› | intro _)
noncomputable def macro_Check.l1.v (a0 : List Macro) (s : Int) : Option (Except Int Unit) := lim (fun k => macro_Check.l1 a0 k s)
theorem macro_Check.l1.tends (a0 : List Macro) (s : Int) : Tends (fun k => macro_Check.l1 a0 k s) (macro_Check.l1.v a0 s) := tends_lim (fun hk => macro_Check.l1.mono a0 hk s)
set_option maxHeartbeats 4000000 in
set_option maxRecDepth 100000 in
theorem macro_Check.l1.v_eq (a0 : List Macro) (s12 : Int) : macro_Check.l1.v a0 s12 = bif icmp .lss s12 (a0.length : Int) then ((bif icmp .gtr s12 (0 : Int) then ((idx a0 (IntKind.i64.wrap (s12 - (1 : Int)))).bind fun x20 => (idx a0 s12).bind fun x22 => (macro_byName.f x20 x22).bind fun v24 => some (icmp .geq v24 (0 : Int))) else (some false)).bind fun s17 => bif s17 then (some (Except.error (5 : Int))) else (macro_Check.l1.v a0 (IntKind.i64.wrap (s12 + (1 : Int))))) else (some (Except.ok ())) := (macro_Check.l1.tends a0 s12).shift.uniq (by
  simp only [macro_Check.l1]
  repeat' (first | with_reducible exact Tends.const _ | apply macro_Check.l1.tends | refine Tends.cond ?_ ?_ | refine Tends.bind ?_ (fun _ => ?_) | cases ‹Except _ _› | intro _))
set_option maxHeartbeats 4000000 in
set_option maxRecDepth 100000 in
theorem macro_Check.mono {k k' : Nat} (hk' : k ≤ k') (a0 : List Macro) : Le (macro_Check.f k a0 ) (macro_Check.f k' a0 ) := by
  simp only [macro_Check.f]
  repeat' (first | with_reducible exact Le.refl _ | refine macro_Check.l0.mono _ hk' _ | refine macro_Check.l1.mono _ hk' _ | refine Le.cond ?_ ?_ | refine Le.bind ?_ (fun _ => ?_) | cases ‹Except _ _› | intro _)
noncomputable def macro_Check.v (a0 : List Macro) : Option Int := lim (fun k => macro_Check.f k a0 )
theorem macro_Check.tends (a0 : List Macro) : Tends (fun k => macro_Check.f k a0 ) (macro_Check.v a0 ) := tends_lim (fun hk => macro_Check.mono hk a0 )
set_option maxHeartbeats 4000000 in
set_option maxRecDepth 100000 in
theorem macro_Check.v_eq (a0 : List Macro) : macro_Check.v a0 = bif icmp .gtr (a0.length : Int) (256 : Int) then (some (2 : Int)) else ((macro_Check.l0.v a0 (0 : Int)).bind fun o5 => match o5 with | .error r' => some r' | .ok s3 => ((macro_Check.l1.v a0 (0 : Int)).bind fun o15 => match o15 with | .error r' => some r' | .ok s13 => (some (0 : Int)))) := (macro_Check.tends a0 ).uniq (by
  simp only [macro_Check.f]
  repeat' (first | with_reducible exact Tends.const _ | apply macro_Check.l0.tends | apply macro_Check.l1.tends | refine Tends.cond ?_ ?_ | refine Tends.bind ?_ (fun _ => ?_) | cases ‹Except _ _› | intro _))
/-! slices.Clone[[]smithy/api.Macro,smithy/api.Macro] -/

/-! slices.BinarySearchFunc[[]smithy/api.Macro,smithy/api.Macro,smithy/api.Macro] -/
set_option maxHeartbeats 4000000 in
set_option maxRecDepth 100000 in
theorem slices_BinarySearchFunc_api_Macro_api_Macro_api_Macro.l0.mono {a2 a2' : Macro → Macro → Option Int} (hpa2 : ∀ z0 z1, Le (a2 z0 z1) (a2' z0 z1)) (a0 : List Macro) (a1 : Macro) : ∀ {k k' : Nat}, k ≤ k' → ∀ s, Le (slices_BinarySearchFunc_api_Macro_api_Macro_api_Macro.l0 a0 a1 a2 k s) (slices_BinarySearchFunc_api_Macro_api_Macro_api_Macro.l0 a0 a1 a2' k' s) := by
  intro k
  induction k with
  | zero => exact fun _ s => Le.none _
  | succ k ih =>
    intro k' hk s
    cases k' with
    | zero => exact absurd hk (by omega)
    | succ k' =>
      have hk' := Nat.le_of_succ_le_succ hk
      simp only [slices_BinarySearchFunc_api_Macro_api_Macro_api_Macro.l0]
      repeat' (first | with_reducible exact Le.refl _ | exact hpa2 _ _ | exact ih hk' _ | refine Le.cond ?_ ?_ | refine Le.bind ?_ (fun _ => ?_) | cases ‹Except _ _› | intro _)
noncomputable def slices_BinarySearchFunc_api_Macro_api_Macro_api_Macro.l0.v (a0 : List Macro) (a1 : Macro) (a2 : Macro → Macro → Option Int) (s : Int × Int) : Option Int := lim (fun k => slices_BinarySearchFunc_api_Macro_api_Macro_api_Macro.l0 a0 a1 a2 k s)
theorem slices_BinarySearchFunc_api_Macro_api_Macro_api_Macro.l0.tends (a0 : List Macro) (a1 : Macro) (a2 : Macro → Macro → Option Int) (s : Int × Int) : Tends (fun k => slices_BinarySearchFunc_api_Macro_api_Macro_api_Macro.l0 a0 a1 a2 k s) (slices_BinarySearchFunc_api_Macro_api_Macro_api_Macro.l0.v a0 a1 a2 s) := tends_lim (fun hk => slices_BinarySearchFunc_api_Macro_api_Macro_api_Macro.l0.mono (fun _ _ => Le.refl _) a0 a1 hk s)
set_option maxHeartbeats 4000000 in
set_option maxRecDepth 100000 in
theorem slices_BinarySearchFunc_api_Macro_api_Macro_api_Macro.l0.v_eq (a0 : List Macro) (a1 : Macro) (a2 : Macro → Macro → Option Int) (s1 : Int × Int) : slices_BinarySearchFunc_api_Macro_api_Macro_api_Macro.l0.v a0 a1 a2 s1 = bif icmp .lss s1.1 s1.2 then ((idx a0 (IntKind.i64.wrap ((IntKind.u64.wrap (IntKind.i64.wrap (s1.1 + s1.2))) / 2 ^ (Int.toNat (1 : Int))))).bind fun x5 => (a2 x5 a1).bind fun v7 => bif icmp .lss v7 (0 : Int) then (slices_BinarySearchFunc_api_Macro_api_Macro_api_Macro.l0.v a0 a1 a2 (IntKind.i64.wrap (IntKind.i64.wrap ((IntKind.u64.wrap (IntKind.i64.wrap (s1.1 + s1.2))) / 2 ^ (Int.toNat (1 : Int))) + (1 : Int)), s1.2)) else (slices_BinarySearchFunc_api_Macro_api_Macro_api_Macro.l0.v a0 a1 a2 (s1.1, IntKind.i64.wrap ((IntKind.u64.wrap (IntKind.i64.wrap (s1.1 + s1.2))) / 2 ^ (Int.toNat (1 : Int)))))) else (some s1.1) := (slices_BinarySearchFunc_api_Macro_api_Macro_api_Macro.l0.tends a0 a1 a2 s1).shift.uniq (by
  simp only [slices_BinarySearchFunc_api_Macro_api_Macro_api_Macro.l0]
  repeat' (first | with_reducible exact Tends.const _ | apply slices_BinarySearchFunc_api_Macro_api_Macro_api_Macro.l0.tends | refine Tends.cond ?_ ?_ | refine Tends.bind ?_ (fun _ => ?_) | cases ‹Except _ _› | intro _))
set_option maxHeartbeats 4000000 in
set_option maxRecDepth 100000 in
theorem slices_BinarySearchFunc_api_Macro_api_Macro_api_Macro.l0.tendsP {pa2 : Nat → Macro → Macro → Option Int} {qa2 : Macro → Macro → Option Int} (hpa2 : ∀ z0 z1, Tends (fun j => pa2 j z0 z1) (qa2 z0 z1)) (a0 : List Macro) (a1 : Macro) : ∀ (K : Nat) s, Tends (fun j => slices_BinarySearchFunc_api_Macro_api_Macro_api_Macro.l0 a0 a1 (pa2 j) K s) (slices_BinarySearchFunc_api_Macro_api_Macro_api_Macro.l0 a0 a1 qa2 K s) := by
  intro K
  induction K with
  | zero => exact fun s => Tends.const _
  | succ K ih =>
    intro s
    simp only [slices_BinarySearchFunc_api_Macro_api_Macro_api_Macro.l0]
    repeat' (first | with_reducible exact Tends.const _ | exact hpa2 _ _ | exact ih _ | refine Tends.cond ?_ ?_ | refine Tends.bind ?_ (fun _ => ?_) | cases ‹Except _ _› | intro _)
set_option maxHeartbeats 4000000 in
set_option maxRecDepth 100000 in
theorem slices_BinarySearchFunc_api_Macro_api_Macro_api_Macro.mono {k k' : Nat} (hk' : k ≤ k') {a2 a2' : Macro → Macro → Option Int} (hpa2 : ∀ z0 z1, Le (a2 z0 z1) (a2' z0 z1)) (a0 : List Macro) (a1 : Macro) : Le (slices_BinarySearchFunc_api_Macro_api_Macro_api_Macro.f k a0 a1 a2 ) (slices_BinarySearchFunc_api_Macro_api_Macro_api_Macro.f k' a0 a1 a2' ) := by
  simp only [slices_BinarySearchFunc_api_Macro_api_Macro_api_Macro.f]
  repeat' (first | with_reducible exact Le.refl _ | exact hpa2 _ _ | refine slices_BinarySearchFunc_api_Macro_api_Macro_api_Macro.l0.mono hpa2 _ _ hk' _ | refine Le.cond ?_ ?_ | refine Le.bind ?_ (fun _ => ?_) | cases ‹Except _ _› | intro _)
noncomputable def slices_BinarySearchFunc_api_Macro_api_Macro_api_Macro.v (a0 : List Macro) (a1 : Macro) (a2 : Macro → Macro → Option Int) : Option (Int × Bool) := lim (fun k => slices_BinarySearchFunc_api_Macro_api_Macro_api_Macro.f k a0 a1 a2 )
theorem slices_BinarySearchFunc_api_Macro_api_Macro_api_Macro.tends (a0 : List Macro) (a1 : Macro) (a2 : Macro → Macro → Option Int) : Tends (fun k => slices_BinarySearchFunc_api_Macro_api_Macro_api_Macro.f k a0 a1 a2 ) (slices_BinarySearchFunc_api_Macro_api_Macro_api_Macro.v a0 a1 a2 ) := tends_lim (fun hk => slices_BinarySearchFunc_api_Macro_api_Macro_api_Macro.mono hk (fun _ _ => Le.refl _) a0 a1 )
set_option maxHeartbeats 4000000 in
set_option maxRecDepth 100000 in
theorem slices_BinarySearchFunc_api_Macro_api_Macro_api_Macro.v_eq (a0 : List Macro) (a1 : Macro) (a2 : Macro → Macro → Option Int) : slices_BinarySearchFunc_api_Macro_api_Macro_api_Macro.v a0 a1 a2 = (slices_BinarySearchFunc_api_Macro_api_Macro_api_Macro.l0.v a0 a1 a2 ((0 : Int), (a0.length : Int))).bind fun s2 => (bif icmp .lss s2 (a0.length : Int) then ((idx a0 s2).bind fun x13 => (a2 x13 a1).bind fun v15 => some (icmp .eql v15 (0 : Int))) else (some false)).bind fun s10 => some (s2, s10) := (slices_BinarySearchFunc_api_Macro_api_Macro_api_Macro.tends a0 a1 a2 ).uniq (by
  simp only [slices_BinarySearchFunc_api_Macro_api_Macro_api_Macro.f]
  repeat' (first | with_reducible exact Tends.const _ | apply slices_BinarySearchFunc_api_Macro_api_Macro_api_Macro.l0.tends | refine Tends.cond ?_ ?_ | refine Tends.bind ?_ (fun _ => ?_) | cases ‹Except _ _› | intro _))
set_option maxHeartbeats 4000000 in
set_option maxRecDepth 100000 in
theorem slices_BinarySearchFunc_api_Macro_api_Macro_api_Macro.tendsP {pa2 : Nat → Macro → Macro → Option Int} {qa2 : Macro → Macro → Option Int} (hpa2 : ∀ z0 z1, Tends (fun j => pa2 j z0 z1) (qa2 z0 z1)) (a0 : List Macro) (a1 : Macro) (K : Nat) : Tends (fun j => slices_BinarySearchFunc_api_Macro_api_Macro_api_Macro.f K a0 a1 (pa2 j) ) (slices_BinarySearchFunc_api_Macro_api_Macro_api_Macro.f K a0 a1 qa2 ) := by
  simp only [slices_BinarySearchFunc_api_Macro_api_Macro_api_Macro.f]
  repeat' (first | with_reducible exact Tends.const _ | exact hpa2 _ _ | refine slices_BinarySearchFunc_api_Macro_api_Macro_api_Macro.l0.tendsP hpa2 _ _ _ _ | refine Tends.cond ?_ ?_ | refine Tends.bind ?_ (fun _ => ?_) | cases ‹Except _ _› | intro _)
theorem slices_BinarySearchFunc_api_Macro_api_Macro_api_Macro.tends2 {pa2 : Nat → Macro → Macro → Option Int} {qa2 : Macro → Macro → Option Int} (hpa2 : ∀ z0 z1, Tends (fun j => pa2 j z0 z1) (qa2 z0 z1)) (a0 : List Macro) (a1 : Macro) : Tends (fun k => slices_BinarySearchFunc_api_Macro_api_Macro_api_Macro.f k a0 a1 (pa2 k) ) (slices_BinarySearchFunc_api_Macro_api_Macro_api_Macro.v a0 a1 qa2 ) := Tends.diag (f := fun K j => slices_BinarySearchFunc_api_Macro_api_Macro_api_Macro.f K a0 a1 (pa2 j) ) (fun K => slices_BinarySearchFunc_api_Macro_api_Macro_api_Macro.tendsP hpa2 a0 a1 K) (fun h j => slices_BinarySearchFunc_api_Macro_api_Macro_api_Macro.mono h (fun _ _ => Le.refl _) a0 a1 ) (slices_BinarySearchFunc_api_Macro_api_Macro_api_Macro.tends a0 a1 qa2 )
/-! smithy/macro.find -/
set_option maxHeartbeats 4000000 in
set_option maxRecDepth 100000 in
theorem macro_find.mono {k k' : Nat} (hk' : k ≤ k') (a0 : List Macro) (a1 : ByteArray) : Le (macro_find.f k a0 a1 ) (macro_find.f k' a0 a1 ) := by
  simp only [macro_find.f]
  repeat' (first | with_reducible exact Le.refl _ | apply slices_BinarySearchFunc_api_Macro_api_Macro_api_Macro.mono (hk' := hk') | refine Le.cond ?_ ?_ | refine Le.bind ?_ (fun _ => ?_) | cases ‹Except _ _› | intro _)
noncomputable def macro_find.v (a0 : List Macro) (a1 : ByteArray) : Option (Int × Bool) := lim (fun k => macro_find.f k a0 a1 )
theorem macro_find.tends (a0 : List Macro) (a1 : ByteArray) : Tends (fun k => macro_find.f k a0 a1 ) (macro_find.v a0 a1 ) := tends_lim (fun hk => macro_find.mono hk a0 a1 )
set_option maxHeartbeats 4000000 in
set_option maxRecDepth 100000 in
theorem macro_find.v_eq (a0 : List Macro) (a1 : ByteArray) : macro_find.v a0 a1 = (slices_BinarySearchFunc_api_Macro_api_Macro_api_Macro.v a0 (⟨a1, ByteArray.empty, (0 : Int)⟩ : Macro) (fun (z0 : Macro) (z1 : Macro) => macro_byName.f z0 z1)).bind fun v1 => some (v1.1, v1.2) := (macro_find.tends a0 a1 ).uniq (by
  simp only [macro_find.f]
  repeat' (first | with_reducible exact Tends.const _ | apply slices_BinarySearchFunc_api_Macro_api_Macro_api_Macro.tends2 | refine Tends.cond ?_ ?_ | refine Tends.bind ?_ (fun _ => ?_) | cases ‹Except _ _› | intro _))
/-! smithy/macro.Define -/
set_option maxHeartbeats 4000000 in
set_option maxRecDepth 100000 in
theorem macro_Define.mono {k k' : Nat} (hk' : k ≤ k') (a0 : List Macro) (a1 : Macro) : Le (macro_Define.f k a0 a1 ) (macro_Define.f k' a0 a1 ) := by
  simp only [macro_Define.f]
  repeat' (first | with_reducible exact Le.refl _ | apply macro_Check.mono (hk' := hk') | apply macro_one.mono (hk' := hk') | apply macro_find.mono (hk' := hk') | refine Le.cond ?_ ?_ | refine Le.bind ?_ (fun _ => ?_) | cases ‹Except _ _› | intro _)
noncomputable def macro_Define.v (a0 : List Macro) (a1 : Macro) : Option ((List Macro) × Int) := lim (fun k => macro_Define.f k a0 a1 )
theorem macro_Define.tends (a0 : List Macro) (a1 : Macro) : Tends (fun k => macro_Define.f k a0 a1 ) (macro_Define.v a0 a1 ) := tends_lim (fun hk => macro_Define.mono hk a0 a1 )
set_option maxHeartbeats 4000000 in
set_option maxRecDepth 100000 in
theorem macro_Define.v_eq (a0 : List Macro) (a1 : Macro) : macro_Define.v a0 a1 = (macro_Check.v a0).bind fun v1 => bif icmp .neq v1 (0 : Int) then (some (([] : List Macro), v1)) else ((macro_one.v a1).bind fun v4 => bif icmp .neq v4 (0 : Int) then (some (([] : List Macro), v4)) else ((slices_Clone_api_Macro_api_Macro.f a0).bind fun v7 => (macro_find.v v7 a1.Name).bind fun v9 => ((bif v9.2 then ((idx v7 v9.1).bind fun x17 => some (icmp .gtr x17.Level a1.Level)) else (some false)).bind fun s14 => bif s14 then (some (Except.ok v7)) else (bif v9.2 then ((idx v7 v9.1).bind fun x21 => some (Except.ok (v7.set v9.1.toNat a1))) else (bif icmp .geq (a0.length : Int) (256 : Int) then (some (Except.error (([] : List Macro), (2 : Int)))) else ((slices_Insert_api_Macro_api_Macro.f v7 v9.1 ([a1])).bind fun v24 => some (Except.ok v24))))).bind fun o13 => match o13 with | .error r' => some r' | .ok s11 => (some (s11, (0 : Int))))) := (macro_Define.tends a0 a1 ).uniq (by
  simp only [macro_Define.f]
  repeat' (first | with_reducible exact Tends.const _ | apply macro_Check.tends | apply macro_one.tends | apply macro_find.tends | refine Tends.cond ?_ ?_ | refine Tends.bind ?_ (fun _ => ?_) | cases ‹Except _ _› | intro _))
/-! smithy/macro.Look -/
set_option maxHeartbeats 4000000 in
set_option maxRecDepth 100000 in
theorem macro_Look.mono {k k' : Nat} (hk' : k ≤ k') (a0 : List Macro) (a1 : ByteArray) : Le (macro_Look.f k a0 a1 ) (macro_Look.f k' a0 a1 ) := by
  simp only [macro_Look.f]
  repeat' (first | with_reducible exact Le.refl _ | apply macro_Check.mono (hk' := hk') | apply macro_Name.mono (hk' := hk') | apply macro_find.mono (hk' := hk') | refine Le.cond ?_ ?_ | refine Le.bind ?_ (fun _ => ?_) | cases ‹Except _ _› | intro _)
noncomputable def macro_Look.v (a0 : List Macro) (a1 : ByteArray) : Option (Macro × Bool × Int) := lim (fun k => macro_Look.f k a0 a1 )
theorem macro_Look.tends (a0 : List Macro) (a1 : ByteArray) : Tends (fun k => macro_Look.f k a0 a1 ) (macro_Look.v a0 a1 ) := tends_lim (fun hk => macro_Look.mono hk a0 a1 )
set_option maxHeartbeats 4000000 in
set_option maxRecDepth 100000 in
theorem macro_Look.v_eq (a0 : List Macro) (a1 : ByteArray) : macro_Look.v a0 a1 = (macro_Check.v a0).bind fun v1 => bif icmp .neq v1 (0 : Int) then (some ((⟨ByteArray.empty, ByteArray.empty, (0 : Int)⟩ : Macro), false, v1)) else ((macro_Name.v a1).bind fun v4 => bif !v4 then (some ((⟨ByteArray.empty, ByteArray.empty, (0 : Int)⟩ : Macro), false, (50 : Int))) else ((macro_find.v a0 a1).bind fun v7 => bif !v7.2 then (some ((⟨ByteArray.empty, ByteArray.empty, (0 : Int)⟩ : Macro), false, (0 : Int))) else ((idx a0 v7.1).bind fun x10 => some (x10, true, (0 : Int))))) := (macro_Look.tends a0 a1 ).uniq (by
  simp only [macro_Look.f]
  repeat' (first | with_reducible exact Tends.const _ | apply macro_Check.tends | apply macro_Name.tends | apply macro_find.tends | refine Tends.cond ?_ ?_ | refine Tends.bind ?_ (fun _ => ?_) | cases ‹Except _ _› | intro _))
/-! smithy/smithylaw05.small -/
set_option maxHeartbeats 4000000 in
set_option maxRecDepth 100000 in
theorem smithylaw05_small.mono {k k' : Nat} (hk' : k ≤ k') : Le (smithylaw05_small.f k ) (smithylaw05_small.f k' ) := by
  simp only [smithylaw05_small.f]
  repeat' (first | with_reducible exact Le.refl _ | apply macro_Define.mono (hk' := hk') | apply macro_Look.mono (hk' := hk') | apply macro_Name.mono (hk' := hk') | refine Le.cond ?_ ?_ | refine Le.bind ?_ (fun _ => ?_) | cases ‹Except _ _› | intro _)
noncomputable def smithylaw05_small.v : Option Bool := lim (fun k => smithylaw05_small.f k )
theorem smithylaw05_small.tends : Tends (fun k => smithylaw05_small.f k ) (smithylaw05_small.v ) := tends_lim (fun hk => smithylaw05_small.mono hk )
set_option maxHeartbeats 4000000 in
set_option maxRecDepth 100000 in
theorem smithylaw05_small.v_eq : smithylaw05_small.v = (macro_Define.v ([] : List Macro) (⟨(⟨#[65]⟩ : ByteArray), (⟨#[120]⟩ : ByteArray), (2 : Int)⟩ : Macro)).bind fun v1 => (macro_Define.v v1.1 (⟨(⟨#[65]⟩ : ByteArray), (⟨#[121]⟩ : ByteArray), (1 : Int)⟩ : Macro)).bind fun v3 => (macro_Look.v v3.1 (⟨#[65]⟩ : ByteArray)).bind fun v5 => (bif icmp .eql v1.2 (0 : Int) then (bif icmp .eql v3.2 (0 : Int) then (bif icmp .eql v5.2.2 (0 : Int) then (bif v5.2.1 then (bif scmp .eql v5.1.Value (⟨#[120]⟩ : ByteArray) then ((macro_Name.v (⟨#[65, 46, 98, 95, 57]⟩ : ByteArray)).bind fun v14 => bif v14 then ((macro_Name.v (⟨#[97, 45, 98]⟩ : ByteArray)).bind fun v17 => some (!v17)) else (some false)) else (some false)) else (some false)) else (some false)) else (some false)) else (some false)).bind fun s7 => some s7 := (smithylaw05_small.tends ).uniq (by
  simp only [smithylaw05_small.f]
  repeat' (first | with_reducible exact Tends.const _ | apply macro_Define.tends | apply macro_Look.tends | apply macro_Name.tends | refine Tends.cond ?_ ?_ | refine Tends.bind ?_ (fun _ => ?_) | cases ‹Except _ _› | intro _))
/-! smithy/smithylaw05.MacroRefs -/
set_option maxHeartbeats 4000000 in
set_option maxRecDepth 100000 in
theorem smithylaw05_MacroRefs.mono {k k' : Nat} (hk' : k ≤ k') (a0 : ByteArray) : Le (smithylaw05_MacroRefs.f k a0 ) (smithylaw05_MacroRefs.f k' a0 ) := by
  simp only [smithylaw05_MacroRefs.f]
  repeat' (first | with_reducible exact Le.refl _ | apply macro_Refs.mono (hk' := hk') | apply smithyref05_Refs.mono (hk' := hk') | apply smithyplain_Texts.mono (hk' := hk') | apply smithylaw05_small.mono (hk' := hk') | refine Le.cond ?_ ?_ | refine Le.bind ?_ (fun _ => ?_) | cases ‹Except _ _› | intro _)
noncomputable def smithylaw05_MacroRefs.v (a0 : ByteArray) : Option Bool := lim (fun k => smithylaw05_MacroRefs.f k a0 )
theorem smithylaw05_MacroRefs.tends (a0 : ByteArray) : Tends (fun k => smithylaw05_MacroRefs.f k a0 ) (smithylaw05_MacroRefs.v a0 ) := tends_lim (fun hk => smithylaw05_MacroRefs.mono hk a0 )
set_option maxHeartbeats 4000000 in
set_option maxRecDepth 100000 in
theorem smithylaw05_MacroRefs.v_eq (a0 : ByteArray) : smithylaw05_MacroRefs.v a0 = (macro_Refs.v a0).bind fun v1 => (smithyref05_Refs.v a0).bind fun v3 => ((smithyplain_Texts.v v1.1 v3.1).bind fun v7 => bif v7 then (bif icmp .eql v1.2 v3.2 then ((smithylaw05_small.v).bind fun v11 => some v11) else (some false)) else (some false)).bind fun s5 => some s5 := (smithylaw05_MacroRefs.tends a0 ).uniq (by
  simp only [smithylaw05_MacroRefs.f]
  repeat' (first | with_reducible exact Tends.const _ | apply macro_Refs.tends | apply smithyref05_Refs.tends | apply smithyplain_Texts.tends | apply smithylaw05_small.tends | refine Tends.cond ?_ ?_ | refine Tends.bind ?_ (fun _ => ?_) | cases ‹Except _ _› | intro _))
end Go.Proofs.Ytodogppelokapaa.F
