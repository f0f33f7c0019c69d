import Derived.Test.YtoemgemfgaooeaaVIx0
set_option linter.unusedVariables false
set_option linter.unusedSimpArgs false
set_option linter.unnecessarySimpa false
set_option linter.deprecated false
namespace Go.Proofs.Ytoemgemfgaooeaa.F
open Go Go.RowKit Go.Proofs.Ytoemgemfgaooeaa.Sl
/-! smithy/smithyref02.laid -/
set_option maxHeartbeats 4000000 in
set_option maxRecDepth 100000 in
theorem smithyref02_laid.l0.mono (a0 : Disk) (a1 : File) : ∀ {k k' : Nat}, k ≤ k' → ∀ s, Le (smithyref02_laid.l0 a0 a1 k s) (smithyref02_laid.l0 a0 a1 k' s) := by
  intro k
  induction k with
  | zero => exact fun _ s => Le.none _
  | succ k ih =>
    intro k' hk s
    cases k' with
    | zero => exact absurd hk (by omega)
    | succ k' =>
      have hk' := Nat.le_of_succ_le_succ hk
      simp only [smithyref02_laid.l0]
      repeat' (first | with_reducible exact Le.refl _ | exact ih hk' _ | refine Le.cond ?_ ?_ | refine Le.bind ?_ (fun _ => ?_) | cases ‹Except _ _› | intro _)
noncomputable def smithyref02_laid.l0.v (a0 : Disk) (a1 : File) (s : (List File) × Bool × Int) : Option (Bool × (List File)) := lim (fun k => smithyref02_laid.l0 a0 a1 k s)
theorem smithyref02_laid.l0.tends (a0 : Disk) (a1 : File) (s : (List File) × Bool × Int) : Tends (fun k => smithyref02_laid.l0 a0 a1 k s) (smithyref02_laid.l0.v a0 a1 s) := tends_lim (fun hk => smithyref02_laid.l0.mono a0 a1 hk s)
set_option maxHeartbeats 4000000 in
set_option maxRecDepth 100000 in
theorem smithyref02_laid.l0.v_eq (a0 : Disk) (a1 : File) (s1 : (List File) × Bool × Int) : smithyref02_laid.l0.v a0 a1 s1 = bif icmp .lss s1.2.2 (a0.Files.length : Int) then (((idx a0.Files s1.2.2).bind fun x7 => (bif !s1.2.1 then (some (scmp .geq x7.Name a1.Name)) else (some false)).bind fun s9 => (bif s9 then ((app 40 s1.1 ([a1])).bind fun x15 => some (true, x15)) else (some (s1.2.1, s1.1))).bind fun s12 => bif scmp .neq x7.Name a1.Name then ((app 40 s12.2 ([x7])).bind fun x18 => some (s12.1, x18)) else (some (s12.1, s12.2))).bind fun s5 => smithyref02_laid.l0.v a0 a1 (s5.2, s5.1, IntKind.i64.wrap (s1.2.2 + (1 : Int)))) else (some (s1.2.1, s1.1)) := (smithyref02_laid.l0.tends a0 a1 s1).shift.uniq (by
  simp only [smithyref02_laid.l0]
  repeat' (first | with_reducible exact Tends.const _ | apply smithyref02_laid.l0.tends | refine Tends.cond ?_ ?_ | refine Tends.bind ?_ (fun _ => ?_) | cases ‹Except _ _› | intro _))
set_option maxHeartbeats 4000000 in
set_option maxRecDepth 100000 in
theorem smithyref02_laid.mono {k k' : Nat} (hk' : k ≤ k') (a0 : Disk) (a1 : File) : Le (smithyref02_laid.f k a0 a1 ) (smithyref02_laid.f k' a0 a1 ) := by
  simp only [smithyref02_laid.f]
  repeat' (first | with_reducible exact Le.refl _ | refine smithyref02_laid.l0.mono _ _ hk' _ | refine Le.cond ?_ ?_ | refine Le.bind ?_ (fun _ => ?_) | cases ‹Except _ _› | intro _)
noncomputable def smithyref02_laid.v (a0 : Disk) (a1 : File) : Option Disk := lim (fun k => smithyref02_laid.f k a0 a1 )
theorem smithyref02_laid.tends (a0 : Disk) (a1 : File) : Tends (fun k => smithyref02_laid.f k a0 a1 ) (smithyref02_laid.v a0 a1 ) := tends_lim (fun hk => smithyref02_laid.mono hk a0 a1 )
set_option maxHeartbeats 4000000 in
set_option maxRecDepth 100000 in
theorem smithyref02_laid.v_eq (a0 : Disk) (a1 : File) : smithyref02_laid.v a0 a1 = (smithyref02_laid.l0.v a0 a1 (([] : List File), false, (0 : Int))).bind fun s2 => (bif !s2.1 then ((app 40 s2.2 ([a1])).bind fun x23 => some x23) else (some s2.2)).bind fun s20 => some (⟨a0.Clock, s20⟩ : Disk) := (smithyref02_laid.tends a0 a1 ).uniq (by
  simp only [smithyref02_laid.f]
  repeat' (first | with_reducible exact Tends.const _ | apply smithyref02_laid.l0.tends | refine Tends.cond ?_ ?_ | refine Tends.bind ?_ (fun _ => ?_) | cases ‹Except _ _› | intro _))
/-! smithy/smithyref02.written -/
set_option maxHeartbeats 4000000 in
set_option maxRecDepth 100000 in
theorem smithyref02_written.mono {k k' : Nat} (hk' : k ≤ k') (a0 : Disk) (a1 : ByteArray) (a2 : ByteArray) : Le (smithyref02_written.f k a0 a1 a2 ) (smithyref02_written.f k' a0 a1 a2 ) := by
  simp only [smithyref02_written.f]
  repeat' (first | with_reducible exact Le.refl _ | apply smithyref02_place.mono (hk' := hk') | apply smithyref02_laid.mono (hk' := hk') | refine Le.cond ?_ ?_ | refine Le.bind ?_ (fun _ => ?_) | cases ‹Except _ _› | intro _)
noncomputable def smithyref02_written.v (a0 : Disk) (a1 : ByteArray) (a2 : ByteArray) : Option (Disk × Int) := lim (fun k => smithyref02_written.f k a0 a1 a2 )
theorem smithyref02_written.tends (a0 : Disk) (a1 : ByteArray) (a2 : ByteArray) : Tends (fun k => smithyref02_written.f k a0 a1 a2 ) (smithyref02_written.v a0 a1 a2 ) := tends_lim (fun hk => smithyref02_written.mono hk a0 a1 a2 )
set_option maxHeartbeats 4000000 in
set_option maxRecDepth 100000 in
theorem smithyref02_written.v_eq (a0 : Disk) (a1 : ByteArray) (a2 : ByteArray) : smithyref02_written.v a0 a1 a2 = ((smithyref02_place.v a0 a1).bind fun v3 => bif icmp .lss v3 (0 : Int) then (some (icmp .geq (a0.Files.length : Int) (256 : Int))) else (some false)).bind fun s1 => bif s1 then (some ((⟨(0 : Int), ([] : List File)⟩ : Disk), (22 : Int))) else (bif icmp .geq a0.Clock (1099511627776 : Int) then (some ((⟨(0 : Int), ([] : List File)⟩ : Disk), (23 : Int))) else ((smithyref02_laid.v a0 (⟨a1, a2, IntKind.i64.wrap (a0.Clock + (1 : Int))⟩ : File)).bind fun v8 => some ({ v8 with Clock := IntKind.i64.wrap (a0.Clock + (1 : Int)) }, (0 : Int)))) := (smithyref02_written.tends a0 a1 a2 ).uniq (by
  simp only [smithyref02_written.f]
  repeat' (first | with_reducible exact Tends.const _ | apply smithyref02_place.tends | apply smithyref02_laid.tends | refine Tends.cond ?_ ?_ | refine Tends.bind ?_ (fun _ => ?_) | cases ‹Except _ _› | intro _))
/-! smithy/smithyref02.Write -/
set_option maxHeartbeats 4000000 in
set_option maxRecDepth 100000 in
theorem smithyref02_Write.mono {k k' : Nat} (hk' : k ≤ k') (a0 : Disk) (a1 : ByteArray) (a2 : ByteArray) : Le (smithyref02_Write.f k a0 a1 a2 ) (smithyref02_Write.f k' a0 a1 a2 ) := by
  simp only [smithyref02_Write.f]
  repeat' (first | with_reducible exact Le.refl _ | apply smithyref02_fit.mono (hk' := hk') | apply smithyref02_written.mono (hk' := hk') | refine Le.cond ?_ ?_ | refine Le.bind ?_ (fun _ => ?_) | cases ‹Except _ _› | intro _)
noncomputable def smithyref02_Write.v (a0 : Disk) (a1 : ByteArray) (a2 : ByteArray) : Option (Disk × Int) := lim (fun k => smithyref02_Write.f k a0 a1 a2 )
theorem smithyref02_Write.tends (a0 : Disk) (a1 : ByteArray) (a2 : ByteArray) : Tends (fun k => smithyref02_Write.f k a0 a1 a2 ) (smithyref02_Write.v a0 a1 a2 ) := tends_lim (fun hk => smithyref02_Write.mono hk a0 a1 a2 )
set_option maxHeartbeats 4000000 in
set_option maxRecDepth 100000 in
theorem smithyref02_Write.v_eq (a0 : Disk) (a1 : ByteArray) (a2 : ByteArray) : smithyref02_Write.v a0 a1 a2 = (smithyref02_fit.v a0 a1).bind fun v1 => bif icmp .neq v1 (0 : Int) then (some ((⟨(0 : Int), ([] : List File)⟩ : Disk), v1)) else (bif icmp .gtr (a2.size : Int) (4096 : Int) then (some ((⟨(0 : Int), ([] : List File)⟩ : Disk), (20 : Int))) else ((smithyref02_written.v a0 a1 a2).bind fun v5 => some (v5.1, v5.2))) := (smithyref02_Write.tends a0 a1 a2 ).uniq (by
  simp only [smithyref02_Write.f]
  repeat' (first | with_reducible exact Tends.const _ | apply smithyref02_fit.tends | apply smithyref02_written.tends | refine Tends.cond ?_ ?_ | refine Tends.bind ?_ (fun _ => ?_) | cases ‹Except _ _› | intro _))
/-! smithy/smithylaw13.StaleMore -/
set_option maxHeartbeats 4000000 in
set_option maxRecDepth 100000 in
theorem smithylaw13_StaleMore.mono {k k' : Nat} (hk' : k ≤ k') (a0 : Law13Case) (a1 : ByteArray) : Le (smithylaw13_StaleMore.f k a0 a1 ) (smithylaw13_StaleMore.f k' a0 a1 ) := by
  simp only [smithylaw13_StaleMore.f]
  repeat' (first | with_reducible exact Le.refl _ | apply stale_Is.mono (hk' := hk') | apply smithylaw13_small.mono (hk' := hk') | apply smithyref12_Node.mono (hk' := hk') | apply smithyref03_Has.mono (hk' := hk') | apply smithyref02_Write.mono (hk' := hk') | refine Le.cond ?_ ?_ | refine Le.bind ?_ (fun _ => ?_) | cases ‹Except _ _› | intro _)
noncomputable def smithylaw13_StaleMore.v (a0 : Law13Case) (a1 : ByteArray) : Option Bool := lim (fun k => smithylaw13_StaleMore.f k a0 a1 )
theorem smithylaw13_StaleMore.tends (a0 : Law13Case) (a1 : ByteArray) : Tends (fun k => smithylaw13_StaleMore.f k a0 a1 ) (smithylaw13_StaleMore.v a0 a1 ) := tends_lim (fun hk => smithylaw13_StaleMore.mono hk a0 a1 )
set_option maxHeartbeats 4000000 in
set_option maxRecDepth 100000 in
theorem smithylaw13_StaleMore.v_eq (a0 : Law13Case) (a1 : ByteArray) : smithylaw13_StaleMore.v a0 a1 = (stale_Is.v a0.N a0.D a0.Made).bind fun v1 => (bif icmp .neq v1.2 (0 : Int) then (some true) else (some (!v1.1))).bind fun s3 => bif s3 then ((smithylaw13_small.v).bind fun v7 => some v7) else ((app 16 a0.N.Needs ([a1])).bind fun x9 => (stale_Is.v ({ a0.N with Needs := x9 }) a0.D a0.Made).bind fun v11 => ((smithyref12_Node.v ({ a0.N with Needs := x9 })).bind fun v15 => bif icmp .eql v15 (0 : Int) then (bif icmp .neq v11.2 (0 : Int) then (some true) else (some (!v11.1))) else (some false)).bind fun s13 => bif s13 then (some false) else ((app 16 a0.Made ([a1])).bind fun x20 => (stale_Is.v a0.N a0.D x20).bind fun v22 => (bif icmp .eql v22.2 (0 : Int) then (some (!v22.1)) else (some false)).bind fun s24 => bif s24 then (some false) else ((smithyref03_Has.v a0.N.Needs a1).bind fun v28 => bif !v28 then ((smithylaw13_small.v).bind fun v31 => some v31) else ((smithyref02_Write.v a0.D a1 (⟨#[]⟩ : ByteArray)).bind fun v33 => bif icmp .neq v33.2 (0 : Int) then ((smithylaw13_small.v).bind fun v36 => some v36) else ((stale_Is.v a0.N v33.1 a0.Made).bind fun v38 => (bif icmp .eql v38.2 (0 : Int) then (bif v38.1 then ((smithylaw13_small.v).bind fun v44 => some v44) else (bif scmp .eql a1 a0.N.Target then ((smithylaw13_small.v).bind fun v47 => some v47) else (some false))) else (some false)).bind fun s40 => some s40))))) := (smithylaw13_StaleMore.tends a0 a1 ).uniq (by
  simp only [smithylaw13_StaleMore.f]
  repeat' (first | with_reducible exact Tends.const _ | apply stale_Is.tends | apply smithylaw13_small.tends | apply smithyref12_Node.tends | apply smithyref03_Has.tends | apply smithyref02_Write.tends | refine Tends.cond ?_ ?_ | refine Tends.bind ?_ (fun _ => ?_) | cases ‹Except _ _› | intro _))
/-! smithy/stale.Would$1 -/

/-! smithy/stale.Would -/
set_option maxHeartbeats 4000000 in
set_option maxRecDepth 100000 in
theorem stale_Would.l0.mono (a0 : Plan) (a1 : Disk) : ∀ {k k' : Nat}, k ≤ k' → ∀ s, Le (stale_Would.l0 a0 a1 k s) (stale_Would.l0 a0 a1 k' s) := by
  intro k
  induction k with
  | zero => exact fun _ s => Le.none _
  | succ k ih =>
    intro k' hk s
    cases k' with
    | zero => exact absurd hk (by omega)
    | succ k' =>
      have hk' := Nat.le_of_succ_le_succ hk
      simp only [stale_Would.l0]
      repeat' (first | with_reducible exact Le.refl _ | exact ih hk' _ | apply slices_DeleteFunc_string_string.mono (hk' := hk') | apply stale_why.mono (hk' := hk') | refine Le.cond ?_ ?_ | refine Le.bind ?_ (fun _ => ?_) | cases ‹Except _ _› | intro _)
noncomputable def stale_Would.l0.v (a0 : Plan) (a1 : Disk) (s : (GM Bool) × (List ByteArray) × Int) : Option (List ByteArray) := lim (fun k => stale_Would.l0 a0 a1 k s)
theorem stale_Would.l0.tends (a0 : Plan) (a1 : Disk) (s : (GM Bool) × (List ByteArray) × Int) : Tends (fun k => stale_Would.l0 a0 a1 k s) (stale_Would.l0.v a0 a1 s) := tends_lim (fun hk => stale_Would.l0.mono a0 a1 hk s)
set_option maxHeartbeats 4000000 in
set_option maxRecDepth 100000 in
theorem stale_Would.l0.v_eq (a0 : Plan) (a1 : Disk) (s7 : (GM Bool) × (List ByteArray) × Int) : stale_Would.l0.v a0 a1 s7 = bif icmp .lss s7.2.2 (a0.Nodes.length : Int) then ((idx a0.Nodes s7.2.2).bind fun x11 => (slices_Clone_string_string.f x11.Needs).bind fun v13 => (slices_DeleteFunc_string_string.v v13 (fun (z0 : ByteArray) => stale_Would_1.f z0 s7.1)).bind fun v15 => (stale_why.v x11 a1 v15).bind fun v17 => (bif icmp .neq v17.1 (0 : Int) then (some (icmp .gtr (x11.Recipe.length : Int) (0 : Int))) else (some false)).bind fun s19 => (bif s19 then ((app 16 s7.2.1 ([x11.Target])).bind fun x25 => (gput s7.1 x11.Target true).bind fun x27 => some (x25, x27)) else (some (s7.2.1, s7.1))).bind fun s22 => ((gget s22.2 false x11.Target).bind fun x31 => bif x31 then ((gput s22.2 x11.Target true).bind fun x34 => some x34) else ((gput s22.2 x11.Target x11.Phony).bind fun x36 => some x36)).bind fun s29 => stale_Would.l0.v a0 a1 (s29, s22.1, IntKind.i64.wrap (s7.2.2 + (1 : Int)))) else (some s7.2.1) := (stale_Would.l0.tends a0 a1 s7).shift.uniq (by
  simp only [stale_Would.l0]
  repeat' (first | with_reducible exact Tends.const _ | apply slices_DeleteFunc_string_string.tends2 | apply stale_why.tends | apply stale_Would.l0.tends | refine Tends.cond ?_ ?_ | refine Tends.bind ?_ (fun _ => ?_) | cases ‹Except _ _› | intro _))
set_option maxHeartbeats 4000000 in
set_option maxRecDepth 100000 in
theorem stale_Would.mono {k k' : Nat} (hk' : k ≤ k') (a0 : Plan) (a1 : Disk) : Le (stale_Would.f k a0 a1 ) (stale_Would.f k' a0 a1 ) := by
  simp only [stale_Would.f]
  repeat' (first | with_reducible exact Le.refl _ | apply resolve_Check.mono (hk' := hk') | apply disk_Check.mono (hk' := hk') | refine stale_Would.l0.mono _ _ hk' _ | refine Le.cond ?_ ?_ | refine Le.bind ?_ (fun _ => ?_) | cases ‹Except _ _› | intro _)
noncomputable def stale_Would.v (a0 : Plan) (a1 : Disk) : Option ((List ByteArray) × Int) := lim (fun k => stale_Would.f k a0 a1 )
theorem stale_Would.tends (a0 : Plan) (a1 : Disk) : Tends (fun k => stale_Would.f k a0 a1 ) (stale_Would.v a0 a1 ) := tends_lim (fun hk => stale_Would.mono hk a0 a1 )
set_option maxHeartbeats 4000000 in
set_option maxRecDepth 100000 in
theorem stale_Would.v_eq (a0 : Plan) (a1 : Disk) : stale_Would.v a0 a1 = (resolve_Check.v a0).bind fun v1 => bif icmp .neq v1 (0 : Int) then (some (([] : List ByteArray), v1)) else ((disk_Check.v a1).bind fun v4 => bif icmp .neq v4 (0 : Int) then (some (([] : List ByteArray), v4)) else ((stale_Would.l0.v a0 a1 ((gempty : GM Bool), ([] : List ByteArray), (0 : Int))).bind fun s8 => some (s8, (0 : Int)))) := (stale_Would.tends a0 a1 ).uniq (by
  simp only [stale_Would.f]
  repeat' (first | with_reducible exact Tends.const _ | apply resolve_Check.tends | apply disk_Check.tends | apply stale_Would.l0.tends | refine Tends.cond ?_ ?_ | refine Tends.bind ?_ (fun _ => ?_) | cases ‹Except _ _› | intro _))
/-! smithy/smithyref12.Check -/
set_option maxHeartbeats 4000000 in
set_option maxRecDepth 100000 in
theorem smithyref12_Check.l1.mono (s6 : (List ByteArray) × Int) (x11 : Node) : ∀ {k k' : Nat}, k ≤ k' → ∀ s, Le (smithyref12_Check.l1 s6 x11 k s) (smithyref12_Check.l1 s6 x11 k' s) := by
  intro k
  induction k with
  | zero => exact fun _ s => Le.none _
  | succ k ih =>
    intro k' hk s
    cases k' with
    | zero => exact absurd hk (by omega)
    | succ k' =>
      have hk' := Nat.le_of_succ_le_succ hk
      simp only [smithyref12_Check.l1]
      repeat' (first | with_reducible exact Le.refl _ | exact ih hk' _ | apply smithyref03_Has.mono (hk' := hk') | refine Le.cond ?_ ?_ | refine Le.bind ?_ (fun _ => ?_) | cases ‹Except _ _› | intro _)
noncomputable def smithyref12_Check.l1.v (s6 : (List ByteArray) × Int) (x11 : Node) (s : Int) : Option (Except Int Unit) := lim (fun k => smithyref12_Check.l1 s6 x11 k s)
theorem smithyref12_Check.l1.tends (s6 : (List ByteArray) × Int) (x11 : Node) (s : Int) : Tends (fun k => smithyref12_Check.l1 s6 x11 k s) (smithyref12_Check.l1.v s6 x11 s) := tends_lim (fun hk => smithyref12_Check.l1.mono s6 x11 hk s)
set_option maxHeartbeats 4000000 in
set_option maxRecDepth 100000 in
theorem smithyref12_Check.l1.v_eq (s6 : (List ByteArray) × Int) (x11 : Node) (s21 : Int) : smithyref12_Check.l1.v s6 x11 s21 = bif icmp .lss s21 (x11.Needs.length : Int) then ((idx x11.Needs s21).bind fun x26 => (smithyref03_Has.v s6.1 x26).bind fun v28 => bif !v28 then (some (Except.error (7 : Int))) else (smithyref12_Check.l1.v s6 x11 (IntKind.i64.wrap (s21 + (1 : Int))))) else (some (Except.ok ())) := (smithyref12_Check.l1.tends s6 x11 s21).shift.uniq (by
  simp only [smithyref12_Check.l1]
  repeat' (first | with_reducible exact Tends.const _ | apply smithyref03_Has.tends | apply smithyref12_Check.l1.tends | refine Tends.cond ?_ ?_ | refine Tends.bind ?_ (fun _ => ?_) | cases ‹Except _ _› | intro _))
set_option maxHeartbeats 4000000 in
set_option maxRecDepth 100000 in
theorem smithyref12_Check.l0.mono (a0 : Plan) : ∀ {k k' : Nat}, k ≤ k' → ∀ s, Le (smithyref12_Check.l0 a0 k s) (smithyref12_Check.l0 a0 k' s) := by
  intro k
  induction k with
  | zero => exact fun _ s => Le.none _
  | succ k ih =>
    intro k' hk s
    cases k' with
    | zero => exact absurd hk (by omega)
    | succ k' =>
      have hk' := Nat.le_of_succ_le_succ hk
      simp only [smithyref12_Check.l0]
      repeat' (first | with_reducible exact Le.refl _ | exact ih hk' _ | apply smithyref12_Node.mono (hk' := hk') | apply smithyref03_Has.mono (hk' := hk') | refine smithyref12_Check.l1.mono _ _ hk' _ | refine Le.cond ?_ ?_ | refine Le.bind ?_ (fun _ => ?_) | cases ‹Except _ _› | intro _)
noncomputable def smithyref12_Check.l0.v (a0 : Plan) (s : (List ByteArray) × Int) : Option (Except Int (List ByteArray)) := lim (fun k => smithyref12_Check.l0 a0 k s)
theorem smithyref12_Check.l0.tends (a0 : Plan) (s : (List ByteArray) × Int) : Tends (fun k => smithyref12_Check.l0 a0 k s) (smithyref12_Check.l0.v a0 s) := tends_lim (fun hk => smithyref12_Check.l0.mono a0 hk s)
set_option maxHeartbeats 4000000 in
set_option maxRecDepth 100000 in
theorem smithyref12_Check.l0.v_eq (a0 : Plan) (s6 : (List ByteArray) × Int) : smithyref12_Check.l0.v a0 s6 = bif icmp .lss s6.2 (a0.Nodes.length : Int) then ((idx a0.Nodes s6.2).bind fun x11 => ((smithyref12_Node.v x11).bind fun v15 => bif icmp .neq v15 (0 : Int) then (some true) else ((smithyref03_Has.v s6.1 x11.Target).bind fun v18 => some v18)).bind fun s13 => bif s13 then (some (Except.error (7 : Int))) else ((smithyref12_Check.l1.v s6 x11 (0 : Int)).bind fun o24 => match o24 with | .error r' => some (Except.error r') | .ok s22 => ((app 16 s6.1 ([x11.Target])).bind fun x31 => smithyref12_Check.l0.v a0 (x31, IntKind.i64.wrap (s6.2 + (1 : Int)))))) else (some (Except.ok s6.1)) := (smithyref12_Check.l0.tends a0 s6).shift.uniq (by
  simp only [smithyref12_Check.l0]
  repeat' (first | with_reducible exact Tends.const _ | apply smithyref12_Node.tends | apply smithyref03_Has.tends | apply smithyref12_Check.l1.tends | apply smithyref12_Check.l0.tends | refine Tends.cond ?_ ?_ | refine Tends.bind ?_ (fun _ => ?_) | cases ‹Except _ _› | intro _))
set_option maxHeartbeats 4000000 in
set_option maxRecDepth 100000 in
theorem smithyref12_Check.l2.mono (a0 : Plan) (s7 : (List ByteArray)) : ∀ {k k' : Nat}, k ≤ k' → ∀ s, Le (smithyref12_Check.l2 a0 s7 k s) (smithyref12_Check.l2 a0 s7 k' s) := by
  intro k
  induction k with
  | zero => exact fun _ s => Le.none _
  | succ k ih =>
    intro k' hk s
    cases k' with
    | zero => exact absurd hk (by omega)
    | succ k' =>
      have hk' := Nat.le_of_succ_le_succ hk
      simp only [smithyref12_Check.l2]
      repeat' (first | with_reducible exact Le.refl _ | exact ih hk' _ | apply smithyref03_Has.mono (hk' := hk') | refine Le.cond ?_ ?_ | refine Le.bind ?_ (fun _ => ?_) | cases ‹Except _ _› | intro _)
noncomputable def smithyref12_Check.l2.v (a0 : Plan) (s7 : (List ByteArray)) (s : Int) : Option (Except Int Unit) := lim (fun k => smithyref12_Check.l2 a0 s7 k s)
theorem smithyref12_Check.l2.tends (a0 : Plan) (s7 : (List ByteArray)) (s : Int) : Tends (fun k => smithyref12_Check.l2 a0 s7 k s) (smithyref12_Check.l2.v a0 s7 s) := tends_lim (fun hk => smithyref12_Check.l2.mono a0 s7 hk s)
set_option maxHeartbeats 4000000 in
set_option maxRecDepth 100000 in
theorem smithyref12_Check.l2.v_eq (a0 : Plan) (s7 : (List ByteArray)) (s33 : Int) : smithyref12_Check.l2.v a0 s7 s33 = bif icmp .lss s33 (a0.Goals.length : Int) then (((idx a0.Goals s33).bind fun x40 => (smithyref03_Has.v s7 x40).bind fun v42 => bif !v42 then (some true) else ((sub a0.Goals (0 : Int) s33).bind fun x45 => (idx a0.Goals s33).bind fun x47 => (smithyref03_Has.v x45 x47).bind fun v49 => some v49)).bind fun s38 => bif s38 then (some (Except.error (7 : Int))) else (smithyref12_Check.l2.v a0 s7 (IntKind.i64.wrap (s33 + (1 : Int))))) else (some (Except.ok ())) := (smithyref12_Check.l2.tends a0 s7 s33).shift.uniq (by
  simp only [smithyref12_Check.l2]
  repeat' (first | with_reducible exact Tends.const _ | apply smithyref03_Has.tends | apply smithyref12_Check.l2.tends | refine Tends.cond ?_ ?_ | refine Tends.bind ?_ (fun _ => ?_) | cases ‹Except _ _› | intro _))
set_option maxHeartbeats 4000000 in
set_option maxRecDepth 100000 in
theorem smithyref12_Check.mono {k k' : Nat} (hk' : k ≤ k') (a0 : Plan) : Le (smithyref12_Check.f k a0 ) (smithyref12_Check.f k' a0 ) := by
  simp only [smithyref12_Check.f]
  repeat' (first | with_reducible exact Le.refl _ | refine smithyref12_Check.l0.mono _ hk' _ | refine smithyref12_Check.l2.mono _ _ hk' _ | refine Le.cond ?_ ?_ | refine Le.bind ?_ (fun _ => ?_) | cases ‹Except _ _› | intro _)
noncomputable def smithyref12_Check.v (a0 : Plan) : Option Int := lim (fun k => smithyref12_Check.f k a0 )
theorem smithyref12_Check.tends (a0 : Plan) : Tends (fun k => smithyref12_Check.f k a0 ) (smithyref12_Check.v a0 ) := tends_lim (fun hk => smithyref12_Check.mono hk a0 )
set_option maxHeartbeats 4000000 in
set_option maxRecDepth 100000 in
theorem smithyref12_Check.v_eq (a0 : Plan) : smithyref12_Check.v a0 = (bif icmp .gtr (a0.Nodes.length : Int) (256 : Int) then (some true) else (bif icmp .lss (a0.Goals.length : Int) (1 : Int) then (some true) else (some (icmp .gtr (a0.Goals.length : Int) (512 : Int))))).bind fun s1 => bif s1 then (some (7 : Int)) else ((smithyref12_Check.l0.v a0 (([] : List ByteArray), (0 : Int))).bind fun o9 => match o9 with | .error r' => some r' | .ok s7 => ((smithyref12_Check.l2.v a0 s7 (0 : Int)).bind fun o36 => match o36 with | .error r' => some r' | .ok s34 => (some (0 : Int)))) := (smithyref12_Check.tends a0 ).uniq (by
  simp only [smithyref12_Check.f]
  repeat' (first | with_reducible exact Tends.const _ | apply smithyref12_Check.l0.tends | apply smithyref12_Check.l2.tends | refine Tends.cond ?_ ?_ | refine Tends.bind ?_ (fun _ => ?_) | cases ‹Except _ _› | intro _))
/-! smithy/smithyref13.newer -/
set_option maxHeartbeats 4000000 in
set_option maxRecDepth 100000 in
theorem smithyref13_newer.mono {k k' : Nat} (hk' : k ≤ k') (a0 : Node) (a1 : Disk) (a2 : List ByteArray) (a3 : ByteArray) : Le (smithyref13_newer.f k a0 a1 a2 a3 ) (smithyref13_newer.f k' a0 a1 a2 a3 ) := by
  simp only [smithyref13_newer.f]
  repeat' (first | with_reducible exact Le.refl _ | apply smithyref13_File.mono (hk' := hk') | apply smithyref03_Has.mono (hk' := hk') | refine Le.cond ?_ ?_ | refine Le.bind ?_ (fun _ => ?_) | cases ‹Except _ _› | intro _)
noncomputable def smithyref13_newer.v (a0 : Node) (a1 : Disk) (a2 : List ByteArray) (a3 : ByteArray) : Option Bool := lim (fun k => smithyref13_newer.f k a0 a1 a2 a3 )
theorem smithyref13_newer.tends (a0 : Node) (a1 : Disk) (a2 : List ByteArray) (a3 : ByteArray) : Tends (fun k => smithyref13_newer.f k a0 a1 a2 a3 ) (smithyref13_newer.v a0 a1 a2 a3 ) := tends_lim (fun hk => smithyref13_newer.mono hk a0 a1 a2 a3 )
set_option maxHeartbeats 4000000 in
set_option maxRecDepth 100000 in
theorem smithyref13_newer.v_eq (a0 : Node) (a1 : Disk) (a2 : List ByteArray) (a3 : ByteArray) : smithyref13_newer.v a0 a1 a2 a3 = (smithyref13_File.v a1 a0.Target).bind fun v1 => (smithyref13_File.v a1 a3).bind fun v3 => (bif !v1.2 then (some true) else ((smithyref03_Has.v a2 a3).bind fun v8 => bif v8 then (some true) else (bif !v3.2 then (some true) else (some (icmp .gtr v3.1.Stamp v1.1.Stamp))))).bind fun s5 => some s5 := (smithyref13_newer.tends a0 a1 a2 a3 ).uniq (by
  simp only [smithyref13_newer.f]
  repeat' (first | with_reducible exact Tends.const _ | apply smithyref13_File.tends | apply smithyref03_Has.tends | refine Tends.cond ?_ ?_ | refine Tends.bind ?_ (fun _ => ?_) | cases ‹Except _ _› | intro _))
/-! smithy/smithyref13.List -/
set_option maxHeartbeats 4000000 in
set_option maxRecDepth 100000 in
theorem smithyref13_List.l0.mono (a0 : Node) (a1 : Disk) (a2 : List ByteArray) : ∀ {k k' : Nat}, k ≤ k' → ∀ s, Le (smithyref13_List.l0 a0 a1 a2 k s) (smithyref13_List.l0 a0 a1 a2 k' s) := by
  intro k
  induction k with
  | zero => exact fun _ s => Le.none _
  | succ k ih =>
    intro k' hk s
    cases k' with
    | zero => exact absurd hk (by omega)
    | succ k' =>
      have hk' := Nat.le_of_succ_le_succ hk
      simp only [smithyref13_List.l0]
      repeat' (first | with_reducible exact Le.refl _ | exact ih hk' _ | apply smithyref13_newer.mono (hk' := hk') | refine Le.cond ?_ ?_ | refine Le.bind ?_ (fun _ => ?_) | cases ‹Except _ _› | intro _)
noncomputable def smithyref13_List.l0.v (a0 : Node) (a1 : Disk) (a2 : List ByteArray) (s : (List ByteArray) × Int) : Option (List ByteArray) := lim (fun k => smithyref13_List.l0 a0 a1 a2 k s)
theorem smithyref13_List.l0.tends (a0 : Node) (a1 : Disk) (a2 : List ByteArray) (s : (List ByteArray) × Int) : Tends (fun k => smithyref13_List.l0 a0 a1 a2 k s) (smithyref13_List.l0.v a0 a1 a2 s) := tends_lim (fun hk => smithyref13_List.l0.mono a0 a1 a2 hk s)
set_option maxHeartbeats 4000000 in
set_option maxRecDepth 100000 in
theorem smithyref13_List.l0.v_eq (a0 : Node) (a1 : Disk) (a2 : List ByteArray) (s1 : (List ByteArray) × Int) : smithyref13_List.l0.v a0 a1 a2 s1 = bif icmp .lss s1.2 (a0.Needs.length : Int) then (((idx a0.Needs s1.2).bind fun x7 => (smithyref13_newer.v a0 a1 a2 x7).bind fun v9 => bif v9 then ((app 16 s1.1 ([x7])).bind fun x12 => some x12) else (some s1.1)).bind fun s5 => smithyref13_List.l0.v a0 a1 a2 (s5, IntKind.i64.wrap (s1.2 + (1 : Int)))) else (some s1.1) := (smithyref13_List.l0.tends a0 a1 a2 s1).shift.uniq (by
  simp only [smithyref13_List.l0]
  repeat' (first | with_reducible exact Tends.const _ | apply smithyref13_newer.tends | apply smithyref13_List.l0.tends | refine Tends.cond ?_ ?_ | refine Tends.bind ?_ (fun _ => ?_) | cases ‹Except _ _› | intro _))
set_option maxHeartbeats 4000000 in
set_option maxRecDepth 100000 in
theorem smithyref13_List.mono {k k' : Nat} (hk' : k ≤ k') (a0 : Node) (a1 : Disk) (a2 : List ByteArray) : Le (smithyref13_List.f k a0 a1 a2 ) (smithyref13_List.f k' a0 a1 a2 ) := by
  simp only [smithyref13_List.f]
  repeat' (first | with_reducible exact Le.refl _ | refine smithyref13_List.l0.mono _ _ _ hk' _ | refine Le.cond ?_ ?_ | refine Le.bind ?_ (fun _ => ?_) | cases ‹Except _ _› | intro _)
noncomputable def smithyref13_List.v (a0 : Node) (a1 : Disk) (a2 : List ByteArray) : Option (List ByteArray) := lim (fun k => smithyref13_List.f k a0 a1 a2 )
theorem smithyref13_List.tends (a0 : Node) (a1 : Disk) (a2 : List ByteArray) : Tends (fun k => smithyref13_List.f k a0 a1 a2 ) (smithyref13_List.v a0 a1 a2 ) := tends_lim (fun hk => smithyref13_List.mono hk a0 a1 a2 )
set_option maxHeartbeats 4000000 in
set_option maxRecDepth 100000 in
theorem smithyref13_List.v_eq (a0 : Node) (a1 : Disk) (a2 : List ByteArray) : smithyref13_List.v a0 a1 a2 = (smithyref13_List.l0.v a0 a1 a2 (([] : List ByteArray), (0 : Int))).bind fun s2 => some s2 := (smithyref13_List.tends a0 a1 a2 ).uniq (by
  simp only [smithyref13_List.f]
  repeat' (first | with_reducible exact Tends.const _ | apply smithyref13_List.l0.tends | refine Tends.cond ?_ ?_ | refine Tends.bind ?_ (fun _ => ?_) | cases ‹Except _ _› | intro _))
/-! smithy/smithyref13.Stale -/
set_option maxHeartbeats 4000000 in
set_option maxRecDepth 100000 in
theorem smithyref13_Stale.mono {k k' : Nat} (hk' : k ≤ k') (a0 : Node) (a1 : Disk) (a2 : List ByteArray) : Le (smithyref13_Stale.f k a0 a1 a2 ) (smithyref13_Stale.f k' a0 a1 a2 ) := by
  simp only [smithyref13_Stale.f]
  repeat' (first | with_reducible exact Le.refl _ | apply smithyref13_File.mono (hk' := hk') | apply smithyref13_List.mono (hk' := hk') | refine Le.cond ?_ ?_ | refine Le.bind ?_ (fun _ => ?_) | cases ‹Except _ _› | intro _)
noncomputable def smithyref13_Stale.v (a0 : Node) (a1 : Disk) (a2 : List ByteArray) : Option Bool := lim (fun k => smithyref13_Stale.f k a0 a1 a2 )
theorem smithyref13_Stale.tends (a0 : Node) (a1 : Disk) (a2 : List ByteArray) : Tends (fun k => smithyref13_Stale.f k a0 a1 a2 ) (smithyref13_Stale.v a0 a1 a2 ) := tends_lim (fun hk => smithyref13_Stale.mono hk a0 a1 a2 )
set_option maxHeartbeats 4000000 in
set_option maxRecDepth 100000 in
theorem smithyref13_Stale.v_eq (a0 : Node) (a1 : Disk) (a2 : List ByteArray) : smithyref13_Stale.v a0 a1 a2 = (smithyref13_File.v a1 a0.Target).bind fun v1 => (bif a0.Phony then (some true) else (bif !v1.2 then (some true) else ((smithyref13_List.v a0 a1 a2).bind fun v7 => some (icmp .gtr (v7.length : Int) (0 : Int))))).bind fun s3 => some s3 := (smithyref13_Stale.tends a0 a1 a2 ).uniq (by
  simp only [smithyref13_Stale.f]
  repeat' (first | with_reducible exact Tends.const _ | apply smithyref13_File.tends | apply smithyref13_List.tends | refine Tends.cond ?_ ?_ | refine Tends.bind ?_ (fun _ => ?_) | cases ‹Except _ _› | intro _))
/-! smithy/smithyref13.Would -/
set_option maxHeartbeats 4000000 in
set_option maxRecDepth 100000 in
theorem smithyref13_Would.l0.mono (a0 : Plan) : ∀ {k k' : Nat}, k ≤ k' → ∀ s, Le (smithyref13_Would.l0 a0 k s) (smithyref13_Would.l0 a0 k' s) := by
  intro k
  induction k with
  | zero => exact fun _ s => Le.none _
  | succ k ih =>
    intro k' hk s
    cases k' with
    | zero => exact absurd hk (by omega)
    | succ k' =>
      have hk' := Nat.le_of_succ_le_succ hk
      simp only [smithyref13_Would.l0]
      repeat' (first | with_reducible exact Le.refl _ | exact ih hk' _ | refine Le.cond ?_ ?_ | refine Le.bind ?_ (fun _ => ?_) | cases ‹Except _ _› | intro _)
noncomputable def smithyref13_Would.l0.v (a0 : Plan) (s : (List ByteArray) × Int) : Option (List ByteArray) := lim (fun k => smithyref13_Would.l0 a0 k s)
theorem smithyref13_Would.l0.tends (a0 : Plan) (s : (List ByteArray) × Int) : Tends (fun k => smithyref13_Would.l0 a0 k s) (smithyref13_Would.l0.v a0 s) := tends_lim (fun hk => smithyref13_Would.l0.mono a0 hk s)
set_option maxHeartbeats 4000000 in
set_option maxRecDepth 100000 in
theorem smithyref13_Would.l0.v_eq (a0 : Plan) (s9 : (List ByteArray) × Int) : smithyref13_Would.l0.v a0 s9 = bif icmp .lss s9.2 (a0.Nodes.length : Int) then (((idx a0.Nodes s9.2).bind fun x15 => bif x15.Phony then ((app 16 s9.1 ([x15.Target])).bind fun x18 => some x18) else (some s9.1)).bind fun s13 => smithyref13_Would.l0.v a0 (s13, IntKind.i64.wrap (s9.2 + (1 : Int)))) else (some s9.1) := (smithyref13_Would.l0.tends a0 s9).shift.uniq (by
  simp only [smithyref13_Would.l0]
  repeat' (first | with_reducible exact Tends.const _ | apply smithyref13_Would.l0.tends | refine Tends.cond ?_ ?_ | refine Tends.bind ?_ (fun _ => ?_) | cases ‹Except _ _› | intro _))
set_option maxHeartbeats 4000000 in
set_option maxRecDepth 100000 in
theorem smithyref13_Would.l1.mono (a0 : Plan) (a1 : Disk) (s10 : (List ByteArray)) : ∀ {k k' : Nat}, k ≤ k' → ∀ s, Le (smithyref13_Would.l1 a0 a1 s10 k s) (smithyref13_Would.l1 a0 a1 s10 k' s) := by
  intro k
  induction k with
  | zero => exact fun _ s => Le.none _
  | succ k ih =>
    intro k' hk s
    cases k' with
    | zero => exact absurd hk (by omega)
    | succ k' =>
      have hk' := Nat.le_of_succ_le_succ hk
      simp only [smithyref13_Would.l1]
      repeat' (first | with_reducible exact Le.refl _ | exact ih hk' _ | apply smithyref13_Stale.mono (hk' := hk') | refine Le.cond ?_ ?_ | refine Le.bind ?_ (fun _ => ?_) | cases ‹Except _ _› | intro _)
noncomputable def smithyref13_Would.l1.v (a0 : Plan) (a1 : Disk) (s10 : (List ByteArray)) (s : (List ByteArray) × Int) : Option (List ByteArray) := lim (fun k => smithyref13_Would.l1 a0 a1 s10 k s)
theorem smithyref13_Would.l1.tends (a0 : Plan) (a1 : Disk) (s10 : (List ByteArray)) (s : (List ByteArray) × Int) : Tends (fun k => smithyref13_Would.l1 a0 a1 s10 k s) (smithyref13_Would.l1.v a0 a1 s10 s) := tends_lim (fun hk => smithyref13_Would.l1.mono a0 a1 s10 hk s)
set_option maxHeartbeats 4000000 in
set_option maxRecDepth 100000 in
theorem smithyref13_Would.l1.v_eq (a0 : Plan) (a1 : Disk) (s10 : (List ByteArray)) (s20 : (List ByteArray) × Int) : smithyref13_Would.l1.v a0 a1 s10 s20 = bif icmp .lss s20.2 (a0.Nodes.length : Int) then (((idx a0.Nodes s20.2).bind fun x26 => (app 16 ([] : List ByteArray) s10).bind fun x28 => (app 16 x28 s20.1).bind fun x30 => (bif x26.Has then (bif icmp .gtr (x26.Recipe.length : Int) (0 : Int) then ((smithyref13_Stale.v x26 a1 x30).bind fun v36 => some v36) else (some false)) else (some false)).bind fun s32 => bif s32 then ((app 16 s20.1 ([x26.Target])).bind fun x39 => some x39) else (some s20.1)).bind fun s24 => smithyref13_Would.l1.v a0 a1 s10 (s24, IntKind.i64.wrap (s20.2 + (1 : Int)))) else (some s20.1) := (smithyref13_Would.l1.tends a0 a1 s10 s20).shift.uniq (by
  simp only [smithyref13_Would.l1]
  repeat' (first | with_reducible exact Tends.const _ | apply smithyref13_Stale.tends | apply smithyref13_Would.l1.tends | refine Tends.cond ?_ ?_ | refine Tends.bind ?_ (fun _ => ?_) | cases ‹Except _ _› | intro _))
set_option maxHeartbeats 4000000 in
set_option maxRecDepth 100000 in
theorem smithyref13_Would.mono {k k' : Nat} (hk' : k ≤ k') (a0 : Plan) (a1 : Disk) : Le (smithyref13_Would.f k a0 a1 ) (smithyref13_Would.f k' a0 a1 ) := by
  simp only [smithyref13_Would.f]
  repeat' (first | with_reducible exact Le.refl _ | apply smithyref12_Check.mono (hk' := hk') | apply smithyref02_Check.mono (hk' := hk') | refine smithyref13_Would.l0.mono _ hk' _ | refine smithyref13_Would.l1.mono _ _ _ hk' _ | refine Le.cond ?_ ?_ | refine Le.bind ?_ (fun _ => ?_) | cases ‹Except _ _› | intro _)
noncomputable def smithyref13_Would.v (a0 : Plan) (a1 : Disk) : Option ((List ByteArray) × Int) := lim (fun k => smithyref13_Would.f k a0 a1 )
theorem smithyref13_Would.tends (a0 : Plan) (a1 : Disk) : Tends (fun k => smithyref13_Would.f k a0 a1 ) (smithyref13_Would.v a0 a1 ) := tends_lim (fun hk => smithyref13_Would.mono hk a0 a1 )
set_option maxHeartbeats 4000000 in
set_option maxRecDepth 100000 in
theorem smithyref13_Would.v_eq (a0 : Plan) (a1 : Disk) : smithyref13_Would.v a0 a1 = (smithyref12_Check.v a0).bind fun v1 => (bif icmp .eql v1 (0 : Int) then ((smithyref02_Check.v a1).bind fun v6 => some v6) else (some v1)).bind fun s3 => bif icmp .neq s3 (0 : Int) then (some (([] : List ByteArray), s3)) else ((smithyref13_Would.l0.v a0 (([] : List ByteArray), (0 : Int))).bind fun s10 => (smithyref13_Would.l1.v a0 a1 s10 (([] : List ByteArray), (0 : Int))).bind fun s21 => some (s21, (0 : Int))) := (smithyref13_Would.tends a0 a1 ).uniq (by
  simp only [smithyref13_Would.f]
  repeat' (first | with_reducible exact Tends.const _ | apply smithyref12_Check.tends | apply smithyref02_Check.tends | apply smithyref13_Would.l0.tends | apply smithyref13_Would.l1.tends | refine Tends.cond ?_ ?_ | refine Tends.bind ?_ (fun _ => ?_) | cases ‹Except _ _› | intro _))
/-! smithy/smithylaw13.StaleWoulds -/
set_option maxHeartbeats 4000000 in
set_option maxRecDepth 100000 in
theorem smithylaw13_StaleWoulds.mono {k k' : Nat} (hk' : k ≤ k') (a0 : Plan) (a1 : Disk) : Le (smithylaw13_StaleWoulds.f k a0 a1 ) (smithylaw13_StaleWoulds.f k' a0 a1 ) := by
  simp only [smithylaw13_StaleWoulds.f]
  repeat' (first | with_reducible exact Le.refl _ | apply stale_Would.mono (hk' := hk') | apply smithyref13_Would.mono (hk' := hk') | apply smithyplain_Texts.mono (hk' := hk') | apply smithylaw13_small.mono (hk' := hk') | refine Le.cond ?_ ?_ | refine Le.bind ?_ (fun _ => ?_) | cases ‹Except _ _› | intro _)
noncomputable def smithylaw13_StaleWoulds.v (a0 : Plan) (a1 : Disk) : Option Bool := lim (fun k => smithylaw13_StaleWoulds.f k a0 a1 )
theorem smithylaw13_StaleWoulds.tends (a0 : Plan) (a1 : Disk) : Tends (fun k => smithylaw13_StaleWoulds.f k a0 a1 ) (smithylaw13_StaleWoulds.v a0 a1 ) := tends_lim (fun hk => smithylaw13_StaleWoulds.mono hk a0 a1 )
set_option maxHeartbeats 4000000 in
set_option maxRecDepth 100000 in
theorem smithylaw13_StaleWoulds.v_eq (a0 : Plan) (a1 : Disk) : smithylaw13_StaleWoulds.v a0 a1 = (stale_Would.v a0 a1).bind fun v1 => (smithyref13_Would.v a0 a1).bind fun v3 => ((smithyplain_Texts.v v1.1 v3.1).bind fun v7 => bif v7 then (bif icmp .eql v1.2 v3.2 then ((smithylaw13_small.v).bind fun v11 => some v11) else (some false)) else (some false)).bind fun s5 => some s5 := (smithylaw13_StaleWoulds.tends a0 a1 ).uniq (by
  simp only [smithylaw13_StaleWoulds.f]
  repeat' (first | with_reducible exact Tends.const _ | apply stale_Would.tends | apply smithyref13_Would.tends | apply smithyplain_Texts.tends | apply smithylaw13_small.tends | refine Tends.cond ?_ ?_ | refine Tends.bind ?_ (fun _ => ?_) | cases ‹Except _ _› | intro _))
end Go.Proofs.Ytoemgemfgaooeaa.F
