import Derived.Test.YtedgkcdofiildaaFSx4
set_option linter.unusedVariables false
set_option linter.unusedSimpArgs false
set_option linter.unnecessarySimpa false
set_option linter.deprecated false
namespace Go.Proofs.Ytedgkcdofiildaa.F
open Go Go.RowKit Go.Proofs.Ytedgkcdofiildaa.Sl
/-! smithy/smithyref02.Name -/
set_option maxHeartbeats 4000000 in
set_option maxRecDepth 100000 in
theorem smithyref02_Name.l0.mono (a0 : ByteArray) : ∀ {k k' : Nat}, k ≤ k' → ∀ s, Le (smithyref02_Name.l0 a0 k s) (smithyref02_Name.l0 a0 k' s) := by
  intro k
  induction k with
  | zero => exact fun _ s => Le.none _
  | succ k ih =>
    intro k' hk s
    cases k' with
    | zero => exact absurd hk (by omega)
    | succ k' =>
      have hk' := Nat.le_of_succ_le_succ hk
      simp only [smithyref02_Name.l0]
      repeat' (first | with_reducible exact Le.refl _ | exact ih hk' _ | refine Le.cond ?_ ?_ | refine Le.bind ?_ (fun _ => ?_) | cases ‹Except _ _› | intro _)
noncomputable def smithyref02_Name.l0.v (a0 : ByteArray) (s : Int) : Option (Except Bool Unit) := lim (fun k => smithyref02_Name.l0 a0 k s)
theorem smithyref02_Name.l0.tends (a0 : ByteArray) (s : Int) : Tends (fun k => smithyref02_Name.l0 a0 k s) (smithyref02_Name.l0.v a0 s) := tends_lim (fun hk => smithyref02_Name.l0.mono a0 hk s)
set_option maxHeartbeats 4000000 in
set_option maxRecDepth 100000 in
theorem smithyref02_Name.l0.v_eq (a0 : ByteArray) (s1 : Int) : smithyref02_Name.l0.v a0 s1 = bif icmp .lss s1 (a0.size : Int) then ((bidx a0 s1).bind fun x6 => (bif icmp .geq x6 (97 : Int) then (bif icmp .leq x6 (122 : Int) then (some true) else (bif icmp .geq x6 (65 : Int) then (bif icmp .leq x6 (90 : Int) then (some true) else (bif icmp .geq x6 (48 : Int) then (some (icmp .leq x6 (57 : Int))) else (some false))) else (bif icmp .geq x6 (48 : Int) then (some (icmp .leq x6 (57 : Int))) else (some false)))) else (bif icmp .geq x6 (65 : Int) then (bif icmp .leq x6 (90 : Int) then (some true) else (bif icmp .geq x6 (48 : Int) then (some (icmp .leq x6 (57 : Int))) else (some false))) else (bif icmp .geq x6 (48 : Int) then (some (icmp .leq x6 (57 : Int))) else (some false)))).bind fun s8 => (bif !s8 then (bif icmp .neq x6 (95 : Int) then (bif icmp .neq x6 (45 : Int) then (bif icmp .neq x6 (46 : Int) then (bif icmp .neq x6 (47 : Int) then (some (icmp .neq x6 (43 : Int))) else (some false)) else (some false)) else (some false)) else (some false)) else (some false)).bind fun s20 => bif s20 then (some (Except.error false)) else (smithyref02_Name.l0.v a0 (IntKind.i64.wrap (s1 + (1 : Int))))) else (some (Except.ok ())) := (smithyref02_Name.l0.tends a0 s1).shift.uniq (by
  simp only [smithyref02_Name.l0]
  repeat' (first | with_reducible exact Tends.const _ | apply smithyref02_Name.l0.tends | refine Tends.cond ?_ ?_ | refine Tends.bind ?_ (fun _ => ?_) | cases ‹Except _ _› | intro _))
set_option maxHeartbeats 4000000 in
set_option maxRecDepth 100000 in
theorem smithyref02_Name.mono {k k' : Nat} (hk' : k ≤ k') (a0 : ByteArray) : Le (smithyref02_Name.f k a0 ) (smithyref02_Name.f k' a0 ) := by
  simp only [smithyref02_Name.f]
  repeat' (first | with_reducible exact Le.refl _ | refine smithyref02_Name.l0.mono _ hk' _ | refine Le.cond ?_ ?_ | refine Le.bind ?_ (fun _ => ?_) | cases ‹Except _ _› | intro _)
noncomputable def smithyref02_Name.v (a0 : ByteArray) : Option Bool := lim (fun k => smithyref02_Name.f k a0 )
theorem smithyref02_Name.tends (a0 : ByteArray) : Tends (fun k => smithyref02_Name.f k a0 ) (smithyref02_Name.v a0 ) := tends_lim (fun hk => smithyref02_Name.mono hk a0 )
set_option maxHeartbeats 4000000 in
set_option maxRecDepth 100000 in
theorem smithyref02_Name.v_eq (a0 : ByteArray) : smithyref02_Name.v a0 = (smithyref02_Name.l0.v a0 (0 : Int)).bind fun o4 => match o4 with | .error r' => some r' | .ok s2 => ((bif icmp .gtr (a0.size : Int) (0 : Int) then (some (icmp .leq (a0.size : Int) (64 : Int))) else (some false)).bind fun s28 => some s28) := (smithyref02_Name.tends a0 ).uniq (by
  simp only [smithyref02_Name.f]
  repeat' (first | with_reducible exact Tends.const _ | apply smithyref02_Name.l0.tends | refine Tends.cond ?_ ?_ | refine Tends.bind ?_ (fun _ => ?_) | cases ‹Except _ _› | intro _))
/-! smithy/smithyref03.Has -/
set_option maxHeartbeats 4000000 in
set_option maxRecDepth 100000 in
theorem smithyref03_Has.l0.mono (a0 : List ByteArray) (a1 : ByteArray) : ∀ {k k' : Nat}, k ≤ k' → ∀ s, Le (smithyref03_Has.l0 a0 a1 k s) (smithyref03_Has.l0 a0 a1 k' s) := by
  intro k
  induction k with
  | zero => exact fun _ s => Le.none _
  | succ k ih =>
    intro k' hk s
    cases k' with
    | zero => exact absurd hk (by omega)
    | succ k' =>
      have hk' := Nat.le_of_succ_le_succ hk
      simp only [smithyref03_Has.l0]
      repeat' (first | with_reducible exact Le.refl _ | exact ih hk' _ | refine Le.cond ?_ ?_ | refine Le.bind ?_ (fun _ => ?_) | cases ‹Except _ _› | intro _)
noncomputable def smithyref03_Has.l0.v (a0 : List ByteArray) (a1 : ByteArray) (s : Int) : Option (Except Bool Unit) := lim (fun k => smithyref03_Has.l0 a0 a1 k s)
theorem smithyref03_Has.l0.tends (a0 : List ByteArray) (a1 : ByteArray) (s : Int) : Tends (fun k => smithyref03_Has.l0 a0 a1 k s) (smithyref03_Has.l0.v a0 a1 s) := tends_lim (fun hk => smithyref03_Has.l0.mono a0 a1 hk s)
set_option maxHeartbeats 4000000 in
set_option maxRecDepth 100000 in
theorem smithyref03_Has.l0.v_eq (a0 : List ByteArray) (a1 : ByteArray) (s1 : Int) : smithyref03_Has.l0.v a0 a1 s1 = bif icmp .lss s1 (a0.length : Int) then ((idx a0 s1).bind fun x6 => bif scmp .eql x6 a1 then (some (Except.error true)) else (smithyref03_Has.l0.v a0 a1 (IntKind.i64.wrap (s1 + (1 : Int))))) else (some (Except.ok ())) := (smithyref03_Has.l0.tends a0 a1 s1).shift.uniq (by
  simp only [smithyref03_Has.l0]
  repeat' (first | with_reducible exact Tends.const _ | apply smithyref03_Has.l0.tends | refine Tends.cond ?_ ?_ | refine Tends.bind ?_ (fun _ => ?_) | cases ‹Except _ _› | intro _))
set_option maxHeartbeats 4000000 in
set_option maxRecDepth 100000 in
theorem smithyref03_Has.mono {k k' : Nat} (hk' : k ≤ k') (a0 : List ByteArray) (a1 : ByteArray) : Le (smithyref03_Has.f k a0 a1 ) (smithyref03_Has.f k' a0 a1 ) := by
  simp only [smithyref03_Has.f]
  repeat' (first | with_reducible exact Le.refl _ | refine smithyref03_Has.l0.mono _ _ hk' _ | refine Le.cond ?_ ?_ | refine Le.bind ?_ (fun _ => ?_) | cases ‹Except _ _› | intro _)
noncomputable def smithyref03_Has.v (a0 : List ByteArray) (a1 : ByteArray) : Option Bool := lim (fun k => smithyref03_Has.f k a0 a1 )
theorem smithyref03_Has.tends (a0 : List ByteArray) (a1 : ByteArray) : Tends (fun k => smithyref03_Has.f k a0 a1 ) (smithyref03_Has.v a0 a1 ) := tends_lim (fun hk => smithyref03_Has.mono hk a0 a1 )
set_option maxHeartbeats 4000000 in
set_option maxRecDepth 100000 in
theorem smithyref03_Has.v_eq (a0 : List ByteArray) (a1 : ByteArray) : smithyref03_Has.v a0 a1 = (smithyref03_Has.l0.v a0 a1 (0 : Int)).bind fun o4 => match o4 with | .error r' => some r' | .ok s2 => (some false) := (smithyref03_Has.tends a0 a1 ).uniq (by
  simp only [smithyref03_Has.f]
  repeat' (first | with_reducible exact Tends.const _ | apply smithyref03_Has.l0.tends | refine Tends.cond ?_ ?_ | refine Tends.bind ?_ (fun _ => ?_) | cases ‹Except _ _› | intro _))
/-! smithy/smithyref12.Node -/
set_option maxHeartbeats 4000000 in
set_option maxRecDepth 100000 in
theorem smithyref12_Node.l0.mono (a0 : Node) : ∀ {k k' : Nat}, k ≤ k' → ∀ s, Le (smithyref12_Node.l0 a0 k s) (smithyref12_Node.l0 a0 k' s) := by
  intro k
  induction k with
  | zero => exact fun _ s => Le.none _
  | succ k ih =>
    intro k' hk s
    cases k' with
    | zero => exact absurd hk (by omega)
    | succ k' =>
      have hk' := Nat.le_of_succ_le_succ hk
      simp only [smithyref12_Node.l0]
      repeat' (first | with_reducible exact Le.refl _ | exact ih hk' _ | apply smithyref02_Name.mono (hk' := hk') | apply smithyref03_Has.mono (hk' := hk') | refine Le.cond ?_ ?_ | refine Le.bind ?_ (fun _ => ?_) | cases ‹Except _ _› | intro _)
noncomputable def smithyref12_Node.l0.v (a0 : Node) (s : Int) : Option (Except Int Unit) := lim (fun k => smithyref12_Node.l0 a0 k s)
theorem smithyref12_Node.l0.tends (a0 : Node) (s : Int) : Tends (fun k => smithyref12_Node.l0 a0 k s) (smithyref12_Node.l0.v a0 s) := tends_lim (fun hk => smithyref12_Node.l0.mono a0 hk s)
set_option maxHeartbeats 4000000 in
set_option maxRecDepth 100000 in
theorem smithyref12_Node.l0.v_eq (a0 : Node) (s10 : Int) : smithyref12_Node.l0.v a0 s10 = bif icmp .lss s10 (a0.Needs.length : Int) then (((idx a0.Needs s10).bind fun x17 => (smithyref02_Name.v x17).bind fun v19 => bif !v19 then (some true) else ((idx a0.Needs s10).bind fun x22 => bif scmp .eql x22 a0.Target then (some true) else ((sub a0.Needs (0 : Int) s10).bind fun x25 => (idx a0.Needs s10).bind fun x27 => (smithyref03_Has.v x25 x27).bind fun v29 => some v29))).bind fun s15 => bif s15 then (some (Except.error (7 : Int))) else (smithyref12_Node.l0.v a0 (IntKind.i64.wrap (s10 + (1 : Int))))) else (some (Except.ok ())) := (smithyref12_Node.l0.tends a0 s10).shift.uniq (by
  simp only [smithyref12_Node.l0]
  repeat' (first | with_reducible exact Tends.const _ | apply smithyref02_Name.tends | apply smithyref03_Has.tends | apply smithyref12_Node.l0.tends | refine Tends.cond ?_ ?_ | refine Tends.bind ?_ (fun _ => ?_) | cases ‹Except _ _› | intro _))
set_option maxHeartbeats 4000000 in
set_option maxRecDepth 100000 in
theorem smithyref12_Node.l1.mono (a0 : Node) : ∀ {k k' : Nat}, k ≤ k' → ∀ s, Le (smithyref12_Node.l1 a0 k s) (smithyref12_Node.l1 a0 k' s) := by
  intro k
  induction k with
  | zero => exact fun _ s => Le.none _
  | succ k ih =>
    intro k' hk s
    cases k' with
    | zero => exact absurd hk (by omega)
    | succ k' =>
      have hk' := Nat.le_of_succ_le_succ hk
      simp only [smithyref12_Node.l1]
      repeat' (first | with_reducible exact Le.refl _ | exact ih hk' _ | refine Le.cond ?_ ?_ | refine Le.bind ?_ (fun _ => ?_) | cases ‹Except _ _› | intro _)
noncomputable def smithyref12_Node.l1.v (a0 : Node) (s : Int) : Option (Except Int Unit) := lim (fun k => smithyref12_Node.l1 a0 k s)
theorem smithyref12_Node.l1.tends (a0 : Node) (s : Int) : Tends (fun k => smithyref12_Node.l1 a0 k s) (smithyref12_Node.l1.v a0 s) := tends_lim (fun hk => smithyref12_Node.l1.mono a0 hk s)
set_option maxHeartbeats 4000000 in
set_option maxRecDepth 100000 in
theorem smithyref12_Node.l1.v_eq (a0 : Node) (s32 : Int) : smithyref12_Node.l1.v a0 s32 = bif icmp .lss s32 (a0.Recipe.length : Int) then ((idx a0.Recipe s32).bind fun x37 => bif icmp .gtr (x37.size : Int) (65536 : Int) then (some (Except.error (7 : Int))) else (smithyref12_Node.l1.v a0 (IntKind.i64.wrap (s32 + (1 : Int))))) else (some (Except.ok ())) := (smithyref12_Node.l1.tends a0 s32).shift.uniq (by
  simp only [smithyref12_Node.l1]
  repeat' (first | with_reducible exact Tends.const _ | apply smithyref12_Node.l1.tends | refine Tends.cond ?_ ?_ | refine Tends.bind ?_ (fun _ => ?_) | cases ‹Except _ _› | intro _))
set_option maxHeartbeats 4000000 in
set_option maxRecDepth 100000 in
theorem smithyref12_Node.mono {k k' : Nat} (hk' : k ≤ k') (a0 : Node) : Le (smithyref12_Node.f k a0 ) (smithyref12_Node.f k' a0 ) := by
  simp only [smithyref12_Node.f]
  repeat' (first | with_reducible exact Le.refl _ | apply smithyref02_Name.mono (hk' := hk') | refine smithyref12_Node.l0.mono _ hk' _ | refine smithyref12_Node.l1.mono _ hk' _ | refine Le.cond ?_ ?_ | refine Le.bind ?_ (fun _ => ?_) | cases ‹Except _ _› | intro _)
noncomputable def smithyref12_Node.v (a0 : Node) : Option Int := lim (fun k => smithyref12_Node.f k a0 )
theorem smithyref12_Node.tends (a0 : Node) : Tends (fun k => smithyref12_Node.f k a0 ) (smithyref12_Node.v a0 ) := tends_lim (fun hk => smithyref12_Node.mono hk a0 )
set_option maxHeartbeats 4000000 in
set_option maxRecDepth 100000 in
theorem smithyref12_Node.v_eq (a0 : Node) : smithyref12_Node.v a0 = ((smithyref02_Name.v a0.Target).bind fun v3 => bif !v3 then (some true) else (bif icmp .gtr (a0.Needs.length : Int) (65 : Int) then (some true) else (bif icmp .gtr (a0.Recipe.length : Int) (64 : Int) then (some true) else (bif !a0.Has then (some (icmp .gtr (a0.Recipe.length : Int) (0 : Int))) else (some false))))).bind fun s1 => bif s1 then (some (7 : Int)) else ((smithyref12_Node.l0.v a0 (0 : Int)).bind fun o13 => match o13 with | .error r' => some r' | .ok s11 => ((smithyref12_Node.l1.v a0 (0 : Int)).bind fun o35 => match o35 with | .error r' => some r' | .ok s33 => ((bif scmp .neq a0.Source (⟨#[]⟩ : ByteArray) then (bif icmp .eql (a0.Needs.length : Int) (0 : Int) then (some true) else ((idx a0.Needs (0 : Int)).bind fun x44 => bif scmp .neq x44 a0.Source then (some true) else (bif scmp .eql a0.Source (⟨#[]⟩ : ByteArray) then (bif scmp .neq a0.Stem (⟨#[]⟩ : ByteArray) then (some true) else (some (icmp .gtr (a0.Stem.size : Int) (64 : Int)))) else (some (icmp .gtr (a0.Stem.size : Int) (64 : Int)))))) else (bif scmp .eql a0.Source (⟨#[]⟩ : ByteArray) then (bif scmp .neq a0.Stem (⟨#[]⟩ : ByteArray) then (some true) else (some (icmp .gtr (a0.Stem.size : Int) (64 : Int)))) else (some (icmp .gtr (a0.Stem.size : Int) (64 : Int))))).bind fun s40 => bif s40 then (some (7 : Int)) else (some (0 : Int))))) := (smithyref12_Node.tends a0 ).uniq (by
  simp only [smithyref12_Node.f]
  repeat' (first | with_reducible exact Tends.const _ | apply smithyref02_Name.tends | apply smithyref12_Node.l0.tends | apply smithyref12_Node.l1.tends | refine Tends.cond ?_ ?_ | refine Tends.bind ?_ (fun _ => ?_) | cases ‹Except _ _› | intro _))
/-! smithy/smithyref12.Check -/
set_option maxHeartbeats 4000000 in
set_option maxRecDepth 100000 in
theorem smithyref12_Check.l1.mono (s6 : (List ByteArray) × Int) (x11 : Node) : ∀ {k k' : Nat}, k ≤ k' → ∀ s, Le (smithyref12_Check.l1 s6 x11 k s) (smithyref12_Check.l1 s6 x11 k' s) := by
  intro k
  induction k with
  | zero => exact fun _ s => Le.none _
  | succ k ih =>
    intro k' hk s
    cases k' with
    | zero => exact absurd hk (by omega)
    | succ k' =>
      have hk' := Nat.le_of_succ_le_succ hk
      simp only [smithyref12_Check.l1]
      repeat' (first | with_reducible exact Le.refl _ | exact ih hk' _ | apply smithyref03_Has.mono (hk' := hk') | refine Le.cond ?_ ?_ | refine Le.bind ?_ (fun _ => ?_) | cases ‹Except _ _› | intro _)
noncomputable def smithyref12_Check.l1.v (s6 : (List ByteArray) × Int) (x11 : Node) (s : Int) : Option (Except Int Unit) := lim (fun k => smithyref12_Check.l1 s6 x11 k s)
theorem smithyref12_Check.l1.tends (s6 : (List ByteArray) × Int) (x11 : Node) (s : Int) : Tends (fun k => smithyref12_Check.l1 s6 x11 k s) (smithyref12_Check.l1.v s6 x11 s) := tends_lim (fun hk => smithyref12_Check.l1.mono s6 x11 hk s)
set_option maxHeartbeats 4000000 in
set_option maxRecDepth 100000 in
theorem smithyref12_Check.l1.v_eq (s6 : (List ByteArray) × Int) (x11 : Node) (s21 : Int) : smithyref12_Check.l1.v s6 x11 s21 = bif icmp .lss s21 (x11.Needs.length : Int) then ((idx x11.Needs s21).bind fun x26 => (smithyref03_Has.v s6.1 x26).bind fun v28 => bif !v28 then (some (Except.error (7 : Int))) else (smithyref12_Check.l1.v s6 x11 (IntKind.i64.wrap (s21 + (1 : Int))))) else (some (Except.ok ())) := (smithyref12_Check.l1.tends s6 x11 s21).shift.uniq (by
  simp only [smithyref12_Check.l1]
  repeat' (first | with_reducible exact Tends.const _ | apply smithyref03_Has.tends | apply smithyref12_Check.l1.tends | refine Tends.cond ?_ ?_ | refine Tends.bind ?_ (fun _ => ?_) | cases ‹Except _ _› | intro _))
set_option maxHeartbeats 4000000 in
set_option maxRecDepth 100000 in
theorem smithyref12_Check.l0.mono (a0 : Plan) : ∀ {k k' : Nat}, k ≤ k' → ∀ s, Le (smithyref12_Check.l0 a0 k s) (smithyref12_Check.l0 a0 k' s) := by
  intro k
  induction k with
  | zero => exact fun _ s => Le.none _
  | succ k ih =>
    intro k' hk s
    cases k' with
    | zero => exact absurd hk (by omega)
    | succ k' =>
      have hk' := Nat.le_of_succ_le_succ hk
      simp only [smithyref12_Check.l0]
      repeat' (first | with_reducible exact Le.refl _ | exact ih hk' _ | apply smithyref12_Node.mono (hk' := hk') | apply smithyref03_Has.mono (hk' := hk') | refine smithyref12_Check.l1.mono _ _ hk' _ | refine Le.cond ?_ ?_ | refine Le.bind ?_ (fun _ => ?_) | cases ‹Except _ _› | intro _)
noncomputable def smithyref12_Check.l0.v (a0 : Plan) (s : (List ByteArray) × Int) : Option (Except Int (List ByteArray)) := lim (fun k => smithyref12_Check.l0 a0 k s)
theorem smithyref12_Check.l0.tends (a0 : Plan) (s : (List ByteArray) × Int) : Tends (fun k => smithyref12_Check.l0 a0 k s) (smithyref12_Check.l0.v a0 s) := tends_lim (fun hk => smithyref12_Check.l0.mono a0 hk s)
set_option maxHeartbeats 4000000 in
set_option maxRecDepth 100000 in
theorem smithyref12_Check.l0.v_eq (a0 : Plan) (s6 : (List ByteArray) × Int) : smithyref12_Check.l0.v a0 s6 = bif icmp .lss s6.2 (a0.Nodes.length : Int) then ((idx a0.Nodes s6.2).bind fun x11 => ((smithyref12_Node.v x11).bind fun v15 => bif icmp .neq v15 (0 : Int) then (some true) else ((smithyref03_Has.v s6.1 x11.Target).bind fun v18 => some v18)).bind fun s13 => bif s13 then (some (Except.error (7 : Int))) else ((smithyref12_Check.l1.v s6 x11 (0 : Int)).bind fun o24 => match o24 with | .error r' => some (Except.error r') | .ok s22 => ((app 16 s6.1 ([x11.Target])).bind fun x31 => smithyref12_Check.l0.v a0 (x31, IntKind.i64.wrap (s6.2 + (1 : Int)))))) else (some (Except.ok s6.1)) := (smithyref12_Check.l0.tends a0 s6).shift.uniq (by
  simp only [smithyref12_Check.l0]
  repeat' (first | with_reducible exact Tends.const _ | apply smithyref12_Node.tends | apply smithyref03_Has.tends | apply smithyref12_Check.l1.tends | apply smithyref12_Check.l0.tends | refine Tends.cond ?_ ?_ | refine Tends.bind ?_ (fun _ => ?_) | cases ‹Except _ _› | intro _))
set_option maxHeartbeats 4000000 in
set_option maxRecDepth 100000 in
theorem smithyref12_Check.l2.mono (a0 : Plan) (s7 : (List ByteArray)) : ∀ {k k' : Nat}, k ≤ k' → ∀ s, Le (smithyref12_Check.l2 a0 s7 k s) (smithyref12_Check.l2 a0 s7 k' s) := by
  intro k
  induction k with
  | zero => exact fun _ s => Le.none _
  | succ k ih =>
    intro k' hk s
    cases k' with
    | zero => exact absurd hk (by omega)
    | succ k' =>
      have hk' := Nat.le_of_succ_le_succ hk
      simp only [smithyref12_Check.l2]
      repeat' (first | with_reducible exact Le.refl _ | exact ih hk' _ | apply smithyref03_Has.mono (hk' := hk') | refine Le.cond ?_ ?_ | refine Le.bind ?_ (fun _ => ?_) | cases ‹Except _ _› | intro _)
noncomputable def smithyref12_Check.l2.v (a0 : Plan) (s7 : (List ByteArray)) (s : Int) : Option (Except Int Unit) := lim (fun k => smithyref12_Check.l2 a0 s7 k s)
theorem smithyref12_Check.l2.tends (a0 : Plan) (s7 : (List ByteArray)) (s : Int) : Tends (fun k => smithyref12_Check.l2 a0 s7 k s) (smithyref12_Check.l2.v a0 s7 s) := tends_lim (fun hk => smithyref12_Check.l2.mono a0 s7 hk s)
set_option maxHeartbeats 4000000 in
set_option maxRecDepth 100000 in
theorem smithyref12_Check.l2.v_eq (a0 : Plan) (s7 : (List ByteArray)) (s33 : Int) : smithyref12_Check.l2.v a0 s7 s33 = bif icmp .lss s33 (a0.Goals.length : Int) then (((idx a0.Goals s33).bind fun x40 => (smithyref03_Has.v s7 x40).bind fun v42 => bif !v42 then (some true) else ((sub a0.Goals (0 : Int) s33).bind fun x45 => (idx a0.Goals s33).bind fun x47 => (smithyref03_Has.v x45 x47).bind fun v49 => some v49)).bind fun s38 => bif s38 then (some (Except.error (7 : Int))) else (smithyref12_Check.l2.v a0 s7 (IntKind.i64.wrap (s33 + (1 : Int))))) else (some (Except.ok ())) := (smithyref12_Check.l2.tends a0 s7 s33).shift.uniq (by
  simp only [smithyref12_Check.l2]
  repeat' (first | with_reducible exact Tends.const _ | apply smithyref03_Has.tends | apply smithyref12_Check.l2.tends | refine Tends.cond ?_ ?_ | refine Tends.bind ?_ (fun _ => ?_) | cases ‹Except _ _› | intro _))
set_option maxHeartbeats 4000000 in
set_option maxRecDepth 100000 in
theorem smithyref12_Check.mono {k k' : Nat} (hk' : k ≤ k') (a0 : Plan) : Le (smithyref12_Check.f k a0 ) (smithyref12_Check.f k' a0 ) := by
  simp only [smithyref12_Check.f]
  repeat' (first | with_reducible exact Le.refl _ | refine smithyref12_Check.l0.mono _ hk' _ | refine smithyref12_Check.l2.mono _ _ hk' _ | refine Le.cond ?_ ?_ | refine Le.bind ?_ (fun _ => ?_) | cases ‹Except _ _› | intro _)
noncomputable def smithyref12_Check.v (a0 : Plan) : Option Int := lim (fun k => smithyref12_Check.f k a0 )
theorem smithyref12_Check.tends (a0 : Plan) : Tends (fun k => smithyref12_Check.f k a0 ) (smithyref12_Check.v a0 ) := tends_lim (fun hk => smithyref12_Check.mono hk a0 )
set_option maxHeartbeats 4000000 in
set_option maxRecDepth 100000 in
theorem smithyref12_Check.v_eq (a0 : Plan) : smithyref12_Check.v a0 = (bif icmp .gtr (a0.Nodes.length : Int) (256 : Int) then (some true) else (bif icmp .lss (a0.Goals.length : Int) (1 : Int) then (some true) else (some (icmp .gtr (a0.Goals.length : Int) (512 : Int))))).bind fun s1 => bif s1 then (some (7 : Int)) else ((smithyref12_Check.l0.v a0 (([] : List ByteArray), (0 : Int))).bind fun o9 => match o9 with | .error r' => some r' | .ok s7 => ((smithyref12_Check.l2.v a0 s7 (0 : Int)).bind fun o36 => match o36 with | .error r' => some r' | .ok s34 => (some (0 : Int)))) := (smithyref12_Check.tends a0 ).uniq (by
  simp only [smithyref12_Check.f]
  repeat' (first | with_reducible exact Tends.const _ | apply smithyref12_Check.l0.tends | apply smithyref12_Check.l2.tends | refine Tends.cond ?_ ?_ | refine Tends.bind ?_ (fun _ => ?_) | cases ‹Except _ _› | intro _))
/-! smithy/smithylaw14.four -/
/-! smithy/names.letter -/
/-! smithy/names.Check -/
set_option maxHeartbeats 4000000 in
set_option maxRecDepth 100000 in
theorem names_Check.l0.mono (a0 : ByteArray) : ∀ {k k' : Nat}, k ≤ k' → ∀ s, Le (names_Check.l0 a0 k s) (names_Check.l0 a0 k' s) := by
  intro k
  induction k with
  | zero => exact fun _ s => Le.none _
  | succ k ih =>
    intro k' hk s
    cases k' with
    | zero => exact absurd hk (by omega)
    | succ k' =>
      have hk' := Nat.le_of_succ_le_succ hk
      simp only [names_Check.l0]
      repeat' (first | with_reducible exact Le.refl _ | exact ih hk' _ | refine Le.cond ?_ ?_ | refine Le.bind ?_ (fun _ => ?_) | cases ‹Except _ _› | intro _)
noncomputable def names_Check.l0.v (a0 : ByteArray) (s : Int) : Option (Except Int Unit) := lim (fun k => names_Check.l0 a0 k s)
theorem names_Check.l0.tends (a0 : ByteArray) (s : Int) : Tends (fun k => names_Check.l0 a0 k s) (names_Check.l0.v a0 s) := tends_lim (fun hk => names_Check.l0.mono a0 hk s)
set_option maxHeartbeats 4000000 in
set_option maxRecDepth 100000 in
theorem names_Check.l0.v_eq (a0 : ByteArray) (s5 : Int) : names_Check.l0.v a0 s5 = bif icmp .lss s5 (a0.size : Int) then ((bidx a0 s5).bind fun x10 => (names_letter.f x10).bind fun v12 => bif !v12 then (some (Except.error (3 : Int))) else (names_Check.l0.v a0 (IntKind.i64.wrap (s5 + (1 : Int))))) else (some (Except.ok ())) := (names_Check.l0.tends a0 s5).shift.uniq (by
  simp only [names_Check.l0]
  repeat' (first | with_reducible exact Tends.const _ | apply names_Check.l0.tends | refine Tends.cond ?_ ?_ | refine Tends.bind ?_ (fun _ => ?_) | cases ‹Except _ _› | intro _))
set_option maxHeartbeats 4000000 in
set_option maxRecDepth 100000 in
theorem names_Check.mono {k k' : Nat} (hk' : k ≤ k') (a0 : ByteArray) : Le (names_Check.f k a0 ) (names_Check.f k' a0 ) := by
  simp only [names_Check.f]
  repeat' (first | with_reducible exact Le.refl _ | refine names_Check.l0.mono _ hk' _ | refine Le.cond ?_ ?_ | refine Le.bind ?_ (fun _ => ?_) | cases ‹Except _ _› | intro _)
noncomputable def names_Check.v (a0 : ByteArray) : Option Int := lim (fun k => names_Check.f k a0 )
theorem names_Check.tends (a0 : ByteArray) : Tends (fun k => names_Check.f k a0 ) (names_Check.v a0 ) := tends_lim (fun hk => names_Check.mono hk a0 )
set_option maxHeartbeats 4000000 in
set_option maxRecDepth 100000 in
theorem names_Check.v_eq (a0 : ByteArray) : names_Check.v a0 = (bif icmp .eql (a0.size : Int) (0 : Int) then (some true) else (some (icmp .gtr (a0.size : Int) (64 : Int)))).bind fun s1 => bif s1 then (some (3 : Int)) else ((names_Check.l0.v a0 (0 : Int)).bind fun o8 => match o8 with | .error r' => some r' | .ok s6 => (some (0 : Int))) := (names_Check.tends a0 ).uniq (by
  simp only [names_Check.f]
  repeat' (first | with_reducible exact Tends.const _ | apply names_Check.l0.tends | refine Tends.cond ?_ ?_ | refine Tends.bind ?_ (fun _ => ?_) | cases ‹Except _ _› | intro _))
/-! slices.Index[[]string,string] -/
set_option maxHeartbeats 4000000 in
set_option maxRecDepth 100000 in
theorem slices_Index_string_string.l0.mono (a0 : List ByteArray) (a1 : ByteArray) : ∀ {k k' : Nat}, k ≤ k' → ∀ s, Le (slices_Index_string_string.l0 a0 a1 k s) (slices_Index_string_string.l0 a0 a1 k' s) := by
  intro k
  induction k with
  | zero => exact fun _ s => Le.none _
  | succ k ih =>
    intro k' hk s
    cases k' with
    | zero => exact absurd hk (by omega)
    | succ k' =>
      have hk' := Nat.le_of_succ_le_succ hk
      simp only [slices_Index_string_string.l0]
      repeat' (first | with_reducible exact Le.refl _ | exact ih hk' _ | refine Le.cond ?_ ?_ | refine Le.bind ?_ (fun _ => ?_) | cases ‹Except _ _› | intro _)
noncomputable def slices_Index_string_string.l0.v (a0 : List ByteArray) (a1 : ByteArray) (s : Int) : Option (Except Int Unit) := lim (fun k => slices_Index_string_string.l0 a0 a1 k s)
theorem slices_Index_string_string.l0.tends (a0 : List ByteArray) (a1 : ByteArray) (s : Int) : Tends (fun k => slices_Index_string_string.l0 a0 a1 k s) (slices_Index_string_string.l0.v a0 a1 s) := tends_lim (fun hk => slices_Index_string_string.l0.mono a0 a1 hk s)
set_option maxHeartbeats 4000000 in
set_option maxRecDepth 100000 in
theorem slices_Index_string_string.l0.v_eq (a0 : List ByteArray) (a1 : ByteArray) (s1 : Int) : slices_Index_string_string.l0.v a0 a1 s1 = bif icmp .lss s1 (a0.length : Int) then ((idx a0 s1).bind fun x6 => bif scmp .eql a1 x6 then (some (Except.error s1)) else (slices_Index_string_string.l0.v a0 a1 (IntKind.i64.wrap (s1 + (1 : Int))))) else (some (Except.ok ())) := (slices_Index_string_string.l0.tends a0 a1 s1).shift.uniq (by
  simp only [slices_Index_string_string.l0]
  repeat' (first | with_reducible exact Tends.const _ | apply slices_Index_string_string.l0.tends | refine Tends.cond ?_ ?_ | refine Tends.bind ?_ (fun _ => ?_) | cases ‹Except _ _› | intro _))
set_option maxHeartbeats 4000000 in
set_option maxRecDepth 100000 in
theorem slices_Index_string_string.mono {k k' : Nat} (hk' : k ≤ k') (a0 : List ByteArray) (a1 : ByteArray) : Le (slices_Index_string_string.f k a0 a1 ) (slices_Index_string_string.f k' a0 a1 ) := by
  simp only [slices_Index_string_string.f]
  repeat' (first | with_reducible exact Le.refl _ | refine slices_Index_string_string.l0.mono _ _ hk' _ | refine Le.cond ?_ ?_ | refine Le.bind ?_ (fun _ => ?_) | cases ‹Except _ _› | intro _)
noncomputable def slices_Index_string_string.v (a0 : List ByteArray) (a1 : ByteArray) : Option Int := lim (fun k => slices_Index_string_string.f k a0 a1 )
theorem slices_Index_string_string.tends (a0 : List ByteArray) (a1 : ByteArray) : Tends (fun k => slices_Index_string_string.f k a0 a1 ) (slices_Index_string_string.v a0 a1 ) := tends_lim (fun hk => slices_Index_string_string.mono hk a0 a1 )
set_option maxHeartbeats 4000000 in
set_option maxRecDepth 100000 in
theorem slices_Index_string_string.v_eq (a0 : List ByteArray) (a1 : ByteArray) : slices_Index_string_string.v a0 a1 = (slices_Index_string_string.l0.v a0 a1 (0 : Int)).bind fun o4 => match o4 with | .error r' => some r' | .ok s2 => (some (-1 : Int)) := (slices_Index_string_string.tends a0 a1 ).uniq (by
  simp only [slices_Index_string_string.f]
  repeat' (first | with_reducible exact Tends.const _ | apply slices_Index_string_string.l0.tends | refine Tends.cond ?_ ?_ | refine Tends.bind ?_ (fun _ => ?_) | cases ‹Except _ _› | intro _))
/-! slices.Contains[[]string,string] -/
set_option maxHeartbeats 4000000 in
set_option maxRecDepth 100000 in
theorem slices_Contains_string_string.mono {k k' : Nat} (hk' : k ≤ k') (a0 : List ByteArray) (a1 : ByteArray) : Le (slices_Contains_string_string.f k a0 a1 ) (slices_Contains_string_string.f k' a0 a1 ) := by
  simp only [slices_Contains_string_string.f]
  repeat' (first | with_reducible exact Le.refl _ | apply slices_Index_string_string.mono (hk' := hk') | refine Le.cond ?_ ?_ | refine Le.bind ?_ (fun _ => ?_) | cases ‹Except _ _› | intro _)
noncomputable def slices_Contains_string_string.v (a0 : List ByteArray) (a1 : ByteArray) : Option Bool := lim (fun k => slices_Contains_string_string.f k a0 a1 )
theorem slices_Contains_string_string.tends (a0 : List ByteArray) (a1 : ByteArray) : Tends (fun k => slices_Contains_string_string.f k a0 a1 ) (slices_Contains_string_string.v a0 a1 ) := tends_lim (fun hk => slices_Contains_string_string.mono hk a0 a1 )
set_option maxHeartbeats 4000000 in
set_option maxRecDepth 100000 in
theorem slices_Contains_string_string.v_eq (a0 : List ByteArray) (a1 : ByteArray) : slices_Contains_string_string.v a0 a1 = (slices_Index_string_string.v a0 a1).bind fun v1 => some (icmp .geq v1 (0 : Int)) := (slices_Contains_string_string.tends a0 a1 ).uniq (by
  simp only [slices_Contains_string_string.f]
  repeat' (first | with_reducible exact Tends.const _ | apply slices_Index_string_string.tends | refine Tends.cond ?_ ?_ | refine Tends.bind ?_ (fun _ => ?_) | cases ‹Except _ _› | intro _))
/-! slices.IndexFunc[[]string,string] -/
set_option maxHeartbeats 4000000 in
set_option maxRecDepth 100000 in
theorem slices_IndexFunc_string_string.l0.mono {a1 a1' : ByteArray → Option Bool} (hpa1 : ∀ z0, Le (a1 z0) (a1' z0)) (a0 : List ByteArray) : ∀ {k k' : Nat}, k ≤ k' → ∀ s, Le (slices_IndexFunc_string_string.l0 a0 a1 k s) (slices_IndexFunc_string_string.l0 a0 a1' k' s) := by
  intro k
  induction k with
  | zero => exact fun _ s => Le.none _
  | succ k ih =>
    intro k' hk s
    cases k' with
    | zero => exact absurd hk (by omega)
    | succ k' =>
      have hk' := Nat.le_of_succ_le_succ hk
      simp only [slices_IndexFunc_string_string.l0]
      repeat' (first | with_reducible exact Le.refl _ | exact hpa1 _ | exact ih hk' _ | refine Le.cond ?_ ?_ | refine Le.bind ?_ (fun _ => ?_) | cases ‹Except _ _› | intro _)
noncomputable def slices_IndexFunc_string_string.l0.v (a0 : List ByteArray) (a1 : ByteArray → Option Bool) (s : Int) : Option (Except Int Unit) := lim (fun k => slices_IndexFunc_string_string.l0 a0 a1 k s)
theorem slices_IndexFunc_string_string.l0.tends (a0 : List ByteArray) (a1 : ByteArray → Option Bool) (s : Int) : Tends (fun k => slices_IndexFunc_string_string.l0 a0 a1 k s) (slices_IndexFunc_string_string.l0.v a0 a1 s) := tends_lim (fun hk => slices_IndexFunc_string_string.l0.mono (fun _ => Le.refl _) a0 hk s)
set_option maxHeartbeats 4000000 in
set_option maxRecDepth 100000 in
theorem slices_IndexFunc_string_string.l0.v_eq (a0 : List ByteArray) (a1 : ByteArray → Option Bool) (s1 : Int) : slices_IndexFunc_string_string.l0.v a0 a1 s1 = bif icmp .lss s1 (a0.length : Int) then ((idx a0 s1).bind fun x6 => (a1 x6).bind fun v8 => bif v8 then (some (Except.error s1)) else (slices_IndexFunc_string_string.l0.v a0 a1 (IntKind.i64.wrap (s1 + (1 : Int))))) else (some (Except.ok ())) := (slices_IndexFunc_string_string.l0.tends a0 a1 s1).shift.uniq (by
  simp only [slices_IndexFunc_string_string.l0]
  repeat' (first | with_reducible exact Tends.const _ | apply slices_IndexFunc_string_string.l0.tends | refine Tends.cond ?_ ?_ | refine Tends.bind ?_ (fun _ => ?_) | cases ‹Except _ _› | intro _))
set_option maxHeartbeats 4000000 in
set_option maxRecDepth 100000 in
theorem slices_IndexFunc_string_string.l0.tendsP {pa1 : Nat → ByteArray → Option Bool} {qa1 : ByteArray → Option Bool} (hpa1 : ∀ z0, Tends (fun j => pa1 j z0) (qa1 z0)) (a0 : List ByteArray) : ∀ (K : Nat) s, Tends (fun j => slices_IndexFunc_string_string.l0 a0 (pa1 j) K s) (slices_IndexFunc_string_string.l0 a0 qa1 K s) := by
  intro K
  induction K with
  | zero => exact fun s => Tends.const _
  | succ K ih =>
    intro s
    simp only [slices_IndexFunc_string_string.l0]
    repeat' (first | with_reducible exact Tends.const _ | exact hpa1 _ | exact ih _ | refine Tends.cond ?_ ?_ | refine Tends.bind ?_ (fun _ => ?_) | cases ‹Except _ _› | intro _)
set_option maxHeartbeats 4000000 in
set_option maxRecDepth 100000 in
theorem slices_IndexFunc_string_string.mono {k k' : Nat} (hk' : k ≤ k') {a1 a1' : ByteArray → Option Bool} (hpa1 : ∀ z0, Le (a1 z0) (a1' z0)) (a0 : List ByteArray) : Le (slices_IndexFunc_string_string.f k a0 a1 ) (slices_IndexFunc_string_string.f k' a0 a1' ) := by
  simp only [slices_IndexFunc_string_string.f]
  repeat' (first | with_reducible exact Le.refl _ | exact hpa1 _ | refine slices_IndexFunc_string_string.l0.mono hpa1 _ hk' _ | refine Le.cond ?_ ?_ | refine Le.bind ?_ (fun _ => ?_) | cases ‹Except _ _› | intro _)
noncomputable def slices_IndexFunc_string_string.v (a0 : List ByteArray) (a1 : ByteArray → Option Bool) : Option Int := lim (fun k => slices_IndexFunc_string_string.f k a0 a1 )
theorem slices_IndexFunc_string_string.tends (a0 : List ByteArray) (a1 : ByteArray → Option Bool) : Tends (fun k => slices_IndexFunc_string_string.f k a0 a1 ) (slices_IndexFunc_string_string.v a0 a1 ) := tends_lim (fun hk => slices_IndexFunc_string_string.mono hk (fun _ => Le.refl _) a0 )
set_option maxHeartbeats 4000000 in
set_option maxRecDepth 100000 in
theorem slices_IndexFunc_string_string.v_eq (a0 : List ByteArray) (a1 : ByteArray → Option Bool) : slices_IndexFunc_string_string.v a0 a1 = (slices_IndexFunc_string_string.l0.v a0 a1 (0 : Int)).bind fun o4 => match o4 with | .error r' => some r' | .ok s2 => (some (-1 : Int)) := (slices_IndexFunc_string_string.tends a0 a1 ).uniq (by
  simp only [slices_IndexFunc_string_string.f]
  repeat' (first | with_reducible exact Tends.const _ | apply slices_IndexFunc_string_string.l0.tends | refine Tends.cond ?_ ?_ | refine Tends.bind ?_ (fun _ => ?_) | cases ‹Except _ _› | intro _))
set_option maxHeartbeats 4000000 in
set_option maxRecDepth 100000 in
theorem slices_IndexFunc_string_string.tendsP {pa1 : Nat → ByteArray → Option Bool} {qa1 : ByteArray → Option Bool} (hpa1 : ∀ z0, Tends (fun j => pa1 j z0) (qa1 z0)) (a0 : List ByteArray) (K : Nat) : Tends (fun j => slices_IndexFunc_string_string.f K a0 (pa1 j) ) (slices_IndexFunc_string_string.f K a0 qa1 ) := by
  simp only [slices_IndexFunc_string_string.f]
  repeat' (first | with_reducible exact Tends.const _ | exact hpa1 _ | refine slices_IndexFunc_string_string.l0.tendsP hpa1 _ _ _ | refine Tends.cond ?_ ?_ | refine Tends.bind ?_ (fun _ => ?_) | cases ‹Except _ _› | intro _)
theorem slices_IndexFunc_string_string.tends2 {pa1 : Nat → ByteArray → Option Bool} {qa1 : ByteArray → Option Bool} (hpa1 : ∀ z0, Tends (fun j => pa1 j z0) (qa1 z0)) (a0 : List ByteArray) : Tends (fun k => slices_IndexFunc_string_string.f k a0 (pa1 k) ) (slices_IndexFunc_string_string.v a0 qa1 ) := Tends.diag (f := fun K j => slices_IndexFunc_string_string.f K a0 (pa1 j) ) (fun K => slices_IndexFunc_string_string.tendsP hpa1 a0 K) (fun h j => slices_IndexFunc_string_string.mono h (fun _ => Le.refl _) a0 ) (slices_IndexFunc_string_string.tends a0 qa1 )
/-! slices.ContainsFunc[[]string,string] -/
set_option maxHeartbeats 4000000 in
set_option maxRecDepth 100000 in
theorem slices_ContainsFunc_string_string.mono {k k' : Nat} (hk' : k ≤ k') {a1 a1' : ByteArray → Option Bool} (hpa1 : ∀ z0, Le (a1 z0) (a1' z0)) (a0 : List ByteArray) : Le (slices_ContainsFunc_string_string.f k a0 a1 ) (slices_ContainsFunc_string_string.f k' a0 a1' ) := by
  simp only [slices_ContainsFunc_string_string.f]
  repeat' (first | with_reducible exact Le.refl _ | exact hpa1 _ | apply slices_IndexFunc_string_string.mono (hk' := hk') | refine Le.cond ?_ ?_ | refine Le.bind ?_ (fun _ => ?_) | cases ‹Except _ _› | intro _)
noncomputable def slices_ContainsFunc_string_string.v (a0 : List ByteArray) (a1 : ByteArray → Option Bool) : Option Bool := lim (fun k => slices_ContainsFunc_string_string.f k a0 a1 )
theorem slices_ContainsFunc_string_string.tends (a0 : List ByteArray) (a1 : ByteArray → Option Bool) : Tends (fun k => slices_ContainsFunc_string_string.f k a0 a1 ) (slices_ContainsFunc_string_string.v a0 a1 ) := tends_lim (fun hk => slices_ContainsFunc_string_string.mono hk (fun _ => Le.refl _) a0 )
set_option maxHeartbeats 4000000 in
set_option maxRecDepth 100000 in
theorem slices_ContainsFunc_string_string.v_eq (a0 : List ByteArray) (a1 : ByteArray → Option Bool) : slices_ContainsFunc_string_string.v a0 a1 = (slices_IndexFunc_string_string.v a0 a1).bind fun v1 => some (icmp .geq v1 (0 : Int)) := (slices_ContainsFunc_string_string.tends a0 a1 ).uniq (by
  simp only [slices_ContainsFunc_string_string.f]
  repeat' (first | with_reducible exact Tends.const _ | apply slices_IndexFunc_string_string.tends2 | refine Tends.cond ?_ ?_ | refine Tends.bind ?_ (fun _ => ?_) | cases ‹Except _ _› | intro _))
set_option maxHeartbeats 4000000 in
set_option maxRecDepth 100000 in
theorem slices_ContainsFunc_string_string.tendsP {pa1 : Nat → ByteArray → Option Bool} {qa1 : ByteArray → Option Bool} (hpa1 : ∀ z0, Tends (fun j => pa1 j z0) (qa1 z0)) (a0 : List ByteArray) (K : Nat) : Tends (fun j => slices_ContainsFunc_string_string.f K a0 (pa1 j) ) (slices_ContainsFunc_string_string.f K a0 qa1 ) := by
  simp only [slices_ContainsFunc_string_string.f]
  repeat' (first | with_reducible exact Tends.const _ | exact hpa1 _ | apply slices_IndexFunc_string_string.tendsP | refine Tends.cond ?_ ?_ | refine Tends.bind ?_ (fun _ => ?_) | cases ‹Except _ _› | intro _)
theorem slices_ContainsFunc_string_string.tends2 {pa1 : Nat → ByteArray → Option Bool} {qa1 : ByteArray → Option Bool} (hpa1 : ∀ z0, Tends (fun j => pa1 j z0) (qa1 z0)) (a0 : List ByteArray) : Tends (fun k => slices_ContainsFunc_string_string.f k a0 (pa1 k) ) (slices_ContainsFunc_string_string.v a0 qa1 ) := Tends.diag (f := fun K j => slices_ContainsFunc_string_string.f K a0 (pa1 j) ) (fun K => slices_ContainsFunc_string_string.tendsP hpa1 a0 K) (fun h j => slices_ContainsFunc_string_string.mono h (fun _ => Le.refl _) a0 ) (slices_ContainsFunc_string_string.tends a0 qa1 )
/-! smithy/resolve.right$1 -/
/-! smithy/resolve.right -/
set_option maxHeartbeats 4000000 in
set_option maxRecDepth 100000 in
theorem resolve_right.l0.mono (a0 : Node) (a1 : GM Int) : ∀ {k k' : Nat}, k ≤ k' → ∀ s, Le (resolve_right.l0 a0 a1 k s) (resolve_right.l0 a0 a1 k' s) := by
  intro k
  induction k with
  | zero => exact fun _ s => Le.none _
  | succ k ih =>
    intro k' hk s
    cases k' with
    | zero => exact absurd hk (by omega)
    | succ k' =>
      have hk' := Nat.le_of_succ_le_succ hk
      simp only [resolve_right.l0]
      repeat' (first | with_reducible exact Le.refl _ | exact ih hk' _ | apply names_Check.mono (hk' := hk') | apply slices_Contains_string_string.mono (hk' := hk') | refine Le.cond ?_ ?_ | refine Le.bind ?_ (fun _ => ?_) | cases ‹Except _ _› | intro _)
noncomputable def resolve_right.l0.v (a0 : Node) (a1 : GM Int) (s : Int) : Option (Except Bool Unit) := lim (fun k => resolve_right.l0 a0 a1 k s)
theorem resolve_right.l0.tends (a0 : Node) (a1 : GM Int) (s : Int) : Tends (fun k => resolve_right.l0 a0 a1 k s) (resolve_right.l0.v a0 a1 s) := tends_lim (fun hk => resolve_right.l0.mono a0 a1 hk s)
set_option maxHeartbeats 4000000 in
set_option maxRecDepth 100000 in
theorem resolve_right.l0.v_eq (a0 : Node) (a1 : GM Int) (s13 : Int) : resolve_right.l0.v a0 a1 s13 = bif icmp .lss s13 (a0.Needs.length : Int) then ((idx a0.Needs s13).bind fun x18 => ((names_Check.v x18).bind fun v22 => bif icmp .neq v22 (0 : Int) then (some true) else ((sub a0.Needs (0 : Int) s13).bind fun x25 => (slices_Contains_string_string.v x25 x18).bind fun v27 => bif v27 then (some true) else ((gget a1 (0 : Int) x18).bind fun x30 => some (icmp .neq x30 (1 : Int))))).bind fun s20 => bif s20 then (some (Except.error false)) else (resolve_right.l0.v a0 a1 (IntKind.i64.wrap (s13 + (1 : Int))))) else (some (Except.ok ())) := (resolve_right.l0.tends a0 a1 s13).shift.uniq (by
  simp only [resolve_right.l0]
  repeat' (first | with_reducible exact Tends.const _ | apply names_Check.tends | apply slices_Contains_string_string.tends | apply resolve_right.l0.tends | refine Tends.cond ?_ ?_ | refine Tends.bind ?_ (fun _ => ?_) | cases ‹Except _ _› | intro _))
set_option maxHeartbeats 4000000 in
set_option maxRecDepth 100000 in
theorem resolve_right.mono {k k' : Nat} (hk' : k ≤ k') (a0 : Node) (a1 : GM Int) : Le (resolve_right.f k a0 a1 ) (resolve_right.f k' a0 a1 ) := by
  simp only [resolve_right.f]
  repeat' (first | with_reducible exact Le.refl _ | apply names_Check.mono (hk' := hk') | apply slices_ContainsFunc_string_string.mono (hk' := hk') | refine resolve_right.l0.mono _ _ hk' _ | refine Le.cond ?_ ?_ | refine Le.bind ?_ (fun _ => ?_) | cases ‹Except _ _› | intro _)
noncomputable def resolve_right.v (a0 : Node) (a1 : GM Int) : Option Bool := lim (fun k => resolve_right.f k a0 a1 )
theorem resolve_right.tends (a0 : Node) (a1 : GM Int) : Tends (fun k => resolve_right.f k a0 a1 ) (resolve_right.v a0 a1 ) := tends_lim (fun hk => resolve_right.mono hk a0 a1 )
set_option maxHeartbeats 4000000 in
set_option maxRecDepth 100000 in
theorem resolve_right.v_eq (a0 : Node) (a1 : GM Int) : resolve_right.v a0 a1 = ((names_Check.v a0.Target).bind fun v3 => bif icmp .neq v3 (0 : Int) then (some true) else ((gget a1 (0 : Int) a0.Target).bind fun x6 => bif icmp .eql x6 (1 : Int) then (some true) else (bif icmp .gtr (a0.Needs.length : Int) (65 : Int) then (some true) else (bif icmp .gtr (a0.Recipe.length : Int) (64 : Int) then (some true) else (bif !a0.Has then (some (icmp .gtr (a0.Recipe.length : Int) (0 : Int))) else (some false)))))).bind fun s1 => bif s1 then (some false) else ((resolve_right.l0.v a0 a1 (0 : Int)).bind fun o16 => match o16 with | .error r' => some r' | .ok s14 => ((slices_ContainsFunc_string_string.v a0.Recipe (fun (z0 : ByteArray) => resolve_right_1.f z0)).bind fun v33 => bif v33 then (some false) else (bif scmp .eql a0.Source (⟨#[]⟩ : ByteArray) then (some (scmp .eql a0.Stem (⟨#[]⟩ : ByteArray))) else ((bif icmp .gtr (a0.Needs.length : Int) (0 : Int) then ((idx a0.Needs (0 : Int)).bind fun x40 => bif scmp .eql x40 a0.Source then (some (icmp .leq (a0.Stem.size : Int) (64 : Int))) else (some false)) else (some false)).bind fun s37 => some s37)))) := (resolve_right.tends a0 a1 ).uniq (by
  simp only [resolve_right.f]
  repeat' (first | with_reducible exact Tends.const _ | apply names_Check.tends | apply slices_ContainsFunc_string_string.tends2 | apply resolve_right.l0.tends | refine Tends.cond ?_ ?_ | refine Tends.bind ?_ (fun _ => ?_) | cases ‹Except _ _› | intro _))
/-! smithy/resolve.Check -/
set_option maxHeartbeats 4000000 in
set_option maxRecDepth 100000 in
theorem resolve_Check.l0.mono (a0 : Plan) : ∀ {k k' : Nat}, k ≤ k' → ∀ s, Le (resolve_Check.l0 a0 k s) (resolve_Check.l0 a0 k' s) := by
  intro k
  induction k with
  | zero => exact fun _ s => Le.none _
  | succ k ih =>
    intro k' hk s
    cases k' with
    | zero => exact absurd hk (by omega)
    | succ k' =>
      have hk' := Nat.le_of_succ_le_succ hk
      simp only [resolve_Check.l0]
      repeat' (first | with_reducible exact Le.refl _ | exact ih hk' _ | apply resolve_right.mono (hk' := hk') | refine Le.cond ?_ ?_ | refine Le.bind ?_ (fun _ => ?_) | cases ‹Except _ _› | intro _)
noncomputable def resolve_Check.l0.v (a0 : Plan) (s : (GM Int) × Int) : Option (Except Int (GM Int)) := lim (fun k => resolve_Check.l0 a0 k s)
theorem resolve_Check.l0.tends (a0 : Plan) (s : (GM Int) × Int) : Tends (fun k => resolve_Check.l0 a0 k s) (resolve_Check.l0.v a0 s) := tends_lim (fun hk => resolve_Check.l0.mono a0 hk s)
set_option maxHeartbeats 4000000 in
set_option maxRecDepth 100000 in
theorem resolve_Check.l0.v_eq (a0 : Plan) (s6 : (GM Int) × Int) : resolve_Check.l0.v a0 s6 = bif icmp .lss s6.2 (a0.Nodes.length : Int) then ((idx a0.Nodes s6.2).bind fun x11 => (resolve_right.v x11 s6.1).bind fun v13 => bif !v13 then (some (Except.error (7 : Int))) else ((gput s6.1 x11.Target (1 : Int)).bind fun x16 => resolve_Check.l0.v a0 (x16, IntKind.i64.wrap (s6.2 + (1 : Int))))) else (some (Except.ok s6.1)) := (resolve_Check.l0.tends a0 s6).shift.uniq (by
  simp only [resolve_Check.l0]
  repeat' (first | with_reducible exact Tends.const _ | apply resolve_right.tends | apply resolve_Check.l0.tends | refine Tends.cond ?_ ?_ | refine Tends.bind ?_ (fun _ => ?_) | cases ‹Except _ _› | intro _))
set_option maxHeartbeats 4000000 in
set_option maxRecDepth 100000 in
theorem resolve_Check.l1.mono (a0 : Plan) (s7 : (GM Int)) : ∀ {k k' : Nat}, k ≤ k' → ∀ s, Le (resolve_Check.l1 a0 s7 k s) (resolve_Check.l1 a0 s7 k' s) := by
  intro k
  induction k with
  | zero => exact fun _ s => Le.none _
  | succ k ih =>
    intro k' hk s
    cases k' with
    | zero => exact absurd hk (by omega)
    | succ k' =>
      have hk' := Nat.le_of_succ_le_succ hk
      simp only [resolve_Check.l1]
      repeat' (first | with_reducible exact Le.refl _ | exact ih hk' _ | apply slices_Contains_string_string.mono (hk' := hk') | refine Le.cond ?_ ?_ | refine Le.bind ?_ (fun _ => ?_) | cases ‹Except _ _› | intro _)
noncomputable def resolve_Check.l1.v (a0 : Plan) (s7 : (GM Int)) (s : Int) : Option (Except Int Unit) := lim (fun k => resolve_Check.l1 a0 s7 k s)
theorem resolve_Check.l1.tends (a0 : Plan) (s7 : (GM Int)) (s : Int) : Tends (fun k => resolve_Check.l1 a0 s7 k s) (resolve_Check.l1.v a0 s7 s) := tends_lim (fun hk => resolve_Check.l1.mono a0 s7 hk s)
set_option maxHeartbeats 4000000 in
set_option maxRecDepth 100000 in
theorem resolve_Check.l1.v_eq (a0 : Plan) (s7 : (GM Int)) (s18 : Int) : resolve_Check.l1.v a0 s7 s18 = bif icmp .lss s18 (a0.Goals.length : Int) then ((idx a0.Goals s18).bind fun x23 => ((gget s7 (0 : Int) x23).bind fun x27 => bif icmp .neq x27 (1 : Int) then (some true) else ((sub a0.Goals (0 : Int) s18).bind fun x30 => (slices_Contains_string_string.v x30 x23).bind fun v32 => some v32)).bind fun s25 => bif s25 then (some (Except.error (7 : Int))) else (resolve_Check.l1.v a0 s7 (IntKind.i64.wrap (s18 + (1 : Int))))) else (some (Except.ok ())) := (resolve_Check.l1.tends a0 s7 s18).shift.uniq (by
  simp only [resolve_Check.l1]
  repeat' (first | with_reducible exact Tends.const _ | apply slices_Contains_string_string.tends | apply resolve_Check.l1.tends | refine Tends.cond ?_ ?_ | refine Tends.bind ?_ (fun _ => ?_) | cases ‹Except _ _› | intro _))
set_option maxHeartbeats 4000000 in
set_option maxRecDepth 100000 in
theorem resolve_Check.mono {k k' : Nat} (hk' : k ≤ k') (a0 : Plan) : Le (resolve_Check.f k a0 ) (resolve_Check.f k' a0 ) := by
  simp only [resolve_Check.f]
  repeat' (first | with_reducible exact Le.refl _ | refine resolve_Check.l0.mono _ hk' _ | refine resolve_Check.l1.mono _ _ hk' _ | refine Le.cond ?_ ?_ | refine Le.bind ?_ (fun _ => ?_) | cases ‹Except _ _› | intro _)
noncomputable def resolve_Check.v (a0 : Plan) : Option Int := lim (fun k => resolve_Check.f k a0 )
theorem resolve_Check.tends (a0 : Plan) : Tends (fun k => resolve_Check.f k a0 ) (resolve_Check.v a0 ) := tends_lim (fun hk => resolve_Check.mono hk a0 )
set_option maxHeartbeats 4000000 in
set_option maxRecDepth 100000 in
theorem resolve_Check.v_eq (a0 : Plan) : resolve_Check.v a0 = (bif icmp .gtr (a0.Nodes.length : Int) (256 : Int) then (some true) else (bif icmp .lss (a0.Goals.length : Int) (1 : Int) then (some true) else (some (icmp .gtr (a0.Goals.length : Int) (512 : Int))))).bind fun s1 => bif s1 then (some (7 : Int)) else ((resolve_Check.l0.v a0 ((gempty : GM Int), (0 : Int))).bind fun o9 => match o9 with | .error r' => some r' | .ok s7 => ((resolve_Check.l1.v a0 s7 (0 : Int)).bind fun o21 => match o21 with | .error r' => some r' | .ok s19 => (some (0 : Int)))) := (resolve_Check.tends a0 ).uniq (by
  simp only [resolve_Check.f]
  repeat' (first | with_reducible exact Tends.const _ | apply resolve_Check.l0.tends | apply resolve_Check.l1.tends | refine Tends.cond ?_ ?_ | refine Tends.bind ?_ (fun _ => ?_) | cases ‹Except _ _› | intro _))
/-! smithy/walk.targets -/
set_option maxHeartbeats 4000000 in
set_option maxRecDepth 100000 in
theorem walk_targets.l0.mono (a0 : Plan) : ∀ {k k' : Nat}, k ≤ k' → ∀ s, Le (walk_targets.l0 a0 k s) (walk_targets.l0 a0 k' s) := by
  intro k
  induction k with
  | zero => exact fun _ s => Le.none _
  | succ k ih =>
    intro k' hk s
    cases k' with
    | zero => exact absurd hk (by omega)
    | succ k' =>
      have hk' := Nat.le_of_succ_le_succ hk
      simp only [walk_targets.l0]
      repeat' (first | with_reducible exact Le.refl _ | exact ih hk' _ | refine Le.cond ?_ ?_ | refine Le.bind ?_ (fun _ => ?_) | cases ‹Except _ _› | intro _)
noncomputable def walk_targets.l0.v (a0 : Plan) (s : (List ByteArray) × Int) : Option (List ByteArray) := lim (fun k => walk_targets.l0 a0 k s)
theorem walk_targets.l0.tends (a0 : Plan) (s : (List ByteArray) × Int) : Tends (fun k => walk_targets.l0 a0 k s) (walk_targets.l0.v a0 s) := tends_lim (fun hk => walk_targets.l0.mono a0 hk s)
set_option maxHeartbeats 4000000 in
set_option maxRecDepth 100000 in
theorem walk_targets.l0.v_eq (a0 : Plan) (s1 : (List ByteArray) × Int) : walk_targets.l0.v a0 s1 = bif icmp .lss s1.2 (a0.Nodes.length : Int) then ((idx a0.Nodes s1.2).bind fun x5 => (app 16 s1.1 ([x5.Target])).bind fun x7 => walk_targets.l0.v a0 (x7, IntKind.i64.wrap (s1.2 + (1 : Int)))) else (some s1.1) := (walk_targets.l0.tends a0 s1).shift.uniq (by
  simp only [walk_targets.l0]
  repeat' (first | with_reducible exact Tends.const _ | apply walk_targets.l0.tends | refine Tends.cond ?_ ?_ | refine Tends.bind ?_ (fun _ => ?_) | cases ‹Except _ _› | intro _))
set_option maxHeartbeats 4000000 in
set_option maxRecDepth 100000 in
theorem walk_targets.mono {k k' : Nat} (hk' : k ≤ k') (a0 : Plan) : Le (walk_targets.f k a0 ) (walk_targets.f k' a0 ) := by
  simp only [walk_targets.f]
  repeat' (first | with_reducible exact Le.refl _ | refine walk_targets.l0.mono _ hk' _ | refine Le.cond ?_ ?_ | refine Le.bind ?_ (fun _ => ?_) | cases ‹Except _ _› | intro _)
noncomputable def walk_targets.v (a0 : Plan) : Option (List ByteArray) := lim (fun k => walk_targets.f k a0 )
theorem walk_targets.tends (a0 : Plan) : Tends (fun k => walk_targets.f k a0 ) (walk_targets.v a0 ) := tends_lim (fun hk => walk_targets.mono hk a0 )
set_option maxHeartbeats 4000000 in
set_option maxRecDepth 100000 in
theorem walk_targets.v_eq (a0 : Plan) : walk_targets.v a0 = (walk_targets.l0.v a0 (([] : List ByteArray), (0 : Int))).bind fun s2 => some s2 := (walk_targets.tends a0 ).uniq (by
  simp only [walk_targets.f]
  repeat' (first | with_reducible exact Tends.const _ | apply walk_targets.l0.tends | refine Tends.cond ?_ ?_ | refine Tends.bind ?_ (fun _ => ?_) | cases ‹Except _ _› | intro _))
/-! smithy/walk.setOf[string] -/
set_option maxHeartbeats 4000000 in
set_option maxRecDepth 100000 in
theorem walk_setOf_string.l0.mono (a0 : List ByteArray) : ∀ {k k' : Nat}, k ≤ k' → ∀ s, Le (walk_setOf_string.l0 a0 k s) (walk_setOf_string.l0 a0 k' s) := by
  intro k
  induction k with
  | zero => exact fun _ s => Le.none _
  | succ k ih =>
    intro k' hk s
    cases k' with
    | zero => exact absurd hk (by omega)
    | succ k' =>
      have hk' := Nat.le_of_succ_le_succ hk
      simp only [walk_setOf_string.l0]
      repeat' (first | with_reducible exact Le.refl _ | exact ih hk' _ | refine Le.cond ?_ ?_ | refine Le.bind ?_ (fun _ => ?_) | cases ‹Except _ _› | intro _)
noncomputable def walk_setOf_string.l0.v (a0 : List ByteArray) (s : (GM Int) × Int) : Option (GM Int) := lim (fun k => walk_setOf_string.l0 a0 k s)
theorem walk_setOf_string.l0.tends (a0 : List ByteArray) (s : (GM Int) × Int) : Tends (fun k => walk_setOf_string.l0 a0 k s) (walk_setOf_string.l0.v a0 s) := tends_lim (fun hk => walk_setOf_string.l0.mono a0 hk s)
set_option maxHeartbeats 4000000 in
set_option maxRecDepth 100000 in
theorem walk_setOf_string.l0.v_eq (a0 : List ByteArray) (s1 : (GM Int) × Int) : walk_setOf_string.l0.v a0 s1 = bif icmp .lss s1.2 (a0.length : Int) then ((idx a0 s1.2).bind fun x5 => (gput s1.1 x5 (1 : Int)).bind fun x7 => walk_setOf_string.l0.v a0 (x7, IntKind.i64.wrap (s1.2 + (1 : Int)))) else (some s1.1) := (walk_setOf_string.l0.tends a0 s1).shift.uniq (by
  simp only [walk_setOf_string.l0]
  repeat' (first | with_reducible exact Tends.const _ | apply walk_setOf_string.l0.tends | refine Tends.cond ?_ ?_ | refine Tends.bind ?_ (fun _ => ?_) | cases ‹Except _ _› | intro _))
set_option maxHeartbeats 4000000 in
set_option maxRecDepth 100000 in
theorem walk_setOf_string.mono {k k' : Nat} (hk' : k ≤ k') (a0 : List ByteArray) : Le (walk_setOf_string.f k a0 ) (walk_setOf_string.f k' a0 ) := by
  simp only [walk_setOf_string.f]
  repeat' (first | with_reducible exact Le.refl _ | refine walk_setOf_string.l0.mono _ hk' _ | refine Le.cond ?_ ?_ | refine Le.bind ?_ (fun _ => ?_) | cases ‹Except _ _› | intro _)
noncomputable def walk_setOf_string.v (a0 : List ByteArray) : Option (GM Int) := lim (fun k => walk_setOf_string.f k a0 )
theorem walk_setOf_string.tends (a0 : List ByteArray) : Tends (fun k => walk_setOf_string.f k a0 ) (walk_setOf_string.v a0 ) := tends_lim (fun hk => walk_setOf_string.mono hk a0 )
set_option maxHeartbeats 4000000 in
set_option maxRecDepth 100000 in
theorem walk_setOf_string.v_eq (a0 : List ByteArray) : walk_setOf_string.v a0 = (walk_setOf_string.l0.v a0 ((gempty : GM Int), (0 : Int))).bind fun s2 => some s2 := (walk_setOf_string.tends a0 ).uniq (by
  simp only [walk_setOf_string.f]
  repeat' (first | with_reducible exact Tends.const _ | apply walk_setOf_string.l0.tends | refine Tends.cond ?_ ?_ | refine Tends.bind ?_ (fun _ => ?_) | cases ‹Except _ _› | intro _))
/-! (smithy/walk.set[string]).has -/
/-! smithy/walk.asked$1 -/
/-! smithy/walk.asked -/
set_option maxHeartbeats 4000000 in
set_option maxRecDepth 100000 in
theorem walk_asked.l0.mono (a1 : List ByteArray) : ∀ {k k' : Nat}, k ≤ k' → ∀ s, Le (walk_asked.l0 a1 k s) (walk_asked.l0 a1 k' s) := by
  intro k
  induction k with
  | zero => exact fun _ s => Le.none _
  | succ k ih =>
    intro k' hk s
    cases k' with
    | zero => exact absurd hk (by omega)
    | succ k' =>
      have hk' := Nat.le_of_succ_le_succ hk
      simp only [walk_asked.l0]
      repeat' (first | with_reducible exact Le.refl _ | exact ih hk' _ | apply names_Check.mono (hk' := hk') | refine Le.cond ?_ ?_ | refine Le.bind ?_ (fun _ => ?_) | cases ‹Except _ _› | intro _)
noncomputable def walk_asked.l0.v (a1 : List ByteArray) (s : Int) : Option (Except Int Unit) := lim (fun k => walk_asked.l0 a1 k s)
theorem walk_asked.l0.tends (a1 : List ByteArray) (s : Int) : Tends (fun k => walk_asked.l0 a1 k s) (walk_asked.l0.v a1 s) := tends_lim (fun hk => walk_asked.l0.mono a1 hk s)
set_option maxHeartbeats 4000000 in
set_option maxRecDepth 100000 in
theorem walk_asked.l0.v_eq (a1 : List ByteArray) (s5 : Int) : walk_asked.l0.v a1 s5 = bif icmp .lss s5 (a1.length : Int) then ((idx a1 s5).bind fun x10 => (names_Check.v x10).bind fun v12 => bif icmp .neq v12 (0 : Int) then (some (Except.error v12)) else (walk_asked.l0.v a1 (IntKind.i64.wrap (s5 + (1 : Int))))) else (some (Except.ok ())) := (walk_asked.l0.tends a1 s5).shift.uniq (by
  simp only [walk_asked.l0]
  repeat' (first | with_reducible exact Tends.const _ | apply names_Check.tends | apply walk_asked.l0.tends | refine Tends.cond ?_ ?_ | refine Tends.bind ?_ (fun _ => ?_) | cases ‹Except _ _› | intro _))
set_option maxHeartbeats 4000000 in
set_option maxRecDepth 100000 in
theorem walk_asked.mono {k k' : Nat} (hk' : k ≤ k') (a0 : Plan) (a1 : List ByteArray) : Le (walk_asked.f k a0 a1 ) (walk_asked.f k' a0 a1 ) := by
  simp only [walk_asked.f]
  repeat' (first | with_reducible exact Le.refl _ | apply resolve_Check.mono (hk' := hk') | apply walk_targets.mono (hk' := hk') | apply walk_setOf_string.mono (hk' := hk') | apply slices_ContainsFunc_string_string.mono (hk' := hk') | refine walk_asked.l0.mono _ hk' _ | refine Le.cond ?_ ?_ | refine Le.bind ?_ (fun _ => ?_) | cases ‹Except _ _› | intro _)
noncomputable def walk_asked.v (a0 : Plan) (a1 : List ByteArray) : Option Int := lim (fun k => walk_asked.f k a0 a1 )
theorem walk_asked.tends (a0 : Plan) (a1 : List ByteArray) : Tends (fun k => walk_asked.f k a0 a1 ) (walk_asked.v a0 a1 ) := tends_lim (fun hk => walk_asked.mono hk a0 a1 )
set_option maxHeartbeats 4000000 in
set_option maxRecDepth 100000 in
theorem walk_asked.v_eq (a0 : Plan) (a1 : List ByteArray) : walk_asked.v a0 a1 = (resolve_Check.v a0).bind fun v1 => bif icmp .neq v1 (0 : Int) then (some v1) else (bif icmp .gtr (a1.length : Int) (512 : Int) then (some (2 : Int)) else ((walk_asked.l0.v a1 (0 : Int)).bind fun o8 => match o8 with | .error r' => some r' | .ok s6 => ((walk_targets.v a0).bind fun v15 => (walk_setOf_string.v v15).bind fun v17 => (slices_ContainsFunc_string_string.v a1 (fun (z0 : ByteArray) => walk_asked_1.f z0 (⟨v17⟩ : WalkSet_string_))).bind fun v19 => bif v19 then (some (9 : Int)) else (some (0 : Int))))) := (walk_asked.tends a0 a1 ).uniq (by
  simp only [walk_asked.f]
  repeat' (first | with_reducible exact Tends.const _ | apply resolve_Check.tends | apply walk_targets.tends | apply walk_setOf_string.tends | apply slices_ContainsFunc_string_string.tends2 | apply walk_asked.l0.tends | refine Tends.cond ?_ ?_ | refine Tends.bind ?_ (fun _ => ?_) | cases ‹Except _ _› | intro _))
/-! smithy/walk.next$1 -/
/-! smithy/walk.next -/
set_option maxHeartbeats 4000000 in
set_option maxRecDepth 100000 in
theorem walk_next.l0.mono (a0 : Plan) (a1 : WalkSet_string_) : ∀ {k k' : Nat}, k ≤ k' → ∀ s, Le (walk_next.l0 a0 a1 k s) (walk_next.l0 a0 a1 k' s) := by
  intro k
  induction k with
  | zero => exact fun _ s => Le.none _
  | succ k ih =>
    intro k' hk s
    cases k' with
    | zero => exact absurd hk (by omega)
    | succ k' =>
      have hk' := Nat.le_of_succ_le_succ hk
      simp only [walk_next.l0]
      repeat' (first | with_reducible exact Le.refl _ | exact ih hk' _ | apply slices_ContainsFunc_string_string.mono (hk' := hk') | refine Le.cond ?_ ?_ | refine Le.bind ?_ (fun _ => ?_) | cases ‹Except _ _› | intro _)
noncomputable def walk_next.l0.v (a0 : Plan) (a1 : WalkSet_string_) (s : (List ByteArray) × Int) : Option (List ByteArray) := lim (fun k => walk_next.l0 a0 a1 k s)
theorem walk_next.l0.tends (a0 : Plan) (a1 : WalkSet_string_) (s : (List ByteArray) × Int) : Tends (fun k => walk_next.l0 a0 a1 k s) (walk_next.l0.v a0 a1 s) := tends_lim (fun hk => walk_next.l0.mono a0 a1 hk s)
set_option maxHeartbeats 4000000 in
set_option maxRecDepth 100000 in
theorem walk_next.l0.v_eq (a0 : Plan) (a1 : WalkSet_string_) (s1 : (List ByteArray) × Int) : walk_next.l0.v a0 a1 s1 = bif icmp .lss s1.2 (a0.Nodes.length : Int) then (((idx a0.Nodes s1.2).bind fun x7 => ((walk_set_string_has.f a1 x7.Target).bind fun v11 => bif !v11 then ((slices_ContainsFunc_string_string.v x7.Needs (fun (z0 : ByteArray) => walk_next_1.f z0 a1)).bind fun v14 => some (!v14)) else (some false)).bind fun s9 => bif s9 then ((app 16 s1.1 ([x7.Target])).bind fun x17 => some x17) else (some s1.1)).bind fun s5 => walk_next.l0.v a0 a1 (s5, IntKind.i64.wrap (s1.2 + (1 : Int)))) else (some s1.1) := (walk_next.l0.tends a0 a1 s1).shift.uniq (by
  simp only [walk_next.l0]
  repeat' (first | with_reducible exact Tends.const _ | apply slices_ContainsFunc_string_string.tends2 | apply walk_next.l0.tends | refine Tends.cond ?_ ?_ | refine Tends.bind ?_ (fun _ => ?_) | cases ‹Except _ _› | intro _))
set_option maxHeartbeats 4000000 in
set_option maxRecDepth 100000 in
theorem walk_next.mono {k k' : Nat} (hk' : k ≤ k') (a0 : Plan) (a1 : WalkSet_string_) : Le (walk_next.f k a0 a1 ) (walk_next.f k' a0 a1 ) := by
  simp only [walk_next.f]
  repeat' (first | with_reducible exact Le.refl _ | refine walk_next.l0.mono _ _ hk' _ | refine Le.cond ?_ ?_ | refine Le.bind ?_ (fun _ => ?_) | cases ‹Except _ _› | intro _)
noncomputable def walk_next.v (a0 : Plan) (a1 : WalkSet_string_) : Option (List ByteArray) := lim (fun k => walk_next.f k a0 a1 )
theorem walk_next.tends (a0 : Plan) (a1 : WalkSet_string_) : Tends (fun k => walk_next.f k a0 a1 ) (walk_next.v a0 a1 ) := tends_lim (fun hk => walk_next.mono hk a0 a1 )
set_option maxHeartbeats 4000000 in
set_option maxRecDepth 100000 in
theorem walk_next.v_eq (a0 : Plan) (a1 : WalkSet_string_) : walk_next.v a0 a1 = (walk_next.l0.v a0 a1 (([] : List ByteArray), (0 : Int))).bind fun s2 => some s2 := (walk_next.tends a0 a1 ).uniq (by
  simp only [walk_next.f]
  repeat' (first | with_reducible exact Tends.const _ | apply walk_next.l0.tends | refine Tends.cond ?_ ?_ | refine Tends.bind ?_ (fun _ => ?_) | cases ‹Except _ _› | intro _))
/-! (smithy/walk.set[string]).put -/
/-! smithy/walk.Count$1 -/
set_option maxHeartbeats 4000000 in
set_option maxRecDepth 100000 in
theorem walk_Count_1.l0.mono {self self' : Int → Int → GM Int → Option (Int × GM Int)} (hs : ∀ a b c, Le (self a b c) (self' a b c)) (most : Int) (a0 : Int) (v2 : (List ByteArray)) : ∀ {k k' : Nat}, k ≤ k' → ∀ s, Le (walk_Count_1.l0 most self a0 v2 k s) (walk_Count_1.l0 most self' a0 v2 k' s) := by
  intro k
  induction k with
  | zero => exact fun _ s => Le.none _
  | succ k ih =>
    intro k' hk s
    cases k' with
    | zero => exact absurd hk (by omega)
    | succ k' =>
      have hk' := Nat.le_of_succ_le_succ hk
      simp only [walk_Count_1.l0]
      repeat' (first | with_reducible exact Le.refl _ | exact hs _ _ _ | exact ih hk' _ | apply walk_next.mono hk' | refine Le.cond ?_ ?_ | refine Le.bind ?_ (fun _ => ?_) | cases ‹Except _ _›)
set_option maxHeartbeats 4000000 in
set_option maxRecDepth 100000 in
theorem walk_Count_1.gmono {self self' : Int → Int → GM Int → Option (Int × GM Int)} (hs : ∀ a b c, Le (self a b c) (self' a b c)) {k k' : Nat} (hk' : k ≤ k') (p : Plan) (most a0 n : Int) (m : GM Int) : Le (walk_Count_1.g self k p most a0 n m) (walk_Count_1.g self' k' p most a0 n m) := by
  simp only [walk_Count_1.g]
  repeat' (first | with_reducible exact Le.refl _ | exact hs _ _ _ | exact walk_Count_1.l0.mono hs _ _ _ hk' _ | apply walk_next.mono hk' | refine Le.cond ?_ ?_ | refine Le.bind ?_ (fun _ => ?_) | cases ‹Except _ _›)
theorem walk_Count_1.mono : ∀ {k k' : Nat} (hk' : k ≤ k') (p : Plan) (most a0 n : Int) (m : GM Int), Le (walk_Count_1.f k p most a0 n m) (walk_Count_1.f k' p most a0 n m) := by
  intro k
  induction k with
  | zero => exact fun _ _ _ _ _ _ => Le.none _
  | succ k ih =>
    intro k' hk p most a0 n m
    cases k' with
    | zero => exact absurd hk (by omega)
    | succ k' =>
      have hk' := Nat.le_of_succ_le_succ hk
      exact walk_Count_1.gmono (fun x y z => ih hk' p most x y z) hk' p most a0 n m
noncomputable def walk_Count_1.v (p : Plan) (most a0 n : Int) (m : GM Int) : Option (Int × GM Int) := lim (fun k => walk_Count_1.f k p most a0 n m)
theorem walk_Count_1.tends (p : Plan) (most a0 n : Int) (m : GM Int) : Tends (fun k => walk_Count_1.f k p most a0 n m) (walk_Count_1.v p most a0 n m) := tends_lim (fun hk => walk_Count_1.mono hk p most a0 n m)
/-! smithy/walk.Count -/
set_option maxHeartbeats 4000000 in
set_option maxRecDepth 100000 in
theorem walk_Count.mono {k k' : Nat} (hk' : k ≤ k') (a0 : Plan) (a1 : Int) : Le (walk_Count.f k a0 a1 ) (walk_Count.f k' a0 a1 ) := by
  simp only [walk_Count.f]
  repeat' (first | with_reducible exact Le.refl _ | apply walk_asked.mono (hk' := hk') | apply walk_setOf_string.mono (hk' := hk') | apply walk_Count_1.mono (hk' := hk') | refine Le.cond ?_ ?_ | refine Le.bind ?_ (fun _ => ?_) | cases ‹Except _ _› | intro _)
noncomputable def walk_Count.v (a0 : Plan) (a1 : Int) : Option (Int × Int) := lim (fun k => walk_Count.f k a0 a1 )
theorem walk_Count.tends (a0 : Plan) (a1 : Int) : Tends (fun k => walk_Count.f k a0 a1 ) (walk_Count.v a0 a1 ) := tends_lim (fun hk => walk_Count.mono hk a0 a1 )
set_option maxHeartbeats 4000000 in
set_option maxRecDepth 100000 in
theorem walk_Count.v_eq (a0 : Plan) (a1 : Int) : walk_Count.v a0 a1 = (walk_asked.v a0 ([] : List ByteArray)).bind fun v1 => bif icmp .neq v1 (0 : Int) then (some ((0 : Int), v1)) else ((bif icmp .lss a1 (1 : Int) then (some true) else (some (icmp .gtr a1 (10000 : Int)))).bind fun s4 => bif s4 then (some ((0 : Int), (1 : Int))) else ((walk_setOf_string.v ([] : List ByteArray)).bind fun v8 => (walk_Count_1.v a0 a1 (a0.Nodes.length : Int) (0 : Int) v8).bind fun v10 => some (v10.1, (0 : Int)))) := (walk_Count.tends a0 a1 ).uniq (by
  simp only [walk_Count.f]
  repeat' (first | with_reducible exact Tends.const _ | apply walk_asked.tends | apply walk_setOf_string.tends | apply walk_Count_1.tends | refine Tends.cond ?_ ?_ | refine Tends.bind ?_ (fun _ => ?_) | cases ‹Except _ _› | intro _))
/-! smithy/walk.Next -/
set_option maxHeartbeats 4000000 in
set_option maxRecDepth 100000 in
theorem walk_Next.mono {k k' : Nat} (hk' : k ≤ k') (a0 : Plan) (a1 : List ByteArray) : Le (walk_Next.f k a0 a1 ) (walk_Next.f k' a0 a1 ) := by
  simp only [walk_Next.f]
  repeat' (first | with_reducible exact Le.refl _ | apply walk_asked.mono (hk' := hk') | apply walk_setOf_string.mono (hk' := hk') | apply walk_next.mono (hk' := hk') | refine Le.cond ?_ ?_ | refine Le.bind ?_ (fun _ => ?_) | cases ‹Except _ _› | intro _)
/-! smithy/walk.Choose -/
set_option maxHeartbeats 4000000 in
set_option maxRecDepth 100000 in
theorem walk_Choose.l0.mono (a0 : Plan) (a1 : List Int) : ∀ {k k' : Nat}, k ≤ k' → ∀ s, Le (walk_Choose.l0 a0 a1 k s) (walk_Choose.l0 a0 a1 k' s) := by
  intro k
  induction k with
  | zero => exact fun _ s => Le.none _
  | succ k ih =>
    intro k' hk s
    cases k' with
    | zero => exact absurd hk (by omega)
    | succ k' =>
      have hk' := Nat.le_of_succ_le_succ hk
      simp only [walk_Choose.l0]
      repeat' (first | with_reducible exact Le.refl _ | exact ih hk' _ | apply walk_next.mono (hk' := hk') | refine Le.cond ?_ ?_ | refine Le.bind ?_ (fun _ => ?_) | cases ‹Except _ _› | intro _)
set_option maxHeartbeats 4000000 in
set_option maxRecDepth 100000 in
theorem walk_Choose.mono {k k' : Nat} (hk' : k ≤ k') (a0 : Plan) (a1 : List Int) : Le (walk_Choose.f k a0 a1 ) (walk_Choose.f k' a0 a1 ) := by
  simp only [walk_Choose.f]
  repeat' (first | with_reducible exact Le.refl _ | apply walk_asked.mono (hk' := hk') | apply walk_setOf_string.mono (hk' := hk') | refine walk_Choose.l0.mono _ _ hk' _ | refine Le.cond ?_ ?_ | refine Le.bind ?_ (fun _ => ?_) | cases ‹Except _ _› | intro _)
/-! smithy/smithyplain.Texts -/
set_option maxHeartbeats 4000000 in
set_option maxRecDepth 100000 in
theorem smithyplain_Texts.l0.mono (a0 : List ByteArray) (a1 : List ByteArray) : ∀ {k k' : Nat}, k ≤ k' → ∀ s, Le (smithyplain_Texts.l0 a0 a1 k s) (smithyplain_Texts.l0 a0 a1 k' s) := by
  intro k
  induction k with
  | zero => exact fun _ s => Le.none _
  | succ k ih =>
    intro k' hk s
    cases k' with
    | zero => exact absurd hk (by omega)
    | succ k' =>
      have hk' := Nat.le_of_succ_le_succ hk
      simp only [smithyplain_Texts.l0]
      repeat' (first | with_reducible exact Le.refl _ | exact ih hk' _ | refine Le.cond ?_ ?_ | refine Le.bind ?_ (fun _ => ?_) | cases ‹Except _ _› | intro _)
set_option maxHeartbeats 4000000 in
set_option maxRecDepth 100000 in
theorem smithyplain_Texts.mono {k k' : Nat} (hk' : k ≤ k') (a0 : List ByteArray) (a1 : List ByteArray) : Le (smithyplain_Texts.f k a0 a1 ) (smithyplain_Texts.f k' a0 a1 ) := by
  simp only [smithyplain_Texts.f]
  repeat' (first | with_reducible exact Le.refl _ | refine smithyplain_Texts.l0.mono _ _ hk' _ | refine Le.cond ?_ ?_ | refine Le.bind ?_ (fun _ => ?_) | cases ‹Except _ _› | intro _)
/-! smithy/smithylaw14.speaks -/
set_option maxHeartbeats 4000000 in
set_option maxRecDepth 100000 in
theorem smithylaw14_speaks.mono {k k' : Nat} (hk' : k ≤ k') : Le (smithylaw14_speaks.f k ) (smithylaw14_speaks.f k' ) := by
  simp only [smithylaw14_speaks.f]
  repeat' (first | with_reducible exact Le.refl _ | apply walk_Count.mono (hk' := hk') | apply walk_Next.mono (hk' := hk') | apply walk_Choose.mono (hk' := hk') | apply smithyplain_Texts.mono (hk' := hk') | refine Le.cond ?_ ?_ | refine Le.bind ?_ (fun _ => ?_) | cases ‹Except _ _› | intro _)
noncomputable def smithylaw14_speaks.v : Option Bool := lim (fun k => smithylaw14_speaks.f k )
theorem smithylaw14_speaks.tends : Tends (fun k => smithylaw14_speaks.f k ) (smithylaw14_speaks.v ) := tends_lim (fun hk => smithylaw14_speaks.mono hk )
/-! slices.Backward[[]smithy/api.Node,smithy/api.Node]$1 -/
set_option maxHeartbeats 4000000 in
set_option maxRecDepth 100000 in
theorem slices_Backward_api_Node_api_Node_1.l0.mono (c0 : List Node) : ∀ {k k' : Nat}, k ≤ k' → ∀ s, Le (slices_Backward_api_Node_api_Node_1.l0 c0 k s) (slices_Backward_api_Node_api_Node_1.l0 c0 k' s) := by
  intro k
  induction k with
  | zero => exact fun _ s => Le.none _
  | succ k ih =>
    intro k' hk s
    cases k' with
    | zero => exact absurd hk (by omega)
    | succ k' =>
      have hk' := Nat.le_of_succ_le_succ hk
      simp only [slices_Backward_api_Node_api_Node_1.l0]
      repeat' (first | with_reducible exact Le.refl _ | exact ih hk' _ | refine Le.cond ?_ ?_ | refine Le.bind ?_ (fun _ => ?_) | cases ‹Except _ _› | intro _)
noncomputable def slices_Backward_api_Node_api_Node_1.l0.v (c0 : List Node) (s : Int) : Option (List (Int × Node)) := lim (fun k => slices_Backward_api_Node_api_Node_1.l0 c0 k s)
theorem slices_Backward_api_Node_api_Node_1.l0.tends (c0 : List Node) (s : Int) : Tends (fun k => slices_Backward_api_Node_api_Node_1.l0 c0 k s) (slices_Backward_api_Node_api_Node_1.l0.v c0 s) := tends_lim (fun hk => slices_Backward_api_Node_api_Node_1.l0.mono c0 hk s)
set_option maxHeartbeats 4000000 in
set_option maxRecDepth 100000 in
theorem slices_Backward_api_Node_api_Node_1.l0.v_eq (c0 : List Node) (s1 : Int) : slices_Backward_api_Node_api_Node_1.l0.v c0 s1 = bif icmp .geq s1 (0 : Int) then ((idx c0 s1).bind fun x4 => (slices_Backward_api_Node_api_Node_1.l0.v c0 (IntKind.i64.wrap (s1 - (1 : Int)))).bind fun r6 => some ((s1, x4) :: r6)) else (some []) := (slices_Backward_api_Node_api_Node_1.l0.tends c0 s1).shift.uniq (by
  simp only [slices_Backward_api_Node_api_Node_1.l0]
  repeat' (first | with_reducible exact Tends.const _ | apply slices_Backward_api_Node_api_Node_1.l0.tends | refine Tends.cond ?_ ?_ | refine Tends.bind ?_ (fun _ => ?_) | cases ‹Except _ _› | intro _))
set_option maxHeartbeats 4000000 in
set_option maxRecDepth 100000 in
theorem slices_Backward_api_Node_api_Node_1.mono {k k' : Nat} (hk' : k ≤ k') (c0 : List Node) : Le (slices_Backward_api_Node_api_Node_1.f k c0 ) (slices_Backward_api_Node_api_Node_1.f k' c0 ) := by
  simp only [slices_Backward_api_Node_api_Node_1.f]
  repeat' (first | with_reducible exact Le.refl _ | refine slices_Backward_api_Node_api_Node_1.l0.mono _ hk' _ | refine Le.cond ?_ ?_ | refine Le.bind ?_ (fun _ => ?_) | cases ‹Except _ _› | intro _)
noncomputable def slices_Backward_api_Node_api_Node_1.v (c0 : List Node) : Option (List (Int × Node)) := lim (fun k => slices_Backward_api_Node_api_Node_1.f k c0 )
theorem slices_Backward_api_Node_api_Node_1.tends (c0 : List Node) : Tends (fun k => slices_Backward_api_Node_api_Node_1.f k c0 ) (slices_Backward_api_Node_api_Node_1.v c0 ) := tends_lim (fun hk => slices_Backward_api_Node_api_Node_1.mono hk c0 )
set_option maxHeartbeats 4000000 in
set_option maxRecDepth 100000 in
theorem slices_Backward_api_Node_api_Node_1.v_eq (c0 : List Node) : slices_Backward_api_Node_api_Node_1.v c0 = slices_Backward_api_Node_api_Node_1.l0.v c0 (IntKind.i64.wrap ((c0.length : Int) - (1 : Int))) := (slices_Backward_api_Node_api_Node_1.tends c0 ).uniq (by
  simp only [slices_Backward_api_Node_api_Node_1.f]
  repeat' (first | with_reducible exact Tends.const _ | apply slices_Backward_api_Node_api_Node_1.l0.tends | refine Tends.cond ?_ ?_ | refine Tends.bind ?_ (fun _ => ?_) | cases ‹Except _ _› | intro _))
/-! slices.Backward[[]smithy/api.Node,smithy/api.Node] -/
set_option maxHeartbeats 4000000 in
set_option maxRecDepth 100000 in
theorem slices_Backward_api_Node_api_Node.mono {k k' : Nat} (hk' : k ≤ k') (a0 : List Node) : Le (slices_Backward_api_Node_api_Node.f k a0 ) (slices_Backward_api_Node_api_Node.f k' a0 ) := by
  simp only [slices_Backward_api_Node_api_Node.f]
  repeat' (first | with_reducible exact Le.refl _ | apply slices_Backward_api_Node_api_Node_1.mono (hk' := hk') | refine Le.cond ?_ ?_ | refine Le.bind ?_ (fun _ => ?_) | cases ‹Except _ _› | intro _)
noncomputable def slices_Backward_api_Node_api_Node.v (a0 : List Node) : Option (List (Int × Node)) := lim (fun k => slices_Backward_api_Node_api_Node.f k a0 )
theorem slices_Backward_api_Node_api_Node.tends (a0 : List Node) : Tends (fun k => slices_Backward_api_Node_api_Node.f k a0 ) (slices_Backward_api_Node_api_Node.v a0 ) := tends_lim (fun hk => slices_Backward_api_Node_api_Node.mono hk a0 )
set_option maxHeartbeats 4000000 in
set_option maxRecDepth 100000 in
theorem slices_Backward_api_Node_api_Node.v_eq (a0 : List Node) : slices_Backward_api_Node_api_Node.v a0 = (slices_Backward_api_Node_api_Node_1.v a0).bind fun q1 => some q1 := (slices_Backward_api_Node_api_Node.tends a0 ).uniq (by
  simp only [slices_Backward_api_Node_api_Node.f]
  repeat' (first | with_reducible exact Tends.const _ | apply slices_Backward_api_Node_api_Node_1.tends | refine Tends.cond ?_ ?_ | refine Tends.bind ?_ (fun _ => ?_) | cases ‹Except _ _› | intro _))
/-! smithy/walk.below -/
set_option maxHeartbeats 4000000 in
set_option maxRecDepth 100000 in
theorem walk_below.l1.mono (x : Int × Node) : ∀ {k k' : Nat}, k ≤ k' → ∀ s, Le (walk_below.l1 x k s) (walk_below.l1 x k' s) := by
  intro k
  induction k with
  | zero => exact fun _ s => Le.none _
  | succ k ih =>
    intro k' hk s
    cases k' with
    | zero => exact absurd hk (by omega)
    | succ k' =>
      have hk' := Nat.le_of_succ_le_succ hk
      simp only [walk_below.l1]
      repeat' (first | with_reducible exact Le.refl _ | exact ih hk' _ | refine Le.cond ?_ ?_ | refine Le.bind ?_ (fun _ => ?_) | cases ‹Except _ _› | intro _)
noncomputable def walk_below.l1.v (x : Int × Node) (s : (GM Int) × Int) : Option (GM Int) := lim (fun k => walk_below.l1 x k s)
theorem walk_below.l1.tends (x : Int × Node) (s : (GM Int) × Int) : Tends (fun k => walk_below.l1 x k s) (walk_below.l1.v x s) := tends_lim (fun hk => walk_below.l1.mono x hk s)
set_option maxHeartbeats 4000000 in
set_option maxRecDepth 100000 in
theorem walk_below.l1.v_eq (x : Int × Node) (s17 : (GM Int) × Int) : walk_below.l1.v x s17 = bif icmp .lss s17.2 (x.2.Needs.length : Int) then ((idx x.2.Needs s17.2).bind fun x21 => (walk_set_string_put.f s17.1 x21).bind fun x23 => walk_below.l1.v x (x23, IntKind.i64.wrap (s17.2 + (1 : Int)))) else (some s17.1) := (walk_below.l1.tends x s17).shift.uniq (by
  simp only [walk_below.l1]
  repeat' (first | with_reducible exact Tends.const _ | apply walk_below.l1.tends | refine Tends.cond ?_ ?_ | refine Tends.bind ?_ (fun _ => ?_) | cases ‹Except _ _› | intro _))
set_option maxHeartbeats 4000000 in
set_option maxRecDepth 100000 in
theorem walk_below.l0.mono {k k' : Nat} (hk' : k ≤ k') (a1 : ByteArray) : ∀ r s, Le (walk_below.l0 k a1 r s) (walk_below.l0 k' a1 r s) := by
  intro r
  induction r with
  | nil => exact fun s => Le.refl _
  | cons x r ih =>
    intro s
    simp only [walk_below.l0]
    repeat' (first | exact ih _ | with_reducible exact Le.refl _ | refine walk_below.l1.mono _ hk' _ | refine Le.cond ?_ ?_ | refine Le.bind ?_ (fun _ => ?_) | cases ‹Except _ _› | intro _)
noncomputable def walk_below.l0.v (a1 : ByteArray) (r : List (Int × Node)) (s : (GM Int)) : Option (Except Empty (GM Int)) := lim (fun k => walk_below.l0 k a1 r s)
theorem walk_below.l0.tends (a1 : ByteArray) (r : List (Int × Node)) (s : (GM Int)) : Tends (fun k => walk_below.l0 k a1 r s) (walk_below.l0.v a1 r s) := tends_lim (fun hk => walk_below.l0.mono hk a1 r s)
theorem walk_below.l0.v_nil (a1 : ByteArray) (s : (GM Int)) : walk_below.l0.v a1 [] s = some (.ok s) := (walk_below.l0.tends a1 [] s).uniq (by
  simp only [walk_below.l0]
  exact Tends.const _)
set_option maxHeartbeats 4000000 in
set_option maxRecDepth 100000 in
theorem walk_below.l0.v_cons (a1 : ByteArray) (x : Int × Node) (r : List (Int × Node)) (s5 : (GM Int)) : walk_below.l0.v a1 (x :: r) s5 = ((bif scmp .neq x.2.Target a1 then ((walk_set_string_has.f (⟨s5⟩ : WalkSet_string_) x.2.Target).bind fun v14 => some (!v14)) else (some false)).bind fun s11 => bif s11 then (some s5) else ((walk_below.l1.v x (s5, (0 : Int))).bind fun s18 => some s18)).bind fun s9 => walk_below.l0.v a1 r s9 := (walk_below.l0.tends a1 (x :: r) s5).uniq (by
  simp only [walk_below.l0]
  repeat' (first | with_reducible exact Tends.const _ | apply walk_below.l1.tends | exact walk_below.l0.tends _ _ _ | refine Tends.cond ?_ ?_ | refine Tends.bind ?_ (fun _ => ?_) | cases ‹Except _ _› | intro _))
set_option maxHeartbeats 4000000 in
set_option maxRecDepth 100000 in
theorem walk_below.mono {k k' : Nat} (hk' : k ≤ k') (a0 : Plan) (a1 : ByteArray) : Le (walk_below.f k a0 a1 ) (walk_below.f k' a0 a1 ) := by
  simp only [walk_below.f]
  repeat' (first | with_reducible exact Le.refl _ | apply walk_setOf_string.mono (hk' := hk') | apply slices_Backward_api_Node_api_Node.mono (hk' := hk') | exact walk_below.l0.mono hk' _ _ _ | refine Le.cond ?_ ?_ | refine Le.bind ?_ (fun _ => ?_) | cases ‹Except _ _› | intro _)
noncomputable def walk_below.v (a0 : Plan) (a1 : ByteArray) : Option (GM Int) := lim (fun k => walk_below.f k a0 a1 )
theorem walk_below.tends (a0 : Plan) (a1 : ByteArray) : Tends (fun k => walk_below.f k a0 a1 ) (walk_below.v a0 a1 ) := tends_lim (fun hk => walk_below.mono hk a0 a1 )
set_option maxHeartbeats 4000000 in
set_option maxRecDepth 100000 in
theorem walk_below.v_eq (a0 : Plan) (a1 : ByteArray) : walk_below.v a0 a1 = (walk_setOf_string.v ([] : List ByteArray)).bind fun v1 => (slices_Backward_api_Node_api_Node.v a0.Nodes).bind fun v3 => (walk_below.l0.v a1 v3 v1).bind fun o7 => match o7 with | .error _ => none | .ok s5 => (some s5) := (walk_below.tends a0 a1 ).uniq (by
  simp only [walk_below.f]
  repeat' (first | with_reducible exact Tends.const _ | apply walk_setOf_string.tends | apply slices_Backward_api_Node_api_Node.tends | exact walk_below.l0.tends _ _ _ | refine Tends.cond ?_ ?_ | refine Tends.bind ?_ (fun _ => ?_) | cases ‹Except _ _› | intro _))
/-! smithy/walk.Apart -/
set_option maxHeartbeats 4000000 in
set_option maxRecDepth 100000 in
theorem walk_Apart.mono {k k' : Nat} (hk' : k ≤ k') (a0 : Plan) (a1 : ByteArray) (a2 : ByteArray) : Le (walk_Apart.f k a0 a1 a2 ) (walk_Apart.f k' a0 a1 a2 ) := by
  simp only [walk_Apart.f]
  repeat' (first | with_reducible exact Le.refl _ | apply walk_asked.mono (hk' := hk') | apply walk_below.mono (hk' := hk') | refine Le.cond ?_ ?_ | refine Le.bind ?_ (fun _ => ?_) | cases ‹Except _ _› | intro _)
noncomputable def walk_Apart.v (a0 : Plan) (a1 : ByteArray) (a2 : ByteArray) : Option (Bool × Int) := lim (fun k => walk_Apart.f k a0 a1 a2 )
theorem walk_Apart.tends (a0 : Plan) (a1 : ByteArray) (a2 : ByteArray) : Tends (fun k => walk_Apart.f k a0 a1 a2 ) (walk_Apart.v a0 a1 a2 ) := tends_lim (fun hk => walk_Apart.mono hk a0 a1 a2 )
set_option maxHeartbeats 4000000 in
set_option maxRecDepth 100000 in
theorem walk_Apart.v_eq (a0 : Plan) (a1 : ByteArray) (a2 : ByteArray) : walk_Apart.v a0 a1 a2 = (walk_asked.v a0 ([a1, a2])).bind fun v1 => bif icmp .neq v1 (0 : Int) then (some (false, v1)) else ((bif scmp .neq a1 a2 then ((walk_below.v a0 a1).bind fun v7 => (walk_set_string_has.f (⟨v7⟩ : WalkSet_string_) a2).bind fun v9 => bif !v9 then ((walk_below.v a0 a2).bind fun v12 => (walk_set_string_has.f (⟨v12⟩ : WalkSet_string_) a1).bind fun v14 => some (!v14)) else (some false)) else (some false)).bind fun s4 => some (s4, (0 : Int))) := (walk_Apart.tends a0 a1 a2 ).uniq (by
  simp only [walk_Apart.f]
  repeat' (first | with_reducible exact Tends.const _ | apply walk_asked.tends | apply walk_below.tends | refine Tends.cond ?_ ?_ | refine Tends.bind ?_ (fun _ => ?_) | cases ‹Except _ _› | intro _))
/-! smithy/smithylaw14.WalkSole -/
set_option maxHeartbeats 4000000 in
set_option maxRecDepth 100000 in
theorem smithylaw14_WalkSole.l1.mono (a0 : Plan) (s8 : Bool × Int) : ∀ {k k' : Nat}, k ≤ k' → ∀ s, Le (smithylaw14_WalkSole.l1 a0 s8 k s) (smithylaw14_WalkSole.l1 a0 s8 k' s) := by
  intro k
  induction k with
  | zero => exact fun _ s => Le.none _
  | succ k ih =>
    intro k' hk s
    cases k' with
    | zero => exact absurd hk (by omega)
    | succ k' =>
      have hk' := Nat.le_of_succ_le_succ hk
      simp only [smithylaw14_WalkSole.l1]
      repeat' (first | with_reducible exact Le.refl _ | exact ih hk' _ | apply walk_Apart.mono (hk' := hk') | refine Le.cond ?_ ?_ | refine Le.bind ?_ (fun _ => ?_) | cases ‹Except _ _› | intro _)
noncomputable def smithylaw14_WalkSole.l1.v (a0 : Plan) (s8 : Bool × Int) (s : Bool × Int) : Option (Except Bool Bool) := lim (fun k => smithylaw14_WalkSole.l1 a0 s8 k s)
theorem smithylaw14_WalkSole.l1.tends (a0 : Plan) (s8 : Bool × Int) (s : Bool × Int) : Tends (fun k => smithylaw14_WalkSole.l1 a0 s8 k s) (smithylaw14_WalkSole.l1.v a0 s8 s) := tends_lim (fun hk => smithylaw14_WalkSole.l1.mono a0 s8 hk s)
set_option maxHeartbeats 4000000 in
set_option maxRecDepth 100000 in
theorem smithylaw14_WalkSole.l1.v_eq (a0 : Plan) (s8 : Bool × Int) (s16 : Bool × Int) : smithylaw14_WalkSole.l1.v a0 s8 s16 = (bif icmp .lss s16.2 s8.2 then (some (!s16.1)) else (some false)).bind fun s20 => bif s20 then ((idx a0.Nodes s8.2).bind fun x24 => (idx a0.Nodes s16.2).bind fun x26 => (walk_Apart.v a0 x24.Target x26.Target).bind fun v28 => bif icmp .neq v28.2 (0 : Int) then (some (Except.error false)) else (smithylaw14_WalkSole.l1.v a0 s8 (v28.1, IntKind.i64.wrap (s16.2 + (1 : Int))))) else (some (Except.ok s16.1)) := (smithylaw14_WalkSole.l1.tends a0 s8 s16).shift.uniq (by
  simp only [smithylaw14_WalkSole.l1]
  repeat' (first | with_reducible exact Tends.const _ | apply walk_Apart.tends | apply smithylaw14_WalkSole.l1.tends | refine Tends.cond ?_ ?_ | refine Tends.bind ?_ (fun _ => ?_) | cases ‹Except _ _› | intro _))
set_option maxHeartbeats 4000000 in
set_option maxRecDepth 100000 in
theorem smithylaw14_WalkSole.l0.mono (a0 : Plan) : ∀ {k k' : Nat}, k ≤ k' → ∀ s, Le (smithylaw14_WalkSole.l0 a0 k s) (smithylaw14_WalkSole.l0 a0 k' s) := by
  intro k
  induction k with
  | zero => exact fun _ s => Le.none _
  | succ k ih =>
    intro k' hk s
    cases k' with
    | zero => exact absurd hk (by omega)
    | succ k' =>
      have hk' := Nat.le_of_succ_le_succ hk
      simp only [smithylaw14_WalkSole.l0]
      repeat' (first | with_reducible exact Le.refl _ | exact ih hk' _ | refine smithylaw14_WalkSole.l1.mono _ _ hk' _ | refine Le.cond ?_ ?_ | refine Le.bind ?_ (fun _ => ?_) | cases ‹Except _ _› | intro _)
noncomputable def smithylaw14_WalkSole.l0.v (a0 : Plan) (s : Bool × Int) : Option (Except Bool Bool) := lim (fun k => smithylaw14_WalkSole.l0 a0 k s)
theorem smithylaw14_WalkSole.l0.tends (a0 : Plan) (s : Bool × Int) : Tends (fun k => smithylaw14_WalkSole.l0 a0 k s) (smithylaw14_WalkSole.l0.v a0 s) := tends_lim (fun hk => smithylaw14_WalkSole.l0.mono a0 hk s)
set_option maxHeartbeats 4000000 in
set_option maxRecDepth 100000 in
theorem smithylaw14_WalkSole.l0.v_eq (a0 : Plan) (s8 : Bool × Int) : smithylaw14_WalkSole.l0.v a0 s8 = (bif icmp .lss s8.2 (a0.Nodes.length : Int) then (some (!s8.1)) else (some false)).bind fun s12 => bif s12 then ((smithylaw14_WalkSole.l1.v a0 s8 (s8.1, (0 : Int))).bind fun o19 => match o19 with | .error r' => some (Except.error r') | .ok s17 => (smithylaw14_WalkSole.l0.v a0 (s17, IntKind.i64.wrap (s8.2 + (1 : Int))))) else (some (Except.ok s8.1)) := (smithylaw14_WalkSole.l0.tends a0 s8).shift.uniq (by
  simp only [smithylaw14_WalkSole.l0]
  repeat' (first | with_reducible exact Tends.const _ | apply smithylaw14_WalkSole.l1.tends | apply smithylaw14_WalkSole.l0.tends | refine Tends.cond ?_ ?_ | refine Tends.bind ?_ (fun _ => ?_) | cases ‹Except _ _› | intro _))
set_option maxHeartbeats 4000000 in
set_option maxRecDepth 100000 in
theorem smithylaw14_WalkSole.mono {k k' : Nat} (hk' : k ≤ k') (a0 : Plan) : Le (smithylaw14_WalkSole.f k a0 ) (smithylaw14_WalkSole.f k' a0 ) := by
  simp only [smithylaw14_WalkSole.f]
  repeat' (first | with_reducible exact Le.refl _ | apply smithyref12_Check.mono (hk' := hk') | apply smithylaw14_speaks.mono (hk' := hk') | apply walk_Count.mono (hk' := hk') | refine smithylaw14_WalkSole.l0.mono _ hk' _ | refine Le.cond ?_ ?_ | refine Le.bind ?_ (fun _ => ?_) | cases ‹Except _ _› | intro _)
noncomputable def smithylaw14_WalkSole.v (a0 : Plan) : Option Bool := lim (fun k => smithylaw14_WalkSole.f k a0 )
theorem smithylaw14_WalkSole.tends (a0 : Plan) : Tends (fun k => smithylaw14_WalkSole.f k a0 ) (smithylaw14_WalkSole.v a0 ) := tends_lim (fun hk => smithylaw14_WalkSole.mono hk a0 )
set_option maxHeartbeats 4000000 in
set_option maxRecDepth 100000 in
theorem smithylaw14_WalkSole.v_eq (a0 : Plan) : smithylaw14_WalkSole.v a0 = (smithyref12_Check.v a0).bind fun v1 => bif icmp .neq v1 (0 : Int) then ((smithylaw14_speaks.v).bind fun v4 => some v4) else ((walk_Count.v a0 (2 : Int)).bind fun v6 => (smithylaw14_WalkSole.l0.v a0 (false, (0 : Int))).bind fun o11 => match o11 with | .error r' => some r' | .ok s9 => ((bif icmp .eql v6.2 (0 : Int) then (bif (icmp .eql v6.1 (2 : Int) == s9) then (bif (icmp .eql v6.1 (1 : Int) == !s9) then ((smithylaw14_speaks.v).bind fun v36 => some v36) else (some false)) else (some false)) else (some false)).bind fun s31 => some s31)) := (smithylaw14_WalkSole.tends a0 ).uniq (by
  simp only [smithylaw14_WalkSole.f]
  repeat' (first | with_reducible exact Tends.const _ | apply smithyref12_Check.tends | apply smithylaw14_speaks.tends | apply walk_Count.tends | apply smithylaw14_WalkSole.l0.tends | refine Tends.cond ?_ ?_ | refine Tends.bind ?_ (fun _ => ?_) | cases ‹Except _ _› | intro _))
end Go.Proofs.Ytedgkcdofiildaa.F
