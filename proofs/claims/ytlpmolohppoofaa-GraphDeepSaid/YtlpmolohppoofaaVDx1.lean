import Derived.Test.YtlpmolohppoofaaVDx0
set_option linter.unusedVariables false
set_option linter.unusedSimpArgs false
set_option linter.unnecessarySimpa false
set_option linter.deprecated false
namespace Go.Proofs.Ytlpmolohppoofaa.F
open Go Go.RowKit Go.Proofs.Ytlpmolohppoofaa.Sl
/-! smithy/smithyref03.Has -/
set_option maxHeartbeats 4000000 in
set_option maxRecDepth 100000 in
theorem smithyref03_Has.l0.mono (a0 : List ByteArray) (a1 : ByteArray) : ∀ {k k' : Nat}, k ≤ k' → ∀ s, Le (smithyref03_Has.l0 a0 a1 k s) (smithyref03_Has.l0 a0 a1 k' s) := by
  intro k
  induction k with
  | zero => exact fun _ s => Le.none _
  | succ k ih =>
    intro k' hk s
    cases k' with
    | zero => exact absurd hk (by omega)
    | succ k' =>
      have hk' := Nat.le_of_succ_le_succ hk
      simp only [smithyref03_Has.l0]
      repeat' (first | with_reducible exact Le.refl _ | exact ih hk' _ | refine Le.cond ?_ ?_ | refine Le.bind ?_ (fun _ => ?_) | cases ‹Except _ _› | intro _)
noncomputable def smithyref03_Has.l0.v (a0 : List ByteArray) (a1 : ByteArray) (s : Int) : Option (Except Bool Unit) := lim (fun k => smithyref03_Has.l0 a0 a1 k s)
theorem smithyref03_Has.l0.tends (a0 : List ByteArray) (a1 : ByteArray) (s : Int) : Tends (fun k => smithyref03_Has.l0 a0 a1 k s) (smithyref03_Has.l0.v a0 a1 s) := tends_lim (fun hk => smithyref03_Has.l0.mono a0 a1 hk s)
set_option maxHeartbeats 4000000 in
set_option maxRecDepth 100000 in
theorem smithyref03_Has.l0.v_eq (a0 : List ByteArray) (a1 : ByteArray) (s1 : Int) : smithyref03_Has.l0.v a0 a1 s1 = bif icmp .lss s1 (a0.length : Int) then ((idx a0 s1).bind fun x6 => bif scmp .eql x6 a1 then (some (Except.error true)) else (smithyref03_Has.l0.v a0 a1 (IntKind.i64.wrap (s1 + (1 : Int))))) else (some (Except.ok ())) := (smithyref03_Has.l0.tends a0 a1 s1).shift.uniq (by
  simp only [smithyref03_Has.l0]
  repeat' (first | with_reducible exact Tends.const _ | apply smithyref03_Has.l0.tends | refine Tends.cond ?_ ?_ | refine Tends.bind ?_ (fun _ => ?_) | cases ‹Except _ _› | intro _))
set_option maxHeartbeats 4000000 in
set_option maxRecDepth 100000 in
theorem smithyref03_Has.mono {k k' : Nat} (hk' : k ≤ k') (a0 : List ByteArray) (a1 : ByteArray) : Le (smithyref03_Has.f k a0 a1 ) (smithyref03_Has.f k' a0 a1 ) := by
  simp only [smithyref03_Has.f]
  repeat' (first | with_reducible exact Le.refl _ | refine smithyref03_Has.l0.mono _ _ hk' _ | refine Le.cond ?_ ?_ | refine Le.bind ?_ (fun _ => ?_) | cases ‹Except _ _› | intro _)
noncomputable def smithyref03_Has.v (a0 : List ByteArray) (a1 : ByteArray) : Option Bool := lim (fun k => smithyref03_Has.f k a0 a1 )
theorem smithyref03_Has.tends (a0 : List ByteArray) (a1 : ByteArray) : Tends (fun k => smithyref03_Has.f k a0 a1 ) (smithyref03_Has.v a0 a1 ) := tends_lim (fun hk => smithyref03_Has.mono hk a0 a1 )
set_option maxHeartbeats 4000000 in
set_option maxRecDepth 100000 in
theorem smithyref03_Has.v_eq (a0 : List ByteArray) (a1 : ByteArray) : smithyref03_Has.v a0 a1 = (smithyref03_Has.l0.v a0 a1 (0 : Int)).bind fun o4 => match o4 with | .error r' => some r' | .ok s2 => (some false) := (smithyref03_Has.tends a0 a1 ).uniq (by
  simp only [smithyref03_Has.f]
  repeat' (first | with_reducible exact Tends.const _ | apply smithyref03_Has.l0.tends | refine Tends.cond ?_ ?_ | refine Tends.bind ?_ (fun _ => ?_) | cases ‹Except _ _› | intro _))
/-! smithy/smithylaw10.GraphDeep -/
set_option maxHeartbeats 4000000 in
set_option maxRecDepth 100000 in
theorem smithylaw10_GraphDeep.l0.mono (a0 : Make) (a1 : ByteArray) (v9 : (List ByteArray)) : ∀ {k k' : Nat}, k ≤ k' → ∀ s, Le (smithylaw10_GraphDeep.l0 a0 a1 v9 k s) (smithylaw10_GraphDeep.l0 a0 a1 v9 k' s) := by
  intro k
  induction k with
  | zero => exact fun _ s => Le.none _
  | succ k ih =>
    intro k' hk s
    cases k' with
    | zero => exact absurd hk (by omega)
    | succ k' =>
      have hk' := Nat.le_of_succ_le_succ hk
      simp only [smithylaw10_GraphDeep.l0]
      repeat' (first | with_reducible exact Le.refl _ | exact ih hk' _ | apply graph_Depth.mono (hk' := hk') | apply graph_Users.mono (hk' := hk') | apply smithyref03_Has.mono (hk' := hk') | refine Le.cond ?_ ?_ | refine Le.bind ?_ (fun _ => ?_) | cases ‹Except _ _› | intro _)
noncomputable def smithylaw10_GraphDeep.l0.v (a0 : Make) (a1 : ByteArray) (v9 : (List ByteArray)) (s : Int × Int) : Option (Except Bool Int) := lim (fun k => smithylaw10_GraphDeep.l0 a0 a1 v9 k s)
theorem smithylaw10_GraphDeep.l0.tends (a0 : Make) (a1 : ByteArray) (v9 : (List ByteArray)) (s : Int × Int) : Tends (fun k => smithylaw10_GraphDeep.l0 a0 a1 v9 k s) (smithylaw10_GraphDeep.l0.v a0 a1 v9 s) := tends_lim (fun hk => smithylaw10_GraphDeep.l0.mono a0 a1 v9 hk s)
set_option maxHeartbeats 4000000 in
set_option maxRecDepth 100000 in
theorem smithylaw10_GraphDeep.l0.v_eq (a0 : Make) (a1 : ByteArray) (v9 : (List ByteArray)) (s11 : Int × Int) : smithylaw10_GraphDeep.l0.v a0 a1 v9 s11 = bif icmp .lss s11.2 (v9.length : Int) then (((idx v9 s11.2).bind fun x19 => (graph_Depth.v a0 x19).bind fun v21 => (idx v9 s11.2).bind fun x23 => (graph_Users.v a0 x23).bind fun v25 => (bif icmp .neq v21.2 (0 : Int) then (some true) else (bif icmp .neq v25.2 (0 : Int) then (some true) else ((smithyref03_Has.v v25.1 a1).bind fun v31 => some (!v31)))).bind fun s27 => bif s27 then (some (Except.error false)) else (bif icmp .gtr (IntKind.i64.wrap (v21.1 + (1 : Int))) s11.1 then (some (Except.ok (IntKind.i64.wrap (v21.1 + (1 : Int))))) else (some (Except.ok s11.1)))).bind fun o18 => match o18 with | .error r' => some (Except.error r') | .ok s16 => (smithylaw10_GraphDeep.l0.v a0 a1 v9 (s16, IntKind.i64.wrap (s11.2 + (1 : Int))))) else (some (Except.ok s11.1)) := (smithylaw10_GraphDeep.l0.tends a0 a1 v9 s11).shift.uniq (by
  simp only [smithylaw10_GraphDeep.l0]
  repeat' (first | with_reducible exact Tends.const _ | apply graph_Depth.tends | apply graph_Users.tends | apply smithyref03_Has.tends | apply smithylaw10_GraphDeep.l0.tends | refine Tends.cond ?_ ?_ | refine Tends.bind ?_ (fun _ => ?_) | cases ‹Except _ _› | intro _))
set_option maxHeartbeats 4000000 in
set_option maxRecDepth 100000 in
theorem smithylaw10_GraphDeep.mono {k k' : Nat} (hk' : k ≤ k') (a0 : Make) (a1 : ByteArray) : Le (smithylaw10_GraphDeep.f k a0 a1 ) (smithylaw10_GraphDeep.f k' a0 a1 ) := by
  simp only [smithylaw10_GraphDeep.f]
  repeat' (first | with_reducible exact Le.refl _ | apply graph_Depth.mono (hk' := hk') | apply smithylaw10_speaks.mono (hk' := hk') | apply smithyref10_Needs.mono (hk' := hk') | refine smithylaw10_GraphDeep.l0.mono _ _ _ hk' _ | refine Le.cond ?_ ?_ | refine Le.bind ?_ (fun _ => ?_) | cases ‹Except _ _› | intro _)
noncomputable def smithylaw10_GraphDeep.v (a0 : Make) (a1 : ByteArray) : Option Bool := lim (fun k => smithylaw10_GraphDeep.f k a0 a1 )
theorem smithylaw10_GraphDeep.tends (a0 : Make) (a1 : ByteArray) : Tends (fun k => smithylaw10_GraphDeep.f k a0 a1 ) (smithylaw10_GraphDeep.v a0 a1 ) := tends_lim (fun hk => smithylaw10_GraphDeep.mono hk a0 a1 )
set_option maxHeartbeats 4000000 in
set_option maxRecDepth 100000 in
theorem smithylaw10_GraphDeep.v_eq (a0 : Make) (a1 : ByteArray) : smithylaw10_GraphDeep.v a0 a1 = (graph_Depth.v a0 a1).bind fun v1 => bif icmp .neq v1.2 (0 : Int) then ((bif icmp .eql v1.1 (0 : Int) then ((smithylaw10_speaks.v).bind fun v7 => some v7) else (some false)).bind fun s4 => some s4) else ((smithyref10_Needs.v a0 a1).bind fun v9 => (smithylaw10_GraphDeep.l0.v a0 a1 v9 ((0 : Int), (0 : Int))).bind fun o14 => match o14 with | .error r' => some r' | .ok s12 => ((bif icmp .eql v1.1 s12 then ((smithylaw10_speaks.v).bind fun v38 => some v38) else (some false)).bind fun s35 => some s35)) := (smithylaw10_GraphDeep.tends a0 a1 ).uniq (by
  simp only [smithylaw10_GraphDeep.f]
  repeat' (first | with_reducible exact Tends.const _ | apply graph_Depth.tends | apply smithylaw10_speaks.tends | apply smithyref10_Needs.tends | apply smithylaw10_GraphDeep.l0.tends | refine Tends.cond ?_ ?_ | refine Tends.bind ?_ (fun _ => ?_) | cases ‹Except _ _› | intro _))
end Go.Proofs.Ytlpmolohppoofaa.F
