import Derived.Test.YtlpmolohppoofaaVRx0
set_option linter.unusedVariables false
set_option linter.unusedSimpArgs false
set_option linter.unnecessarySimpa false
set_option linter.deprecated false
namespace Go.Proofs.Ytlpmolohppoofaa.F
open Go Go.RowKit Go.Proofs.Ytlpmolohppoofaa.Sl
/-! slices.Clone[[]string,string] -/

/-! smithy/graph.Reach -/
set_option maxHeartbeats 4000000 in
set_option maxRecDepth 100000 in
theorem graph_Reach.l0.mono (v4 : (GM (List ByteArray))) : ∀ {k k' : Nat}, k ≤ k' → ∀ s, Le (graph_Reach.l0 v4 k s) (graph_Reach.l0 v4 k' s) := by
  intro k
  induction k with
  | zero => exact fun _ s => Le.none _
  | succ k ih =>
    intro k' hk s
    cases k' with
    | zero => exact absurd hk (by omega)
    | succ k' =>
      have hk' := Nat.le_of_succ_le_succ hk
      simp only [graph_Reach.l0]
      repeat' (first | with_reducible exact Le.refl _ | exact ih hk' _ | refine Le.cond ?_ ?_ | refine Le.bind ?_ (fun _ => ?_) | cases ‹Except _ _› | intro _)
noncomputable def graph_Reach.l0.v (v4 : (GM (List ByteArray))) (s : (GM Int) × (List ByteArray) × (List ByteArray)) : Option (List ByteArray) := lim (fun k => graph_Reach.l0 v4 k s)
theorem graph_Reach.l0.tends (v4 : (GM (List ByteArray))) (s : (GM Int) × (List ByteArray) × (List ByteArray)) : Tends (fun k => graph_Reach.l0 v4 k s) (graph_Reach.l0.v v4 s) := tends_lim (fun hk => graph_Reach.l0.mono v4 hk s)
set_option maxHeartbeats 4000000 in
set_option maxRecDepth 100000 in
theorem graph_Reach.l0.v_eq (v4 : (GM (List ByteArray))) (s8 : (GM Int) × (List ByteArray) × (List ByteArray)) : graph_Reach.l0.v v4 s8 = bif icmp .gtr (s8.2.2.length : Int) (0 : Int) then ((idx s8.2.2 (IntKind.i64.wrap ((s8.2.2.length : Int) - (1 : Int)))).bind fun x12 => (inrow s8.2.2 (IntKind.i64.wrap ((s8.2.2.length : Int) - (1 : Int)))).bind fun z14 => (gget s8.1 (0 : Int) x12).bind fun x16 => bif icmp .eql x16 (0 : Int) then ((gput s8.1 x12 (1 : Int)).bind fun x19 => (app 16 s8.2.1 ([x12])).bind fun x21 => (gget v4 ([] : List ByteArray) x12).bind fun x23 => (app 16 (s8.2.2.take (IntKind.i64.wrap ((s8.2.2.length : Int) - (1 : Int))).toNat) x23).bind fun x25 => graph_Reach.l0.v v4 (x19, x21, x25)) else (graph_Reach.l0.v v4 (s8.1, s8.2.1, s8.2.2.take (IntKind.i64.wrap ((s8.2.2.length : Int) - (1 : Int))).toNat))) else (some s8.2.1) := (graph_Reach.l0.tends v4 s8).shift.uniq (by
  simp only [graph_Reach.l0]
  repeat' (first | with_reducible exact Tends.const _ | apply graph_Reach.l0.tends | refine Tends.cond ?_ ?_ | refine Tends.bind ?_ (fun _ => ?_) | cases ‹Except _ _› | intro _))
set_option maxHeartbeats 4000000 in
set_option maxRecDepth 100000 in
theorem graph_Reach.mono {k k' : Nat} (hk' : k ≤ k') (a0 : Make) (a1 : List ByteArray) : Le (graph_Reach.f k a0 a1 ) (graph_Reach.f k' a0 a1 ) := by
  simp only [graph_Reach.f]
  repeat' (first | with_reducible exact Le.refl _ | apply graph_asked.mono (hk' := hk') | apply graph_needs.mono (hk' := hk') | refine graph_Reach.l0.mono _ hk' _ | refine Le.cond ?_ ?_ | refine Le.bind ?_ (fun _ => ?_) | cases ‹Except _ _› | intro _)
noncomputable def graph_Reach.v (a0 : Make) (a1 : List ByteArray) : Option ((List ByteArray) × Int) := lim (fun k => graph_Reach.f k a0 a1 )
theorem graph_Reach.tends (a0 : Make) (a1 : List ByteArray) : Tends (fun k => graph_Reach.f k a0 a1 ) (graph_Reach.v a0 a1 ) := tends_lim (fun hk => graph_Reach.mono hk a0 a1 )
set_option maxHeartbeats 4000000 in
set_option maxRecDepth 100000 in
theorem graph_Reach.v_eq (a0 : Make) (a1 : List ByteArray) : graph_Reach.v a0 a1 = (graph_asked.v a0 a1).bind fun v1 => bif icmp .neq v1 (0 : Int) then (some (([] : List ByteArray), v1)) else ((graph_needs.v a0).bind fun v4 => (slices_Clone_string_string.f a1).bind fun v6 => (graph_Reach.l0.v v4 ((gempty : GM Int), ([] : List ByteArray), v6)).bind fun s9 => (slices_Sort_string_string.f s9).bind fun v27 => some (v27, (0 : Int))) := (graph_Reach.tends a0 a1 ).uniq (by
  simp only [graph_Reach.f]
  repeat' (first | with_reducible exact Tends.const _ | apply graph_asked.tends | apply graph_needs.tends | apply graph_Reach.l0.tends | refine Tends.cond ?_ ?_ | refine Tends.bind ?_ (fun _ => ?_) | cases ‹Except _ _› | intro _))
/-! smithy/smithyref10.Needs -/
set_option maxHeartbeats 4000000 in
set_option maxRecDepth 100000 in
theorem smithyref10_Needs.l0.mono (a0 : Make) (a1 : ByteArray) : ∀ {k k' : Nat}, k ≤ k' → ∀ s, Le (smithyref10_Needs.l0 a0 a1 k s) (smithyref10_Needs.l0 a0 a1 k' s) := by
  intro k
  induction k with
  | zero => exact fun _ s => Le.none _
  | succ k ih =>
    intro k' hk s
    cases k' with
    | zero => exact absurd hk (by omega)
    | succ k' =>
      have hk' := Nat.le_of_succ_le_succ hk
      simp only [smithyref10_Needs.l0]
      repeat' (first | with_reducible exact Le.refl _ | exact ih hk' _ | refine Le.cond ?_ ?_ | refine Le.bind ?_ (fun _ => ?_) | cases ‹Except _ _› | intro _)
noncomputable def smithyref10_Needs.l0.v (a0 : Make) (a1 : ByteArray) (s : Int) : Option (Except (List ByteArray) Unit) := lim (fun k => smithyref10_Needs.l0 a0 a1 k s)
theorem smithyref10_Needs.l0.tends (a0 : Make) (a1 : ByteArray) (s : Int) : Tends (fun k => smithyref10_Needs.l0 a0 a1 k s) (smithyref10_Needs.l0.v a0 a1 s) := tends_lim (fun hk => smithyref10_Needs.l0.mono a0 a1 hk s)
set_option maxHeartbeats 4000000 in
set_option maxRecDepth 100000 in
theorem smithyref10_Needs.l0.v_eq (a0 : Make) (a1 : ByteArray) (s1 : Int) : smithyref10_Needs.l0.v a0 a1 s1 = bif icmp .lss s1 (a0.Rules.length : Int) then ((idx a0.Rules s1).bind fun x6 => bif scmp .eql x6.Target a1 then ((idx a0.Rules s1).bind fun x9 => some (Except.error x9.Needs)) else (smithyref10_Needs.l0.v a0 a1 (IntKind.i64.wrap (s1 + (1 : Int))))) else (some (Except.ok ())) := (smithyref10_Needs.l0.tends a0 a1 s1).shift.uniq (by
  simp only [smithyref10_Needs.l0]
  repeat' (first | with_reducible exact Tends.const _ | apply smithyref10_Needs.l0.tends | refine Tends.cond ?_ ?_ | refine Tends.bind ?_ (fun _ => ?_) | cases ‹Except _ _› | intro _))
set_option maxHeartbeats 4000000 in
set_option maxRecDepth 100000 in
theorem smithyref10_Needs.mono {k k' : Nat} (hk' : k ≤ k') (a0 : Make) (a1 : ByteArray) : Le (smithyref10_Needs.f k a0 a1 ) (smithyref10_Needs.f k' a0 a1 ) := by
  simp only [smithyref10_Needs.f]
  repeat' (first | with_reducible exact Le.refl _ | refine smithyref10_Needs.l0.mono _ _ hk' _ | refine Le.cond ?_ ?_ | refine Le.bind ?_ (fun _ => ?_) | cases ‹Except _ _› | intro _)
noncomputable def smithyref10_Needs.v (a0 : Make) (a1 : ByteArray) : Option (List ByteArray) := lim (fun k => smithyref10_Needs.f k a0 a1 )
theorem smithyref10_Needs.tends (a0 : Make) (a1 : ByteArray) : Tends (fun k => smithyref10_Needs.f k a0 a1 ) (smithyref10_Needs.v a0 a1 ) := tends_lim (fun hk => smithyref10_Needs.mono hk a0 a1 )
set_option maxHeartbeats 4000000 in
set_option maxRecDepth 100000 in
theorem smithyref10_Needs.v_eq (a0 : Make) (a1 : ByteArray) : smithyref10_Needs.v a0 a1 = (smithyref10_Needs.l0.v a0 a1 (0 : Int)).bind fun o4 => match o4 with | .error r' => some r' | .ok s2 => (some ([] : List ByteArray)) := (smithyref10_Needs.tends a0 a1 ).uniq (by
  simp only [smithyref10_Needs.f]
  repeat' (first | with_reducible exact Tends.const _ | apply smithyref10_Needs.l0.tends | refine Tends.cond ?_ ?_ | refine Tends.bind ?_ (fun _ => ?_) | cases ‹Except _ _› | intro _))
/-! smithy/smithyref03.Has -/
set_option maxHeartbeats 4000000 in
set_option maxRecDepth 100000 in
theorem smithyref03_Has.l0.mono (a0 : List ByteArray) (a1 : ByteArray) : ∀ {k k' : Nat}, k ≤ k' → ∀ s, Le (smithyref03_Has.l0 a0 a1 k s) (smithyref03_Has.l0 a0 a1 k' s) := by
  intro k
  induction k with
  | zero => exact fun _ s => Le.none _
  | succ k ih =>
    intro k' hk s
    cases k' with
    | zero => exact absurd hk (by omega)
    | succ k' =>
      have hk' := Nat.le_of_succ_le_succ hk
      simp only [smithyref03_Has.l0]
      repeat' (first | with_reducible exact Le.refl _ | exact ih hk' _ | refine Le.cond ?_ ?_ | refine Le.bind ?_ (fun _ => ?_) | cases ‹Except _ _› | intro _)
noncomputable def smithyref03_Has.l0.v (a0 : List ByteArray) (a1 : ByteArray) (s : Int) : Option (Except Bool Unit) := lim (fun k => smithyref03_Has.l0 a0 a1 k s)
theorem smithyref03_Has.l0.tends (a0 : List ByteArray) (a1 : ByteArray) (s : Int) : Tends (fun k => smithyref03_Has.l0 a0 a1 k s) (smithyref03_Has.l0.v a0 a1 s) := tends_lim (fun hk => smithyref03_Has.l0.mono a0 a1 hk s)
set_option maxHeartbeats 4000000 in
set_option maxRecDepth 100000 in
theorem smithyref03_Has.l0.v_eq (a0 : List ByteArray) (a1 : ByteArray) (s1 : Int) : smithyref03_Has.l0.v a0 a1 s1 = bif icmp .lss s1 (a0.length : Int) then ((idx a0 s1).bind fun x6 => bif scmp .eql x6 a1 then (some (Except.error true)) else (smithyref03_Has.l0.v a0 a1 (IntKind.i64.wrap (s1 + (1 : Int))))) else (some (Except.ok ())) := (smithyref03_Has.l0.tends a0 a1 s1).shift.uniq (by
  simp only [smithyref03_Has.l0]
  repeat' (first | with_reducible exact Tends.const _ | apply smithyref03_Has.l0.tends | refine Tends.cond ?_ ?_ | refine Tends.bind ?_ (fun _ => ?_) | cases ‹Except _ _› | intro _))
set_option maxHeartbeats 4000000 in
set_option maxRecDepth 100000 in
theorem smithyref03_Has.mono {k k' : Nat} (hk' : k ≤ k') (a0 : List ByteArray) (a1 : ByteArray) : Le (smithyref03_Has.f k a0 a1 ) (smithyref03_Has.f k' a0 a1 ) := by
  simp only [smithyref03_Has.f]
  repeat' (first | with_reducible exact Le.refl _ | refine smithyref03_Has.l0.mono _ _ hk' _ | refine Le.cond ?_ ?_ | refine Le.bind ?_ (fun _ => ?_) | cases ‹Except _ _› | intro _)
noncomputable def smithyref03_Has.v (a0 : List ByteArray) (a1 : ByteArray) : Option Bool := lim (fun k => smithyref03_Has.f k a0 a1 )
theorem smithyref03_Has.tends (a0 : List ByteArray) (a1 : ByteArray) : Tends (fun k => smithyref03_Has.f k a0 a1 ) (smithyref03_Has.v a0 a1 ) := tends_lim (fun hk => smithyref03_Has.mono hk a0 a1 )
set_option maxHeartbeats 4000000 in
set_option maxRecDepth 100000 in
theorem smithyref03_Has.v_eq (a0 : List ByteArray) (a1 : ByteArray) : smithyref03_Has.v a0 a1 = (smithyref03_Has.l0.v a0 a1 (0 : Int)).bind fun o4 => match o4 with | .error r' => some r' | .ok s2 => (some false) := (smithyref03_Has.tends a0 a1 ).uniq (by
  simp only [smithyref03_Has.f]
  repeat' (first | with_reducible exact Tends.const _ | apply smithyref03_Has.l0.tends | refine Tends.cond ?_ ?_ | refine Tends.bind ?_ (fun _ => ?_) | cases ‹Except _ _› | intro _))
/-! smithy/smithylaw10.GraphRings -/
set_option maxHeartbeats 4000000 in
set_option maxRecDepth 100000 in
theorem smithylaw10_GraphRings.l0.mono (a0 : Make) (v1 : (List ByteArray) × Bool × Int) (v12 : (List ByteArray) × Int) : ∀ {k k' : Nat}, k ≤ k' → ∀ s, Le (smithylaw10_GraphRings.l0 a0 v1 v12 k s) (smithylaw10_GraphRings.l0 a0 v1 v12 k' s) := by
  intro k
  induction k with
  | zero => exact fun _ s => Le.none _
  | succ k ih =>
    intro k' hk s
    cases k' with
    | zero => exact absurd hk (by omega)
    | succ k' =>
      have hk' := Nat.le_of_succ_le_succ hk
      simp only [smithylaw10_GraphRings.l0]
      repeat' (first | with_reducible exact Le.refl _ | exact ih hk' _ | apply smithyref10_Needs.mono (hk' := hk') | apply smithyref03_Has.mono (hk' := hk') | refine Le.cond ?_ ?_ | refine Le.bind ?_ (fun _ => ?_) | cases ‹Except _ _› | intro _)
noncomputable def smithylaw10_GraphRings.l0.v (a0 : Make) (v1 : (List ByteArray) × Bool × Int) (v12 : (List ByteArray) × Int) (s : Int) : Option (Except Bool Unit) := lim (fun k => smithylaw10_GraphRings.l0 a0 v1 v12 k s)
theorem smithylaw10_GraphRings.l0.tends (a0 : Make) (v1 : (List ByteArray) × Bool × Int) (v12 : (List ByteArray) × Int) (s : Int) : Tends (fun k => smithylaw10_GraphRings.l0 a0 v1 v12 k s) (smithylaw10_GraphRings.l0.v a0 v1 v12 s) := tends_lim (fun hk => smithylaw10_GraphRings.l0.mono a0 v1 v12 hk s)
set_option maxHeartbeats 4000000 in
set_option maxRecDepth 100000 in
theorem smithylaw10_GraphRings.l0.v_eq (a0 : Make) (v1 : (List ByteArray) × Bool × Int) (v12 : (List ByteArray) × Int) (s18 : Int) : smithylaw10_GraphRings.l0.v a0 v1 v12 s18 = bif icmp .lss s18 (v1.1.length : Int) then ((idx v1.1 (0 : Int)).bind fun x23 => (bif icmp .lss (IntKind.i64.wrap (s18 + (1 : Int))) (v1.1.length : Int) then ((idx v1.1 (IntKind.i64.wrap (s18 + (1 : Int)))).bind fun x28 => some x28) else (some x23)).bind fun s25 => ((idx v1.1 s18).bind fun x32 => (smithyref10_Needs.v a0 x32).bind fun v34 => (smithyref03_Has.v v34 s25).bind fun v36 => bif !v36 then (some true) else ((idx v1.1 s18).bind fun x39 => (smithyref03_Has.v v12.1 x39).bind fun v41 => some (!v41))).bind fun s30 => bif s30 then (some (Except.error false)) else (smithylaw10_GraphRings.l0.v a0 v1 v12 (IntKind.i64.wrap (s18 + (1 : Int))))) else (some (Except.ok ())) := (smithylaw10_GraphRings.l0.tends a0 v1 v12 s18).shift.uniq (by
  simp only [smithylaw10_GraphRings.l0]
  repeat' (first | with_reducible exact Tends.const _ | apply smithyref10_Needs.tends | apply smithyref03_Has.tends | apply smithylaw10_GraphRings.l0.tends | refine Tends.cond ?_ ?_ | refine Tends.bind ?_ (fun _ => ?_) | cases ‹Except _ _› | intro _))
set_option maxHeartbeats 4000000 in
set_option maxRecDepth 100000 in
theorem smithylaw10_GraphRings.mono {k k' : Nat} (hk' : k ≤ k') (a0 : Make) (a1 : List ByteArray) : Le (smithylaw10_GraphRings.f k a0 a1 ) (smithylaw10_GraphRings.f k' a0 a1 ) := by
  simp only [smithylaw10_GraphRings.f]
  repeat' (first | with_reducible exact Le.refl _ | apply graph_Ring.mono (hk' := hk') | apply smithylaw10_speaks.mono (hk' := hk') | apply graph_Reach.mono (hk' := hk') | refine smithylaw10_GraphRings.l0.mono _ _ _ hk' _ | refine Le.cond ?_ ?_ | refine Le.bind ?_ (fun _ => ?_) | cases ‹Except _ _› | intro _)
noncomputable def smithylaw10_GraphRings.v (a0 : Make) (a1 : List ByteArray) : Option Bool := lim (fun k => smithylaw10_GraphRings.f k a0 a1 )
theorem smithylaw10_GraphRings.tends (a0 : Make) (a1 : List ByteArray) : Tends (fun k => smithylaw10_GraphRings.f k a0 a1 ) (smithylaw10_GraphRings.v a0 a1 ) := tends_lim (fun hk => smithylaw10_GraphRings.mono hk a0 a1 )
set_option maxHeartbeats 4000000 in
set_option maxRecDepth 100000 in
theorem smithylaw10_GraphRings.v_eq (a0 : Make) (a1 : List ByteArray) : smithylaw10_GraphRings.v a0 a1 = (graph_Ring.v a0 a1).bind fun v1 => (bif icmp .neq v1.2.2 (0 : Int) then (some true) else (some (!v1.2.1))).bind fun s3 => bif s3 then ((bif icmp .eql (v1.1.length : Int) (0 : Int) then ((smithylaw10_speaks.v).bind fun v10 => some v10) else (some false)).bind fun s7 => some s7) else ((graph_Reach.v a0 a1).bind fun v12 => (bif icmp .neq v12.2 (0 : Int) then (some true) else (some (icmp .eql (v1.1.length : Int) (0 : Int)))).bind fun s14 => bif s14 then (some false) else ((smithylaw10_GraphRings.l0.v a0 v1 v12 (0 : Int)).bind fun o21 => match o21 with | .error r' => some r' | .ok s19 => ((smithylaw10_speaks.v).bind fun v44 => some v44))) := (smithylaw10_GraphRings.tends a0 a1 ).uniq (by
  simp only [smithylaw10_GraphRings.f]
  repeat' (first | with_reducible exact Tends.const _ | apply graph_Ring.tends | apply smithylaw10_speaks.tends | apply graph_Reach.tends | apply smithylaw10_GraphRings.l0.tends | refine Tends.cond ?_ ?_ | refine Tends.bind ?_ (fun _ => ?_) | cases ‹Except _ _› | intro _))
end Go.Proofs.Ytlpmolohppoofaa.F
