import Derived.Test.YtedgkcdofiildaaVPx0
set_option linter.unusedVariables false
set_option linter.unusedSimpArgs false
set_option linter.unnecessarySimpa false
set_option linter.deprecated false
namespace Go.Proofs.Ytedgkcdofiildaa.F
open Go Go.RowKit Go.Proofs.Ytedgkcdofiildaa.Sl
/-! smithy/smithyref14.Below -/
set_option maxHeartbeats 4000000 in
set_option maxRecDepth 100000 in
theorem smithyref14_Below.l0.mono (a0 : Plan) (v3 : (List Bool)) : ∀ {k k' : Nat}, k ≤ k' → ∀ s, Le (smithyref14_Below.l0 a0 v3 k s) (smithyref14_Below.l0 a0 v3 k' s) := by
  intro k
  induction k with
  | zero => exact fun _ s => Le.none _
  | succ k ih =>
    intro k' hk s
    cases k' with
    | zero => exact absurd hk (by omega)
    | succ k' =>
      have hk' := Nat.le_of_succ_le_succ hk
      simp only [smithyref14_Below.l0]
      repeat' (first | with_reducible exact Le.refl _ | exact ih hk' _ | refine Le.cond ?_ ?_ | refine Le.bind ?_ (fun _ => ?_) | cases ‹Except _ _› | intro _)
noncomputable def smithyref14_Below.l0.v (a0 : Plan) (v3 : (List Bool)) (s : (List ByteArray) × Int) : Option (List ByteArray) := lim (fun k => smithyref14_Below.l0 a0 v3 k s)
theorem smithyref14_Below.l0.tends (a0 : Plan) (v3 : (List Bool)) (s : (List ByteArray) × Int) : Tends (fun k => smithyref14_Below.l0 a0 v3 k s) (smithyref14_Below.l0.v a0 v3 s) := tends_lim (fun hk => smithyref14_Below.l0.mono a0 v3 hk s)
set_option maxHeartbeats 4000000 in
set_option maxRecDepth 100000 in
theorem smithyref14_Below.l0.v_eq (a0 : Plan) (v3 : (List Bool)) (s5 : (List ByteArray) × Int) : smithyref14_Below.l0.v a0 v3 s5 = bif icmp .lss s5.2 (v3.length : Int) then (((idx v3 s5.2).bind fun x11 => bif x11 then ((idx a0.Nodes s5.2).bind fun x14 => (app 16 s5.1 ([x14.Target])).bind fun x16 => some x16) else (some s5.1)).bind fun s9 => smithyref14_Below.l0.v a0 v3 (s9, IntKind.i64.wrap (s5.2 + (1 : Int)))) else (some s5.1) := (smithyref14_Below.l0.tends a0 v3 s5).shift.uniq (by
  simp only [smithyref14_Below.l0]
  repeat' (first | with_reducible exact Tends.const _ | apply smithyref14_Below.l0.tends | refine Tends.cond ?_ ?_ | refine Tends.bind ?_ (fun _ => ?_) | cases ‹Except _ _› | intro _))
set_option maxHeartbeats 4000000 in
set_option maxRecDepth 100000 in
theorem smithyref14_Below.mono {k k' : Nat} (hk' : k ≤ k') (a0 : Plan) (a1 : ByteArray) : Le (smithyref14_Below.f k a0 a1 ) (smithyref14_Below.f k' a0 a1 ) := by
  simp only [smithyref14_Below.f]
  repeat' (first | with_reducible exact Le.refl _ | apply smithyref12_Place.mono (hk' := hk') | apply smithyref14_set.mono (hk' := hk') | refine smithyref14_Below.l0.mono _ _ hk' _ | refine Le.cond ?_ ?_ | refine Le.bind ?_ (fun _ => ?_) | cases ‹Except _ _› | intro _)
noncomputable def smithyref14_Below.v (a0 : Plan) (a1 : ByteArray) : Option (List ByteArray) := lim (fun k => smithyref14_Below.f k a0 a1 )
theorem smithyref14_Below.tends (a0 : Plan) (a1 : ByteArray) : Tends (fun k => smithyref14_Below.f k a0 a1 ) (smithyref14_Below.v a0 a1 ) := tends_lim (fun hk => smithyref14_Below.mono hk a0 a1 )
set_option maxHeartbeats 4000000 in
set_option maxRecDepth 100000 in
theorem smithyref14_Below.v_eq (a0 : Plan) (a1 : ByteArray) : smithyref14_Below.v a0 a1 = (smithyref12_Place.v a0 a1).bind fun v1 => (smithyref14_set.v a0 v1).bind fun v3 => (smithyref14_Below.l0.v a0 v3 (([] : List ByteArray), (0 : Int))).bind fun s6 => some s6 := (smithyref14_Below.tends a0 a1 ).uniq (by
  simp only [smithyref14_Below.f]
  repeat' (first | with_reducible exact Tends.const _ | apply smithyref12_Place.tends | apply smithyref14_set.tends | apply smithyref14_Below.l0.tends | refine Tends.cond ?_ ?_ | refine Tends.bind ?_ (fun _ => ?_) | cases ‹Except _ _› | intro _))
/-! smithy/smithyref14.Above -/
set_option maxHeartbeats 4000000 in
set_option maxRecDepth 100000 in
theorem smithyref14_Above.l0.mono (a0 : Plan) (a1 : ByteArray) : ∀ {k k' : Nat}, k ≤ k' → ∀ s, Le (smithyref14_Above.l0 a0 a1 k s) (smithyref14_Above.l0 a0 a1 k' s) := by
  intro k
  induction k with
  | zero => exact fun _ s => Le.none _
  | succ k ih =>
    intro k' hk s
    cases k' with
    | zero => exact absurd hk (by omega)
    | succ k' =>
      have hk' := Nat.le_of_succ_le_succ hk
      simp only [smithyref14_Above.l0]
      repeat' (first | with_reducible exact Le.refl _ | exact ih hk' _ | apply smithyref14_set.mono (hk' := hk') | apply smithyref12_Place.mono (hk' := hk') | refine Le.cond ?_ ?_ | refine Le.bind ?_ (fun _ => ?_) | cases ‹Except _ _› | intro _)
noncomputable def smithyref14_Above.l0.v (a0 : Plan) (a1 : ByteArray) (s : (List ByteArray) × Int) : Option (List ByteArray) := lim (fun k => smithyref14_Above.l0 a0 a1 k s)
theorem smithyref14_Above.l0.tends (a0 : Plan) (a1 : ByteArray) (s : (List ByteArray) × Int) : Tends (fun k => smithyref14_Above.l0 a0 a1 k s) (smithyref14_Above.l0.v a0 a1 s) := tends_lim (fun hk => smithyref14_Above.l0.mono a0 a1 hk s)
set_option maxHeartbeats 4000000 in
set_option maxRecDepth 100000 in
theorem smithyref14_Above.l0.v_eq (a0 : Plan) (a1 : ByteArray) (s1 : (List ByteArray) × Int) : smithyref14_Above.l0.v a0 a1 s1 = bif icmp .lss s1.2 (a0.Nodes.length : Int) then (((smithyref14_set.v a0 s1.2).bind fun v7 => (smithyref12_Place.v a0 a1).bind fun v9 => (idx v7 v9).bind fun x11 => bif x11 then ((idx a0.Nodes s1.2).bind fun x14 => (app 16 s1.1 ([x14.Target])).bind fun x16 => some x16) else (some s1.1)).bind fun s5 => smithyref14_Above.l0.v a0 a1 (s5, IntKind.i64.wrap (s1.2 + (1 : Int)))) else (some s1.1) := (smithyref14_Above.l0.tends a0 a1 s1).shift.uniq (by
  simp only [smithyref14_Above.l0]
  repeat' (first | with_reducible exact Tends.const _ | apply smithyref14_set.tends | apply smithyref12_Place.tends | apply smithyref14_Above.l0.tends | refine Tends.cond ?_ ?_ | refine Tends.bind ?_ (fun _ => ?_) | cases ‹Except _ _› | intro _))
set_option maxHeartbeats 4000000 in
set_option maxRecDepth 100000 in
theorem smithyref14_Above.mono {k k' : Nat} (hk' : k ≤ k') (a0 : Plan) (a1 : ByteArray) : Le (smithyref14_Above.f k a0 a1 ) (smithyref14_Above.f k' a0 a1 ) := by
  simp only [smithyref14_Above.f]
  repeat' (first | with_reducible exact Le.refl _ | refine smithyref14_Above.l0.mono _ _ hk' _ | refine Le.cond ?_ ?_ | refine Le.bind ?_ (fun _ => ?_) | cases ‹Except _ _› | intro _)
noncomputable def smithyref14_Above.v (a0 : Plan) (a1 : ByteArray) : Option (List ByteArray) := lim (fun k => smithyref14_Above.f k a0 a1 )
theorem smithyref14_Above.tends (a0 : Plan) (a1 : ByteArray) : Tends (fun k => smithyref14_Above.f k a0 a1 ) (smithyref14_Above.v a0 a1 ) := tends_lim (fun hk => smithyref14_Above.mono hk a0 a1 )
set_option maxHeartbeats 4000000 in
set_option maxRecDepth 100000 in
theorem smithyref14_Above.v_eq (a0 : Plan) (a1 : ByteArray) : smithyref14_Above.v a0 a1 = (smithyref14_Above.l0.v a0 a1 (([] : List ByteArray), (0 : Int))).bind fun s2 => some s2 := (smithyref14_Above.tends a0 a1 ).uniq (by
  simp only [smithyref14_Above.f]
  repeat' (first | with_reducible exact Tends.const _ | apply smithyref14_Above.l0.tends | refine Tends.cond ?_ ?_ | refine Tends.bind ?_ (fun _ => ?_) | cases ‹Except _ _› | intro _))
/-! smithy/smithyref14.Apart -/
set_option maxHeartbeats 4000000 in
set_option maxRecDepth 100000 in
theorem smithyref14_Apart.mono {k k' : Nat} (hk' : k ≤ k') (a0 : Plan) (a1 : ByteArray) (a2 : ByteArray) : Le (smithyref14_Apart.f k a0 a1 a2 ) (smithyref14_Apart.f k' a0 a1 a2 ) := by
  simp only [smithyref14_Apart.f]
  repeat' (first | with_reducible exact Le.refl _ | apply smithyref12_Place.mono (hk' := hk') | apply smithyref14_set.mono (hk' := hk') | refine Le.cond ?_ ?_ | refine Le.bind ?_ (fun _ => ?_) | cases ‹Except _ _› | intro _)
noncomputable def smithyref14_Apart.v (a0 : Plan) (a1 : ByteArray) (a2 : ByteArray) : Option Bool := lim (fun k => smithyref14_Apart.f k a0 a1 a2 )
theorem smithyref14_Apart.tends (a0 : Plan) (a1 : ByteArray) (a2 : ByteArray) : Tends (fun k => smithyref14_Apart.f k a0 a1 a2 ) (smithyref14_Apart.v a0 a1 a2 ) := tends_lim (fun hk => smithyref14_Apart.mono hk a0 a1 a2 )
set_option maxHeartbeats 4000000 in
set_option maxRecDepth 100000 in
theorem smithyref14_Apart.v_eq (a0 : Plan) (a1 : ByteArray) (a2 : ByteArray) : smithyref14_Apart.v a0 a1 a2 = (smithyref12_Place.v a0 a1).bind fun v1 => (smithyref12_Place.v a0 a2).bind fun v3 => (bif scmp .neq a1 a2 then ((smithyref14_set.v a0 v1).bind fun v8 => (idx v8 v3).bind fun x10 => bif !x10 then ((smithyref14_set.v a0 v3).bind fun v13 => (idx v13 v1).bind fun x15 => some (!x15)) else (some false)) else (some false)).bind fun s5 => some s5 := (smithyref14_Apart.tends a0 a1 a2 ).uniq (by
  simp only [smithyref14_Apart.f]
  repeat' (first | with_reducible exact Tends.const _ | apply smithyref12_Place.tends | apply smithyref14_set.tends | refine Tends.cond ?_ ?_ | refine Tends.bind ?_ (fun _ => ?_) | cases ‹Except _ _› | intro _))
/-! smithy/smithylaw14.WalkPairs -/
set_option maxHeartbeats 4000000 in
set_option maxRecDepth 100000 in
theorem smithylaw14_WalkPairs.mono {k k' : Nat} (hk' : k ≤ k') (a0 : Plan) (a1 : ByteArray) (a2 : ByteArray) : Le (smithylaw14_WalkPairs.f k a0 a1 a2 ) (smithylaw14_WalkPairs.f k' a0 a1 a2 ) := by
  simp only [smithylaw14_WalkPairs.f]
  repeat' (first | with_reducible exact Le.refl _ | apply walk_Below.mono (hk' := hk') | apply walk_Above.mono (hk' := hk') | apply walk_Apart.mono (hk' := hk') | apply smithyref14_Fit.mono (hk' := hk') | apply smithyref12_Check.mono (hk' := hk') | apply smithyref02_Name.mono (hk' := hk') | apply smithylaw14_speaks.mono (hk' := hk') | apply smithyref14_Below.mono (hk' := hk') | apply smithyplain_Texts.mono (hk' := hk') | apply smithyref14_Above.mono (hk' := hk') | apply smithyref14_Apart.mono (hk' := hk') | refine Le.cond ?_ ?_ | refine Le.bind ?_ (fun _ => ?_) | cases ‹Except _ _› | intro _)
noncomputable def smithylaw14_WalkPairs.v (a0 : Plan) (a1 : ByteArray) (a2 : ByteArray) : Option Bool := lim (fun k => smithylaw14_WalkPairs.f k a0 a1 a2 )
theorem smithylaw14_WalkPairs.tends (a0 : Plan) (a1 : ByteArray) (a2 : ByteArray) : Tends (fun k => smithylaw14_WalkPairs.f k a0 a1 a2 ) (smithylaw14_WalkPairs.v a0 a1 a2 ) := tends_lim (fun hk => smithylaw14_WalkPairs.mono hk a0 a1 a2 )
set_option maxHeartbeats 4000000 in
set_option maxRecDepth 100000 in
theorem smithylaw14_WalkPairs.v_eq (a0 : Plan) (a1 : ByteArray) (a2 : ByteArray) : smithylaw14_WalkPairs.v a0 a1 a2 = (walk_Below.v a0 a1).bind fun v1 => (walk_Above.v a0 a1).bind fun v3 => (walk_Apart.v a0 a1 a2).bind fun v5 => (smithyref14_Fit.v a0 ([a1])).bind fun v7 => (smithyref12_Check.v a0).bind fun v9 => (bif icmp .eql v9 (0 : Int) then (((smithyref02_Name.v a1).bind fun v16 => bif v16 then ((smithyref02_Name.v a2).bind fun v19 => some (!v19)) else (some false)).bind fun s14 => bif s14 then (some (3 : Int)) else (bif icmp .eql v7 (0 : Int) then ((smithyref14_Fit.v a0 ([a2])).bind fun v23 => some v23) else (some v7))) else (some v7)).bind fun s11 => (bif icmp .neq v1.2 v7 then (some true) else (bif icmp .neq v3.2 v7 then (some true) else (bif icmp .neq v5.2 s11 then (some true) else ((smithylaw14_speaks.v).bind fun v30 => some (!v30))))).bind fun s25 => bif s25 then (some false) else (bif icmp .neq v7 (0 : Int) then ((bif icmp .eql (v1.1.length : Int) (0 : Int) then (bif icmp .eql (v3.1.length : Int) (0 : Int) then (some (!v5.1)) else (some false)) else (some false)).bind fun s34 => some s34) else (((smithyref14_Below.v a0 a1).bind fun v40 => (smithyplain_Texts.v v1.1 v40).bind fun v42 => bif !v42 then (some true) else ((smithyref14_Above.v a0 a1).bind fun v45 => (smithyplain_Texts.v v3.1 v45).bind fun v47 => some (!v47))).bind fun s38 => bif s38 then (some false) else (bif icmp .neq s11 (0 : Int) then (some (!v5.1)) else ((smithyref14_Apart.v a0 a1 a2).bind fun v51 => some (v5.1 == v51))))) := (smithylaw14_WalkPairs.tends a0 a1 a2 ).uniq (by
  simp only [smithylaw14_WalkPairs.f]
  repeat' (first | with_reducible exact Tends.const _ | apply walk_Below.tends | apply walk_Above.tends | apply walk_Apart.tends | apply smithyref14_Fit.tends | apply smithyref12_Check.tends | apply smithyref02_Name.tends | apply smithylaw14_speaks.tends | apply smithyref14_Below.tends | apply smithyplain_Texts.tends | apply smithyref14_Above.tends | apply smithyref14_Apart.tends | refine Tends.cond ?_ ?_ | refine Tends.bind ?_ (fun _ => ?_) | cases ‹Except _ _› | intro _))
/-! smithy/smithylaw14.WalkBelow -/
set_option maxHeartbeats 4000000 in
set_option maxRecDepth 100000 in
theorem smithylaw14_WalkBelow.mono {k k' : Nat} (hk' : k ≤ k') (a0 : Plan) (a1 : ByteArray) (a2 : ByteArray) : Le (smithylaw14_WalkBelow.f k a0 a1 a2 ) (smithylaw14_WalkBelow.f k' a0 a1 a2 ) := by
  simp only [smithylaw14_WalkBelow.f]
  repeat' (first | with_reducible exact Le.refl _ | apply smithyref14_Fit.mono (hk' := hk') | apply smithylaw14_speaks.mono (hk' := hk') | apply walk_Below.mono (hk' := hk') | apply walk_Above.mono (hk' := hk') | apply walk_Apart.mono (hk' := hk') | apply smithyref03_Has.mono (hk' := hk') | refine Le.cond ?_ ?_ | refine Le.bind ?_ (fun _ => ?_) | cases ‹Except _ _› | intro _)
noncomputable def smithylaw14_WalkBelow.v (a0 : Plan) (a1 : ByteArray) (a2 : ByteArray) : Option Bool := lim (fun k => smithylaw14_WalkBelow.f k a0 a1 a2 )
theorem smithylaw14_WalkBelow.tends (a0 : Plan) (a1 : ByteArray) (a2 : ByteArray) : Tends (fun k => smithylaw14_WalkBelow.f k a0 a1 a2 ) (smithylaw14_WalkBelow.v a0 a1 a2 ) := tends_lim (fun hk => smithylaw14_WalkBelow.mono hk a0 a1 a2 )
set_option maxHeartbeats 4000000 in
set_option maxRecDepth 100000 in
theorem smithylaw14_WalkBelow.v_eq (a0 : Plan) (a1 : ByteArray) (a2 : ByteArray) : smithylaw14_WalkBelow.v a0 a1 a2 = (smithyref14_Fit.v a0 ([a1, a2])).bind fun v1 => bif icmp .neq v1 (0 : Int) then ((smithylaw14_speaks.v).bind fun v4 => some v4) else ((walk_Below.v a0 a1).bind fun v6 => (walk_Above.v a0 a2).bind fun v8 => (walk_Below.v a0 a2).bind fun v10 => (walk_Apart.v a0 a1 a2).bind fun v12 => (bif icmp .neq v6.2 (0 : Int) then (some true) else (bif icmp .neq v8.2 (0 : Int) then (some true) else (bif icmp .neq v10.2 (0 : Int) then (some true) else (bif icmp .neq v12.2 (0 : Int) then (some true) else ((smithyref03_Has.v v6.1 a1).bind fun v20 => some v20))))).bind fun s14 => bif s14 then (some false) else (((smithyref03_Has.v v6.1 a2).bind fun v25 => (smithyref03_Has.v v8.1 a1).bind fun v27 => bif !(v25 == v27) then (some true) else ((smithyref03_Has.v v6.1 a2).bind fun v30 => bif v30 then ((smithyref03_Has.v v10.1 a1).bind fun v33 => some v33) else (some false))).bind fun s23 => bif s23 then (some false) else ((bif scmp .neq a1 a2 then ((smithyref03_Has.v v6.1 a2).bind fun v39 => bif !v39 then ((smithyref03_Has.v v10.1 a1).bind fun v42 => bif (v12.1 == !v42) then ((smithylaw14_speaks.v).bind fun v45 => some v45) else (some false)) else (bif (v12.1 == false) then ((smithylaw14_speaks.v).bind fun v48 => some v48) else (some false))) else (bif (v12.1 == false) then ((smithylaw14_speaks.v).bind fun v51 => some v51) else (some false))).bind fun s36 => some s36))) := (smithylaw14_WalkBelow.tends a0 a1 a2 ).uniq (by
  simp only [smithylaw14_WalkBelow.f]
  repeat' (first | with_reducible exact Tends.const _ | apply smithyref14_Fit.tends | apply smithylaw14_speaks.tends | apply walk_Below.tends | apply walk_Above.tends | apply walk_Apart.tends | apply smithyref03_Has.tends | refine Tends.cond ?_ ?_ | refine Tends.bind ?_ (fun _ => ?_) | cases ‹Except _ _› | intro _))
end Go.Proofs.Ytedgkcdofiildaa.F
