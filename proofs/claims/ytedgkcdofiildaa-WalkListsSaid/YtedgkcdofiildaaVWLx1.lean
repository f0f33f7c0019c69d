import Derived.Test.YtedgkcdofiildaaVWLx0
set_option linter.unusedVariables false
set_option linter.unusedSimpArgs false
set_option linter.unnecessarySimpa false
set_option linter.deprecated false
namespace Go.Proofs.Ytedgkcdofiildaa.F
open Go Go.RowKit Go.Proofs.Ytedgkcdofiildaa.Sl
/-! smithy/smithyref02.List -/
set_option maxHeartbeats 4000000 in
set_option maxRecDepth 100000 in
theorem smithyref02_List.l0.mono (a0 : List ByteArray) : ∀ {k k' : Nat}, k ≤ k' → ∀ s, Le (smithyref02_List.l0 a0 k s) (smithyref02_List.l0 a0 k' s) := by
  intro k
  induction k with
  | zero => exact fun _ s => Le.none _
  | succ k ih =>
    intro k' hk s
    cases k' with
    | zero => exact absurd hk (by omega)
    | succ k' =>
      have hk' := Nat.le_of_succ_le_succ hk
      simp only [smithyref02_List.l0]
      repeat' (first | with_reducible exact Le.refl _ | exact ih hk' _ | apply smithyref02_Name.mono hk' | refine Le.cond ?_ ?_ | refine Le.bind ?_ (fun _ => ?_) | cases ‹Except _ _›)
noncomputable def smithyref02_List.l0.v (a0 : List ByteArray) (s : Int) : Option (Except Int Unit) := lim (fun k => smithyref02_List.l0 a0 k s)
theorem smithyref02_List.l0.tends (a0 : List ByteArray) (s : Int) : Tends (fun k => smithyref02_List.l0 a0 k s) (smithyref02_List.l0.v a0 s) := tends_lim (fun hk => smithyref02_List.l0.mono a0 hk s)
set_option maxHeartbeats 4000000 in
set_option maxRecDepth 100000 in
theorem smithyref02_List.l0.v_eq (a0 : List ByteArray) (s2 : Int) : smithyref02_List.l0.v a0 s2 = bif icmp .lss s2 (a0.length : Int) then ((idx a0 s2).bind fun x7 => (smithyref02_Name.v x7).bind fun v9 => bif !v9 then (some (Except.error (3 : Int))) else (smithyref02_List.l0.v a0 (IntKind.i64.wrap (s2 + (1 : Int))))) else (some (Except.ok ())) := (smithyref02_List.l0.tends a0 s2).shift.uniq (by
  simp only [smithyref02_List.l0]
  repeat' (first | with_reducible exact Tends.const _ | apply smithyref02_Name.tends | apply smithyref02_List.l0.tends | refine Tends.cond ?_ ?_ | refine Tends.bind ?_ (fun _ => ?_) | cases ‹Except _ _›))
set_option maxHeartbeats 4000000 in
set_option maxRecDepth 100000 in
theorem smithyref02_List.mono {k k' : Nat} (hk' : k ≤ k') (a0 : List ByteArray) : Le (smithyref02_List.f k a0 ) (smithyref02_List.f k' a0 ) := by
  simp only [smithyref02_List.f]
  repeat' (first | with_reducible exact Le.refl _ | apply smithyref02_List.l0.mono _ hk' | refine Le.cond ?_ ?_ | refine Le.bind ?_ (fun _ => ?_) | cases ‹Except _ _›)
noncomputable def smithyref02_List.v (a0 : List ByteArray) : Option Int := lim (fun k => smithyref02_List.f k a0 )
theorem smithyref02_List.tends (a0 : List ByteArray) : Tends (fun k => smithyref02_List.f k a0 ) (smithyref02_List.v a0 ) := tends_lim (fun hk => smithyref02_List.mono hk a0 )
set_option maxHeartbeats 4000000 in
set_option maxRecDepth 100000 in
theorem smithyref02_List.v_eq (a0 : List ByteArray) : smithyref02_List.v a0 = bif icmp .gtr (a0.length : Int) (512 : Int) then (some (2 : Int)) else ((smithyref02_List.l0.v a0 (0 : Int)).bind fun o5 => match o5 with | .error r' => some r' | .ok s3 => (some (0 : Int))) := (smithyref02_List.tends a0 ).uniq (by
  simp only [smithyref02_List.f]
  repeat' (first | with_reducible exact Tends.const _ | apply smithyref02_List.l0.tends | refine Tends.cond ?_ ?_ | refine Tends.bind ?_ (fun _ => ?_) | cases ‹Except _ _›))
/-! smithy/smithyref12.Place -/
set_option maxHeartbeats 4000000 in
set_option maxRecDepth 100000 in
theorem smithyref12_Place.l0.mono (a0 : Plan) (a1 : ByteArray) : ∀ {k k' : Nat}, k ≤ k' → ∀ s, Le (smithyref12_Place.l0 a0 a1 k s) (smithyref12_Place.l0 a0 a1 k' s) := by
  intro k
  induction k with
  | zero => exact fun _ s => Le.none _
  | succ k ih =>
    intro k' hk s
    cases k' with
    | zero => exact absurd hk (by omega)
    | succ k' =>
      have hk' := Nat.le_of_succ_le_succ hk
      simp only [smithyref12_Place.l0]
      repeat' (first | with_reducible exact Le.refl _ | exact ih hk' _ | refine Le.cond ?_ ?_ | refine Le.bind ?_ (fun _ => ?_) | cases ‹Except _ _›)
noncomputable def smithyref12_Place.l0.v (a0 : Plan) (a1 : ByteArray) (s : Int) : Option (Except Int Unit) := lim (fun k => smithyref12_Place.l0 a0 a1 k s)
theorem smithyref12_Place.l0.tends (a0 : Plan) (a1 : ByteArray) (s : Int) : Tends (fun k => smithyref12_Place.l0 a0 a1 k s) (smithyref12_Place.l0.v a0 a1 s) := tends_lim (fun hk => smithyref12_Place.l0.mono a0 a1 hk s)
set_option maxHeartbeats 4000000 in
set_option maxRecDepth 100000 in
theorem smithyref12_Place.l0.v_eq (a0 : Plan) (a1 : ByteArray) (s1 : Int) : smithyref12_Place.l0.v a0 a1 s1 = bif icmp .lss s1 (a0.Nodes.length : Int) then ((idx a0.Nodes s1).bind fun x6 => bif scmp .eql x6.Target a1 then (some (Except.error s1)) else (smithyref12_Place.l0.v a0 a1 (IntKind.i64.wrap (s1 + (1 : Int))))) else (some (Except.ok ())) := (smithyref12_Place.l0.tends a0 a1 s1).shift.uniq (by
  simp only [smithyref12_Place.l0]
  repeat' (first | with_reducible exact Tends.const _ | apply smithyref12_Place.l0.tends | refine Tends.cond ?_ ?_ | refine Tends.bind ?_ (fun _ => ?_) | cases ‹Except _ _›))
set_option maxHeartbeats 4000000 in
set_option maxRecDepth 100000 in
theorem smithyref12_Place.mono {k k' : Nat} (hk' : k ≤ k') (a0 : Plan) (a1 : ByteArray) : Le (smithyref12_Place.f k a0 a1 ) (smithyref12_Place.f k' a0 a1 ) := by
  simp only [smithyref12_Place.f]
  repeat' (first | with_reducible exact Le.refl _ | apply smithyref12_Place.l0.mono _ _ hk' | refine Le.cond ?_ ?_ | refine Le.bind ?_ (fun _ => ?_) | cases ‹Except _ _›)
noncomputable def smithyref12_Place.v (a0 : Plan) (a1 : ByteArray) : Option Int := lim (fun k => smithyref12_Place.f k a0 a1 )
theorem smithyref12_Place.tends (a0 : Plan) (a1 : ByteArray) : Tends (fun k => smithyref12_Place.f k a0 a1 ) (smithyref12_Place.v a0 a1 ) := tends_lim (fun hk => smithyref12_Place.mono hk a0 a1 )
set_option maxHeartbeats 4000000 in
set_option maxRecDepth 100000 in
theorem smithyref12_Place.v_eq (a0 : Plan) (a1 : ByteArray) : smithyref12_Place.v a0 a1 = (smithyref12_Place.l0.v a0 a1 (0 : Int)).bind fun o4 => match o4 with | .error r' => some r' | .ok s2 => (some (-1 : Int)) := (smithyref12_Place.tends a0 a1 ).uniq (by
  simp only [smithyref12_Place.f]
  repeat' (first | with_reducible exact Tends.const _ | apply smithyref12_Place.l0.tends | refine Tends.cond ?_ ?_ | refine Tends.bind ?_ (fun _ => ?_) | cases ‹Except _ _›))
/-! smithy/smithyref14.Fit -/
set_option maxHeartbeats 4000000 in
set_option maxRecDepth 100000 in
theorem smithyref14_Fit.l0.mono (a0 : Plan) (a1 : List ByteArray) : ∀ {k k' : Nat}, k ≤ k' → ∀ s, Le (smithyref14_Fit.l0 a0 a1 k s) (smithyref14_Fit.l0 a0 a1 k' s) := by
  intro k
  induction k with
  | zero => exact fun _ s => Le.none _
  | succ k ih =>
    intro k' hk s
    cases k' with
    | zero => exact absurd hk (by omega)
    | succ k' =>
      have hk' := Nat.le_of_succ_le_succ hk
      simp only [smithyref14_Fit.l0]
      repeat' (first | with_reducible exact Le.refl _ | exact ih hk' _ | apply smithyref12_Place.mono hk' | refine Le.cond ?_ ?_ | refine Le.bind ?_ (fun _ => ?_) | cases ‹Except _ _›)
noncomputable def smithyref14_Fit.l0.v (a0 : Plan) (a1 : List ByteArray) (s : Int) : Option (Except Int Unit) := lim (fun k => smithyref14_Fit.l0 a0 a1 k s)
theorem smithyref14_Fit.l0.tends (a0 : Plan) (a1 : List ByteArray) (s : Int) : Tends (fun k => smithyref14_Fit.l0 a0 a1 k s) (smithyref14_Fit.l0.v a0 a1 s) := tends_lim (fun hk => smithyref14_Fit.l0.mono a0 a1 hk s)
set_option maxHeartbeats 4000000 in
set_option maxRecDepth 100000 in
theorem smithyref14_Fit.l0.v_eq (a0 : Plan) (a1 : List ByteArray) (s7 : Int) : smithyref14_Fit.l0.v a0 a1 s7 = bif icmp .lss s7 (a1.length : Int) then ((idx a1 s7).bind fun x12 => (smithyref12_Place.v a0 x12).bind fun v14 => bif icmp .lss v14 (0 : Int) then (some (Except.error (9 : Int))) else (smithyref14_Fit.l0.v a0 a1 (IntKind.i64.wrap (s7 + (1 : Int))))) else (some (Except.ok ())) := (smithyref14_Fit.l0.tends a0 a1 s7).shift.uniq (by
  simp only [smithyref14_Fit.l0]
  repeat' (first | with_reducible exact Tends.const _ | apply smithyref12_Place.tends | apply smithyref14_Fit.l0.tends | refine Tends.cond ?_ ?_ | refine Tends.bind ?_ (fun _ => ?_) | cases ‹Except _ _›))
set_option maxHeartbeats 4000000 in
set_option maxRecDepth 100000 in
theorem smithyref14_Fit.mono {k k' : Nat} (hk' : k ≤ k') (a0 : Plan) (a1 : List ByteArray) : Le (smithyref14_Fit.f k a0 a1 ) (smithyref14_Fit.f k' a0 a1 ) := by
  simp only [smithyref14_Fit.f]
  repeat' (first | with_reducible exact Le.refl _ | apply smithyref12_Check.mono hk' | apply smithyref02_List.mono hk' | apply smithyref14_Fit.l0.mono _ _ hk' | refine Le.cond ?_ ?_ | refine Le.bind ?_ (fun _ => ?_) | cases ‹Except _ _›)
noncomputable def smithyref14_Fit.v (a0 : Plan) (a1 : List ByteArray) : Option Int := lim (fun k => smithyref14_Fit.f k a0 a1 )
theorem smithyref14_Fit.tends (a0 : Plan) (a1 : List ByteArray) : Tends (fun k => smithyref14_Fit.f k a0 a1 ) (smithyref14_Fit.v a0 a1 ) := tends_lim (fun hk => smithyref14_Fit.mono hk a0 a1 )
set_option maxHeartbeats 4000000 in
set_option maxRecDepth 100000 in
theorem smithyref14_Fit.v_eq (a0 : Plan) (a1 : List ByteArray) : smithyref14_Fit.v a0 a1 = (smithyref12_Check.v a0).bind fun v1 => bif icmp .neq v1 (0 : Int) then (some (7 : Int)) else ((smithyref02_List.v a1).bind fun v4 => bif icmp .neq v4 (0 : Int) then (some v4) else ((smithyref14_Fit.l0.v a0 a1 (0 : Int)).bind fun o10 => match o10 with | .error r' => some r' | .ok s8 => (some (0 : Int)))) := (smithyref14_Fit.tends a0 a1 ).uniq (by
  simp only [smithyref14_Fit.f]
  repeat' (first | with_reducible exact Tends.const _ | apply smithyref12_Check.tends | apply smithyref02_List.tends | apply smithyref14_Fit.l0.tends | refine Tends.cond ?_ ?_ | refine Tends.bind ?_ (fun _ => ?_) | cases ‹Except _ _›))
/-! smithy/smithylaw14.four -/

/-! smithy/walk.Count$1 -/
set_option maxHeartbeats 4000000 in
set_option maxRecDepth 100000 in
theorem walk_Count_1.l0.mono {self self' : Int → Int → GM Int → Option (Int × GM Int)} (hs : ∀ a b c, Le (self a b c) (self' a b c)) (most : Int) (a0 : Int) (v2 : (List ByteArray)) : ∀ {k k' : Nat}, k ≤ k' → ∀ s, Le (walk_Count_1.l0 most self a0 v2 k s) (walk_Count_1.l0 most self' a0 v2 k' s) := by
  intro k
  induction k with
  | zero => exact fun _ s => Le.none _
  | succ k ih =>
    intro k' hk s
    cases k' with
    | zero => exact absurd hk (by omega)
    | succ k' =>
      have hk' := Nat.le_of_succ_le_succ hk
      simp only [walk_Count_1.l0]
      repeat' (first | with_reducible exact Le.refl _ | exact hs _ _ _ | exact ih hk' _ | apply walk_next.mono hk' | refine Le.cond ?_ ?_ | refine Le.bind ?_ (fun _ => ?_) | cases ‹Except _ _›)
set_option maxHeartbeats 4000000 in
set_option maxRecDepth 100000 in
theorem walk_Count_1.gmono {self self' : Int → Int → GM Int → Option (Int × GM Int)} (hs : ∀ a b c, Le (self a b c) (self' a b c)) {k k' : Nat} (hk' : k ≤ k') (p : Plan) (most a0 n : Int) (m : GM Int) : Le (walk_Count_1.g self k p most a0 n m) (walk_Count_1.g self' k' p most a0 n m) := by
  simp only [walk_Count_1.g]
  repeat' (first | with_reducible exact Le.refl _ | exact hs _ _ _ | exact walk_Count_1.l0.mono hs _ _ _ hk' _ | apply walk_next.mono hk' | refine Le.cond ?_ ?_ | refine Le.bind ?_ (fun _ => ?_) | cases ‹Except _ _›)
theorem walk_Count_1.mono : ∀ {k k' : Nat} (_ : k ≤ k') (p : Plan) (most a0 n : Int) (m : GM Int), Le (walk_Count_1.f k p most a0 n m) (walk_Count_1.f k' p most a0 n m) := by
  intro k
  induction k with
  | zero => exact fun _ _ _ _ _ _ => Le.none _
  | succ k ih =>
    intro k' hk p most a0 n m
    cases k' with
    | zero => exact absurd hk (by omega)
    | succ k' =>
      have hk' := Nat.le_of_succ_le_succ hk
      exact walk_Count_1.gmono (fun x y z => ih hk' p most x y z) hk' p most a0 n m
noncomputable def walk_Count_1.v (p : Plan) (most a0 n : Int) (m : GM Int) : Option (Int × GM Int) := lim (fun k => walk_Count_1.f k p most a0 n m)
theorem walk_Count_1.tends (p : Plan) (most a0 n : Int) (m : GM Int) : Tends (fun k => walk_Count_1.f k p most a0 n m) (walk_Count_1.v p most a0 n m) := tends_lim (fun hk => walk_Count_1.mono hk p most a0 n m)
/-! smithy/walk.Count -/
set_option maxHeartbeats 4000000 in
set_option maxRecDepth 100000 in
theorem walk_Count.mono {k k' : Nat} (hk' : k ≤ k') (a0 : Plan) (a1 : Int) : Le (walk_Count.f k a0 a1 ) (walk_Count.f k' a0 a1 ) := by
  simp only [walk_Count.f]
  repeat' (first | with_reducible exact Le.refl _ | apply walk_asked.mono hk' | apply walk_setOf_string.mono hk' | apply walk_Count_1.mono hk' | refine Le.cond ?_ ?_ | refine Le.bind ?_ (fun _ => ?_) | cases ‹Except _ _›)
noncomputable def walk_Count.v (a0 : Plan) (a1 : Int) : Option (Int × Int) := lim (fun k => walk_Count.f k a0 a1 )
theorem walk_Count.tends (a0 : Plan) (a1 : Int) : Tends (fun k => walk_Count.f k a0 a1 ) (walk_Count.v a0 a1 ) := tends_lim (fun hk => walk_Count.mono hk a0 a1 )
set_option maxHeartbeats 4000000 in
set_option maxRecDepth 100000 in
theorem walk_Count.v_eq (a0 : Plan) (a1 : Int) : walk_Count.v a0 a1 = (walk_asked.v a0 ([] : List ByteArray)).bind fun v1 => bif icmp .neq v1 (0 : Int) then (some ((0 : Int), v1)) else ((bif icmp .lss a1 (1 : Int) then (some true) else (some (icmp .gtr a1 (10000 : Int)))).bind fun s4 => bif s4 then (some ((0 : Int), (1 : Int))) else ((walk_setOf_string.v ([] : List ByteArray)).bind fun v8 => (walk_Count_1.v a0 a1 (a0.Nodes.length : Int) (0 : Int) v8).bind fun v10 => some (v10.1, (0 : Int)))) := (walk_Count.tends a0 a1 ).uniq (by
  simp only [walk_Count.f]
  repeat' (first | with_reducible exact Tends.const _ | apply walk_asked.tends | apply walk_setOf_string.tends | apply walk_Count_1.tends | refine Tends.cond ?_ ?_ | refine Tends.bind ?_ (fun _ => ?_) | cases ‹Except _ _›))
/-! smithy/walk.Choose -/
set_option maxHeartbeats 4000000 in
set_option maxRecDepth 100000 in
theorem walk_Choose.l0.mono (a0 : Plan) (a1 : List Int) : ∀ {k k' : Nat}, k ≤ k' → ∀ s, Le (walk_Choose.l0 a0 a1 k s) (walk_Choose.l0 a0 a1 k' s) := by
  intro k
  induction k with
  | zero => exact fun _ s => Le.none _
  | succ k ih =>
    intro k' hk s
    cases k' with
    | zero => exact absurd hk (by omega)
    | succ k' =>
      have hk' := Nat.le_of_succ_le_succ hk
      simp only [walk_Choose.l0]
      repeat' (first | with_reducible exact Le.refl _ | exact ih hk' _ | apply walk_next.mono hk' | refine Le.cond ?_ ?_ | refine Le.bind ?_ (fun _ => ?_) | cases ‹Except _ _›)
noncomputable def walk_Choose.l0.v (a0 : Plan) (a1 : List Int) (s : (GM Int) × (List ByteArray) × Int) : Option (List ByteArray) := lim (fun k => walk_Choose.l0 a0 a1 k s)
theorem walk_Choose.l0.tends (a0 : Plan) (a1 : List Int) (s : (GM Int) × (List ByteArray) × Int) : Tends (fun k => walk_Choose.l0 a0 a1 k s) (walk_Choose.l0.v a0 a1 s) := tends_lim (fun hk => walk_Choose.l0.mono a0 a1 hk s)
set_option maxHeartbeats 4000000 in
set_option maxRecDepth 100000 in
theorem walk_Choose.l0.v_eq (a0 : Plan) (a1 : List Int) (s7 : (GM Int) × (List ByteArray) × Int) : walk_Choose.l0.v a0 a1 s7 = bif icmp .lss s7.2.2 (a1.length : Int) then ((idx a1 s7.2.2).bind fun x11 => (walk_next.v a0 (⟨s7.1⟩ : WalkSet_string_)).bind fun v13 => bif icmp .eql (v13.length : Int) (0 : Int) then (some s7.2.1) else ((divok (v13.length : Int)).bind fun z16 => (bif icmp .lss (Int.tmod x11 (v13.length : Int)) (0 : Int) then (some (IntKind.i64.wrap (Int.tmod x11 (v13.length : Int) + (v13.length : Int)))) else (some (Int.tmod x11 (v13.length : Int)))).bind fun s18 => (idx v13 s18).bind fun x21 => (app 16 s7.2.1 ([x21])).bind fun x23 => (idx v13 s18).bind fun x25 => (walk_set_string_put.f s7.1 x25).bind fun x27 => walk_Choose.l0.v a0 a1 (x27, x23, IntKind.i64.wrap (s7.2.2 + (1 : Int))))) else (some s7.2.1) := (walk_Choose.l0.tends a0 a1 s7).shift.uniq (by
  simp only [walk_Choose.l0]
  repeat' (first | with_reducible exact Tends.const _ | apply walk_next.tends | apply walk_Choose.l0.tends | refine Tends.cond ?_ ?_ | refine Tends.bind ?_ (fun _ => ?_) | cases ‹Except _ _›))
set_option maxHeartbeats 4000000 in
set_option maxRecDepth 100000 in
theorem walk_Choose.mono {k k' : Nat} (hk' : k ≤ k') (a0 : Plan) (a1 : List Int) : Le (walk_Choose.f k a0 a1 ) (walk_Choose.f k' a0 a1 ) := by
  simp only [walk_Choose.f]
  repeat' (first | with_reducible exact Le.refl _ | apply walk_asked.mono hk' | apply walk_setOf_string.mono hk' | apply walk_Choose.l0.mono _ _ hk' | refine Le.cond ?_ ?_ | refine Le.bind ?_ (fun _ => ?_) | cases ‹Except _ _›)
noncomputable def walk_Choose.v (a0 : Plan) (a1 : List Int) : Option ((List ByteArray) × Int) := lim (fun k => walk_Choose.f k a0 a1 )
theorem walk_Choose.tends (a0 : Plan) (a1 : List Int) : Tends (fun k => walk_Choose.f k a0 a1 ) (walk_Choose.v a0 a1 ) := tends_lim (fun hk => walk_Choose.mono hk a0 a1 )
set_option maxHeartbeats 4000000 in
set_option maxRecDepth 100000 in
theorem walk_Choose.v_eq (a0 : Plan) (a1 : List Int) : walk_Choose.v a0 a1 = (walk_asked.v a0 ([] : List ByteArray)).bind fun v1 => bif icmp .neq v1 (0 : Int) then (some (([] : List ByteArray), v1)) else (bif icmp .gtr (a1.length : Int) (256 : Int) then (some (([] : List ByteArray), (2 : Int))) else ((walk_setOf_string.v ([] : List ByteArray)).bind fun v5 => (walk_Choose.l0.v a0 a1 (v5, ([] : List ByteArray), (0 : Int))).bind fun s8 => some (s8, (0 : Int)))) := (walk_Choose.tends a0 a1 ).uniq (by
  simp only [walk_Choose.f]
  repeat' (first | with_reducible exact Tends.const _ | apply walk_asked.tends | apply walk_setOf_string.tends | apply walk_Choose.l0.tends | refine Tends.cond ?_ ?_ | refine Tends.bind ?_ (fun _ => ?_) | cases ‹Except _ _›))
/-! smithy/smithyplain.Texts -/
set_option maxHeartbeats 4000000 in
set_option maxRecDepth 100000 in
theorem smithyplain_Texts.l0.mono (a0 : List ByteArray) (a1 : List ByteArray) : ∀ {k k' : Nat}, k ≤ k' → ∀ s, Le (smithyplain_Texts.l0 a0 a1 k s) (smithyplain_Texts.l0 a0 a1 k' s) := by
  intro k
  induction k with
  | zero => exact fun _ s => Le.none _
  | succ k ih =>
    intro k' hk s
    cases k' with
    | zero => exact absurd hk (by omega)
    | succ k' =>
      have hk' := Nat.le_of_succ_le_succ hk
      simp only [smithyplain_Texts.l0]
      repeat' (first | with_reducible exact Le.refl _ | exact ih hk' _ | refine Le.cond ?_ ?_ | refine Le.bind ?_ (fun _ => ?_) | cases ‹Except _ _›)
noncomputable def smithyplain_Texts.l0.v (a0 : List ByteArray) (a1 : List ByteArray) (s : Int) : Option (Except Bool Unit) := lim (fun k => smithyplain_Texts.l0 a0 a1 k s)
theorem smithyplain_Texts.l0.tends (a0 : List ByteArray) (a1 : List ByteArray) (s : Int) : Tends (fun k => smithyplain_Texts.l0 a0 a1 k s) (smithyplain_Texts.l0.v a0 a1 s) := tends_lim (fun hk => smithyplain_Texts.l0.mono a0 a1 hk s)
set_option maxHeartbeats 4000000 in
set_option maxRecDepth 100000 in
theorem smithyplain_Texts.l0.v_eq (a0 : List ByteArray) (a1 : List ByteArray) (s2 : Int) : smithyplain_Texts.l0.v a0 a1 s2 = bif icmp .lss s2 (a0.length : Int) then ((idx a0 s2).bind fun x7 => (idx a1 s2).bind fun x9 => bif scmp .neq x7 x9 then (some (Except.error false)) else (smithyplain_Texts.l0.v a0 a1 (IntKind.i64.wrap (s2 + (1 : Int))))) else (some (Except.ok ())) := (smithyplain_Texts.l0.tends a0 a1 s2).shift.uniq (by
  simp only [smithyplain_Texts.l0]
  repeat' (first | with_reducible exact Tends.const _ | apply smithyplain_Texts.l0.tends | refine Tends.cond ?_ ?_ | refine Tends.bind ?_ (fun _ => ?_) | cases ‹Except _ _›))
set_option maxHeartbeats 4000000 in
set_option maxRecDepth 100000 in
theorem smithyplain_Texts.mono {k k' : Nat} (hk' : k ≤ k') (a0 : List ByteArray) (a1 : List ByteArray) : Le (smithyplain_Texts.f k a0 a1 ) (smithyplain_Texts.f k' a0 a1 ) := by
  simp only [smithyplain_Texts.f]
  repeat' (first | with_reducible exact Le.refl _ | apply smithyplain_Texts.l0.mono _ _ hk' | refine Le.cond ?_ ?_ | refine Le.bind ?_ (fun _ => ?_) | cases ‹Except _ _›)
noncomputable def smithyplain_Texts.v (a0 : List ByteArray) (a1 : List ByteArray) : Option Bool := lim (fun k => smithyplain_Texts.f k a0 a1 )
theorem smithyplain_Texts.tends (a0 : List ByteArray) (a1 : List ByteArray) : Tends (fun k => smithyplain_Texts.f k a0 a1 ) (smithyplain_Texts.v a0 a1 ) := tends_lim (fun hk => smithyplain_Texts.mono hk a0 a1 )
set_option maxHeartbeats 4000000 in
set_option maxRecDepth 100000 in
theorem smithyplain_Texts.v_eq (a0 : List ByteArray) (a1 : List ByteArray) : smithyplain_Texts.v a0 a1 = bif icmp .neq (a0.length : Int) (a1.length : Int) then (some false) else ((smithyplain_Texts.l0.v a0 a1 (0 : Int)).bind fun o5 => match o5 with | .error r' => some r' | .ok s3 => (some true)) := (smithyplain_Texts.tends a0 a1 ).uniq (by
  simp only [smithyplain_Texts.f]
  repeat' (first | with_reducible exact Tends.const _ | apply smithyplain_Texts.l0.tends | refine Tends.cond ?_ ?_ | refine Tends.bind ?_ (fun _ => ?_) | cases ‹Except _ _›))
/-! smithy/smithylaw14.speaks -/
set_option maxHeartbeats 4000000 in
set_option maxRecDepth 100000 in
theorem smithylaw14_speaks.mono {k k' : Nat} (hk' : k ≤ k') : Le (smithylaw14_speaks.f k ) (smithylaw14_speaks.f k' ) := by
  simp only [smithylaw14_speaks.f]
  repeat' (first | with_reducible exact Le.refl _ | apply walk_Count.mono hk' | apply walk_Next.mono hk' | apply walk_Choose.mono hk' | apply smithyplain_Texts.mono hk' | refine Le.cond ?_ ?_ | refine Le.bind ?_ (fun _ => ?_) | cases ‹Except _ _›)
noncomputable def smithylaw14_speaks.v : Option Bool := lim (fun k => smithylaw14_speaks.f k )
theorem smithylaw14_speaks.tends : Tends (fun k => smithylaw14_speaks.f k ) (smithylaw14_speaks.v ) := tends_lim (fun hk => smithylaw14_speaks.mono hk )
set_option maxHeartbeats 4000000 in
set_option maxRecDepth 100000 in
theorem smithylaw14_speaks.v_eq : smithylaw14_speaks.v = (smithylaw14_four.f).bind fun v1 => (walk_Count.v v1 (100 : Int)).bind fun v3 => (smithylaw14_four.f).bind fun v5 => (walk_Next.v v5 ([(⟨#[100]⟩ : ByteArray)])).bind fun v7 => (smithylaw14_four.f).bind fun v9 => (walk_Choose.v v9 ([(0 : Int), (1 : Int)])).bind fun v11 => (bif icmp .eql v3.1 (2 : Int) then (bif icmp .eql v3.2 (0 : Int) then ((smithyplain_Texts.v v7.1 ([(⟨#[98]⟩ : ByteArray), (⟨#[99]⟩ : ByteArray)])).bind fun v17 => bif v17 then (bif icmp .eql v7.2 (0 : Int) then ((smithyplain_Texts.v v11.1 ([(⟨#[100]⟩ : ByteArray), (⟨#[99]⟩ : ByteArray)])).bind fun v21 => bif v21 then (some (icmp .eql v11.2 (0 : Int))) else (some false)) else (some false)) else (some false)) else (some false)) else (some false)).bind fun s13 => some s13 := (smithylaw14_speaks.tends ).uniq (by
  simp only [smithylaw14_speaks.f]
  repeat' (first | with_reducible exact Tends.const _ | apply walk_Count.tends | apply walk_Next.tends | apply walk_Choose.tends | apply smithyplain_Texts.tends | refine Tends.cond ?_ ?_ | refine Tends.bind ?_ (fun _ => ?_) | cases ‹Except _ _›))
/-! smithy/smithyref14.ready -/
set_option maxHeartbeats 4000000 in
set_option maxRecDepth 100000 in
theorem smithyref14_ready.l0.mono (a0 : Node) (a1 : List ByteArray) : ∀ {k k' : Nat}, k ≤ k' → ∀ s, Le (smithyref14_ready.l0 a0 a1 k s) (smithyref14_ready.l0 a0 a1 k' s) := by
  intro k
  induction k with
  | zero => exact fun _ s => Le.none _
  | succ k ih =>
    intro k' hk s
    cases k' with
    | zero => exact absurd hk (by omega)
    | succ k' =>
      have hk' := Nat.le_of_succ_le_succ hk
      simp only [smithyref14_ready.l0]
      repeat' (first | with_reducible exact Le.refl _ | exact ih hk' _ | apply smithyref03_Has.mono hk' | refine Le.cond ?_ ?_ | refine Le.bind ?_ (fun _ => ?_) | cases ‹Except _ _›)
noncomputable def smithyref14_ready.l0.v (a0 : Node) (a1 : List ByteArray) (s : Int) : Option (Except Bool Unit) := lim (fun k => smithyref14_ready.l0 a0 a1 k s)
theorem smithyref14_ready.l0.tends (a0 : Node) (a1 : List ByteArray) (s : Int) : Tends (fun k => smithyref14_ready.l0 a0 a1 k s) (smithyref14_ready.l0.v a0 a1 s) := tends_lim (fun hk => smithyref14_ready.l0.mono a0 a1 hk s)
set_option maxHeartbeats 4000000 in
set_option maxRecDepth 100000 in
theorem smithyref14_ready.l0.v_eq (a0 : Node) (a1 : List ByteArray) (s1 : Int) : smithyref14_ready.l0.v a0 a1 s1 = bif icmp .lss s1 (a0.Needs.length : Int) then ((idx a0.Needs s1).bind fun x6 => (smithyref03_Has.v a1 x6).bind fun v8 => bif !v8 then (some (Except.error false)) else (smithyref14_ready.l0.v a0 a1 (IntKind.i64.wrap (s1 + (1 : Int))))) else (some (Except.ok ())) := (smithyref14_ready.l0.tends a0 a1 s1).shift.uniq (by
  simp only [smithyref14_ready.l0]
  repeat' (first | with_reducible exact Tends.const _ | apply smithyref03_Has.tends | apply smithyref14_ready.l0.tends | refine Tends.cond ?_ ?_ | refine Tends.bind ?_ (fun _ => ?_) | cases ‹Except _ _›))
set_option maxHeartbeats 4000000 in
set_option maxRecDepth 100000 in
theorem smithyref14_ready.mono {k k' : Nat} (hk' : k ≤ k') (a0 : Node) (a1 : List ByteArray) : Le (smithyref14_ready.f k a0 a1 ) (smithyref14_ready.f k' a0 a1 ) := by
  simp only [smithyref14_ready.f]
  repeat' (first | with_reducible exact Le.refl _ | apply smithyref14_ready.l0.mono _ _ hk' | refine Le.cond ?_ ?_ | refine Le.bind ?_ (fun _ => ?_) | cases ‹Except _ _›)
noncomputable def smithyref14_ready.v (a0 : Node) (a1 : List ByteArray) : Option Bool := lim (fun k => smithyref14_ready.f k a0 a1 )
theorem smithyref14_ready.tends (a0 : Node) (a1 : List ByteArray) : Tends (fun k => smithyref14_ready.f k a0 a1 ) (smithyref14_ready.v a0 a1 ) := tends_lim (fun hk => smithyref14_ready.mono hk a0 a1 )
set_option maxHeartbeats 4000000 in
set_option maxRecDepth 100000 in
theorem smithyref14_ready.v_eq (a0 : Node) (a1 : List ByteArray) : smithyref14_ready.v a0 a1 = (smithyref14_ready.l0.v a0 a1 (0 : Int)).bind fun o4 => match o4 with | .error r' => some r' | .ok s2 => (some true) := (smithyref14_ready.tends a0 a1 ).uniq (by
  simp only [smithyref14_ready.f]
  repeat' (first | with_reducible exact Tends.const _ | apply smithyref14_ready.l0.tends | refine Tends.cond ?_ ?_ | refine Tends.bind ?_ (fun _ => ?_) | cases ‹Except _ _›))
/-! smithy/smithyref14.Fits -/
set_option maxHeartbeats 4000000 in
set_option maxRecDepth 100000 in
theorem smithyref14_Fits.l0.mono (a0 : Plan) (a1 : List ByteArray) : ∀ {k k' : Nat}, k ≤ k' → ∀ s, Le (smithyref14_Fits.l0 a0 a1 k s) (smithyref14_Fits.l0 a0 a1 k' s) := by
  intro k
  induction k with
  | zero => exact fun _ s => Le.none _
  | succ k ih =>
    intro k' hk s
    cases k' with
    | zero => exact absurd hk (by omega)
    | succ k' =>
      have hk' := Nat.le_of_succ_le_succ hk
      simp only [smithyref14_Fits.l0]
      repeat' (first | with_reducible exact Le.refl _ | exact ih hk' _ | apply smithyref12_Place.mono hk' | apply smithyref03_Has.mono hk' | apply smithyref14_ready.mono hk' | refine Le.cond ?_ ?_ | refine Le.bind ?_ (fun _ => ?_) | cases ‹Except _ _›)
noncomputable def smithyref14_Fits.l0.v (a0 : Plan) (a1 : List ByteArray) (s : Int) : Option (Except (Bool × Bool) Unit) := lim (fun k => smithyref14_Fits.l0 a0 a1 k s)
theorem smithyref14_Fits.l0.tends (a0 : Plan) (a1 : List ByteArray) (s : Int) : Tends (fun k => smithyref14_Fits.l0 a0 a1 k s) (smithyref14_Fits.l0.v a0 a1 s) := tends_lim (fun hk => smithyref14_Fits.l0.mono a0 a1 hk s)
set_option maxHeartbeats 4000000 in
set_option maxRecDepth 100000 in
theorem smithyref14_Fits.l0.v_eq (a0 : Plan) (a1 : List ByteArray) (s1 : Int) : smithyref14_Fits.l0.v a0 a1 s1 = bif icmp .lss s1 (a1.length : Int) then ((idx a1 s1).bind fun x6 => (smithyref12_Place.v a0 x6).bind fun v8 => (idx a0.Nodes v8).bind fun x10 => ((sub a1 (0 : Int) s1).bind fun x14 => (idx a1 s1).bind fun x16 => (smithyref03_Has.v x14 x16).bind fun v18 => bif v18 then (some true) else ((sub a1 (0 : Int) s1).bind fun x21 => (smithyref14_ready.v x10 x21).bind fun v23 => some (!v23))).bind fun s12 => bif s12 then (some (Except.error (false, false))) else (smithyref14_Fits.l0.v a0 a1 (IntKind.i64.wrap (s1 + (1 : Int))))) else (some (Except.ok ())) := (smithyref14_Fits.l0.tends a0 a1 s1).shift.uniq (by
  simp only [smithyref14_Fits.l0]
  repeat' (first | with_reducible exact Tends.const _ | apply smithyref12_Place.tends | apply smithyref03_Has.tends | apply smithyref14_ready.tends | apply smithyref14_Fits.l0.tends | refine Tends.cond ?_ ?_ | refine Tends.bind ?_ (fun _ => ?_) | cases ‹Except _ _›))
set_option maxHeartbeats 4000000 in
set_option maxRecDepth 100000 in
theorem smithyref14_Fits.mono {k k' : Nat} (hk' : k ≤ k') (a0 : Plan) (a1 : List ByteArray) : Le (smithyref14_Fits.f k a0 a1 ) (smithyref14_Fits.f k' a0 a1 ) := by
  simp only [smithyref14_Fits.f]
  repeat' (first | with_reducible exact Le.refl _ | apply smithyref14_Fits.l0.mono _ _ hk' | refine Le.cond ?_ ?_ | refine Le.bind ?_ (fun _ => ?_) | cases ‹Except _ _›)
noncomputable def smithyref14_Fits.v (a0 : Plan) (a1 : List ByteArray) : Option (Bool × Bool) := lim (fun k => smithyref14_Fits.f k a0 a1 )
theorem smithyref14_Fits.tends (a0 : Plan) (a1 : List ByteArray) : Tends (fun k => smithyref14_Fits.f k a0 a1 ) (smithyref14_Fits.v a0 a1 ) := tends_lim (fun hk => smithyref14_Fits.mono hk a0 a1 )
set_option maxHeartbeats 4000000 in
set_option maxRecDepth 100000 in
theorem smithyref14_Fits.v_eq (a0 : Plan) (a1 : List ByteArray) : smithyref14_Fits.v a0 a1 = (smithyref14_Fits.l0.v a0 a1 (0 : Int)).bind fun o4 => match o4 with | .error r' => some r' | .ok s2 => (some (true, icmp .eql (a1.length : Int) (a0.Nodes.length : Int))) := (smithyref14_Fits.tends a0 a1 ).uniq (by
  simp only [smithyref14_Fits.f]
  repeat' (first | with_reducible exact Tends.const _ | apply smithyref14_Fits.l0.tends | refine Tends.cond ?_ ?_ | refine Tends.bind ?_ (fun _ => ?_) | cases ‹Except _ _›))
/-! smithy/smithyref14.Next -/
set_option maxHeartbeats 4000000 in
set_option maxRecDepth 100000 in
theorem smithyref14_Next.l0.mono (a0 : Plan) (a1 : List ByteArray) : ∀ {k k' : Nat}, k ≤ k' → ∀ s, Le (smithyref14_Next.l0 a0 a1 k s) (smithyref14_Next.l0 a0 a1 k' s) := by
  intro k
  induction k with
  | zero => exact fun _ s => Le.none _
  | succ k ih =>
    intro k' hk s
    cases k' with
    | zero => exact absurd hk (by omega)
    | succ k' =>
      have hk' := Nat.le_of_succ_le_succ hk
      simp only [smithyref14_Next.l0]
      repeat' (first | with_reducible exact Le.refl _ | exact ih hk' _ | apply smithyref03_Has.mono hk' | apply smithyref14_ready.mono hk' | refine Le.cond ?_ ?_ | refine Le.bind ?_ (fun _ => ?_) | cases ‹Except _ _›)
noncomputable def smithyref14_Next.l0.v (a0 : Plan) (a1 : List ByteArray) (s : (List ByteArray) × Int) : Option (List ByteArray) := lim (fun k => smithyref14_Next.l0 a0 a1 k s)
theorem smithyref14_Next.l0.tends (a0 : Plan) (a1 : List ByteArray) (s : (List ByteArray) × Int) : Tends (fun k => smithyref14_Next.l0 a0 a1 k s) (smithyref14_Next.l0.v a0 a1 s) := tends_lim (fun hk => smithyref14_Next.l0.mono a0 a1 hk s)
set_option maxHeartbeats 4000000 in
set_option maxRecDepth 100000 in
theorem smithyref14_Next.l0.v_eq (a0 : Plan) (a1 : List ByteArray) (s1 : (List ByteArray) × Int) : smithyref14_Next.l0.v a0 a1 s1 = bif icmp .lss s1.2 (a0.Nodes.length : Int) then ((((idx a0.Nodes s1.2).bind fun x9 => (smithyref03_Has.v a1 x9.Target).bind fun v11 => bif !v11 then ((idx a0.Nodes s1.2).bind fun x14 => (smithyref14_ready.v x14 a1).bind fun v16 => some v16) else (some false)).bind fun s7 => bif s7 then ((idx a0.Nodes s1.2).bind fun x19 => (app 16 s1.1 ([x19.Target])).bind fun x21 => some x21) else (some s1.1)).bind fun s5 => smithyref14_Next.l0.v a0 a1 (s5, IntKind.i64.wrap (s1.2 + (1 : Int)))) else (some s1.1) := (smithyref14_Next.l0.tends a0 a1 s1).shift.uniq (by
  simp only [smithyref14_Next.l0]
  repeat' (first | with_reducible exact Tends.const _ | apply smithyref03_Has.tends | apply smithyref14_ready.tends | apply smithyref14_Next.l0.tends | refine Tends.cond ?_ ?_ | refine Tends.bind ?_ (fun _ => ?_) | cases ‹Except _ _›))
set_option maxHeartbeats 4000000 in
set_option maxRecDepth 100000 in
theorem smithyref14_Next.mono {k k' : Nat} (hk' : k ≤ k') (a0 : Plan) (a1 : List ByteArray) : Le (smithyref14_Next.f k a0 a1 ) (smithyref14_Next.f k' a0 a1 ) := by
  simp only [smithyref14_Next.f]
  repeat' (first | with_reducible exact Le.refl _ | apply smithyref14_Next.l0.mono _ _ hk' | refine Le.cond ?_ ?_ | refine Le.bind ?_ (fun _ => ?_) | cases ‹Except _ _›)
noncomputable def smithyref14_Next.v (a0 : Plan) (a1 : List ByteArray) : Option (List ByteArray) := lim (fun k => smithyref14_Next.f k a0 a1 )
theorem smithyref14_Next.tends (a0 : Plan) (a1 : List ByteArray) : Tends (fun k => smithyref14_Next.f k a0 a1 ) (smithyref14_Next.v a0 a1 ) := tends_lim (fun hk => smithyref14_Next.mono hk a0 a1 )
set_option maxHeartbeats 4000000 in
set_option maxRecDepth 100000 in
theorem smithyref14_Next.v_eq (a0 : Plan) (a1 : List ByteArray) : smithyref14_Next.v a0 a1 = (smithyref14_Next.l0.v a0 a1 (([] : List ByteArray), (0 : Int))).bind fun s2 => some s2 := (smithyref14_Next.tends a0 a1 ).uniq (by
  simp only [smithyref14_Next.f]
  repeat' (first | with_reducible exact Tends.const _ | apply smithyref14_Next.l0.tends | refine Tends.cond ?_ ?_ | refine Tends.bind ?_ (fun _ => ?_) | cases ‹Except _ _›))
/-! smithy/smithylaw14.WalkLists -/
set_option maxHeartbeats 4000000 in
set_option maxRecDepth 100000 in
theorem smithylaw14_WalkLists.mono {k k' : Nat} (hk' : k ≤ k') (a0 : Plan) (a1 : List ByteArray) : Le (smithylaw14_WalkLists.f k a0 a1 ) (smithylaw14_WalkLists.f k' a0 a1 ) := by
  simp only [smithylaw14_WalkLists.f]
  repeat' (first | with_reducible exact Le.refl _ | apply walk_Fits.mono hk' | apply walk_Next.mono hk' | apply smithyref14_Fit.mono hk' | apply smithylaw14_speaks.mono hk' | apply smithyref14_Fits.mono hk' | apply smithyref14_Next.mono hk' | apply smithyplain_Texts.mono hk' | refine Le.cond ?_ ?_ | refine Le.bind ?_ (fun _ => ?_) | cases ‹Except _ _›)
noncomputable def smithylaw14_WalkLists.v (a0 : Plan) (a1 : List ByteArray) : Option Bool := lim (fun k => smithylaw14_WalkLists.f k a0 a1 )
theorem smithylaw14_WalkLists.tends (a0 : Plan) (a1 : List ByteArray) : Tends (fun k => smithylaw14_WalkLists.f k a0 a1 ) (smithylaw14_WalkLists.v a0 a1 ) := tends_lim (fun hk => smithylaw14_WalkLists.mono hk a0 a1 )
set_option maxHeartbeats 4000000 in
set_option maxRecDepth 100000 in
theorem smithylaw14_WalkLists.v_eq (a0 : Plan) (a1 : List ByteArray) : smithylaw14_WalkLists.v a0 a1 = (walk_Fits.v a0 a1).bind fun v1 => (walk_Next.v a0 a1).bind fun v3 => (smithyref14_Fit.v a0 a1).bind fun v5 => (bif icmp .neq v1.2.2 v5 then (some true) else (bif icmp .neq v3.2 v5 then (some true) else ((smithylaw14_speaks.v).bind fun v11 => some (!v11)))).bind fun s7 => bif s7 then (some false) else (bif icmp .neq v5 (0 : Int) then ((bif !v1.1 then (bif !v1.2.1 then (some (icmp .eql (v3.1.length : Int) (0 : Int))) else (some false)) else (some false)).bind fun s15 => some s15) else ((smithyref14_Fits.v a0 a1).bind fun v19 => (bif (v1.1 == v19.1) then (bif (v1.2.1 == v19.2) then ((smithyref14_Next.v a0 a1).bind fun v25 => (smithyplain_Texts.v v3.1 v25).bind fun v27 => some v27) else (some false)) else (some false)).bind fun s21 => some s21)) := (smithylaw14_WalkLists.tends a0 a1 ).uniq (by
  simp only [smithylaw14_WalkLists.f]
  repeat' (first | with_reducible exact Tends.const _ | apply walk_Fits.tends | apply walk_Next.tends | apply smithyref14_Fit.tends | apply smithylaw14_speaks.tends | apply smithyref14_Fits.tends | apply smithyref14_Next.tends | apply smithyplain_Texts.tends | refine Tends.cond ?_ ?_ | refine Tends.bind ?_ (fun _ => ?_) | cases ‹Except _ _›))
end Go.Proofs.Ytedgkcdofiildaa.F
