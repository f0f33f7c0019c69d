import Derived.Test.YtoemgemfgaooeaaFIx6
set_option linter.unusedVariables false
set_option linter.unusedSimpArgs false
set_option linter.unnecessarySimpa false
set_option linter.deprecated false
namespace Go.Proofs.Ytoemgemfgaooeaa.F
open Go Go.RowKit Go.Proofs.Ytoemgemfgaooeaa.Sl
/-! smithy/names.letter -/

/-! smithy/names.Check -/
set_option maxHeartbeats 4000000 in
set_option maxRecDepth 100000 in
theorem names_Check.l0.mono (a0 : ByteArray) : ∀ {k k' : Nat}, k ≤ k' → ∀ s, Le (names_Check.l0 a0 k s) (names_Check.l0 a0 k' s) := by
  intro k
  induction k with
  | zero => exact fun _ s => Le.none _
  | succ k ih =>
    intro k' hk s
    cases k' with
    | zero => exact absurd hk (by omega)
    | succ k' =>
      have hk' := Nat.le_of_succ_le_succ hk
      simp only [names_Check.l0]
      repeat' (first | with_reducible exact Le.refl _ | exact ih hk' _ | refine Le.cond ?_ ?_ | refine Le.bind ?_ (fun _ => ?_) | cases ‹Except _ _› | intro _)
noncomputable def names_Check.l0.v (a0 : ByteArray) (s : Int) : Option (Except Int Unit) := lim (fun k => names_Check.l0 a0 k s)
theorem names_Check.l0.tends (a0 : ByteArray) (s : Int) : Tends (fun k => names_Check.l0 a0 k s) (names_Check.l0.v a0 s) := tends_lim (fun hk => names_Check.l0.mono a0 hk s)
set_option maxHeartbeats 4000000 in
set_option maxRecDepth 100000 in
theorem names_Check.l0.v_eq (a0 : ByteArray) (s5 : Int) : names_Check.l0.v a0 s5 = bif icmp .lss s5 (a0.size : Int) then ((bidx a0 s5).bind fun x10 => (names_letter.f x10).bind fun v12 => bif !v12 then (some (Except.error (3 : Int))) else (names_Check.l0.v a0 (IntKind.i64.wrap (s5 + (1 : Int))))) else (some (Except.ok ())) := (names_Check.l0.tends a0 s5).shift.uniq (by
  simp only [names_Check.l0]
  repeat' (first | with_reducible exact Tends.const _ | apply names_Check.l0.tends | refine Tends.cond ?_ ?_ | refine Tends.bind ?_ (fun _ => ?_) | cases ‹Except _ _› | intro _))
set_option maxHeartbeats 4000000 in
set_option maxRecDepth 100000 in
theorem names_Check.mono {k k' : Nat} (hk' : k ≤ k') (a0 : ByteArray) : Le (names_Check.f k a0 ) (names_Check.f k' a0 ) := by
  simp only [names_Check.f]
  repeat' (first | with_reducible exact Le.refl _ | refine names_Check.l0.mono _ hk' _ | refine Le.cond ?_ ?_ | refine Le.bind ?_ (fun _ => ?_) | cases ‹Except _ _› | intro _)
noncomputable def names_Check.v (a0 : ByteArray) : Option Int := lim (fun k => names_Check.f k a0 )
theorem names_Check.tends (a0 : ByteArray) : Tends (fun k => names_Check.f k a0 ) (names_Check.v a0 ) := tends_lim (fun hk => names_Check.mono hk a0 )
set_option maxHeartbeats 4000000 in
set_option maxRecDepth 100000 in
theorem names_Check.v_eq (a0 : ByteArray) : names_Check.v a0 = (bif icmp .eql (a0.size : Int) (0 : Int) then (some true) else (some (icmp .gtr (a0.size : Int) (64 : Int)))).bind fun s1 => bif s1 then (some (3 : Int)) else ((names_Check.l0.v a0 (0 : Int)).bind fun o8 => match o8 with | .error r' => some r' | .ok s6 => (some (0 : Int))) := (names_Check.tends a0 ).uniq (by
  simp only [names_Check.f]
  repeat' (first | with_reducible exact Tends.const _ | apply names_Check.l0.tends | refine Tends.cond ?_ ?_ | refine Tends.bind ?_ (fun _ => ?_) | cases ‹Except _ _› | intro _))
/-! slices.Index[[]string,string] -/
set_option maxHeartbeats 4000000 in
set_option maxRecDepth 100000 in
theorem slices_Index_string_string.l0.mono (a0 : List ByteArray) (a1 : ByteArray) : ∀ {k k' : Nat}, k ≤ k' → ∀ s, Le (slices_Index_string_string.l0 a0 a1 k s) (slices_Index_string_string.l0 a0 a1 k' s) := by
  intro k
  induction k with
  | zero => exact fun _ s => Le.none _
  | succ k ih =>
    intro k' hk s
    cases k' with
    | zero => exact absurd hk (by omega)
    | succ k' =>
      have hk' := Nat.le_of_succ_le_succ hk
      simp only [slices_Index_string_string.l0]
      repeat' (first | with_reducible exact Le.refl _ | exact ih hk' _ | refine Le.cond ?_ ?_ | refine Le.bind ?_ (fun _ => ?_) | cases ‹Except _ _› | intro _)
noncomputable def slices_Index_string_string.l0.v (a0 : List ByteArray) (a1 : ByteArray) (s : Int) : Option (Except Int Unit) := lim (fun k => slices_Index_string_string.l0 a0 a1 k s)
theorem slices_Index_string_string.l0.tends (a0 : List ByteArray) (a1 : ByteArray) (s : Int) : Tends (fun k => slices_Index_string_string.l0 a0 a1 k s) (slices_Index_string_string.l0.v a0 a1 s) := tends_lim (fun hk => slices_Index_string_string.l0.mono a0 a1 hk s)
set_option maxHeartbeats 4000000 in
set_option maxRecDepth 100000 in
theorem slices_Index_string_string.l0.v_eq (a0 : List ByteArray) (a1 : ByteArray) (s1 : Int) : slices_Index_string_string.l0.v a0 a1 s1 = bif icmp .lss s1 (a0.length : Int) then ((idx a0 s1).bind fun x6 => bif scmp .eql a1 x6 then (some (Except.error s1)) else (slices_Index_string_string.l0.v a0 a1 (IntKind.i64.wrap (s1 + (1 : Int))))) else (some (Except.ok ())) := (slices_Index_string_string.l0.tends a0 a1 s1).shift.uniq (by
  simp only [slices_Index_string_string.l0]
  repeat' (first | with_reducible exact Tends.const _ | apply slices_Index_string_string.l0.tends | refine Tends.cond ?_ ?_ | refine Tends.bind ?_ (fun _ => ?_) | cases ‹Except _ _› | intro _))
set_option maxHeartbeats 4000000 in
set_option maxRecDepth 100000 in
theorem slices_Index_string_string.mono {k k' : Nat} (hk' : k ≤ k') (a0 : List ByteArray) (a1 : ByteArray) : Le (slices_Index_string_string.f k a0 a1 ) (slices_Index_string_string.f k' a0 a1 ) := by
  simp only [slices_Index_string_string.f]
  repeat' (first | with_reducible exact Le.refl _ | refine slices_Index_string_string.l0.mono _ _ hk' _ | refine Le.cond ?_ ?_ | refine Le.bind ?_ (fun _ => ?_) | cases ‹Except _ _› | intro _)
noncomputable def slices_Index_string_string.v (a0 : List ByteArray) (a1 : ByteArray) : Option Int := lim (fun k => slices_Index_string_string.f k a0 a1 )
theorem slices_Index_string_string.tends (a0 : List ByteArray) (a1 : ByteArray) : Tends (fun k => slices_Index_string_string.f k a0 a1 ) (slices_Index_string_string.v a0 a1 ) := tends_lim (fun hk => slices_Index_string_string.mono hk a0 a1 )
set_option maxHeartbeats 4000000 in
set_option maxRecDepth 100000 in
theorem slices_Index_string_string.v_eq (a0 : List ByteArray) (a1 : ByteArray) : slices_Index_string_string.v a0 a1 = (slices_Index_string_string.l0.v a0 a1 (0 : Int)).bind fun o4 => match o4 with | .error r' => some r' | .ok s2 => (some (-1 : Int)) := (slices_Index_string_string.tends a0 a1 ).uniq (by
  simp only [slices_Index_string_string.f]
  repeat' (first | with_reducible exact Tends.const _ | apply slices_Index_string_string.l0.tends | refine Tends.cond ?_ ?_ | refine Tends.bind ?_ (fun _ => ?_) | cases ‹Except _ _› | intro _))
/-! slices.Contains[[]string,string] -/
set_option maxHeartbeats 4000000 in
set_option maxRecDepth 100000 in
theorem slices_Contains_string_string.mono {k k' : Nat} (hk' : k ≤ k') (a0 : List ByteArray) (a1 : ByteArray) : Le (slices_Contains_string_string.f k a0 a1 ) (slices_Contains_string_string.f k' a0 a1 ) := by
  simp only [slices_Contains_string_string.f]
  repeat' (first | with_reducible exact Le.refl _ | apply slices_Index_string_string.mono (hk' := hk') | refine Le.cond ?_ ?_ | refine Le.bind ?_ (fun _ => ?_) | cases ‹Except _ _› | intro _)
noncomputable def slices_Contains_string_string.v (a0 : List ByteArray) (a1 : ByteArray) : Option Bool := lim (fun k => slices_Contains_string_string.f k a0 a1 )
theorem slices_Contains_string_string.tends (a0 : List ByteArray) (a1 : ByteArray) : Tends (fun k => slices_Contains_string_string.f k a0 a1 ) (slices_Contains_string_string.v a0 a1 ) := tends_lim (fun hk => slices_Contains_string_string.mono hk a0 a1 )
set_option maxHeartbeats 4000000 in
set_option maxRecDepth 100000 in
theorem slices_Contains_string_string.v_eq (a0 : List ByteArray) (a1 : ByteArray) : slices_Contains_string_string.v a0 a1 = (slices_Index_string_string.v a0 a1).bind fun v1 => some (icmp .geq v1 (0 : Int)) := (slices_Contains_string_string.tends a0 a1 ).uniq (by
  simp only [slices_Contains_string_string.f]
  repeat' (first | with_reducible exact Tends.const _ | apply slices_Index_string_string.tends | refine Tends.cond ?_ ?_ | refine Tends.bind ?_ (fun _ => ?_) | cases ‹Except _ _› | intro _))
/-! slices.IndexFunc[[]string,string] -/
set_option maxHeartbeats 4000000 in
set_option maxRecDepth 100000 in
theorem slices_IndexFunc_string_string.l0.mono {a1 a1' : ByteArray → Option Bool} (hpa1 : ∀ z0, Le (a1 z0) (a1' z0)) (a0 : List ByteArray) : ∀ {k k' : Nat}, k ≤ k' → ∀ s, Le (slices_IndexFunc_string_string.l0 a0 a1 k s) (slices_IndexFunc_string_string.l0 a0 a1' k' s) := by
  intro k
  induction k with
  | zero => exact fun _ s => Le.none _
  | succ k ih =>
    intro k' hk s
    cases k' with
    | zero => exact absurd hk (by omega)
    | succ k' =>
      have hk' := Nat.le_of_succ_le_succ hk
      simp only [slices_IndexFunc_string_string.l0]
      repeat' (first | with_reducible exact Le.refl _ | exact hpa1 _ | exact ih hk' _ | refine Le.cond ?_ ?_ | refine Le.bind ?_ (fun _ => ?_) | cases ‹Except _ _› | intro _)
noncomputable def slices_IndexFunc_string_string.l0.v (a0 : List ByteArray) (a1 : ByteArray → Option Bool) (s : Int) : Option (Except Int Unit) := lim (fun k => slices_IndexFunc_string_string.l0 a0 a1 k s)
theorem slices_IndexFunc_string_string.l0.tends (a0 : List ByteArray) (a1 : ByteArray → Option Bool) (s : Int) : Tends (fun k => slices_IndexFunc_string_string.l0 a0 a1 k s) (slices_IndexFunc_string_string.l0.v a0 a1 s) := tends_lim (fun hk => slices_IndexFunc_string_string.l0.mono (fun _ => Le.refl _) a0 hk s)
set_option maxHeartbeats 4000000 in
set_option maxRecDepth 100000 in
theorem slices_IndexFunc_string_string.l0.v_eq (a0 : List ByteArray) (a1 : ByteArray → Option Bool) (s1 : Int) : slices_IndexFunc_string_string.l0.v a0 a1 s1 = bif icmp .lss s1 (a0.length : Int) then ((idx a0 s1).bind fun x6 => (a1 x6).bind fun v8 => bif v8 then (some (Except.error s1)) else (slices_IndexFunc_string_string.l0.v a0 a1 (IntKind.i64.wrap (s1 + (1 : Int))))) else (some (Except.ok ())) := (slices_IndexFunc_string_string.l0.tends a0 a1 s1).shift.uniq (by
  simp only [slices_IndexFunc_string_string.l0]
  repeat' (first | with_reducible exact Tends.const _ | apply slices_IndexFunc_string_string.l0.tends | refine Tends.cond ?_ ?_ | refine Tends.bind ?_ (fun _ => ?_) | cases ‹Except _ _› | intro _))
set_option maxHeartbeats 4000000 in
set_option maxRecDepth 100000 in
theorem slices_IndexFunc_string_string.l0.tendsP {pa1 : Nat → ByteArray → Option Bool} {qa1 : ByteArray → Option Bool} (hpa1 : ∀ z0, Tends (fun j => pa1 j z0) (qa1 z0)) (a0 : List ByteArray) : ∀ (K : Nat) s, Tends (fun j => slices_IndexFunc_string_string.l0 a0 (pa1 j) K s) (slices_IndexFunc_string_string.l0 a0 qa1 K s) := by
  intro K
  induction K with
  | zero => exact fun s => Tends.const _
  | succ K ih =>
    intro s
    simp only [slices_IndexFunc_string_string.l0]
    repeat' (first | with_reducible exact Tends.const _ | exact hpa1 _ | exact ih _ | refine Tends.cond ?_ ?_ | refine Tends.bind ?_ (fun _ => ?_) | cases ‹Except _ _› | intro _)
set_option maxHeartbeats 4000000 in
set_option maxRecDepth 100000 in
theorem slices_IndexFunc_string_string.mono {k k' : Nat} (hk' : k ≤ k') {a1 a1' : ByteArray → Option Bool} (hpa1 : ∀ z0, Le (a1 z0) (a1' z0)) (a0 : List ByteArray) : Le (slices_IndexFunc_string_string.f k a0 a1 ) (slices_IndexFunc_string_string.f k' a0 a1' ) := by
  simp only [slices_IndexFunc_string_string.f]
  repeat' (first | with_reducible exact Le.refl _ | exact hpa1 _ | refine slices_IndexFunc_string_string.l0.mono hpa1 _ hk' _ | refine Le.cond ?_ ?_ | refine Le.bind ?_ (fun _ => ?_) | cases ‹Except _ _› | intro _)
noncomputable def slices_IndexFunc_string_string.v (a0 : List ByteArray) (a1 : ByteArray → Option Bool) : Option Int := lim (fun k => slices_IndexFunc_string_string.f k a0 a1 )
theorem slices_IndexFunc_string_string.tends (a0 : List ByteArray) (a1 : ByteArray → Option Bool) : Tends (fun k => slices_IndexFunc_string_string.f k a0 a1 ) (slices_IndexFunc_string_string.v a0 a1 ) := tends_lim (fun hk => slices_IndexFunc_string_string.mono hk (fun _ => Le.refl _) a0 )
set_option maxHeartbeats 4000000 in
set_option maxRecDepth 100000 in
theorem slices_IndexFunc_string_string.v_eq (a0 : List ByteArray) (a1 : ByteArray → Option Bool) : slices_IndexFunc_string_string.v a0 a1 = (slices_IndexFunc_string_string.l0.v a0 a1 (0 : Int)).bind fun o4 => match o4 with | .error r' => some r' | .ok s2 => (some (-1 : Int)) := (slices_IndexFunc_string_string.tends a0 a1 ).uniq (by
  simp only [slices_IndexFunc_string_string.f]
  repeat' (first | with_reducible exact Tends.const _ | apply slices_IndexFunc_string_string.l0.tends | refine Tends.cond ?_ ?_ | refine Tends.bind ?_ (fun _ => ?_) | cases ‹Except _ _› | intro _))
set_option maxHeartbeats 4000000 in
set_option maxRecDepth 100000 in
theorem slices_IndexFunc_string_string.tendsP {pa1 : Nat → ByteArray → Option Bool} {qa1 : ByteArray → Option Bool} (hpa1 : ∀ z0, Tends (fun j => pa1 j z0) (qa1 z0)) (a0 : List ByteArray) (K : Nat) : Tends (fun j => slices_IndexFunc_string_string.f K a0 (pa1 j) ) (slices_IndexFunc_string_string.f K a0 qa1 ) := by
  simp only [slices_IndexFunc_string_string.f]
  repeat' (first | with_reducible exact Tends.const _ | exact hpa1 _ | refine slices_IndexFunc_string_string.l0.tendsP hpa1 _ _ _ | refine Tends.cond ?_ ?_ | refine Tends.bind ?_ (fun _ => ?_) | cases ‹Except _ _› | intro _)
theorem slices_IndexFunc_string_string.tends2 {pa1 : Nat → ByteArray → Option Bool} {qa1 : ByteArray → Option Bool} (hpa1 : ∀ z0, Tends (fun j => pa1 j z0) (qa1 z0)) (a0 : List ByteArray) : Tends (fun k => slices_IndexFunc_string_string.f k a0 (pa1 k) ) (slices_IndexFunc_string_string.v a0 qa1 ) := Tends.diag (f := fun K j => slices_IndexFunc_string_string.f K a0 (pa1 j) ) (fun K => slices_IndexFunc_string_string.tendsP hpa1 a0 K) (fun h j => slices_IndexFunc_string_string.mono h (fun _ => Le.refl _) a0 ) (slices_IndexFunc_string_string.tends a0 qa1 )
/-! slices.ContainsFunc[[]string,string] -/
set_option maxHeartbeats 4000000 in
set_option maxRecDepth 100000 in
theorem slices_ContainsFunc_string_string.mono {k k' : Nat} (hk' : k ≤ k') {a1 a1' : ByteArray → Option Bool} (hpa1 : ∀ z0, Le (a1 z0) (a1' z0)) (a0 : List ByteArray) : Le (slices_ContainsFunc_string_string.f k a0 a1 ) (slices_ContainsFunc_string_string.f k' a0 a1' ) := by
  simp only [slices_ContainsFunc_string_string.f]
  repeat' (first | with_reducible exact Le.refl _ | exact hpa1 _ | apply slices_IndexFunc_string_string.mono (hk' := hk') | refine Le.cond ?_ ?_ | refine Le.bind ?_ (fun _ => ?_) | cases ‹Except _ _› | intro _)
noncomputable def slices_ContainsFunc_string_string.v (a0 : List ByteArray) (a1 : ByteArray → Option Bool) : Option Bool := lim (fun k => slices_ContainsFunc_string_string.f k a0 a1 )
theorem slices_ContainsFunc_string_string.tends (a0 : List ByteArray) (a1 : ByteArray → Option Bool) : Tends (fun k => slices_ContainsFunc_string_string.f k a0 a1 ) (slices_ContainsFunc_string_string.v a0 a1 ) := tends_lim (fun hk => slices_ContainsFunc_string_string.mono hk (fun _ => Le.refl _) a0 )
set_option maxHeartbeats 4000000 in
set_option maxRecDepth 100000 in
theorem slices_ContainsFunc_string_string.v_eq (a0 : List ByteArray) (a1 : ByteArray → Option Bool) : slices_ContainsFunc_string_string.v a0 a1 = (slices_IndexFunc_string_string.v a0 a1).bind fun v1 => some (icmp .geq v1 (0 : Int)) := (slices_ContainsFunc_string_string.tends a0 a1 ).uniq (by
  simp only [slices_ContainsFunc_string_string.f]
  repeat' (first | with_reducible exact Tends.const _ | apply slices_IndexFunc_string_string.tends2 | refine Tends.cond ?_ ?_ | refine Tends.bind ?_ (fun _ => ?_) | cases ‹Except _ _› | intro _))
set_option maxHeartbeats 4000000 in
set_option maxRecDepth 100000 in
theorem slices_ContainsFunc_string_string.tendsP {pa1 : Nat → ByteArray → Option Bool} {qa1 : ByteArray → Option Bool} (hpa1 : ∀ z0, Tends (fun j => pa1 j z0) (qa1 z0)) (a0 : List ByteArray) (K : Nat) : Tends (fun j => slices_ContainsFunc_string_string.f K a0 (pa1 j) ) (slices_ContainsFunc_string_string.f K a0 qa1 ) := by
  simp only [slices_ContainsFunc_string_string.f]
  repeat' (first | with_reducible exact Tends.const _ | exact hpa1 _ | apply slices_IndexFunc_string_string.tendsP | refine Tends.cond ?_ ?_ | refine Tends.bind ?_ (fun _ => ?_) | cases ‹Except _ _› | intro _)
theorem slices_ContainsFunc_string_string.tends2 {pa1 : Nat → ByteArray → Option Bool} {qa1 : ByteArray → Option Bool} (hpa1 : ∀ z0, Tends (fun j => pa1 j z0) (qa1 z0)) (a0 : List ByteArray) : Tends (fun k => slices_ContainsFunc_string_string.f k a0 (pa1 k) ) (slices_ContainsFunc_string_string.v a0 qa1 ) := Tends.diag (f := fun K j => slices_ContainsFunc_string_string.f K a0 (pa1 j) ) (fun K => slices_ContainsFunc_string_string.tendsP hpa1 a0 K) (fun h j => slices_ContainsFunc_string_string.mono h (fun _ => Le.refl _) a0 ) (slices_ContainsFunc_string_string.tends a0 qa1 )
/-! smithy/resolve.right$1 -/

/-! smithy/resolve.right -/
set_option maxHeartbeats 4000000 in
set_option maxRecDepth 100000 in
theorem resolve_right.l0.mono (a0 : Node) (a1 : GM Int) : ∀ {k k' : Nat}, k ≤ k' → ∀ s, Le (resolve_right.l0 a0 a1 k s) (resolve_right.l0 a0 a1 k' s) := by
  intro k
  induction k with
  | zero => exact fun _ s => Le.none _
  | succ k ih =>
    intro k' hk s
    cases k' with
    | zero => exact absurd hk (by omega)
    | succ k' =>
      have hk' := Nat.le_of_succ_le_succ hk
      simp only [resolve_right.l0]
      repeat' (first | with_reducible exact Le.refl _ | exact ih hk' _ | apply names_Check.mono (hk' := hk') | apply slices_Contains_string_string.mono (hk' := hk') | refine Le.cond ?_ ?_ | refine Le.bind ?_ (fun _ => ?_) | cases ‹Except _ _› | intro _)
noncomputable def resolve_right.l0.v (a0 : Node) (a1 : GM Int) (s : Int) : Option (Except Bool Unit) := lim (fun k => resolve_right.l0 a0 a1 k s)
theorem resolve_right.l0.tends (a0 : Node) (a1 : GM Int) (s : Int) : Tends (fun k => resolve_right.l0 a0 a1 k s) (resolve_right.l0.v a0 a1 s) := tends_lim (fun hk => resolve_right.l0.mono a0 a1 hk s)
set_option maxHeartbeats 4000000 in
set_option maxRecDepth 100000 in
theorem resolve_right.l0.v_eq (a0 : Node) (a1 : GM Int) (s13 : Int) : resolve_right.l0.v a0 a1 s13 = bif icmp .lss s13 (a0.Needs.length : Int) then ((idx a0.Needs s13).bind fun x18 => ((names_Check.v x18).bind fun v22 => bif icmp .neq v22 (0 : Int) then (some true) else ((sub a0.Needs (0 : Int) s13).bind fun x25 => (slices_Contains_string_string.v x25 x18).bind fun v27 => bif v27 then (some true) else ((gget a1 (0 : Int) x18).bind fun x30 => some (icmp .neq x30 (1 : Int))))).bind fun s20 => bif s20 then (some (Except.error false)) else (resolve_right.l0.v a0 a1 (IntKind.i64.wrap (s13 + (1 : Int))))) else (some (Except.ok ())) := (resolve_right.l0.tends a0 a1 s13).shift.uniq (by
  simp only [resolve_right.l0]
  repeat' (first | with_reducible exact Tends.const _ | apply names_Check.tends | apply slices_Contains_string_string.tends | apply resolve_right.l0.tends | refine Tends.cond ?_ ?_ | refine Tends.bind ?_ (fun _ => ?_) | cases ‹Except _ _› | intro _))
set_option maxHeartbeats 4000000 in
set_option maxRecDepth 100000 in
theorem resolve_right.mono {k k' : Nat} (hk' : k ≤ k') (a0 : Node) (a1 : GM Int) : Le (resolve_right.f k a0 a1 ) (resolve_right.f k' a0 a1 ) := by
  simp only [resolve_right.f]
  repeat' (first | with_reducible exact Le.refl _ | apply names_Check.mono (hk' := hk') | apply slices_ContainsFunc_string_string.mono (hk' := hk') | refine resolve_right.l0.mono _ _ hk' _ | refine Le.cond ?_ ?_ | refine Le.bind ?_ (fun _ => ?_) | cases ‹Except _ _› | intro _)
noncomputable def resolve_right.v (a0 : Node) (a1 : GM Int) : Option Bool := lim (fun k => resolve_right.f k a0 a1 )
theorem resolve_right.tends (a0 : Node) (a1 : GM Int) : Tends (fun k => resolve_right.f k a0 a1 ) (resolve_right.v a0 a1 ) := tends_lim (fun hk => resolve_right.mono hk a0 a1 )
set_option maxHeartbeats 4000000 in
set_option maxRecDepth 100000 in
theorem resolve_right.v_eq (a0 : Node) (a1 : GM Int) : resolve_right.v a0 a1 = ((names_Check.v a0.Target).bind fun v3 => bif icmp .neq v3 (0 : Int) then (some true) else ((gget a1 (0 : Int) a0.Target).bind fun x6 => bif icmp .eql x6 (1 : Int) then (some true) else (bif icmp .gtr (a0.Needs.length : Int) (65 : Int) then (some true) else (bif icmp .gtr (a0.Recipe.length : Int) (64 : Int) then (some true) else (bif !a0.Has then (some (icmp .gtr (a0.Recipe.length : Int) (0 : Int))) else (some false)))))).bind fun s1 => bif s1 then (some false) else ((resolve_right.l0.v a0 a1 (0 : Int)).bind fun o16 => match o16 with | .error r' => some r' | .ok s14 => ((slices_ContainsFunc_string_string.v a0.Recipe (fun (z0 : ByteArray) => resolve_right_1.f z0)).bind fun v33 => bif v33 then (some false) else (bif scmp .eql a0.Source (⟨#[]⟩ : ByteArray) then (some (scmp .eql a0.Stem (⟨#[]⟩ : ByteArray))) else ((bif icmp .gtr (a0.Needs.length : Int) (0 : Int) then ((idx a0.Needs (0 : Int)).bind fun x40 => bif scmp .eql x40 a0.Source then (some (icmp .leq (a0.Stem.size : Int) (64 : Int))) else (some false)) else (some false)).bind fun s37 => some s37)))) := (resolve_right.tends a0 a1 ).uniq (by
  simp only [resolve_right.f]
  repeat' (first | with_reducible exact Tends.const _ | apply names_Check.tends | apply slices_ContainsFunc_string_string.tends2 | apply resolve_right.l0.tends | refine Tends.cond ?_ ?_ | refine Tends.bind ?_ (fun _ => ?_) | cases ‹Except _ _› | intro _))
/-! smithy/resolve.Check -/
set_option maxHeartbeats 4000000 in
set_option maxRecDepth 100000 in
theorem resolve_Check.l0.mono (a0 : Plan) : ∀ {k k' : Nat}, k ≤ k' → ∀ s, Le (resolve_Check.l0 a0 k s) (resolve_Check.l0 a0 k' s) := by
  intro k
  induction k with
  | zero => exact fun _ s => Le.none _
  | succ k ih =>
    intro k' hk s
    cases k' with
    | zero => exact absurd hk (by omega)
    | succ k' =>
      have hk' := Nat.le_of_succ_le_succ hk
      simp only [resolve_Check.l0]
      repeat' (first | with_reducible exact Le.refl _ | exact ih hk' _ | apply resolve_right.mono (hk' := hk') | refine Le.cond ?_ ?_ | refine Le.bind ?_ (fun _ => ?_) | cases ‹Except _ _› | intro _)
noncomputable def resolve_Check.l0.v (a0 : Plan) (s : (GM Int) × Int) : Option (Except Int (GM Int)) := lim (fun k => resolve_Check.l0 a0 k s)
theorem resolve_Check.l0.tends (a0 : Plan) (s : (GM Int) × Int) : Tends (fun k => resolve_Check.l0 a0 k s) (resolve_Check.l0.v a0 s) := tends_lim (fun hk => resolve_Check.l0.mono a0 hk s)
set_option maxHeartbeats 4000000 in
set_option maxRecDepth 100000 in
theorem resolve_Check.l0.v_eq (a0 : Plan) (s6 : (GM Int) × Int) : resolve_Check.l0.v a0 s6 = bif icmp .lss s6.2 (a0.Nodes.length : Int) then ((idx a0.Nodes s6.2).bind fun x11 => (resolve_right.v x11 s6.1).bind fun v13 => bif !v13 then (some (Except.error (7 : Int))) else ((gput s6.1 x11.Target (1 : Int)).bind fun x16 => resolve_Check.l0.v a0 (x16, IntKind.i64.wrap (s6.2 + (1 : Int))))) else (some (Except.ok s6.1)) := (resolve_Check.l0.tends a0 s6).shift.uniq (by
  simp only [resolve_Check.l0]
  repeat' (first | with_reducible exact Tends.const _ | apply resolve_right.tends | apply resolve_Check.l0.tends | refine Tends.cond ?_ ?_ | refine Tends.bind ?_ (fun _ => ?_) | cases ‹Except _ _› | intro _))
set_option maxHeartbeats 4000000 in
set_option maxRecDepth 100000 in
theorem resolve_Check.l1.mono (a0 : Plan) (s7 : (GM Int)) : ∀ {k k' : Nat}, k ≤ k' → ∀ s, Le (resolve_Check.l1 a0 s7 k s) (resolve_Check.l1 a0 s7 k' s) := by
  intro k
  induction k with
  | zero => exact fun _ s => Le.none _
  | succ k ih =>
    intro k' hk s
    cases k' with
    | zero => exact absurd hk (by omega)
    | succ k' =>
      have hk' := Nat.le_of_succ_le_succ hk
      simp only [resolve_Check.l1]
      repeat' (first | with_reducible exact Le.refl _ | exact ih hk' _ | apply slices_Contains_string_string.mono (hk' := hk') | refine Le.cond ?_ ?_ | refine Le.bind ?_ (fun _ => ?_) | cases ‹Except _ _› | intro _)
noncomputable def resolve_Check.l1.v (a0 : Plan) (s7 : (GM Int)) (s : Int) : Option (Except Int Unit) := lim (fun k => resolve_Check.l1 a0 s7 k s)
theorem resolve_Check.l1.tends (a0 : Plan) (s7 : (GM Int)) (s : Int) : Tends (fun k => resolve_Check.l1 a0 s7 k s) (resolve_Check.l1.v a0 s7 s) := tends_lim (fun hk => resolve_Check.l1.mono a0 s7 hk s)
set_option maxHeartbeats 4000000 in
set_option maxRecDepth 100000 in
theorem resolve_Check.l1.v_eq (a0 : Plan) (s7 : (GM Int)) (s18 : Int) : resolve_Check.l1.v a0 s7 s18 = bif icmp .lss s18 (a0.Goals.length : Int) then ((idx a0.Goals s18).bind fun x23 => ((gget s7 (0 : Int) x23).bind fun x27 => bif icmp .neq x27 (1 : Int) then (some true) else ((sub a0.Goals (0 : Int) s18).bind fun x30 => (slices_Contains_string_string.v x30 x23).bind fun v32 => some v32)).bind fun s25 => bif s25 then (some (Except.error (7 : Int))) else (resolve_Check.l1.v a0 s7 (IntKind.i64.wrap (s18 + (1 : Int))))) else (some (Except.ok ())) := (resolve_Check.l1.tends a0 s7 s18).shift.uniq (by
  simp only [resolve_Check.l1]
  repeat' (first | with_reducible exact Tends.const _ | apply slices_Contains_string_string.tends | apply resolve_Check.l1.tends | refine Tends.cond ?_ ?_ | refine Tends.bind ?_ (fun _ => ?_) | cases ‹Except _ _› | intro _))
set_option maxHeartbeats 4000000 in
set_option maxRecDepth 100000 in
theorem resolve_Check.mono {k k' : Nat} (hk' : k ≤ k') (a0 : Plan) : Le (resolve_Check.f k a0 ) (resolve_Check.f k' a0 ) := by
  simp only [resolve_Check.f]
  repeat' (first | with_reducible exact Le.refl _ | refine resolve_Check.l0.mono _ hk' _ | refine resolve_Check.l1.mono _ _ hk' _ | refine Le.cond ?_ ?_ | refine Le.bind ?_ (fun _ => ?_) | cases ‹Except _ _› | intro _)
noncomputable def resolve_Check.v (a0 : Plan) : Option Int := lim (fun k => resolve_Check.f k a0 )
theorem resolve_Check.tends (a0 : Plan) : Tends (fun k => resolve_Check.f k a0 ) (resolve_Check.v a0 ) := tends_lim (fun hk => resolve_Check.mono hk a0 )
set_option maxHeartbeats 4000000 in
set_option maxRecDepth 100000 in
theorem resolve_Check.v_eq (a0 : Plan) : resolve_Check.v a0 = (bif icmp .gtr (a0.Nodes.length : Int) (256 : Int) then (some true) else (bif icmp .lss (a0.Goals.length : Int) (1 : Int) then (some true) else (some (icmp .gtr (a0.Goals.length : Int) (512 : Int))))).bind fun s1 => bif s1 then (some (7 : Int)) else ((resolve_Check.l0.v a0 ((gempty : GM Int), (0 : Int))).bind fun o9 => match o9 with | .error r' => some r' | .ok s7 => ((resolve_Check.l1.v a0 s7 (0 : Int)).bind fun o21 => match o21 with | .error r' => some r' | .ok s19 => (some (0 : Int)))) := (resolve_Check.tends a0 ).uniq (by
  simp only [resolve_Check.f]
  repeat' (first | with_reducible exact Tends.const _ | apply resolve_Check.l0.tends | apply resolve_Check.l1.tends | refine Tends.cond ?_ ?_ | refine Tends.bind ?_ (fun _ => ?_) | cases ‹Except _ _› | intro _))
/-! smithy/stale.alone -/
set_option maxHeartbeats 4000000 in
set_option maxRecDepth 100000 in
theorem stale_alone.l0.mono (a0 : Node) : ∀ {k k' : Nat}, k ≤ k' → ∀ s, Le (stale_alone.l0 a0 k s) (stale_alone.l0 a0 k' s) := by
  intro k
  induction k with
  | zero => exact fun _ s => Le.none _
  | succ k ih =>
    intro k' hk s
    cases k' with
    | zero => exact absurd hk (by omega)
    | succ k' =>
      have hk' := Nat.le_of_succ_le_succ hk
      simp only [stale_alone.l0]
      repeat' (first | with_reducible exact Le.refl _ | exact ih hk' _ | refine Le.cond ?_ ?_ | refine Le.bind ?_ (fun _ => ?_) | cases ‹Except _ _› | intro _)
noncomputable def stale_alone.l0.v (a0 : Node) (s : (List Node) × Int) : Option (List Node) := lim (fun k => stale_alone.l0 a0 k s)
theorem stale_alone.l0.tends (a0 : Node) (s : (List Node) × Int) : Tends (fun k => stale_alone.l0 a0 k s) (stale_alone.l0.v a0 s) := tends_lim (fun hk => stale_alone.l0.mono a0 hk s)
set_option maxHeartbeats 4000000 in
set_option maxRecDepth 100000 in
theorem stale_alone.l0.v_eq (a0 : Node) (s1 : (List Node) × Int) : stale_alone.l0.v a0 s1 = bif icmp .lss s1.2 (a0.Needs.length : Int) then ((idx a0.Needs s1.2).bind fun x5 => (app 112 s1.1 ([(⟨x5, ([] : List ByteArray), ([] : List ByteArray), false, ByteArray.empty, ByteArray.empty, false, false, false, false⟩ : Node)])).bind fun x7 => stale_alone.l0.v a0 (x7, IntKind.i64.wrap (s1.2 + (1 : Int)))) else (some s1.1) := (stale_alone.l0.tends a0 s1).shift.uniq (by
  simp only [stale_alone.l0]
  repeat' (first | with_reducible exact Tends.const _ | apply stale_alone.l0.tends | refine Tends.cond ?_ ?_ | refine Tends.bind ?_ (fun _ => ?_) | cases ‹Except _ _› | intro _))
set_option maxHeartbeats 4000000 in
set_option maxRecDepth 100000 in
theorem stale_alone.mono {k k' : Nat} (hk' : k ≤ k') (a0 : Node) : Le (stale_alone.f k a0 ) (stale_alone.f k' a0 ) := by
  simp only [stale_alone.f]
  repeat' (first | with_reducible exact Le.refl _ | apply resolve_Check.mono (hk' := hk') | refine stale_alone.l0.mono _ hk' _ | refine Le.cond ?_ ?_ | refine Le.bind ?_ (fun _ => ?_) | cases ‹Except _ _› | intro _)
noncomputable def stale_alone.v (a0 : Node) : Option Int := lim (fun k => stale_alone.f k a0 )
theorem stale_alone.tends (a0 : Node) : Tends (fun k => stale_alone.f k a0 ) (stale_alone.v a0 ) := tends_lim (fun hk => stale_alone.mono hk a0 )
set_option maxHeartbeats 4000000 in
set_option maxRecDepth 100000 in
theorem stale_alone.v_eq (a0 : Node) : stale_alone.v a0 = (stale_alone.l0.v a0 (([] : List Node), (0 : Int))).bind fun s2 => (app 112 s2 ([a0])).bind fun x9 => (resolve_Check.v (⟨x9, [a0.Target]⟩ : Plan)).bind fun v11 => some v11 := (stale_alone.tends a0 ).uniq (by
  simp only [stale_alone.f]
  repeat' (first | with_reducible exact Tends.const _ | apply resolve_Check.tends | apply stale_alone.l0.tends | refine Tends.cond ?_ ?_ | refine Tends.bind ?_ (fun _ => ?_) | cases ‹Except _ _› | intro _))
/-! smithy/disk.named -/
set_option maxHeartbeats 4000000 in
set_option maxRecDepth 100000 in
theorem disk_named.l0.mono (a0 : ByteArray) : ∀ {k k' : Nat}, k ≤ k' → ∀ s, Le (disk_named.l0 a0 k s) (disk_named.l0 a0 k' s) := by
  intro k
  induction k with
  | zero => exact fun _ s => Le.none _
  | succ k ih =>
    intro k' hk s
    cases k' with
    | zero => exact absurd hk (by omega)
    | succ k' =>
      have hk' := Nat.le_of_succ_le_succ hk
      simp only [disk_named.l0]
      repeat' (first | with_reducible exact Le.refl _ | exact ih hk' _ | refine Le.cond ?_ ?_ | refine Le.bind ?_ (fun _ => ?_) | cases ‹Except _ _› | intro _)
noncomputable def disk_named.l0.v (a0 : ByteArray) (s : Int) : Option (Except Bool Unit) := lim (fun k => disk_named.l0 a0 k s)
theorem disk_named.l0.tends (a0 : ByteArray) (s : Int) : Tends (fun k => disk_named.l0 a0 k s) (disk_named.l0.v a0 s) := tends_lim (fun hk => disk_named.l0.mono a0 hk s)
set_option maxHeartbeats 4000000 in
set_option maxRecDepth 100000 in
theorem disk_named.l0.v_eq (a0 : ByteArray) (s5 : Int) : disk_named.l0.v a0 s5 = bif icmp .lss s5 (a0.size : Int) then ((bidx a0 s5).bind fun x10 => (bif icmp .geq x10 (65 : Int) then (bif icmp .leq x10 (90 : Int) then (some (!true)) else (bif icmp .geq x10 (97 : Int) then (bif icmp .leq x10 (122 : Int) then (some (!true)) else (bif icmp .geq x10 (48 : Int) then (bif icmp .leq x10 (57 : Int) then (some (!true)) else ((strings_IndexByte.f (⟨#[95, 45, 46, 47, 43]⟩ : ByteArray) x10).bind fun v20 => some (!(icmp .geq v20 (0 : Int))))) else ((strings_IndexByte.f (⟨#[95, 45, 46, 47, 43]⟩ : ByteArray) x10).bind fun v22 => some (!(icmp .geq v22 (0 : Int)))))) else (bif icmp .geq x10 (48 : Int) then (bif icmp .leq x10 (57 : Int) then (some (!true)) else ((strings_IndexByte.f (⟨#[95, 45, 46, 47, 43]⟩ : ByteArray) x10).bind fun v26 => some (!(icmp .geq v26 (0 : Int))))) else ((strings_IndexByte.f (⟨#[95, 45, 46, 47, 43]⟩ : ByteArray) x10).bind fun v28 => some (!(icmp .geq v28 (0 : Int))))))) else (bif icmp .geq x10 (97 : Int) then (bif icmp .leq x10 (122 : Int) then (some (!true)) else (bif icmp .geq x10 (48 : Int) then (bif icmp .leq x10 (57 : Int) then (some (!true)) else ((strings_IndexByte.f (⟨#[95, 45, 46, 47, 43]⟩ : ByteArray) x10).bind fun v34 => some (!(icmp .geq v34 (0 : Int))))) else ((strings_IndexByte.f (⟨#[95, 45, 46, 47, 43]⟩ : ByteArray) x10).bind fun v36 => some (!(icmp .geq v36 (0 : Int)))))) else (bif icmp .geq x10 (48 : Int) then (bif icmp .leq x10 (57 : Int) then (some (!true)) else ((strings_IndexByte.f (⟨#[95, 45, 46, 47, 43]⟩ : ByteArray) x10).bind fun v40 => some (!(icmp .geq v40 (0 : Int))))) else ((strings_IndexByte.f (⟨#[95, 45, 46, 47, 43]⟩ : ByteArray) x10).bind fun v42 => some (!(icmp .geq v42 (0 : Int))))))).bind fun s12 => bif s12 then (some (Except.error false)) else (disk_named.l0.v a0 (IntKind.i64.wrap (s5 + (1 : Int))))) else (some (Except.ok ())) := (disk_named.l0.tends a0 s5).shift.uniq (by
  simp only [disk_named.l0]
  repeat' (first | with_reducible exact Tends.const _ | apply disk_named.l0.tends | refine Tends.cond ?_ ?_ | refine Tends.bind ?_ (fun _ => ?_) | cases ‹Except _ _› | intro _))
set_option maxHeartbeats 4000000 in
set_option maxRecDepth 100000 in
theorem disk_named.mono {k k' : Nat} (hk' : k ≤ k') (a0 : ByteArray) : Le (disk_named.f k a0 ) (disk_named.f k' a0 ) := by
  simp only [disk_named.f]
  repeat' (first | with_reducible exact Le.refl _ | refine disk_named.l0.mono _ hk' _ | refine Le.cond ?_ ?_ | refine Le.bind ?_ (fun _ => ?_) | cases ‹Except _ _› | intro _)
noncomputable def disk_named.v (a0 : ByteArray) : Option Bool := lim (fun k => disk_named.f k a0 )
theorem disk_named.tends (a0 : ByteArray) : Tends (fun k => disk_named.f k a0 ) (disk_named.v a0 ) := tends_lim (fun hk => disk_named.mono hk a0 )
set_option maxHeartbeats 4000000 in
set_option maxRecDepth 100000 in
theorem disk_named.v_eq (a0 : ByteArray) : disk_named.v a0 = (bif icmp .lss (a0.size : Int) (1 : Int) then (some true) else (some (icmp .gtr (a0.size : Int) (64 : Int)))).bind fun s1 => bif s1 then (some false) else ((disk_named.l0.v a0 (0 : Int)).bind fun o8 => match o8 with | .error r' => some r' | .ok s6 => (some true)) := (disk_named.tends a0 ).uniq (by
  simp only [disk_named.f]
  repeat' (first | with_reducible exact Tends.const _ | apply disk_named.l0.tends | refine Tends.cond ?_ ?_ | refine Tends.bind ?_ (fun _ => ?_) | cases ‹Except _ _› | intro _))
/-! smithy/disk.Check -/
set_option maxHeartbeats 4000000 in
set_option maxRecDepth 100000 in
theorem disk_Check.l0.mono (a0 : Disk) : ∀ {k k' : Nat}, k ≤ k' → ∀ s, Le (disk_Check.l0 a0 k s) (disk_Check.l0 a0 k' s) := by
  intro k
  induction k with
  | zero => exact fun _ s => Le.none _
  | succ k ih =>
    intro k' hk s
    cases k' with
    | zero => exact absurd hk (by omega)
    | succ k' =>
      have hk' := Nat.le_of_succ_le_succ hk
      simp only [disk_Check.l0]
      repeat' (first | with_reducible exact Le.refl _ | exact ih hk' _ | apply disk_named.mono (hk' := hk') | refine Le.cond ?_ ?_ | refine Le.bind ?_ (fun _ => ?_) | cases ‹Except _ _› | intro _)
noncomputable def disk_Check.l0.v (a0 : Disk) (s : File × Int) : Option (Except Int Unit) := lim (fun k => disk_Check.l0 a0 k s)
theorem disk_Check.l0.tends (a0 : Disk) (s : File × Int) : Tends (fun k => disk_Check.l0 a0 k s) (disk_Check.l0.v a0 s) := tends_lim (fun hk => disk_Check.l0.mono a0 hk s)
set_option maxHeartbeats 4000000 in
set_option maxRecDepth 100000 in
theorem disk_Check.l0.v_eq (a0 : Disk) (s6 : File × Int) : disk_Check.l0.v a0 s6 = bif icmp .lss s6.2 (a0.Files.length : Int) then ((idx a0.Files s6.2).bind fun x11 => ((disk_named.v x11.Name).bind fun v15 => bif !v15 then (some true) else (bif icmp .gtr s6.2 (0 : Int) then (bif scmp .leq x11.Name s6.1.Name then (some true) else (bif icmp .gtr (x11.Text.size : Int) (4096 : Int) then (some true) else (bif icmp .lss x11.Stamp (0 : Int) then (some true) else (some (icmp .gtr x11.Stamp a0.Clock))))) else (bif icmp .gtr (x11.Text.size : Int) (4096 : Int) then (some true) else (bif icmp .lss x11.Stamp (0 : Int) then (some true) else (some (icmp .gtr x11.Stamp a0.Clock)))))).bind fun s13 => bif s13 then (some (Except.error (4 : Int))) else (disk_Check.l0.v a0 (x11, IntKind.i64.wrap (s6.2 + (1 : Int))))) else (some (Except.ok ())) := (disk_Check.l0.tends a0 s6).shift.uniq (by
  simp only [disk_Check.l0]
  repeat' (first | with_reducible exact Tends.const _ | apply disk_named.tends | apply disk_Check.l0.tends | refine Tends.cond ?_ ?_ | refine Tends.bind ?_ (fun _ => ?_) | cases ‹Except _ _› | intro _))
set_option maxHeartbeats 4000000 in
set_option maxRecDepth 100000 in
theorem disk_Check.mono {k k' : Nat} (hk' : k ≤ k') (a0 : Disk) : Le (disk_Check.f k a0 ) (disk_Check.f k' a0 ) := by
  simp only [disk_Check.f]
  repeat' (first | with_reducible exact Le.refl _ | refine disk_Check.l0.mono _ hk' _ | refine Le.cond ?_ ?_ | refine Le.bind ?_ (fun _ => ?_) | cases ‹Except _ _› | intro _)
noncomputable def disk_Check.v (a0 : Disk) : Option Int := lim (fun k => disk_Check.f k a0 )
theorem disk_Check.tends (a0 : Disk) : Tends (fun k => disk_Check.f k a0 ) (disk_Check.v a0 ) := tends_lim (fun hk => disk_Check.mono hk a0 )
set_option maxHeartbeats 4000000 in
set_option maxRecDepth 100000 in
theorem disk_Check.v_eq (a0 : Disk) : disk_Check.v a0 = (bif icmp .lss a0.Clock (0 : Int) then (some true) else (bif icmp .gtr a0.Clock (1099511627776 : Int) then (some true) else (some (icmp .gtr (a0.Files.length : Int) (256 : Int))))).bind fun s1 => bif s1 then (some (4 : Int)) else ((disk_Check.l0.v a0 ((⟨ByteArray.empty, ByteArray.empty, (0 : Int)⟩ : File), (0 : Int))).bind fun o9 => match o9 with | .error r' => some r' | .ok s7 => (some (0 : Int))) := (disk_Check.tends a0 ).uniq (by
  simp only [disk_Check.f]
  repeat' (first | with_reducible exact Tends.const _ | apply disk_Check.l0.tends | refine Tends.cond ?_ ?_ | refine Tends.bind ?_ (fun _ => ?_) | cases ‹Except _ _› | intro _))
/-! smithy/disk.Newest$1 -/
set_option maxHeartbeats 4000000 in
set_option maxRecDepth 100000 in
theorem disk_Newest_1.mono {k k' : Nat} (hk' : k ≤ k') (a0 : ByteArray) : Le (disk_Newest_1.f k a0 ) (disk_Newest_1.f k' a0 ) := by
  simp only [disk_Newest_1.f]
  repeat' (first | with_reducible exact Le.refl _ | apply disk_named.mono (hk' := hk') | refine Le.cond ?_ ?_ | refine Le.bind ?_ (fun _ => ?_) | cases ‹Except _ _› | intro _)
noncomputable def disk_Newest_1.v (a0 : ByteArray) : Option Bool := lim (fun k => disk_Newest_1.f k a0 )
theorem disk_Newest_1.tends (a0 : ByteArray) : Tends (fun k => disk_Newest_1.f k a0 ) (disk_Newest_1.v a0 ) := tends_lim (fun hk => disk_Newest_1.mono hk a0 )
set_option maxHeartbeats 4000000 in
set_option maxRecDepth 100000 in
theorem disk_Newest_1.v_eq (a0 : ByteArray) : disk_Newest_1.v a0 = (disk_named.v a0).bind fun v1 => some (!v1) := (disk_Newest_1.tends a0 ).uniq (by
  simp only [disk_Newest_1.f]
  repeat' (first | with_reducible exact Tends.const _ | apply disk_named.tends | refine Tends.cond ?_ ?_ | refine Tends.bind ?_ (fun _ => ?_) | cases ‹Except _ _› | intro _))
/-! slices.BinarySearchFunc[[]smithy/api.File,smithy/api.File,string] -/
set_option maxHeartbeats 4000000 in
set_option maxRecDepth 100000 in
theorem slices_BinarySearchFunc_api_File_api_File_string.l0.mono {a2 a2' : File → ByteArray → Option Int} (hpa2 : ∀ z0 z1, Le (a2 z0 z1) (a2' z0 z1)) (a0 : List File) (a1 : ByteArray) : ∀ {k k' : Nat}, k ≤ k' → ∀ s, Le (slices_BinarySearchFunc_api_File_api_File_string.l0 a0 a1 a2 k s) (slices_BinarySearchFunc_api_File_api_File_string.l0 a0 a1 a2' k' s) := by
  intro k
  induction k with
  | zero => exact fun _ s => Le.none _
  | succ k ih =>
    intro k' hk s
    cases k' with
    | zero => exact absurd hk (by omega)
    | succ k' =>
      have hk' := Nat.le_of_succ_le_succ hk
      simp only [slices_BinarySearchFunc_api_File_api_File_string.l0]
      repeat' (first | with_reducible exact Le.refl _ | exact hpa2 _ _ | exact ih hk' _ | refine Le.cond ?_ ?_ | refine Le.bind ?_ (fun _ => ?_) | cases ‹Except _ _› | intro _)
noncomputable def slices_BinarySearchFunc_api_File_api_File_string.l0.v (a0 : List File) (a1 : ByteArray) (a2 : File → ByteArray → Option Int) (s : Int × Int) : Option Int := lim (fun k => slices_BinarySearchFunc_api_File_api_File_string.l0 a0 a1 a2 k s)
theorem slices_BinarySearchFunc_api_File_api_File_string.l0.tends (a0 : List File) (a1 : ByteArray) (a2 : File → ByteArray → Option Int) (s : Int × Int) : Tends (fun k => slices_BinarySearchFunc_api_File_api_File_string.l0 a0 a1 a2 k s) (slices_BinarySearchFunc_api_File_api_File_string.l0.v a0 a1 a2 s) := tends_lim (fun hk => slices_BinarySearchFunc_api_File_api_File_string.l0.mono (fun _ _ => Le.refl _) a0 a1 hk s)
set_option maxHeartbeats 4000000 in
set_option maxRecDepth 100000 in
theorem slices_BinarySearchFunc_api_File_api_File_string.l0.v_eq (a0 : List File) (a1 : ByteArray) (a2 : File → ByteArray → Option Int) (s1 : Int × Int) : slices_BinarySearchFunc_api_File_api_File_string.l0.v a0 a1 a2 s1 = bif icmp .lss s1.1 s1.2 then ((idx a0 (IntKind.i64.wrap ((IntKind.u64.wrap (IntKind.i64.wrap (s1.1 + s1.2))) / 2 ^ (Int.toNat (1 : Int))))).bind fun x5 => (a2 x5 a1).bind fun v7 => bif icmp .lss v7 (0 : Int) then (slices_BinarySearchFunc_api_File_api_File_string.l0.v a0 a1 a2 (IntKind.i64.wrap (IntKind.i64.wrap ((IntKind.u64.wrap (IntKind.i64.wrap (s1.1 + s1.2))) / 2 ^ (Int.toNat (1 : Int))) + (1 : Int)), s1.2)) else (slices_BinarySearchFunc_api_File_api_File_string.l0.v a0 a1 a2 (s1.1, IntKind.i64.wrap ((IntKind.u64.wrap (IntKind.i64.wrap (s1.1 + s1.2))) / 2 ^ (Int.toNat (1 : Int)))))) else (some s1.1) := (slices_BinarySearchFunc_api_File_api_File_string.l0.tends a0 a1 a2 s1).shift.uniq (by
  simp only [slices_BinarySearchFunc_api_File_api_File_string.l0]
  repeat' (first | with_reducible exact Tends.const _ | apply slices_BinarySearchFunc_api_File_api_File_string.l0.tends | refine Tends.cond ?_ ?_ | refine Tends.bind ?_ (fun _ => ?_) | cases ‹Except _ _› | intro _))
set_option maxHeartbeats 4000000 in
set_option maxRecDepth 100000 in
theorem slices_BinarySearchFunc_api_File_api_File_string.l0.tendsP {pa2 : Nat → File → ByteArray → Option Int} {qa2 : File → ByteArray → Option Int} (hpa2 : ∀ z0 z1, Tends (fun j => pa2 j z0 z1) (qa2 z0 z1)) (a0 : List File) (a1 : ByteArray) : ∀ (K : Nat) s, Tends (fun j => slices_BinarySearchFunc_api_File_api_File_string.l0 a0 a1 (pa2 j) K s) (slices_BinarySearchFunc_api_File_api_File_string.l0 a0 a1 qa2 K s) := by
  intro K
  induction K with
  | zero => exact fun s => Tends.const _
  | succ K ih =>
    intro s
    simp only [slices_BinarySearchFunc_api_File_api_File_string.l0]
    repeat' (first | with_reducible exact Tends.const _ | exact hpa2 _ _ | exact ih _ | refine Tends.cond ?_ ?_ | refine Tends.bind ?_ (fun _ => ?_) | cases ‹Except _ _› | intro _)
set_option maxHeartbeats 4000000 in
set_option maxRecDepth 100000 in
theorem slices_BinarySearchFunc_api_File_api_File_string.mono {k k' : Nat} (hk' : k ≤ k') {a2 a2' : File → ByteArray → Option Int} (hpa2 : ∀ z0 z1, Le (a2 z0 z1) (a2' z0 z1)) (a0 : List File) (a1 : ByteArray) : Le (slices_BinarySearchFunc_api_File_api_File_string.f k a0 a1 a2 ) (slices_BinarySearchFunc_api_File_api_File_string.f k' a0 a1 a2' ) := by
  simp only [slices_BinarySearchFunc_api_File_api_File_string.f]
  repeat' (first | with_reducible exact Le.refl _ | exact hpa2 _ _ | refine slices_BinarySearchFunc_api_File_api_File_string.l0.mono hpa2 _ _ hk' _ | refine Le.cond ?_ ?_ | refine Le.bind ?_ (fun _ => ?_) | cases ‹Except _ _› | intro _)
noncomputable def slices_BinarySearchFunc_api_File_api_File_string.v (a0 : List File) (a1 : ByteArray) (a2 : File → ByteArray → Option Int) : Option (Int × Bool) := lim (fun k => slices_BinarySearchFunc_api_File_api_File_string.f k a0 a1 a2 )
theorem slices_BinarySearchFunc_api_File_api_File_string.tends (a0 : List File) (a1 : ByteArray) (a2 : File → ByteArray → Option Int) : Tends (fun k => slices_BinarySearchFunc_api_File_api_File_string.f k a0 a1 a2 ) (slices_BinarySearchFunc_api_File_api_File_string.v a0 a1 a2 ) := tends_lim (fun hk => slices_BinarySearchFunc_api_File_api_File_string.mono hk (fun _ _ => Le.refl _) a0 a1 )
set_option maxHeartbeats 4000000 in
set_option maxRecDepth 100000 in
theorem slices_BinarySearchFunc_api_File_api_File_string.v_eq (a0 : List File) (a1 : ByteArray) (a2 : File → ByteArray → Option Int) : slices_BinarySearchFunc_api_File_api_File_string.v a0 a1 a2 = (slices_BinarySearchFunc_api_File_api_File_string.l0.v a0 a1 a2 ((0 : Int), (a0.length : Int))).bind fun s2 => (bif icmp .lss s2 (a0.length : Int) then ((idx a0 s2).bind fun x13 => (a2 x13 a1).bind fun v15 => some (icmp .eql v15 (0 : Int))) else (some false)).bind fun s10 => some (s2, s10) := (slices_BinarySearchFunc_api_File_api_File_string.tends a0 a1 a2 ).uniq (by
  simp only [slices_BinarySearchFunc_api_File_api_File_string.f]
  repeat' (first | with_reducible exact Tends.const _ | apply slices_BinarySearchFunc_api_File_api_File_string.l0.tends | refine Tends.cond ?_ ?_ | refine Tends.bind ?_ (fun _ => ?_) | cases ‹Except _ _› | intro _))
set_option maxHeartbeats 4000000 in
set_option maxRecDepth 100000 in
theorem slices_BinarySearchFunc_api_File_api_File_string.tendsP {pa2 : Nat → File → ByteArray → Option Int} {qa2 : File → ByteArray → Option Int} (hpa2 : ∀ z0 z1, Tends (fun j => pa2 j z0 z1) (qa2 z0 z1)) (a0 : List File) (a1 : ByteArray) (K : Nat) : Tends (fun j => slices_BinarySearchFunc_api_File_api_File_string.f K a0 a1 (pa2 j) ) (slices_BinarySearchFunc_api_File_api_File_string.f K a0 a1 qa2 ) := by
  simp only [slices_BinarySearchFunc_api_File_api_File_string.f]
  repeat' (first | with_reducible exact Tends.const _ | exact hpa2 _ _ | refine slices_BinarySearchFunc_api_File_api_File_string.l0.tendsP hpa2 _ _ _ _ | refine Tends.cond ?_ ?_ | refine Tends.bind ?_ (fun _ => ?_) | cases ‹Except _ _› | intro _)
theorem slices_BinarySearchFunc_api_File_api_File_string.tends2 {pa2 : Nat → File → ByteArray → Option Int} {qa2 : File → ByteArray → Option Int} (hpa2 : ∀ z0 z1, Tends (fun j => pa2 j z0 z1) (qa2 z0 z1)) (a0 : List File) (a1 : ByteArray) : Tends (fun k => slices_BinarySearchFunc_api_File_api_File_string.f k a0 a1 (pa2 k) ) (slices_BinarySearchFunc_api_File_api_File_string.v a0 a1 qa2 ) := Tends.diag (f := fun K j => slices_BinarySearchFunc_api_File_api_File_string.f K a0 a1 (pa2 j) ) (fun K => slices_BinarySearchFunc_api_File_api_File_string.tendsP hpa2 a0 a1 K) (fun h j => slices_BinarySearchFunc_api_File_api_File_string.mono h (fun _ _ => Le.refl _) a0 a1 ) (slices_BinarySearchFunc_api_File_api_File_string.tends a0 a1 qa2 )
/-! smithy/disk.place$1 -/

/-! smithy/disk.place -/
set_option maxHeartbeats 4000000 in
set_option maxRecDepth 100000 in
theorem disk_place.mono {k k' : Nat} (hk' : k ≤ k') (a0 : Disk) (a1 : ByteArray) : Le (disk_place.f k a0 a1 ) (disk_place.f k' a0 a1 ) := by
  simp only [disk_place.f]
  repeat' (first | with_reducible exact Le.refl _ | apply slices_BinarySearchFunc_api_File_api_File_string.mono (hk' := hk') | refine Le.cond ?_ ?_ | refine Le.bind ?_ (fun _ => ?_) | cases ‹Except _ _› | intro _)
noncomputable def disk_place.v (a0 : Disk) (a1 : ByteArray) : Option (Int × Bool) := lim (fun k => disk_place.f k a0 a1 )
theorem disk_place.tends (a0 : Disk) (a1 : ByteArray) : Tends (fun k => disk_place.f k a0 a1 ) (disk_place.v a0 a1 ) := tends_lim (fun hk => disk_place.mono hk a0 a1 )
set_option maxHeartbeats 4000000 in
set_option maxRecDepth 100000 in
theorem disk_place.v_eq (a0 : Disk) (a1 : ByteArray) : disk_place.v a0 a1 = (slices_BinarySearchFunc_api_File_api_File_string.v a0.Files a1 (fun (z0 : File) (z1 : ByteArray) => disk_place_1.f z0 z1)).bind fun v1 => some (v1.1, v1.2) := (disk_place.tends a0 a1 ).uniq (by
  simp only [disk_place.f]
  repeat' (first | with_reducible exact Tends.const _ | apply slices_BinarySearchFunc_api_File_api_File_string.tends2 | refine Tends.cond ?_ ?_ | refine Tends.bind ?_ (fun _ => ?_) | cases ‹Except _ _› | intro _))
/-! smithy/disk.Newest -/
set_option maxHeartbeats 4000000 in
set_option maxRecDepth 100000 in
theorem disk_Newest.l0.mono (a0 : Disk) (a1 : List ByteArray) : ∀ {k k' : Nat}, k ≤ k' → ∀ s, Le (disk_Newest.l0 a0 a1 k s) (disk_Newest.l0 a0 a1 k' s) := by
  intro k
  induction k with
  | zero => exact fun _ s => Le.none _
  | succ k ih =>
    intro k' hk s
    cases k' with
    | zero => exact absurd hk (by omega)
    | succ k' =>
      have hk' := Nat.le_of_succ_le_succ hk
      simp only [disk_Newest.l0]
      repeat' (first | with_reducible exact Le.refl _ | exact ih hk' _ | apply disk_place.mono (hk' := hk') | refine Le.cond ?_ ?_ | refine Le.bind ?_ (fun _ => ?_) | cases ‹Except _ _› | intro _)
noncomputable def disk_Newest.l0.v (a0 : Disk) (a1 : List ByteArray) (s : ByteArray × Int × Int) : Option (ByteArray × Int) := lim (fun k => disk_Newest.l0 a0 a1 k s)
theorem disk_Newest.l0.tends (a0 : Disk) (a1 : List ByteArray) (s : ByteArray × Int × Int) : Tends (fun k => disk_Newest.l0 a0 a1 k s) (disk_Newest.l0.v a0 a1 s) := tends_lim (fun hk => disk_Newest.l0.mono a0 a1 hk s)
set_option maxHeartbeats 4000000 in
set_option maxRecDepth 100000 in
theorem disk_Newest.l0.v_eq (a0 : Disk) (a1 : List ByteArray) (s8 : ByteArray × Int × Int) : disk_Newest.l0.v a0 a1 s8 = bif icmp .lss s8.2.2 (a1.length : Int) then (((idx a1 s8.2.2).bind fun x14 => (disk_place.v a0 x14).bind fun v16 => (bif v16.2 then ((idx a0.Files v16.1).bind fun x21 => some (icmp .gtr x21.Stamp s8.2.1)) else (some false)).bind fun s18 => bif s18 then ((idx a0.Files v16.1).bind fun x24 => some (x14, x24.Stamp)) else (some (s8.1, s8.2.1))).bind fun s12 => disk_Newest.l0.v a0 a1 (s12.1, s12.2, IntKind.i64.wrap (s8.2.2 + (1 : Int)))) else (some (s8.1, s8.2.1)) := (disk_Newest.l0.tends a0 a1 s8).shift.uniq (by
  simp only [disk_Newest.l0]
  repeat' (first | with_reducible exact Tends.const _ | apply disk_place.tends | apply disk_Newest.l0.tends | refine Tends.cond ?_ ?_ | refine Tends.bind ?_ (fun _ => ?_) | cases ‹Except _ _› | intro _))
set_option maxHeartbeats 4000000 in
set_option maxRecDepth 100000 in
theorem disk_Newest.mono {k k' : Nat} (hk' : k ≤ k') (a0 : Disk) (a1 : List ByteArray) : Le (disk_Newest.f k a0 a1 ) (disk_Newest.f k' a0 a1 ) := by
  simp only [disk_Newest.f]
  repeat' (first | with_reducible exact Le.refl _ | apply disk_Check.mono (hk' := hk') | apply slices_ContainsFunc_string_string.mono (hk' := hk') | apply disk_Newest_1.mono (hk' := hk') | refine disk_Newest.l0.mono _ _ hk' _ | refine Le.cond ?_ ?_ | refine Le.bind ?_ (fun _ => ?_) | cases ‹Except _ _› | intro _)
noncomputable def disk_Newest.v (a0 : Disk) (a1 : List ByteArray) : Option (ByteArray × Int) := lim (fun k => disk_Newest.f k a0 a1 )
theorem disk_Newest.tends (a0 : Disk) (a1 : List ByteArray) : Tends (fun k => disk_Newest.f k a0 a1 ) (disk_Newest.v a0 a1 ) := tends_lim (fun hk => disk_Newest.mono hk a0 a1 )
set_option maxHeartbeats 4000000 in
set_option maxRecDepth 100000 in
theorem disk_Newest.v_eq (a0 : Disk) (a1 : List ByteArray) : disk_Newest.v a0 a1 = (disk_Check.v a0).bind fun v1 => bif icmp .neq v1 (0 : Int) then (some ((⟨#[]⟩ : ByteArray), v1)) else (bif icmp .gtr (a1.length : Int) (512 : Int) then (some ((⟨#[]⟩ : ByteArray), (2 : Int))) else ((slices_ContainsFunc_string_string.v a1 (fun (z0 : ByteArray) => disk_Newest_1.v z0)).bind fun v5 => bif v5 then (some ((⟨#[]⟩ : ByteArray), (3 : Int))) else ((disk_Newest.l0.v a0 a1 ((⟨#[]⟩ : ByteArray), (-1 : Int), (0 : Int))).bind fun s9 => bif icmp .lss s9.2 (0 : Int) then (some ((⟨#[]⟩ : ByteArray), (21 : Int))) else (some (s9.1, (0 : Int)))))) := (disk_Newest.tends a0 a1 ).uniq (by
  simp only [disk_Newest.f]
  repeat' (first | with_reducible exact Tends.const _ | apply disk_Check.tends | apply slices_ContainsFunc_string_string.tends2 | apply disk_Newest_1.tends | apply disk_Newest.l0.tends | refine Tends.cond ?_ ?_ | refine Tends.bind ?_ (fun _ => ?_) | cases ‹Except _ _› | intro _))
/-! smithy/stale.list -/
set_option maxHeartbeats 4000000 in
set_option maxRecDepth 100000 in
theorem stale_list.mono {k k' : Nat} (hk' : k ≤ k') (a0 : List ByteArray) : Le (stale_list.f k a0 ) (stale_list.f k' a0 ) := by
  simp only [stale_list.f]
  repeat' (first | with_reducible exact Le.refl _ | apply disk_Newest.mono (hk' := hk') | refine Le.cond ?_ ?_ | refine Le.bind ?_ (fun _ => ?_) | cases ‹Except _ _› | intro _)
noncomputable def stale_list.v (a0 : List ByteArray) : Option Int := lim (fun k => stale_list.f k a0 )
theorem stale_list.tends (a0 : List ByteArray) : Tends (fun k => stale_list.f k a0 ) (stale_list.v a0 ) := tends_lim (fun hk => stale_list.mono hk a0 )
set_option maxHeartbeats 4000000 in
set_option maxRecDepth 100000 in
theorem stale_list.v_eq (a0 : List ByteArray) : stale_list.v a0 = (disk_Newest.v (⟨(0 : Int), ([] : List File)⟩ : Disk) a0).bind fun v1 => bif icmp .eql v1.2 (21 : Int) then (some (0 : Int)) else (some v1.2) := (stale_list.tends a0 ).uniq (by
  simp only [stale_list.f]
  repeat' (first | with_reducible exact Tends.const _ | apply disk_Newest.tends | refine Tends.cond ?_ ?_ | refine Tends.bind ?_ (fun _ => ?_) | cases ‹Except _ _› | intro _))
/-! smithy/stale.fit -/
set_option maxHeartbeats 4000000 in
set_option maxRecDepth 100000 in
theorem stale_fit.mono {k k' : Nat} (hk' : k ≤ k') (a0 : Node) (a1 : Disk) (a2 : List ByteArray) : Le (stale_fit.f k a0 a1 a2 ) (stale_fit.f k' a0 a1 a2 ) := by
  simp only [stale_fit.f]
  repeat' (first | with_reducible exact Le.refl _ | apply stale_alone.mono (hk' := hk') | apply disk_Check.mono (hk' := hk') | apply stale_list.mono (hk' := hk') | refine Le.cond ?_ ?_ | refine Le.bind ?_ (fun _ => ?_) | cases ‹Except _ _› | intro _)
noncomputable def stale_fit.v (a0 : Node) (a1 : Disk) (a2 : List ByteArray) : Option Int := lim (fun k => stale_fit.f k a0 a1 a2 )
theorem stale_fit.tends (a0 : Node) (a1 : Disk) (a2 : List ByteArray) : Tends (fun k => stale_fit.f k a0 a1 a2 ) (stale_fit.v a0 a1 a2 ) := tends_lim (fun hk => stale_fit.mono hk a0 a1 a2 )
set_option maxHeartbeats 4000000 in
set_option maxRecDepth 100000 in
theorem stale_fit.v_eq (a0 : Node) (a1 : Disk) (a2 : List ByteArray) : stale_fit.v a0 a1 a2 = (stale_alone.v a0).bind fun v1 => bif icmp .neq v1 (0 : Int) then (some v1) else ((disk_Check.v a1).bind fun v4 => bif icmp .neq v4 (0 : Int) then (some v4) else ((stale_list.v a2).bind fun v7 => some v7)) := (stale_fit.tends a0 a1 a2 ).uniq (by
  simp only [stale_fit.f]
  repeat' (first | with_reducible exact Tends.const _ | apply stale_alone.tends | apply disk_Check.tends | apply stale_list.tends | refine Tends.cond ?_ ?_ | refine Tends.bind ?_ (fun _ => ?_) | cases ‹Except _ _› | intro _))
/-! smithy/disk.asked -/
set_option maxHeartbeats 4000000 in
set_option maxRecDepth 100000 in
theorem disk_asked.mono {k k' : Nat} (hk' : k ≤ k') (a0 : Disk) (a1 : ByteArray) : Le (disk_asked.f k a0 a1 ) (disk_asked.f k' a0 a1 ) := by
  simp only [disk_asked.f]
  repeat' (first | with_reducible exact Le.refl _ | apply disk_Check.mono (hk' := hk') | apply disk_named.mono (hk' := hk') | refine Le.cond ?_ ?_ | refine Le.bind ?_ (fun _ => ?_) | cases ‹Except _ _› | intro _)
noncomputable def disk_asked.v (a0 : Disk) (a1 : ByteArray) : Option Int := lim (fun k => disk_asked.f k a0 a1 )
theorem disk_asked.tends (a0 : Disk) (a1 : ByteArray) : Tends (fun k => disk_asked.f k a0 a1 ) (disk_asked.v a0 a1 ) := tends_lim (fun hk => disk_asked.mono hk a0 a1 )
set_option maxHeartbeats 4000000 in
set_option maxRecDepth 100000 in
theorem disk_asked.v_eq (a0 : Disk) (a1 : ByteArray) : disk_asked.v a0 a1 = (disk_Check.v a0).bind fun v1 => bif icmp .neq v1 (0 : Int) then (some v1) else ((disk_named.v a1).bind fun v4 => bif !v4 then (some (3 : Int)) else (some (0 : Int))) := (disk_asked.tends a0 a1 ).uniq (by
  simp only [disk_asked.f]
  repeat' (first | with_reducible exact Tends.const _ | apply disk_Check.tends | apply disk_named.tends | refine Tends.cond ?_ ?_ | refine Tends.bind ?_ (fun _ => ?_) | cases ‹Except _ _› | intro _))
/-! smithy/disk.Find -/
set_option maxHeartbeats 4000000 in
set_option maxRecDepth 100000 in
theorem disk_Find.mono {k k' : Nat} (hk' : k ≤ k') (a0 : Disk) (a1 : ByteArray) : Le (disk_Find.f k a0 a1 ) (disk_Find.f k' a0 a1 ) := by
  simp only [disk_Find.f]
  repeat' (first | with_reducible exact Le.refl _ | apply disk_asked.mono (hk' := hk') | apply disk_place.mono (hk' := hk') | refine Le.cond ?_ ?_ | refine Le.bind ?_ (fun _ => ?_) | cases ‹Except _ _› | intro _)
noncomputable def disk_Find.v (a0 : Disk) (a1 : ByteArray) : Option (File × Int) := lim (fun k => disk_Find.f k a0 a1 )
theorem disk_Find.tends (a0 : Disk) (a1 : ByteArray) : Tends (fun k => disk_Find.f k a0 a1 ) (disk_Find.v a0 a1 ) := tends_lim (fun hk => disk_Find.mono hk a0 a1 )
set_option maxHeartbeats 4000000 in
set_option maxRecDepth 100000 in
theorem disk_Find.v_eq (a0 : Disk) (a1 : ByteArray) : disk_Find.v a0 a1 = (disk_asked.v a0 a1).bind fun v1 => bif icmp .neq v1 (0 : Int) then (some ((⟨ByteArray.empty, ByteArray.empty, (0 : Int)⟩ : File), v1)) else ((disk_place.v a0 a1).bind fun v4 => bif !v4.2 then (some ((⟨ByteArray.empty, ByteArray.empty, (0 : Int)⟩ : File), (21 : Int))) else ((idx a0.Files v4.1).bind fun x7 => some (x7, (0 : Int)))) := (disk_Find.tends a0 a1 ).uniq (by
  simp only [disk_Find.f]
  repeat' (first | with_reducible exact Tends.const _ | apply disk_asked.tends | apply disk_place.tends | refine Tends.cond ?_ ?_ | refine Tends.bind ?_ (fun _ => ?_) | cases ‹Except _ _› | intro _))
/-! smithy/stale.file -/
set_option maxHeartbeats 4000000 in
set_option maxRecDepth 100000 in
theorem stale_file.mono {k k' : Nat} (hk' : k ≤ k') (a0 : Disk) (a1 : ByteArray) : Le (stale_file.f k a0 a1 ) (stale_file.f k' a0 a1 ) := by
  simp only [stale_file.f]
  repeat' (first | with_reducible exact Le.refl _ | apply disk_Find.mono (hk' := hk') | refine Le.cond ?_ ?_ | refine Le.bind ?_ (fun _ => ?_) | cases ‹Except _ _› | intro _)
noncomputable def stale_file.v (a0 : Disk) (a1 : ByteArray) : Option (File × Bool) := lim (fun k => stale_file.f k a0 a1 )
theorem stale_file.tends (a0 : Disk) (a1 : ByteArray) : Tends (fun k => stale_file.f k a0 a1 ) (stale_file.v a0 a1 ) := tends_lim (fun hk => stale_file.mono hk a0 a1 )
set_option maxHeartbeats 4000000 in
set_option maxRecDepth 100000 in
theorem stale_file.v_eq (a0 : Disk) (a1 : ByteArray) : stale_file.v a0 a1 = (disk_Find.v a0 a1).bind fun v1 => some (v1.1, icmp .eql v1.2 (0 : Int)) := (stale_file.tends a0 a1 ).uniq (by
  simp only [stale_file.f]
  repeat' (first | with_reducible exact Tends.const _ | apply disk_Find.tends | refine Tends.cond ?_ ?_ | refine Tends.bind ?_ (fun _ => ?_) | cases ‹Except _ _› | intro _))
/-! smithy/stale.why -/
set_option maxHeartbeats 4000000 in
set_option maxRecDepth 100000 in
theorem stale_why.l0.mono (a0 : Node) (a1 : Disk) (a2 : List ByteArray) (v2 : File × Bool) : ∀ {k k' : Nat}, k ≤ k' → ∀ s, Le (stale_why.l0 a0 a1 a2 v2 k s) (stale_why.l0 a0 a1 a2 v2 k' s) := by
  intro k
  induction k with
  | zero => exact fun _ s => Le.none _
  | succ k ih =>
    intro k' hk s
    cases k' with
    | zero => exact absurd hk (by omega)
    | succ k' =>
      have hk' := Nat.le_of_succ_le_succ hk
      simp only [stale_why.l0]
      repeat' (first | with_reducible exact Le.refl _ | exact ih hk' _ | apply stale_file.mono (hk' := hk') | apply slices_Contains_string_string.mono (hk' := hk') | refine Le.cond ?_ ?_ | refine Le.bind ?_ (fun _ => ?_) | cases ‹Except _ _› | intro _)
noncomputable def stale_why.l0.v (a0 : Node) (a1 : Disk) (a2 : List ByteArray) (v2 : File × Bool) (s : ByteArray × Int) : Option (Except (Int × ByteArray) ByteArray) := lim (fun k => stale_why.l0 a0 a1 a2 v2 k s)
theorem stale_why.l0.tends (a0 : Node) (a1 : Disk) (a2 : List ByteArray) (v2 : File × Bool) (s : ByteArray × Int) : Tends (fun k => stale_why.l0 a0 a1 a2 v2 k s) (stale_why.l0.v a0 a1 a2 v2 s) := tends_lim (fun hk => stale_why.l0.mono a0 a1 a2 v2 hk s)
set_option maxHeartbeats 4000000 in
set_option maxRecDepth 100000 in
theorem stale_why.l0.v_eq (a0 : Node) (a1 : Disk) (a2 : List ByteArray) (v2 : File × Bool) (s5 : ByteArray × Int) : stale_why.l0.v a0 a1 a2 v2 s5 = bif icmp .lss s5.2 (a0.Needs.length : Int) then (((idx a0.Needs s5.2).bind fun x13 => (stale_file.v a1 x13).bind fun v15 => (bif !v15.2 then (some true) else ((slices_Contains_string_string.v a2 x13).bind fun v20 => some v20)).bind fun s17 => bif s17 then (some (Except.error ((3 : Int), x13))) else ((bif icmp .gtr v15.1.Stamp v2.1.Stamp then (some (scmp .eql s5.1 (⟨#[]⟩ : ByteArray))) else (some false)).bind fun s23 => bif s23 then (some (Except.ok x13)) else (some (Except.ok s5.1)))).bind fun o12 => match o12 with | .error r' => some (Except.error r') | .ok s10 => (stale_why.l0.v a0 a1 a2 v2 (s10, IntKind.i64.wrap (s5.2 + (1 : Int))))) else (some (Except.ok s5.1)) := (stale_why.l0.tends a0 a1 a2 v2 s5).shift.uniq (by
  simp only [stale_why.l0]
  repeat' (first | with_reducible exact Tends.const _ | apply stale_file.tends | apply slices_Contains_string_string.tends | apply stale_why.l0.tends | refine Tends.cond ?_ ?_ | refine Tends.bind ?_ (fun _ => ?_) | cases ‹Except _ _› | intro _))
set_option maxHeartbeats 4000000 in
set_option maxRecDepth 100000 in
theorem stale_why.mono {k k' : Nat} (hk' : k ≤ k') (a0 : Node) (a1 : Disk) (a2 : List ByteArray) : Le (stale_why.f k a0 a1 a2 ) (stale_why.f k' a0 a1 a2 ) := by
  simp only [stale_why.f]
  repeat' (first | with_reducible exact Le.refl _ | apply stale_file.mono (hk' := hk') | refine stale_why.l0.mono _ _ _ _ hk' _ | refine Le.cond ?_ ?_ | refine Le.bind ?_ (fun _ => ?_) | cases ‹Except _ _› | intro _)
noncomputable def stale_why.v (a0 : Node) (a1 : Disk) (a2 : List ByteArray) : Option (Int × ByteArray) := lim (fun k => stale_why.f k a0 a1 a2 )
theorem stale_why.tends (a0 : Node) (a1 : Disk) (a2 : List ByteArray) : Tends (fun k => stale_why.f k a0 a1 a2 ) (stale_why.v a0 a1 a2 ) := tends_lim (fun hk => stale_why.mono hk a0 a1 a2 )
set_option maxHeartbeats 4000000 in
set_option maxRecDepth 100000 in
theorem stale_why.v_eq (a0 : Node) (a1 : Disk) (a2 : List ByteArray) : stale_why.v a0 a1 a2 = bif a0.Phony then (some ((1 : Int), (⟨#[]⟩ : ByteArray))) else ((stale_file.v a1 a0.Target).bind fun v2 => bif !v2.2 then (some ((2 : Int), (⟨#[]⟩ : ByteArray))) else ((stale_why.l0.v a0 a1 a2 v2 ((⟨#[]⟩ : ByteArray), (0 : Int))).bind fun o8 => match o8 with | .error r' => some r' | .ok s6 => (bif scmp .neq s6 (⟨#[]⟩ : ByteArray) then (some ((4 : Int), s6)) else (some ((0 : Int), (⟨#[]⟩ : ByteArray)))))) := (stale_why.tends a0 a1 a2 ).uniq (by
  simp only [stale_why.f]
  repeat' (first | with_reducible exact Tends.const _ | apply stale_file.tends | apply stale_why.l0.tends | refine Tends.cond ?_ ?_ | refine Tends.bind ?_ (fun _ => ?_) | cases ‹Except _ _› | intro _))
/-! smithy/stale.Why -/
set_option maxHeartbeats 4000000 in
set_option maxRecDepth 100000 in
theorem stale_Why.mono {k k' : Nat} (hk' : k ≤ k') (a0 : Node) (a1 : Disk) (a2 : List ByteArray) : Le (stale_Why.f k a0 a1 a2 ) (stale_Why.f k' a0 a1 a2 ) := by
  simp only [stale_Why.f]
  repeat' (first | with_reducible exact Le.refl _ | apply stale_fit.mono (hk' := hk') | apply stale_why.mono (hk' := hk') | refine Le.cond ?_ ?_ | refine Le.bind ?_ (fun _ => ?_) | cases ‹Except _ _› | intro _)
noncomputable def stale_Why.v (a0 : Node) (a1 : Disk) (a2 : List ByteArray) : Option (Int × ByteArray × Int) := lim (fun k => stale_Why.f k a0 a1 a2 )
theorem stale_Why.tends (a0 : Node) (a1 : Disk) (a2 : List ByteArray) : Tends (fun k => stale_Why.f k a0 a1 a2 ) (stale_Why.v a0 a1 a2 ) := tends_lim (fun hk => stale_Why.mono hk a0 a1 a2 )
set_option maxHeartbeats 4000000 in
set_option maxRecDepth 100000 in
theorem stale_Why.v_eq (a0 : Node) (a1 : Disk) (a2 : List ByteArray) : stale_Why.v a0 a1 a2 = (stale_fit.v a0 a1 a2).bind fun v1 => bif icmp .neq v1 (0 : Int) then (some ((0 : Int), (⟨#[]⟩ : ByteArray), v1)) else ((stale_why.v a0 a1 a2).bind fun v4 => some (v4.1, v4.2, (0 : Int))) := (stale_Why.tends a0 a1 a2 ).uniq (by
  simp only [stale_Why.f]
  repeat' (first | with_reducible exact Tends.const _ | apply stale_fit.tends | apply stale_why.tends | refine Tends.cond ?_ ?_ | refine Tends.bind ?_ (fun _ => ?_) | cases ‹Except _ _› | intro _))
/-! smithy/stale.Is -/
set_option maxHeartbeats 4000000 in
set_option maxRecDepth 100000 in
theorem stale_Is.mono {k k' : Nat} (hk' : k ≤ k') (a0 : Node) (a1 : Disk) (a2 : List ByteArray) : Le (stale_Is.f k a0 a1 a2 ) (stale_Is.f k' a0 a1 a2 ) := by
  simp only [stale_Is.f]
  repeat' (first | with_reducible exact Le.refl _ | apply stale_Why.mono (hk' := hk') | refine Le.cond ?_ ?_ | refine Le.bind ?_ (fun _ => ?_) | cases ‹Except _ _› | intro _)
noncomputable def stale_Is.v (a0 : Node) (a1 : Disk) (a2 : List ByteArray) : Option (Bool × Int) := lim (fun k => stale_Is.f k a0 a1 a2 )
theorem stale_Is.tends (a0 : Node) (a1 : Disk) (a2 : List ByteArray) : Tends (fun k => stale_Is.f k a0 a1 a2 ) (stale_Is.v a0 a1 a2 ) := tends_lim (fun hk => stale_Is.mono hk a0 a1 a2 )
set_option maxHeartbeats 4000000 in
set_option maxRecDepth 100000 in
theorem stale_Is.v_eq (a0 : Node) (a1 : Disk) (a2 : List ByteArray) : stale_Is.v a0 a1 a2 = (stale_Why.v a0 a1 a2).bind fun v1 => some (icmp .neq v1.1 (0 : Int), v1.2.2) := (stale_Is.tends a0 a1 a2 ).uniq (by
  simp only [stale_Is.f]
  repeat' (first | with_reducible exact Tends.const _ | apply stale_Why.tends | refine Tends.cond ?_ ?_ | refine Tends.bind ?_ (fun _ => ?_) | cases ‹Except _ _› | intro _))
/-! slices.Clone[[]string,string] -/

/-! smithy/stale.newer$1 -/
set_option maxHeartbeats 4000000 in
set_option maxRecDepth 100000 in
theorem stale_newer_1.mono {k k' : Nat} (hk' : k ≤ k') (a0 : ByteArray) (c0 : Disk) (c1 : Bool) (c2 : File) (c3 : List ByteArray) : Le (stale_newer_1.f k a0 c0 c1 c2 c3 ) (stale_newer_1.f k' a0 c0 c1 c2 c3 ) := by
  simp only [stale_newer_1.f]
  repeat' (first | with_reducible exact Le.refl _ | apply stale_file.mono (hk' := hk') | apply slices_Contains_string_string.mono (hk' := hk') | refine Le.cond ?_ ?_ | refine Le.bind ?_ (fun _ => ?_) | cases ‹Except _ _› | intro _)
noncomputable def stale_newer_1.v (a0 : ByteArray) (c0 : Disk) (c1 : Bool) (c2 : File) (c3 : List ByteArray) : Option Bool := lim (fun k => stale_newer_1.f k a0 c0 c1 c2 c3 )
theorem stale_newer_1.tends (a0 : ByteArray) (c0 : Disk) (c1 : Bool) (c2 : File) (c3 : List ByteArray) : Tends (fun k => stale_newer_1.f k a0 c0 c1 c2 c3 ) (stale_newer_1.v a0 c0 c1 c2 c3 ) := tends_lim (fun hk => stale_newer_1.mono hk a0 c0 c1 c2 c3 )
set_option maxHeartbeats 4000000 in
set_option maxRecDepth 100000 in
theorem stale_newer_1.v_eq (a0 : ByteArray) (c0 : Disk) (c1 : Bool) (c2 : File) (c3 : List ByteArray) : stale_newer_1.v a0 c0 c1 c2 c3 = (stale_file.v c0 a0).bind fun v1 => (bif c1 then (bif v1.2 then (bif icmp .leq v1.1.Stamp c2.Stamp then ((slices_Contains_string_string.v c3 a0).bind fun v8 => some (!v8)) else (some false)) else (some false)) else (some false)).bind fun s3 => some s3 := (stale_newer_1.tends a0 c0 c1 c2 c3 ).uniq (by
  simp only [stale_newer_1.f]
  repeat' (first | with_reducible exact Tends.const _ | apply stale_file.tends | apply slices_Contains_string_string.tends | refine Tends.cond ?_ ?_ | refine Tends.bind ?_ (fun _ => ?_) | cases ‹Except _ _› | intro _))
/-! slices.DeleteFunc[[]string,string] -/
set_option maxHeartbeats 4000000 in
set_option maxRecDepth 100000 in
theorem slices_DeleteFunc_string_string.l0.mono {a1 a1' : ByteArray → Option Bool} (hpa1 : ∀ z0, Le (a1 z0) (a1' z0)) : ∀ {k k' : Nat}, k ≤ k' → ∀ s, Le (slices_DeleteFunc_string_string.l0 a1 k s) (slices_DeleteFunc_string_string.l0 a1' k' s) := by
  intro k
  induction k with
  | zero => exact fun _ s => Le.none _
  | succ k ih =>
    intro k' hk s
    cases k' with
    | zero => exact absurd hk (by omega)
    | succ k' =>
      have hk' := Nat.le_of_succ_le_succ hk
      simp only [slices_DeleteFunc_string_string.l0]
      repeat' (first | with_reducible exact Le.refl _ | exact hpa1 _ | exact ih hk' _ | refine Le.cond ?_ ?_ | refine Le.bind ?_ (fun _ => ?_) | cases ‹Except _ _› | intro _)
noncomputable def slices_DeleteFunc_string_string.l0.v (a1 : ByteArray → Option Bool) (s : (List ByteArray) × Int × Int) : Option ((List ByteArray) × Int) := lim (fun k => slices_DeleteFunc_string_string.l0 a1 k s)
theorem slices_DeleteFunc_string_string.l0.tends (a1 : ByteArray → Option Bool) (s : (List ByteArray) × Int × Int) : Tends (fun k => slices_DeleteFunc_string_string.l0 a1 k s) (slices_DeleteFunc_string_string.l0.v a1 s) := tends_lim (fun hk => slices_DeleteFunc_string_string.l0.mono (fun _ => Le.refl _) hk s)
set_option maxHeartbeats 4000000 in
set_option maxRecDepth 100000 in
theorem slices_DeleteFunc_string_string.l0.v_eq (a1 : ByteArray → Option Bool) (s4 : (List ByteArray) × Int × Int) : slices_DeleteFunc_string_string.l0.v a1 s4 = bif icmp .lss s4.2.2 (s4.1.length : Int) then (((idx s4.1 s4.2.2).bind fun x10 => (a1 x10).bind fun v12 => bif !v12 then ((idx s4.1 s4.2.1).bind fun x15 => some (s4.1.set s4.2.1.toNat x10, IntKind.i64.wrap (s4.2.1 + (1 : Int)))) else (some (s4.1, s4.2.1))).bind fun s8 => slices_DeleteFunc_string_string.l0.v a1 (s8.1, s8.2, IntKind.i64.wrap (s4.2.2 + (1 : Int)))) else (some (s4.1, s4.2.1)) := (slices_DeleteFunc_string_string.l0.tends a1 s4).shift.uniq (by
  simp only [slices_DeleteFunc_string_string.l0]
  repeat' (first | with_reducible exact Tends.const _ | apply slices_DeleteFunc_string_string.l0.tends | refine Tends.cond ?_ ?_ | refine Tends.bind ?_ (fun _ => ?_) | cases ‹Except _ _› | intro _))
set_option maxHeartbeats 4000000 in
set_option maxRecDepth 100000 in
theorem slices_DeleteFunc_string_string.l0.tendsP {pa1 : Nat → ByteArray → Option Bool} {qa1 : ByteArray → Option Bool} (hpa1 : ∀ z0, Tends (fun j => pa1 j z0) (qa1 z0)) : ∀ (K : Nat) s, Tends (fun j => slices_DeleteFunc_string_string.l0 (pa1 j) K s) (slices_DeleteFunc_string_string.l0 qa1 K s) := by
  intro K
  induction K with
  | zero => exact fun s => Tends.const _
  | succ K ih =>
    intro s
    simp only [slices_DeleteFunc_string_string.l0]
    repeat' (first | with_reducible exact Tends.const _ | exact hpa1 _ | exact ih _ | refine Tends.cond ?_ ?_ | refine Tends.bind ?_ (fun _ => ?_) | cases ‹Except _ _› | intro _)
set_option maxHeartbeats 4000000 in
set_option maxRecDepth 100000 in
theorem slices_DeleteFunc_string_string.mono {k k' : Nat} (hk' : k ≤ k') {a1 a1' : ByteArray → Option Bool} (hpa1 : ∀ z0, Le (a1 z0) (a1' z0)) (a0 : List ByteArray) : Le (slices_DeleteFunc_string_string.f k a0 a1 ) (slices_DeleteFunc_string_string.f k' a0 a1' ) := by
  simp only [slices_DeleteFunc_string_string.f]
  repeat' (first | with_reducible exact Le.refl _ | exact hpa1 _ | apply slices_IndexFunc_string_string.mono (hk' := hk') | refine slices_DeleteFunc_string_string.l0.mono hpa1 hk' _ | refine Le.cond ?_ ?_ | refine Le.bind ?_ (fun _ => ?_) | cases ‹Except _ _› | intro _)
noncomputable def slices_DeleteFunc_string_string.v (a0 : List ByteArray) (a1 : ByteArray → Option Bool) : Option (List ByteArray) := lim (fun k => slices_DeleteFunc_string_string.f k a0 a1 )
theorem slices_DeleteFunc_string_string.tends (a0 : List ByteArray) (a1 : ByteArray → Option Bool) : Tends (fun k => slices_DeleteFunc_string_string.f k a0 a1 ) (slices_DeleteFunc_string_string.v a0 a1 ) := tends_lim (fun hk => slices_DeleteFunc_string_string.mono hk (fun _ => Le.refl _) a0 )
set_option maxHeartbeats 4000000 in
set_option maxRecDepth 100000 in
theorem slices_DeleteFunc_string_string.v_eq (a0 : List ByteArray) (a1 : ByteArray → Option Bool) : slices_DeleteFunc_string_string.v a0 a1 = (slices_IndexFunc_string_string.v a0 a1).bind fun v1 => bif icmp .eql v1 (-1 : Int) then (some a0) else ((slices_DeleteFunc_string_string.l0.v a1 (a0, v1, IntKind.i64.wrap (v1 + (1 : Int)))).bind fun s5 => (inrow s5.1 s5.2).bind fun z17 => (inrow (s5.1.take (Int.toNat s5.2) ++ List.replicate (s5.1.length - Int.toNat s5.2) ByteArray.empty) s5.2).bind fun z19 => some ((s5.1.take (Int.toNat s5.2) ++ List.replicate (s5.1.length - Int.toNat s5.2) ByteArray.empty).take s5.2.toNat)) := (slices_DeleteFunc_string_string.tends a0 a1 ).uniq (by
  simp only [slices_DeleteFunc_string_string.f]
  repeat' (first | with_reducible exact Tends.const _ | apply slices_IndexFunc_string_string.tends2 | apply slices_DeleteFunc_string_string.l0.tends | refine Tends.cond ?_ ?_ | refine Tends.bind ?_ (fun _ => ?_) | cases ‹Except _ _› | intro _))
set_option maxHeartbeats 4000000 in
set_option maxRecDepth 100000 in
theorem slices_DeleteFunc_string_string.tendsP {pa1 : Nat → ByteArray → Option Bool} {qa1 : ByteArray → Option Bool} (hpa1 : ∀ z0, Tends (fun j => pa1 j z0) (qa1 z0)) (a0 : List ByteArray) (K : Nat) : Tends (fun j => slices_DeleteFunc_string_string.f K a0 (pa1 j) ) (slices_DeleteFunc_string_string.f K a0 qa1 ) := by
  simp only [slices_DeleteFunc_string_string.f]
  repeat' (first | with_reducible exact Tends.const _ | exact hpa1 _ | apply slices_IndexFunc_string_string.tendsP | refine slices_DeleteFunc_string_string.l0.tendsP hpa1 _ _ | refine Tends.cond ?_ ?_ | refine Tends.bind ?_ (fun _ => ?_) | cases ‹Except _ _› | intro _)
theorem slices_DeleteFunc_string_string.tends2 {pa1 : Nat → ByteArray → Option Bool} {qa1 : ByteArray → Option Bool} (hpa1 : ∀ z0, Tends (fun j => pa1 j z0) (qa1 z0)) (a0 : List ByteArray) : Tends (fun k => slices_DeleteFunc_string_string.f k a0 (pa1 k) ) (slices_DeleteFunc_string_string.v a0 qa1 ) := Tends.diag (f := fun K j => slices_DeleteFunc_string_string.f K a0 (pa1 j) ) (fun K => slices_DeleteFunc_string_string.tendsP hpa1 a0 K) (fun h j => slices_DeleteFunc_string_string.mono h (fun _ => Le.refl _) a0 ) (slices_DeleteFunc_string_string.tends a0 qa1 )
/-! smithy/stale.newer -/
set_option maxHeartbeats 4000000 in
set_option maxRecDepth 100000 in
theorem stale_newer.mono {k k' : Nat} (hk' : k ≤ k') (a0 : Node) (a1 : Disk) (a2 : List ByteArray) : Le (stale_newer.f k a0 a1 a2 ) (stale_newer.f k' a0 a1 a2 ) := by
  simp only [stale_newer.f]
  repeat' (first | with_reducible exact Le.refl _ | apply stale_file.mono (hk' := hk') | apply slices_DeleteFunc_string_string.mono (hk' := hk') | apply stale_newer_1.mono (hk' := hk') | refine Le.cond ?_ ?_ | refine Le.bind ?_ (fun _ => ?_) | cases ‹Except _ _› | intro _)
noncomputable def stale_newer.v (a0 : Node) (a1 : Disk) (a2 : List ByteArray) : Option (List ByteArray) := lim (fun k => stale_newer.f k a0 a1 a2 )
theorem stale_newer.tends (a0 : Node) (a1 : Disk) (a2 : List ByteArray) : Tends (fun k => stale_newer.f k a0 a1 a2 ) (stale_newer.v a0 a1 a2 ) := tends_lim (fun hk => stale_newer.mono hk a0 a1 a2 )
set_option maxHeartbeats 4000000 in
set_option maxRecDepth 100000 in
theorem stale_newer.v_eq (a0 : Node) (a1 : Disk) (a2 : List ByteArray) : stale_newer.v a0 a1 a2 = (stale_file.v a1 a0.Target).bind fun v1 => (slices_Clone_string_string.f a0.Needs).bind fun v3 => (slices_DeleteFunc_string_string.v v3 (fun (z0 : ByteArray) => stale_newer_1.v z0 a1 v1.2 v1.1 a2)).bind fun v5 => some v5 := (stale_newer.tends a0 a1 a2 ).uniq (by
  simp only [stale_newer.f]
  repeat' (first | with_reducible exact Tends.const _ | apply stale_file.tends | apply slices_DeleteFunc_string_string.tends2 | apply stale_newer_1.tends | refine Tends.cond ?_ ?_ | refine Tends.bind ?_ (fun _ => ?_) | cases ‹Except _ _› | intro _))
/-! smithy/stale.Newer -/
set_option maxHeartbeats 4000000 in
set_option maxRecDepth 100000 in
theorem stale_Newer.mono {k k' : Nat} (hk' : k ≤ k') (a0 : Node) (a1 : Disk) (a2 : List ByteArray) : Le (stale_Newer.f k a0 a1 a2 ) (stale_Newer.f k' a0 a1 a2 ) := by
  simp only [stale_Newer.f]
  repeat' (first | with_reducible exact Le.refl _ | apply stale_fit.mono (hk' := hk') | apply stale_newer.mono (hk' := hk') | refine Le.cond ?_ ?_ | refine Le.bind ?_ (fun _ => ?_) | cases ‹Except _ _› | intro _)
noncomputable def stale_Newer.v (a0 : Node) (a1 : Disk) (a2 : List ByteArray) : Option ((List ByteArray) × Int) := lim (fun k => stale_Newer.f k a0 a1 a2 )
theorem stale_Newer.tends (a0 : Node) (a1 : Disk) (a2 : List ByteArray) : Tends (fun k => stale_Newer.f k a0 a1 a2 ) (stale_Newer.v a0 a1 a2 ) := tends_lim (fun hk => stale_Newer.mono hk a0 a1 a2 )
set_option maxHeartbeats 4000000 in
set_option maxRecDepth 100000 in
theorem stale_Newer.v_eq (a0 : Node) (a1 : Disk) (a2 : List ByteArray) : stale_Newer.v a0 a1 a2 = (stale_fit.v a0 a1 a2).bind fun v1 => bif icmp .neq v1 (0 : Int) then (some (([] : List ByteArray), v1)) else ((stale_newer.v a0 a1 a2).bind fun v4 => some (v4, (0 : Int))) := (stale_Newer.tends a0 a1 a2 ).uniq (by
  simp only [stale_Newer.f]
  repeat' (first | with_reducible exact Tends.const _ | apply stale_fit.tends | apply stale_newer.tends | refine Tends.cond ?_ ?_ | refine Tends.bind ?_ (fun _ => ?_) | cases ‹Except _ _› | intro _))
/-! smithy/smithyplain.Texts -/
set_option maxHeartbeats 4000000 in
set_option maxRecDepth 100000 in
theorem smithyplain_Texts.l0.mono (a0 : List ByteArray) (a1 : List ByteArray) : ∀ {k k' : Nat}, k ≤ k' → ∀ s, Le (smithyplain_Texts.l0 a0 a1 k s) (smithyplain_Texts.l0 a0 a1 k' s) := by
  intro k
  induction k with
  | zero => exact fun _ s => Le.none _
  | succ k ih =>
    intro k' hk s
    cases k' with
    | zero => exact absurd hk (by omega)
    | succ k' =>
      have hk' := Nat.le_of_succ_le_succ hk
      simp only [smithyplain_Texts.l0]
      repeat' (first | with_reducible exact Le.refl _ | exact ih hk' _ | refine Le.cond ?_ ?_ | refine Le.bind ?_ (fun _ => ?_) | cases ‹Except _ _› | intro _)
noncomputable def smithyplain_Texts.l0.v (a0 : List ByteArray) (a1 : List ByteArray) (s : Int) : Option (Except Bool Unit) := lim (fun k => smithyplain_Texts.l0 a0 a1 k s)
theorem smithyplain_Texts.l0.tends (a0 : List ByteArray) (a1 : List ByteArray) (s : Int) : Tends (fun k => smithyplain_Texts.l0 a0 a1 k s) (smithyplain_Texts.l0.v a0 a1 s) := tends_lim (fun hk => smithyplain_Texts.l0.mono a0 a1 hk s)
set_option maxHeartbeats 4000000 in
set_option maxRecDepth 100000 in
theorem smithyplain_Texts.l0.v_eq (a0 : List ByteArray) (a1 : List ByteArray) (s2 : Int) : smithyplain_Texts.l0.v a0 a1 s2 = bif icmp .lss s2 (a0.length : Int) then ((idx a0 s2).bind fun x7 => (idx a1 s2).bind fun x9 => bif scmp .neq x7 x9 then (some (Except.error false)) else (smithyplain_Texts.l0.v a0 a1 (IntKind.i64.wrap (s2 + (1 : Int))))) else (some (Except.ok ())) := (smithyplain_Texts.l0.tends a0 a1 s2).shift.uniq (by
  simp only [smithyplain_Texts.l0]
  repeat' (first | with_reducible exact Tends.const _ | apply smithyplain_Texts.l0.tends | refine Tends.cond ?_ ?_ | refine Tends.bind ?_ (fun _ => ?_) | cases ‹Except _ _› | intro _))
set_option maxHeartbeats 4000000 in
set_option maxRecDepth 100000 in
theorem smithyplain_Texts.mono {k k' : Nat} (hk' : k ≤ k') (a0 : List ByteArray) (a1 : List ByteArray) : Le (smithyplain_Texts.f k a0 a1 ) (smithyplain_Texts.f k' a0 a1 ) := by
  simp only [smithyplain_Texts.f]
  repeat' (first | with_reducible exact Le.refl _ | refine smithyplain_Texts.l0.mono _ _ hk' _ | refine Le.cond ?_ ?_ | refine Le.bind ?_ (fun _ => ?_) | cases ‹Except _ _› | intro _)
noncomputable def smithyplain_Texts.v (a0 : List ByteArray) (a1 : List ByteArray) : Option Bool := lim (fun k => smithyplain_Texts.f k a0 a1 )
theorem smithyplain_Texts.tends (a0 : List ByteArray) (a1 : List ByteArray) : Tends (fun k => smithyplain_Texts.f k a0 a1 ) (smithyplain_Texts.v a0 a1 ) := tends_lim (fun hk => smithyplain_Texts.mono hk a0 a1 )
set_option maxHeartbeats 4000000 in
set_option maxRecDepth 100000 in
theorem smithyplain_Texts.v_eq (a0 : List ByteArray) (a1 : List ByteArray) : smithyplain_Texts.v a0 a1 = bif icmp .neq (a0.length : Int) (a1.length : Int) then (some false) else ((smithyplain_Texts.l0.v a0 a1 (0 : Int)).bind fun o5 => match o5 with | .error r' => some r' | .ok s3 => (some true)) := (smithyplain_Texts.tends a0 a1 ).uniq (by
  simp only [smithyplain_Texts.f]
  repeat' (first | with_reducible exact Tends.const _ | apply smithyplain_Texts.l0.tends | refine Tends.cond ?_ ?_ | refine Tends.bind ?_ (fun _ => ?_) | cases ‹Except _ _› | intro _))
/-! smithy/smithylaw13.small -/
set_option maxHeartbeats 4000000 in
set_option maxRecDepth 100000 in
theorem smithylaw13_small.mono {k k' : Nat} (hk' : k ≤ k') : Le (smithylaw13_small.f k ) (smithylaw13_small.f k' ) := by
  simp only [smithylaw13_small.f]
  repeat' (first | with_reducible exact Le.refl _ | apply stale_Newer.mono (hk' := hk') | apply stale_Why.mono (hk' := hk') | apply stale_Is.mono (hk' := hk') | apply smithyplain_Texts.mono (hk' := hk') | refine Le.cond ?_ ?_ | refine Le.bind ?_ (fun _ => ?_) | cases ‹Except _ _› | intro _)
noncomputable def smithylaw13_small.v : Option Bool := lim (fun k => smithylaw13_small.f k )
theorem smithylaw13_small.tends : Tends (fun k => smithylaw13_small.f k ) (smithylaw13_small.v ) := tends_lim (fun hk => smithylaw13_small.mono hk )
set_option maxHeartbeats 4000000 in
set_option maxRecDepth 100000 in
theorem smithylaw13_small.v_eq : smithylaw13_small.v = (stale_Newer.v (⟨(⟨#[116]⟩ : ByteArray), [(⟨#[97]⟩ : ByteArray), (⟨#[98]⟩ : ByteArray)], ([] : List ByteArray), false, ByteArray.empty, ByteArray.empty, false, false, false, false⟩ : Node) (⟨(9 : Int), [(⟨(⟨#[97]⟩ : ByteArray), ByteArray.empty, (3 : Int)⟩ : File), (⟨(⟨#[98]⟩ : ByteArray), ByteArray.empty, (7 : Int)⟩ : File), (⟨(⟨#[116]⟩ : ByteArray), ByteArray.empty, (5 : Int)⟩ : File)]⟩ : Disk) ([] : List ByteArray)).bind fun v1 => (stale_Why.v (⟨(⟨#[116]⟩ : ByteArray), [(⟨#[97]⟩ : ByteArray), (⟨#[98]⟩ : ByteArray)], ([] : List ByteArray), false, ByteArray.empty, ByteArray.empty, false, false, false, false⟩ : Node) (⟨(9 : Int), [(⟨(⟨#[97]⟩ : ByteArray), ByteArray.empty, (3 : Int)⟩ : File), (⟨(⟨#[98]⟩ : ByteArray), ByteArray.empty, (7 : Int)⟩ : File), (⟨(⟨#[116]⟩ : ByteArray), ByteArray.empty, (5 : Int)⟩ : File)]⟩ : Disk) ([] : List ByteArray)).bind fun v3 => (stale_Is.v (⟨(⟨#[116]⟩ : ByteArray), [(⟨#[97]⟩ : ByteArray), (⟨#[98]⟩ : ByteArray)], ([] : List ByteArray), false, ByteArray.empty, ByteArray.empty, false, false, false, false⟩ : Node) (⟨(9 : Int), [(⟨(⟨#[97]⟩ : ByteArray), ByteArray.empty, (3 : Int)⟩ : File), (⟨(⟨#[98]⟩ : ByteArray), ByteArray.empty, (7 : Int)⟩ : File), (⟨(⟨#[116]⟩ : ByteArray), ByteArray.empty, (5 : Int)⟩ : File)]⟩ : Disk) ([] : List ByteArray)).bind fun v5 => (bif icmp .eql v1.2 (0 : Int) then (bif icmp .eql v3.2.2 (0 : Int) then (bif icmp .eql v5.2 (0 : Int) then (bif v5.1 then (bif icmp .eql v3.1 (4 : Int) then (bif scmp .eql v3.2.1 (⟨#[98]⟩ : ByteArray) then ((smithyplain_Texts.v v1.1 ([(⟨#[98]⟩ : ByteArray)])).bind fun v15 => some v15) else (some false)) else (some false)) else (some false)) else (some false)) else (some false)) else (some false)).bind fun s7 => some s7 := (smithylaw13_small.tends ).uniq (by
  simp only [smithylaw13_small.f]
  repeat' (first | with_reducible exact Tends.const _ | apply stale_Newer.tends | apply stale_Why.tends | apply stale_Is.tends | apply smithyplain_Texts.tends | refine Tends.cond ?_ ?_ | refine Tends.bind ?_ (fun _ => ?_) | cases ‹Except _ _› | intro _))
/-! smithy/smithyref13.File -/
set_option maxHeartbeats 4000000 in
set_option maxRecDepth 100000 in
theorem smithyref13_File.l0.mono (a0 : Disk) (a1 : ByteArray) : ∀ {k k' : Nat}, k ≤ k' → ∀ s, Le (smithyref13_File.l0 a0 a1 k s) (smithyref13_File.l0 a0 a1 k' s) := by
  intro k
  induction k with
  | zero => exact fun _ s => Le.none _
  | succ k ih =>
    intro k' hk s
    cases k' with
    | zero => exact absurd hk (by omega)
    | succ k' =>
      have hk' := Nat.le_of_succ_le_succ hk
      simp only [smithyref13_File.l0]
      repeat' (first | with_reducible exact Le.refl _ | exact ih hk' _ | refine Le.cond ?_ ?_ | refine Le.bind ?_ (fun _ => ?_) | cases ‹Except _ _› | intro _)
noncomputable def smithyref13_File.l0.v (a0 : Disk) (a1 : ByteArray) (s : Int) : Option (Except (File × Bool) Unit) := lim (fun k => smithyref13_File.l0 a0 a1 k s)
theorem smithyref13_File.l0.tends (a0 : Disk) (a1 : ByteArray) (s : Int) : Tends (fun k => smithyref13_File.l0 a0 a1 k s) (smithyref13_File.l0.v a0 a1 s) := tends_lim (fun hk => smithyref13_File.l0.mono a0 a1 hk s)
set_option maxHeartbeats 4000000 in
set_option maxRecDepth 100000 in
theorem smithyref13_File.l0.v_eq (a0 : Disk) (a1 : ByteArray) (s1 : Int) : smithyref13_File.l0.v a0 a1 s1 = bif icmp .lss s1 (a0.Files.length : Int) then ((idx a0.Files s1).bind fun x6 => bif scmp .eql x6.Name a1 then (some (Except.error (x6, true))) else (smithyref13_File.l0.v a0 a1 (IntKind.i64.wrap (s1 + (1 : Int))))) else (some (Except.ok ())) := (smithyref13_File.l0.tends a0 a1 s1).shift.uniq (by
  simp only [smithyref13_File.l0]
  repeat' (first | with_reducible exact Tends.const _ | apply smithyref13_File.l0.tends | refine Tends.cond ?_ ?_ | refine Tends.bind ?_ (fun _ => ?_) | cases ‹Except _ _› | intro _))
set_option maxHeartbeats 4000000 in
set_option maxRecDepth 100000 in
theorem smithyref13_File.mono {k k' : Nat} (hk' : k ≤ k') (a0 : Disk) (a1 : ByteArray) : Le (smithyref13_File.f k a0 a1 ) (smithyref13_File.f k' a0 a1 ) := by
  simp only [smithyref13_File.f]
  repeat' (first | with_reducible exact Le.refl _ | refine smithyref13_File.l0.mono _ _ hk' _ | refine Le.cond ?_ ?_ | refine Le.bind ?_ (fun _ => ?_) | cases ‹Except _ _› | intro _)
noncomputable def smithyref13_File.v (a0 : Disk) (a1 : ByteArray) : Option (File × Bool) := lim (fun k => smithyref13_File.f k a0 a1 )
theorem smithyref13_File.tends (a0 : Disk) (a1 : ByteArray) : Tends (fun k => smithyref13_File.f k a0 a1 ) (smithyref13_File.v a0 a1 ) := tends_lim (fun hk => smithyref13_File.mono hk a0 a1 )
set_option maxHeartbeats 4000000 in
set_option maxRecDepth 100000 in
theorem smithyref13_File.v_eq (a0 : Disk) (a1 : ByteArray) : smithyref13_File.v a0 a1 = (smithyref13_File.l0.v a0 a1 (0 : Int)).bind fun o4 => match o4 with | .error r' => some r' | .ok s2 => (some ((⟨ByteArray.empty, ByteArray.empty, (0 : Int)⟩ : File), false)) := (smithyref13_File.tends a0 a1 ).uniq (by
  simp only [smithyref13_File.f]
  repeat' (first | with_reducible exact Tends.const _ | apply smithyref13_File.l0.tends | refine Tends.cond ?_ ?_ | refine Tends.bind ?_ (fun _ => ?_) | cases ‹Except _ _› | intro _))
/-! smithy/smithyref03.Has -/
set_option maxHeartbeats 4000000 in
set_option maxRecDepth 100000 in
theorem smithyref03_Has.l0.mono (a0 : List ByteArray) (a1 : ByteArray) : ∀ {k k' : Nat}, k ≤ k' → ∀ s, Le (smithyref03_Has.l0 a0 a1 k s) (smithyref03_Has.l0 a0 a1 k' s) := by
  intro k
  induction k with
  | zero => exact fun _ s => Le.none _
  | succ k ih =>
    intro k' hk s
    cases k' with
    | zero => exact absurd hk (by omega)
    | succ k' =>
      have hk' := Nat.le_of_succ_le_succ hk
      simp only [smithyref03_Has.l0]
      repeat' (first | with_reducible exact Le.refl _ | exact ih hk' _ | refine Le.cond ?_ ?_ | refine Le.bind ?_ (fun _ => ?_) | cases ‹Except _ _› | intro _)
noncomputable def smithyref03_Has.l0.v (a0 : List ByteArray) (a1 : ByteArray) (s : Int) : Option (Except Bool Unit) := lim (fun k => smithyref03_Has.l0 a0 a1 k s)
theorem smithyref03_Has.l0.tends (a0 : List ByteArray) (a1 : ByteArray) (s : Int) : Tends (fun k => smithyref03_Has.l0 a0 a1 k s) (smithyref03_Has.l0.v a0 a1 s) := tends_lim (fun hk => smithyref03_Has.l0.mono a0 a1 hk s)
set_option maxHeartbeats 4000000 in
set_option maxRecDepth 100000 in
theorem smithyref03_Has.l0.v_eq (a0 : List ByteArray) (a1 : ByteArray) (s1 : Int) : smithyref03_Has.l0.v a0 a1 s1 = bif icmp .lss s1 (a0.length : Int) then ((idx a0 s1).bind fun x6 => bif scmp .eql x6 a1 then (some (Except.error true)) else (smithyref03_Has.l0.v a0 a1 (IntKind.i64.wrap (s1 + (1 : Int))))) else (some (Except.ok ())) := (smithyref03_Has.l0.tends a0 a1 s1).shift.uniq (by
  simp only [smithyref03_Has.l0]
  repeat' (first | with_reducible exact Tends.const _ | apply smithyref03_Has.l0.tends | refine Tends.cond ?_ ?_ | refine Tends.bind ?_ (fun _ => ?_) | cases ‹Except _ _› | intro _))
set_option maxHeartbeats 4000000 in
set_option maxRecDepth 100000 in
theorem smithyref03_Has.mono {k k' : Nat} (hk' : k ≤ k') (a0 : List ByteArray) (a1 : ByteArray) : Le (smithyref03_Has.f k a0 a1 ) (smithyref03_Has.f k' a0 a1 ) := by
  simp only [smithyref03_Has.f]
  repeat' (first | with_reducible exact Le.refl _ | refine smithyref03_Has.l0.mono _ _ hk' _ | refine Le.cond ?_ ?_ | refine Le.bind ?_ (fun _ => ?_) | cases ‹Except _ _› | intro _)
noncomputable def smithyref03_Has.v (a0 : List ByteArray) (a1 : ByteArray) : Option Bool := lim (fun k => smithyref03_Has.f k a0 a1 )
theorem smithyref03_Has.tends (a0 : List ByteArray) (a1 : ByteArray) : Tends (fun k => smithyref03_Has.f k a0 a1 ) (smithyref03_Has.v a0 a1 ) := tends_lim (fun hk => smithyref03_Has.mono hk a0 a1 )
set_option maxHeartbeats 4000000 in
set_option maxRecDepth 100000 in
theorem smithyref03_Has.v_eq (a0 : List ByteArray) (a1 : ByteArray) : smithyref03_Has.v a0 a1 = (smithyref03_Has.l0.v a0 a1 (0 : Int)).bind fun o4 => match o4 with | .error r' => some r' | .ok s2 => (some false) := (smithyref03_Has.tends a0 a1 ).uniq (by
  simp only [smithyref03_Has.f]
  repeat' (first | with_reducible exact Tends.const _ | apply smithyref03_Has.l0.tends | refine Tends.cond ?_ ?_ | refine Tends.bind ?_ (fun _ => ?_) | cases ‹Except _ _› | intro _))
/-! smithy/smithylaw13.StaleFresh -/
set_option maxHeartbeats 4000000 in
set_option maxRecDepth 100000 in
theorem smithylaw13_StaleFresh.l0.mono (a0 : Law13Case) (v14 : File × Bool) : ∀ {k k' : Nat}, k ≤ k' → ∀ s, Le (smithylaw13_StaleFresh.l0 a0 v14 k s) (smithylaw13_StaleFresh.l0 a0 v14 k' s) := by
  intro k
  induction k with
  | zero => exact fun _ s => Le.none _
  | succ k ih =>
    intro k' hk s
    cases k' with
    | zero => exact absurd hk (by omega)
    | succ k' =>
      have hk' := Nat.le_of_succ_le_succ hk
      simp only [smithylaw13_StaleFresh.l0]
      repeat' (first | with_reducible exact Le.refl _ | exact ih hk' _ | apply smithyref13_File.mono (hk' := hk') | apply smithyref03_Has.mono (hk' := hk') | refine Le.cond ?_ ?_ | refine Le.bind ?_ (fun _ => ?_) | cases ‹Except _ _› | intro _)
noncomputable def smithylaw13_StaleFresh.l0.v (a0 : Law13Case) (v14 : File × Bool) (s : Bool × Int) : Option Bool := lim (fun k => smithylaw13_StaleFresh.l0 a0 v14 k s)
theorem smithylaw13_StaleFresh.l0.tends (a0 : Law13Case) (v14 : File × Bool) (s : Bool × Int) : Tends (fun k => smithylaw13_StaleFresh.l0 a0 v14 k s) (smithylaw13_StaleFresh.l0.v a0 v14 s) := tends_lim (fun hk => smithylaw13_StaleFresh.l0.mono a0 v14 hk s)
set_option maxHeartbeats 4000000 in
set_option maxRecDepth 100000 in
theorem smithylaw13_StaleFresh.l0.v_eq (a0 : Law13Case) (v14 : File × Bool) (s19 : Bool × Int) : smithylaw13_StaleFresh.l0.v a0 v14 s19 = bif icmp .lss s19.2 (a0.N.Needs.length : Int) then ((idx a0.N.Needs s19.2).bind fun x23 => (smithyref13_File.v a0.D x23).bind fun v25 => (bif s19.1 then (bif v25.2 then (bif icmp .leq v25.1.Stamp v14.1.Stamp then ((smithyref03_Has.v a0.Made x23).bind fun v32 => some (!v32)) else (some false)) else (some false)) else (some false)).bind fun s27 => smithylaw13_StaleFresh.l0.v a0 v14 (s27, IntKind.i64.wrap (s19.2 + (1 : Int)))) else (some s19.1) := (smithylaw13_StaleFresh.l0.tends a0 v14 s19).shift.uniq (by
  simp only [smithylaw13_StaleFresh.l0]
  repeat' (first | with_reducible exact Tends.const _ | apply smithyref13_File.tends | apply smithyref03_Has.tends | apply smithylaw13_StaleFresh.l0.tends | refine Tends.cond ?_ ?_ | refine Tends.bind ?_ (fun _ => ?_) | cases ‹Except _ _› | intro _))
set_option maxHeartbeats 4000000 in
set_option maxRecDepth 100000 in
theorem smithylaw13_StaleFresh.mono {k k' : Nat} (hk' : k ≤ k') (a0 : Law13Case) : Le (smithylaw13_StaleFresh.f k a0 ) (smithylaw13_StaleFresh.f k' a0 ) := by
  simp only [smithylaw13_StaleFresh.f]
  repeat' (first | with_reducible exact Le.refl _ | apply stale_Why.mono (hk' := hk') | apply stale_Is.mono (hk' := hk') | apply smithylaw13_small.mono (hk' := hk') | apply smithyref13_File.mono (hk' := hk') | refine smithylaw13_StaleFresh.l0.mono _ _ hk' _ | refine Le.cond ?_ ?_ | refine Le.bind ?_ (fun _ => ?_) | cases ‹Except _ _› | intro _)
noncomputable def smithylaw13_StaleFresh.v (a0 : Law13Case) : Option Bool := lim (fun k => smithylaw13_StaleFresh.f k a0 )
theorem smithylaw13_StaleFresh.tends (a0 : Law13Case) : Tends (fun k => smithylaw13_StaleFresh.f k a0 ) (smithylaw13_StaleFresh.v a0 ) := tends_lim (fun hk => smithylaw13_StaleFresh.mono hk a0 )
set_option maxHeartbeats 4000000 in
set_option maxRecDepth 100000 in
theorem smithylaw13_StaleFresh.v_eq (a0 : Law13Case) : smithylaw13_StaleFresh.v a0 = (stale_Why.v a0.N a0.D a0.Made).bind fun v1 => (stale_Is.v a0.N a0.D a0.Made).bind fun v3 => (bif icmp .neq v1.2.2 (0 : Int) then (some true) else (some (icmp .neq v3.2 (0 : Int)))).bind fun s5 => bif s5 then ((bif icmp .eql v1.2.2 v3.2 then ((smithylaw13_small.v).bind fun v12 => some v12) else (some false)).bind fun s9 => some s9) else ((smithyref13_File.v a0.D a0.N.Target).bind fun v14 => (bif !a0.N.Phony then (some v14.2) else (some false)).bind fun s16 => (smithylaw13_StaleFresh.l0.v a0 v14 (s16, (0 : Int))).bind fun s20 => (bif (v3.1 == !s20) then (bif (icmp .eql v1.1 (0 : Int) == s20) then ((smithylaw13_small.v).bind fun v38 => some v38) else (some false)) else (some false)).bind fun s34 => some s34) := (smithylaw13_StaleFresh.tends a0 ).uniq (by
  simp only [smithylaw13_StaleFresh.f]
  repeat' (first | with_reducible exact Tends.const _ | apply stale_Why.tends | apply stale_Is.tends | apply smithylaw13_small.tends | apply smithyref13_File.tends | apply smithylaw13_StaleFresh.l0.tends | refine Tends.cond ?_ ?_ | refine Tends.bind ?_ (fun _ => ?_) | cases ‹Except _ _› | intro _))
/-! smithy/smithyref02.Name -/
set_option maxHeartbeats 4000000 in
set_option maxRecDepth 100000 in
theorem smithyref02_Name.l0.mono (a0 : ByteArray) : ∀ {k k' : Nat}, k ≤ k' → ∀ s, Le (smithyref02_Name.l0 a0 k s) (smithyref02_Name.l0 a0 k' s) := by
  intro k
  induction k with
  | zero => exact fun _ s => Le.none _
  | succ k ih =>
    intro k' hk s
    cases k' with
    | zero => exact absurd hk (by omega)
    | succ k' =>
      have hk' := Nat.le_of_succ_le_succ hk
      simp only [smithyref02_Name.l0]
      repeat' (first | with_reducible exact Le.refl _ | exact ih hk' _ | refine Le.cond ?_ ?_ | refine Le.bind ?_ (fun _ => ?_) | cases ‹Except _ _› | intro _)
noncomputable def smithyref02_Name.l0.v (a0 : ByteArray) (s : Int) : Option (Except Bool Unit) := lim (fun k => smithyref02_Name.l0 a0 k s)
theorem smithyref02_Name.l0.tends (a0 : ByteArray) (s : Int) : Tends (fun k => smithyref02_Name.l0 a0 k s) (smithyref02_Name.l0.v a0 s) := tends_lim (fun hk => smithyref02_Name.l0.mono a0 hk s)
set_option maxHeartbeats 4000000 in
set_option maxRecDepth 100000 in
theorem smithyref02_Name.l0.v_eq (a0 : ByteArray) (s1 : Int) : smithyref02_Name.l0.v a0 s1 = bif icmp .lss s1 (a0.size : Int) then ((bidx a0 s1).bind fun x6 => (bif icmp .geq x6 (97 : Int) then (bif icmp .leq x6 (122 : Int) then (some true) else (bif icmp .geq x6 (65 : Int) then (bif icmp .leq x6 (90 : Int) then (some true) else (bif icmp .geq x6 (48 : Int) then (some (icmp .leq x6 (57 : Int))) else (some false))) else (bif icmp .geq x6 (48 : Int) then (some (icmp .leq x6 (57 : Int))) else (some false)))) else (bif icmp .geq x6 (65 : Int) then (bif icmp .leq x6 (90 : Int) then (some true) else (bif icmp .geq x6 (48 : Int) then (some (icmp .leq x6 (57 : Int))) else (some false))) else (bif icmp .geq x6 (48 : Int) then (some (icmp .leq x6 (57 : Int))) else (some false)))).bind fun s8 => (bif !s8 then (bif icmp .neq x6 (95 : Int) then (bif icmp .neq x6 (45 : Int) then (bif icmp .neq x6 (46 : Int) then (bif icmp .neq x6 (47 : Int) then (some (icmp .neq x6 (43 : Int))) else (some false)) else (some false)) else (some false)) else (some false)) else (some false)).bind fun s20 => bif s20 then (some (Except.error false)) else (smithyref02_Name.l0.v a0 (IntKind.i64.wrap (s1 + (1 : Int))))) else (some (Except.ok ())) := (smithyref02_Name.l0.tends a0 s1).shift.uniq (by
  simp only [smithyref02_Name.l0]
  repeat' (first | with_reducible exact Tends.const _ | apply smithyref02_Name.l0.tends | refine Tends.cond ?_ ?_ | refine Tends.bind ?_ (fun _ => ?_) | cases ‹Except _ _› | intro _))
set_option maxHeartbeats 4000000 in
set_option maxRecDepth 100000 in
theorem smithyref02_Name.mono {k k' : Nat} (hk' : k ≤ k') (a0 : ByteArray) : Le (smithyref02_Name.f k a0 ) (smithyref02_Name.f k' a0 ) := by
  simp only [smithyref02_Name.f]
  repeat' (first | with_reducible exact Le.refl _ | refine smithyref02_Name.l0.mono _ hk' _ | refine Le.cond ?_ ?_ | refine Le.bind ?_ (fun _ => ?_) | cases ‹Except _ _› | intro _)
noncomputable def smithyref02_Name.v (a0 : ByteArray) : Option Bool := lim (fun k => smithyref02_Name.f k a0 )
theorem smithyref02_Name.tends (a0 : ByteArray) : Tends (fun k => smithyref02_Name.f k a0 ) (smithyref02_Name.v a0 ) := tends_lim (fun hk => smithyref02_Name.mono hk a0 )
set_option maxHeartbeats 4000000 in
set_option maxRecDepth 100000 in
theorem smithyref02_Name.v_eq (a0 : ByteArray) : smithyref02_Name.v a0 = (smithyref02_Name.l0.v a0 (0 : Int)).bind fun o4 => match o4 with | .error r' => some r' | .ok s2 => ((bif icmp .gtr (a0.size : Int) (0 : Int) then (some (icmp .leq (a0.size : Int) (64 : Int))) else (some false)).bind fun s28 => some s28) := (smithyref02_Name.tends a0 ).uniq (by
  simp only [smithyref02_Name.f]
  repeat' (first | with_reducible exact Tends.const _ | apply smithyref02_Name.l0.tends | refine Tends.cond ?_ ?_ | refine Tends.bind ?_ (fun _ => ?_) | cases ‹Except _ _› | intro _))
/-! smithy/smithyref12.Node -/
set_option maxHeartbeats 4000000 in
set_option maxRecDepth 100000 in
theorem smithyref12_Node.l0.mono (a0 : Node) : ∀ {k k' : Nat}, k ≤ k' → ∀ s, Le (smithyref12_Node.l0 a0 k s) (smithyref12_Node.l0 a0 k' s) := by
  intro k
  induction k with
  | zero => exact fun _ s => Le.none _
  | succ k ih =>
    intro k' hk s
    cases k' with
    | zero => exact absurd hk (by omega)
    | succ k' =>
      have hk' := Nat.le_of_succ_le_succ hk
      simp only [smithyref12_Node.l0]
      repeat' (first | with_reducible exact Le.refl _ | exact ih hk' _ | apply smithyref02_Name.mono (hk' := hk') | apply smithyref03_Has.mono (hk' := hk') | refine Le.cond ?_ ?_ | refine Le.bind ?_ (fun _ => ?_) | cases ‹Except _ _› | intro _)
noncomputable def smithyref12_Node.l0.v (a0 : Node) (s : Int) : Option (Except Int Unit) := lim (fun k => smithyref12_Node.l0 a0 k s)
theorem smithyref12_Node.l0.tends (a0 : Node) (s : Int) : Tends (fun k => smithyref12_Node.l0 a0 k s) (smithyref12_Node.l0.v a0 s) := tends_lim (fun hk => smithyref12_Node.l0.mono a0 hk s)
set_option maxHeartbeats 4000000 in
set_option maxRecDepth 100000 in
theorem smithyref12_Node.l0.v_eq (a0 : Node) (s10 : Int) : smithyref12_Node.l0.v a0 s10 = bif icmp .lss s10 (a0.Needs.length : Int) then (((idx a0.Needs s10).bind fun x17 => (smithyref02_Name.v x17).bind fun v19 => bif !v19 then (some true) else ((idx a0.Needs s10).bind fun x22 => bif scmp .eql x22 a0.Target then (some true) else ((sub a0.Needs (0 : Int) s10).bind fun x25 => (idx a0.Needs s10).bind fun x27 => (smithyref03_Has.v x25 x27).bind fun v29 => some v29))).bind fun s15 => bif s15 then (some (Except.error (7 : Int))) else (smithyref12_Node.l0.v a0 (IntKind.i64.wrap (s10 + (1 : Int))))) else (some (Except.ok ())) := (smithyref12_Node.l0.tends a0 s10).shift.uniq (by
  simp only [smithyref12_Node.l0]
  repeat' (first | with_reducible exact Tends.const _ | apply smithyref02_Name.tends | apply smithyref03_Has.tends | apply smithyref12_Node.l0.tends | refine Tends.cond ?_ ?_ | refine Tends.bind ?_ (fun _ => ?_) | cases ‹Except _ _› | intro _))
set_option maxHeartbeats 4000000 in
set_option maxRecDepth 100000 in
theorem smithyref12_Node.l1.mono (a0 : Node) : ∀ {k k' : Nat}, k ≤ k' → ∀ s, Le (smithyref12_Node.l1 a0 k s) (smithyref12_Node.l1 a0 k' s) := by
  intro k
  induction k with
  | zero => exact fun _ s => Le.none _
  | succ k ih =>
    intro k' hk s
    cases k' with
    | zero => exact absurd hk (by omega)
    | succ k' =>
      have hk' := Nat.le_of_succ_le_succ hk
      simp only [smithyref12_Node.l1]
      repeat' (first | with_reducible exact Le.refl _ | exact ih hk' _ | refine Le.cond ?_ ?_ | refine Le.bind ?_ (fun _ => ?_) | cases ‹Except _ _› | intro _)
noncomputable def smithyref12_Node.l1.v (a0 : Node) (s : Int) : Option (Except Int Unit) := lim (fun k => smithyref12_Node.l1 a0 k s)
theorem smithyref12_Node.l1.tends (a0 : Node) (s : Int) : Tends (fun k => smithyref12_Node.l1 a0 k s) (smithyref12_Node.l1.v a0 s) := tends_lim (fun hk => smithyref12_Node.l1.mono a0 hk s)
set_option maxHeartbeats 4000000 in
set_option maxRecDepth 100000 in
theorem smithyref12_Node.l1.v_eq (a0 : Node) (s32 : Int) : smithyref12_Node.l1.v a0 s32 = bif icmp .lss s32 (a0.Recipe.length : Int) then ((idx a0.Recipe s32).bind fun x37 => bif icmp .gtr (x37.size : Int) (65536 : Int) then (some (Except.error (7 : Int))) else (smithyref12_Node.l1.v a0 (IntKind.i64.wrap (s32 + (1 : Int))))) else (some (Except.ok ())) := (smithyref12_Node.l1.tends a0 s32).shift.uniq (by
  simp only [smithyref12_Node.l1]
  repeat' (first | with_reducible exact Tends.const _ | apply smithyref12_Node.l1.tends | refine Tends.cond ?_ ?_ | refine Tends.bind ?_ (fun _ => ?_) | cases ‹Except _ _› | intro _))
set_option maxHeartbeats 4000000 in
set_option maxRecDepth 100000 in
theorem smithyref12_Node.mono {k k' : Nat} (hk' : k ≤ k') (a0 : Node) : Le (smithyref12_Node.f k a0 ) (smithyref12_Node.f k' a0 ) := by
  simp only [smithyref12_Node.f]
  repeat' (first | with_reducible exact Le.refl _ | apply smithyref02_Name.mono (hk' := hk') | refine smithyref12_Node.l0.mono _ hk' _ | refine smithyref12_Node.l1.mono _ hk' _ | refine Le.cond ?_ ?_ | refine Le.bind ?_ (fun _ => ?_) | cases ‹Except _ _› | intro _)
noncomputable def smithyref12_Node.v (a0 : Node) : Option Int := lim (fun k => smithyref12_Node.f k a0 )
theorem smithyref12_Node.tends (a0 : Node) : Tends (fun k => smithyref12_Node.f k a0 ) (smithyref12_Node.v a0 ) := tends_lim (fun hk => smithyref12_Node.mono hk a0 )
set_option maxHeartbeats 4000000 in
set_option maxRecDepth 100000 in
theorem smithyref12_Node.v_eq (a0 : Node) : smithyref12_Node.v a0 = ((smithyref02_Name.v a0.Target).bind fun v3 => bif !v3 then (some true) else (bif icmp .gtr (a0.Needs.length : Int) (65 : Int) then (some true) else (bif icmp .gtr (a0.Recipe.length : Int) (64 : Int) then (some true) else (bif !a0.Has then (some (icmp .gtr (a0.Recipe.length : Int) (0 : Int))) else (some false))))).bind fun s1 => bif s1 then (some (7 : Int)) else ((smithyref12_Node.l0.v a0 (0 : Int)).bind fun o13 => match o13 with | .error r' => some r' | .ok s11 => ((smithyref12_Node.l1.v a0 (0 : Int)).bind fun o35 => match o35 with | .error r' => some r' | .ok s33 => ((bif scmp .neq a0.Source (⟨#[]⟩ : ByteArray) then (bif icmp .eql (a0.Needs.length : Int) (0 : Int) then (some true) else ((idx a0.Needs (0 : Int)).bind fun x44 => bif scmp .neq x44 a0.Source then (some true) else (bif scmp .eql a0.Source (⟨#[]⟩ : ByteArray) then (bif scmp .neq a0.Stem (⟨#[]⟩ : ByteArray) then (some true) else (some (icmp .gtr (a0.Stem.size : Int) (64 : Int)))) else (some (icmp .gtr (a0.Stem.size : Int) (64 : Int)))))) else (bif scmp .eql a0.Source (⟨#[]⟩ : ByteArray) then (bif scmp .neq a0.Stem (⟨#[]⟩ : ByteArray) then (some true) else (some (icmp .gtr (a0.Stem.size : Int) (64 : Int)))) else (some (icmp .gtr (a0.Stem.size : Int) (64 : Int))))).bind fun s40 => bif s40 then (some (7 : Int)) else (some (0 : Int))))) := (smithyref12_Node.tends a0 ).uniq (by
  simp only [smithyref12_Node.f]
  repeat' (first | with_reducible exact Tends.const _ | apply smithyref02_Name.tends | apply smithyref12_Node.l0.tends | apply smithyref12_Node.l1.tends | refine Tends.cond ?_ ?_ | refine Tends.bind ?_ (fun _ => ?_) | cases ‹Except _ _› | intro _))
/-! smithy/smithyref02.Check -/
set_option maxHeartbeats 4000000 in
set_option maxRecDepth 100000 in
theorem smithyref02_Check.l0.mono (a0 : Disk) : ∀ {k k' : Nat}, k ≤ k' → ∀ s, Le (smithyref02_Check.l0 a0 k s) (smithyref02_Check.l0 a0 k' s) := by
  intro k
  induction k with
  | zero => exact fun _ s => Le.none _
  | succ k ih =>
    intro k' hk s
    cases k' with
    | zero => exact absurd hk (by omega)
    | succ k' =>
      have hk' := Nat.le_of_succ_le_succ hk
      simp only [smithyref02_Check.l0]
      repeat' (first | with_reducible exact Le.refl _ | exact ih hk' _ | apply smithyref02_Name.mono (hk' := hk') | refine Le.cond ?_ ?_ | refine Le.bind ?_ (fun _ => ?_) | cases ‹Except _ _› | intro _)
noncomputable def smithyref02_Check.l0.v (a0 : Disk) (s : Int) : Option (Except Int Unit) := lim (fun k => smithyref02_Check.l0 a0 k s)
theorem smithyref02_Check.l0.tends (a0 : Disk) (s : Int) : Tends (fun k => smithyref02_Check.l0 a0 k s) (smithyref02_Check.l0.v a0 s) := tends_lim (fun hk => smithyref02_Check.l0.mono a0 hk s)
set_option maxHeartbeats 4000000 in
set_option maxRecDepth 100000 in
theorem smithyref02_Check.l0.v_eq (a0 : Disk) (s6 : Int) : smithyref02_Check.l0.v a0 s6 = bif icmp .lss s6 (a0.Files.length : Int) then ((idx a0.Files s6).bind fun x11 => ((smithyref02_Name.v x11.Name).bind fun v15 => bif !v15 then (some true) else (bif icmp .gtr (x11.Text.size : Int) (4096 : Int) then (some true) else (bif icmp .lss x11.Stamp (0 : Int) then (some true) else (some (icmp .gtr x11.Stamp a0.Clock))))).bind fun s13 => bif s13 then (some (Except.error (4 : Int))) else ((bif icmp .gtr s6 (0 : Int) then ((idx a0.Files (IntKind.i64.wrap (s6 - (1 : Int)))).bind fun x24 => some (scmp .geq x24.Name x11.Name)) else (some false)).bind fun s21 => bif s21 then (some (Except.error (4 : Int))) else (smithyref02_Check.l0.v a0 (IntKind.i64.wrap (s6 + (1 : Int)))))) else (some (Except.ok ())) := (smithyref02_Check.l0.tends a0 s6).shift.uniq (by
  simp only [smithyref02_Check.l0]
  repeat' (first | with_reducible exact Tends.const _ | apply smithyref02_Name.tends | apply smithyref02_Check.l0.tends | refine Tends.cond ?_ ?_ | refine Tends.bind ?_ (fun _ => ?_) | cases ‹Except _ _› | intro _))
set_option maxHeartbeats 4000000 in
set_option maxRecDepth 100000 in
theorem smithyref02_Check.mono {k k' : Nat} (hk' : k ≤ k') (a0 : Disk) : Le (smithyref02_Check.f k a0 ) (smithyref02_Check.f k' a0 ) := by
  simp only [smithyref02_Check.f]
  repeat' (first | with_reducible exact Le.refl _ | refine smithyref02_Check.l0.mono _ hk' _ | refine Le.cond ?_ ?_ | refine Le.bind ?_ (fun _ => ?_) | cases ‹Except _ _› | intro _)
noncomputable def smithyref02_Check.v (a0 : Disk) : Option Int := lim (fun k => smithyref02_Check.f k a0 )
theorem smithyref02_Check.tends (a0 : Disk) : Tends (fun k => smithyref02_Check.f k a0 ) (smithyref02_Check.v a0 ) := tends_lim (fun hk => smithyref02_Check.mono hk a0 )
set_option maxHeartbeats 4000000 in
set_option maxRecDepth 100000 in
theorem smithyref02_Check.v_eq (a0 : Disk) : smithyref02_Check.v a0 = (bif icmp .lss a0.Clock (0 : Int) then (some true) else (bif icmp .gtr a0.Clock (1099511627776 : Int) then (some true) else (some (icmp .gtr (a0.Files.length : Int) (256 : Int))))).bind fun s1 => bif s1 then (some (4 : Int)) else ((smithyref02_Check.l0.v a0 (0 : Int)).bind fun o9 => match o9 with | .error r' => some r' | .ok s7 => (some (0 : Int))) := (smithyref02_Check.tends a0 ).uniq (by
  simp only [smithyref02_Check.f]
  repeat' (first | with_reducible exact Tends.const _ | apply smithyref02_Check.l0.tends | refine Tends.cond ?_ ?_ | refine Tends.bind ?_ (fun _ => ?_) | cases ‹Except _ _› | intro _))
/-! smithy/smithyref02.fit -/
set_option maxHeartbeats 4000000 in
set_option maxRecDepth 100000 in
theorem smithyref02_fit.mono {k k' : Nat} (hk' : k ≤ k') (a0 : Disk) (a1 : ByteArray) : Le (smithyref02_fit.f k a0 a1 ) (smithyref02_fit.f k' a0 a1 ) := by
  simp only [smithyref02_fit.f]
  repeat' (first | with_reducible exact Le.refl _ | apply smithyref02_Check.mono (hk' := hk') | apply smithyref02_Name.mono (hk' := hk') | refine Le.cond ?_ ?_ | refine Le.bind ?_ (fun _ => ?_) | cases ‹Except _ _› | intro _)
noncomputable def smithyref02_fit.v (a0 : Disk) (a1 : ByteArray) : Option Int := lim (fun k => smithyref02_fit.f k a0 a1 )
theorem smithyref02_fit.tends (a0 : Disk) (a1 : ByteArray) : Tends (fun k => smithyref02_fit.f k a0 a1 ) (smithyref02_fit.v a0 a1 ) := tends_lim (fun hk => smithyref02_fit.mono hk a0 a1 )
set_option maxHeartbeats 4000000 in
set_option maxRecDepth 100000 in
theorem smithyref02_fit.v_eq (a0 : Disk) (a1 : ByteArray) : smithyref02_fit.v a0 a1 = (smithyref02_Check.v a0).bind fun v1 => bif icmp .neq v1 (0 : Int) then (some (4 : Int)) else ((smithyref02_Name.v a1).bind fun v4 => bif !v4 then (some (3 : Int)) else (some (0 : Int))) := (smithyref02_fit.tends a0 a1 ).uniq (by
  simp only [smithyref02_fit.f]
  repeat' (first | with_reducible exact Tends.const _ | apply smithyref02_Check.tends | apply smithyref02_Name.tends | refine Tends.cond ?_ ?_ | refine Tends.bind ?_ (fun _ => ?_) | cases ‹Except _ _› | intro _))
/-! smithy/smithyref02.place -/
set_option maxHeartbeats 4000000 in
set_option maxRecDepth 100000 in
theorem smithyref02_place.l0.mono (a0 : Disk) (a1 : ByteArray) : ∀ {k k' : Nat}, k ≤ k' → ∀ s, Le (smithyref02_place.l0 a0 a1 k s) (smithyref02_place.l0 a0 a1 k' s) := by
  intro k
  induction k with
  | zero => exact fun _ s => Le.none _
  | succ k ih =>
    intro k' hk s
    cases k' with
    | zero => exact absurd hk (by omega)
    | succ k' =>
      have hk' := Nat.le_of_succ_le_succ hk
      simp only [smithyref02_place.l0]
      repeat' (first | with_reducible exact Le.refl _ | exact ih hk' _ | refine Le.cond ?_ ?_ | refine Le.bind ?_ (fun _ => ?_) | cases ‹Except _ _› | intro _)
noncomputable def smithyref02_place.l0.v (a0 : Disk) (a1 : ByteArray) (s : Int) : Option (Except Int Unit) := lim (fun k => smithyref02_place.l0 a0 a1 k s)
theorem smithyref02_place.l0.tends (a0 : Disk) (a1 : ByteArray) (s : Int) : Tends (fun k => smithyref02_place.l0 a0 a1 k s) (smithyref02_place.l0.v a0 a1 s) := tends_lim (fun hk => smithyref02_place.l0.mono a0 a1 hk s)
set_option maxHeartbeats 4000000 in
set_option maxRecDepth 100000 in
theorem smithyref02_place.l0.v_eq (a0 : Disk) (a1 : ByteArray) (s1 : Int) : smithyref02_place.l0.v a0 a1 s1 = bif icmp .lss s1 (a0.Files.length : Int) then ((idx a0.Files s1).bind fun x6 => bif scmp .eql x6.Name a1 then (some (Except.error s1)) else (smithyref02_place.l0.v a0 a1 (IntKind.i64.wrap (s1 + (1 : Int))))) else (some (Except.ok ())) := (smithyref02_place.l0.tends a0 a1 s1).shift.uniq (by
  simp only [smithyref02_place.l0]
  repeat' (first | with_reducible exact Tends.const _ | apply smithyref02_place.l0.tends | refine Tends.cond ?_ ?_ | refine Tends.bind ?_ (fun _ => ?_) | cases ‹Except _ _› | intro _))
set_option maxHeartbeats 4000000 in
set_option maxRecDepth 100000 in
theorem smithyref02_place.mono {k k' : Nat} (hk' : k ≤ k') (a0 : Disk) (a1 : ByteArray) : Le (smithyref02_place.f k a0 a1 ) (smithyref02_place.f k' a0 a1 ) := by
  simp only [smithyref02_place.f]
  repeat' (first | with_reducible exact Le.refl _ | refine smithyref02_place.l0.mono _ _ hk' _ | refine Le.cond ?_ ?_ | refine Le.bind ?_ (fun _ => ?_) | cases ‹Except _ _› | intro _)
noncomputable def smithyref02_place.v (a0 : Disk) (a1 : ByteArray) : Option Int := lim (fun k => smithyref02_place.f k a0 a1 )
theorem smithyref02_place.tends (a0 : Disk) (a1 : ByteArray) : Tends (fun k => smithyref02_place.f k a0 a1 ) (smithyref02_place.v a0 a1 ) := tends_lim (fun hk => smithyref02_place.mono hk a0 a1 )
set_option maxHeartbeats 4000000 in
set_option maxRecDepth 100000 in
theorem smithyref02_place.v_eq (a0 : Disk) (a1 : ByteArray) : smithyref02_place.v a0 a1 = (smithyref02_place.l0.v a0 a1 (0 : Int)).bind fun o4 => match o4 with | .error r' => some r' | .ok s2 => (some (-1 : Int)) := (smithyref02_place.tends a0 a1 ).uniq (by
  simp only [smithyref02_place.f]
  repeat' (first | with_reducible exact Tends.const _ | apply smithyref02_place.l0.tends | refine Tends.cond ?_ ?_ | refine Tends.bind ?_ (fun _ => ?_) | cases ‹Except _ _› | intro _))
end Go.Proofs.Ytoemgemfgaooeaa.F
