import Derived.Test.YtmmjbobicnmilaaFKx7
set_option linter.unusedVariables false
set_option linter.unusedSimpArgs false
set_option linter.unnecessarySimpa false
set_option linter.deprecated false
namespace Go.Proofs.Ytmmjbobicnmilaa.F
open Go Go.RowKit Go.Proofs.Ytmmjbobicnmilaa.Sl
/-! smithy/modes.set -/
set_option maxHeartbeats 4000000 in
set_option maxRecDepth 100000 in
theorem modes_set.l0.mono (a0 : List Bool) : ∀ {k k' : Nat}, k ≤ k' → ∀ s, Le (modes_set.l0 a0 k s) (modes_set.l0 a0 k' s) := by
  intro k
  induction k with
  | zero => exact fun _ s => Le.none _
  | succ k ih =>
    intro k' hk s
    cases k' with
    | zero => exact absurd hk (by omega)
    | succ k' =>
      have hk' := Nat.le_of_succ_le_succ hk
      simp only [modes_set.l0]
      repeat' (first | with_reducible exact Le.refl _ | exact ih hk' _ | refine Le.cond ?_ ?_ | refine Le.bind ?_ (fun _ => ?_) | cases ‹Except _ _› | intro _)
noncomputable def modes_set.l0.v (a0 : List Bool) (s : Int × Int) : Option Int := lim (fun k => modes_set.l0 a0 k s)
theorem modes_set.l0.tends (a0 : List Bool) (s : Int × Int) : Tends (fun k => modes_set.l0 a0 k s) (modes_set.l0.v a0 s) := tends_lim (fun hk => modes_set.l0.mono a0 hk s)
set_option maxHeartbeats 4000000 in
set_option maxRecDepth 100000 in
theorem modes_set.l0.v_eq (a0 : List Bool) (s1 : Int × Int) : modes_set.l0.v a0 s1 = bif icmp .lss s1.2 (a0.length : Int) then (((idx a0 s1.2).bind fun x7 => bif x7 then (some (IntKind.i64.wrap (s1.1 + (1 : Int)))) else (some s1.1)).bind fun s5 => modes_set.l0.v a0 (s5, IntKind.i64.wrap (s1.2 + (1 : Int)))) else (some s1.1) := (modes_set.l0.tends a0 s1).shift.uniq (by
  simp only [modes_set.l0]
  repeat' (first | with_reducible exact Tends.const _ | apply modes_set.l0.tends | refine Tends.cond ?_ ?_ | refine Tends.bind ?_ (fun _ => ?_) | cases ‹Except _ _› | intro _))
set_option maxHeartbeats 4000000 in
set_option maxRecDepth 100000 in
theorem modes_set.mono {k k' : Nat} (hk' : k ≤ k') (a0 : List Bool) : Le (modes_set.f k a0 ) (modes_set.f k' a0 ) := by
  simp only [modes_set.f]
  repeat' (first | with_reducible exact Le.refl _ | refine modes_set.l0.mono _ hk' _ | refine Le.cond ?_ ?_ | refine Le.bind ?_ (fun _ => ?_) | cases ‹Except _ _› | intro _)
noncomputable def modes_set.v (a0 : List Bool) : Option Int := lim (fun k => modes_set.f k a0 )
theorem modes_set.tends (a0 : List Bool) : Tends (fun k => modes_set.f k a0 ) (modes_set.v a0 ) := tends_lim (fun hk => modes_set.mono hk a0 )
set_option maxHeartbeats 4000000 in
set_option maxRecDepth 100000 in
theorem modes_set.v_eq (a0 : List Bool) : modes_set.v a0 = (modes_set.l0.v a0 ((0 : Int), (0 : Int))).bind fun s2 => some s2 := (modes_set.tends a0 ).uniq (by
  simp only [modes_set.f]
  repeat' (first | with_reducible exact Tends.const _ | apply modes_set.l0.tends | refine Tends.cond ?_ ?_ | refine Tends.bind ?_ (fun _ => ?_) | cases ‹Except _ _› | intro _))
/-! smithy/names.letter -/

/-! smithy/names.Check -/
set_option maxHeartbeats 4000000 in
set_option maxRecDepth 100000 in
theorem names_Check.l0.mono (a0 : ByteArray) : ∀ {k k' : Nat}, k ≤ k' → ∀ s, Le (names_Check.l0 a0 k s) (names_Check.l0 a0 k' s) := by
  intro k
  induction k with
  | zero => exact fun _ s => Le.none _
  | succ k ih =>
    intro k' hk s
    cases k' with
    | zero => exact absurd hk (by omega)
    | succ k' =>
      have hk' := Nat.le_of_succ_le_succ hk
      simp only [names_Check.l0]
      repeat' (first | with_reducible exact Le.refl _ | exact ih hk' _ | refine Le.cond ?_ ?_ | refine Le.bind ?_ (fun _ => ?_) | cases ‹Except _ _› | intro _)
noncomputable def names_Check.l0.v (a0 : ByteArray) (s : Int) : Option (Except Int Unit) := lim (fun k => names_Check.l0 a0 k s)
theorem names_Check.l0.tends (a0 : ByteArray) (s : Int) : Tends (fun k => names_Check.l0 a0 k s) (names_Check.l0.v a0 s) := tends_lim (fun hk => names_Check.l0.mono a0 hk s)
set_option maxHeartbeats 4000000 in
set_option maxRecDepth 100000 in
theorem names_Check.l0.v_eq (a0 : ByteArray) (s5 : Int) : names_Check.l0.v a0 s5 = bif icmp .lss s5 (a0.size : Int) then ((bidx a0 s5).bind fun x10 => (names_letter.f x10).bind fun v12 => bif !v12 then (some (Except.error (3 : Int))) else (names_Check.l0.v a0 (IntKind.i64.wrap (s5 + (1 : Int))))) else (some (Except.ok ())) := (names_Check.l0.tends a0 s5).shift.uniq (by
  simp only [names_Check.l0]
  repeat' (first | with_reducible exact Tends.const _ | apply names_Check.l0.tends | refine Tends.cond ?_ ?_ | refine Tends.bind ?_ (fun _ => ?_) | cases ‹Except _ _› | intro _))
set_option maxHeartbeats 4000000 in
set_option maxRecDepth 100000 in
theorem names_Check.mono {k k' : Nat} (hk' : k ≤ k') (a0 : ByteArray) : Le (names_Check.f k a0 ) (names_Check.f k' a0 ) := by
  simp only [names_Check.f]
  repeat' (first | with_reducible exact Le.refl _ | refine names_Check.l0.mono _ hk' _ | refine Le.cond ?_ ?_ | refine Le.bind ?_ (fun _ => ?_) | cases ‹Except _ _› | intro _)
noncomputable def names_Check.v (a0 : ByteArray) : Option Int := lim (fun k => names_Check.f k a0 )
theorem names_Check.tends (a0 : ByteArray) : Tends (fun k => names_Check.f k a0 ) (names_Check.v a0 ) := tends_lim (fun hk => names_Check.mono hk a0 )
set_option maxHeartbeats 4000000 in
set_option maxRecDepth 100000 in
theorem names_Check.v_eq (a0 : ByteArray) : names_Check.v a0 = (bif icmp .eql (a0.size : Int) (0 : Int) then (some true) else (some (icmp .gtr (a0.size : Int) (64 : Int)))).bind fun s1 => bif s1 then (some (3 : Int)) else ((names_Check.l0.v a0 (0 : Int)).bind fun o8 => match o8 with | .error r' => some r' | .ok s6 => (some (0 : Int))) := (names_Check.tends a0 ).uniq (by
  simp only [names_Check.f]
  repeat' (first | with_reducible exact Tends.const _ | apply names_Check.l0.tends | refine Tends.cond ?_ ?_ | refine Tends.bind ?_ (fun _ => ?_) | cases ‹Except _ _› | intro _))
/-! smithy/modes.list -/
set_option maxHeartbeats 4000000 in
set_option maxRecDepth 100000 in
theorem modes_list.l0.mono (a0 : List ByteArray) : ∀ {k k' : Nat}, k ≤ k' → ∀ s, Le (modes_list.l0 a0 k s) (modes_list.l0 a0 k' s) := by
  intro k
  induction k with
  | zero => exact fun _ s => Le.none _
  | succ k ih =>
    intro k' hk s
    cases k' with
    | zero => exact absurd hk (by omega)
    | succ k' =>
      have hk' := Nat.le_of_succ_le_succ hk
      simp only [modes_list.l0]
      repeat' (first | with_reducible exact Le.refl _ | exact ih hk' _ | apply names_Check.mono (hk' := hk') | refine Le.cond ?_ ?_ | refine Le.bind ?_ (fun _ => ?_) | cases ‹Except _ _› | intro _)
noncomputable def modes_list.l0.v (a0 : List ByteArray) (s : Int) : Option (Except Int Unit) := lim (fun k => modes_list.l0 a0 k s)
theorem modes_list.l0.tends (a0 : List ByteArray) (s : Int) : Tends (fun k => modes_list.l0 a0 k s) (modes_list.l0.v a0 s) := tends_lim (fun hk => modes_list.l0.mono a0 hk s)
set_option maxHeartbeats 4000000 in
set_option maxRecDepth 100000 in
theorem modes_list.l0.v_eq (a0 : List ByteArray) (s2 : Int) : modes_list.l0.v a0 s2 = bif icmp .lss s2 (a0.length : Int) then ((idx a0 s2).bind fun x7 => (names_Check.v x7).bind fun v9 => bif icmp .neq v9 (0 : Int) then (some (Except.error v9)) else (modes_list.l0.v a0 (IntKind.i64.wrap (s2 + (1 : Int))))) else (some (Except.ok ())) := (modes_list.l0.tends a0 s2).shift.uniq (by
  simp only [modes_list.l0]
  repeat' (first | with_reducible exact Tends.const _ | apply names_Check.tends | apply modes_list.l0.tends | refine Tends.cond ?_ ?_ | refine Tends.bind ?_ (fun _ => ?_) | cases ‹Except _ _› | intro _))
set_option maxHeartbeats 4000000 in
set_option maxRecDepth 100000 in
theorem modes_list.mono {k k' : Nat} (hk' : k ≤ k') (a0 : List ByteArray) (a1 : Int) : Le (modes_list.f k a0 a1 ) (modes_list.f k' a0 a1 ) := by
  simp only [modes_list.f]
  repeat' (first | with_reducible exact Le.refl _ | refine modes_list.l0.mono _ hk' _ | refine Le.cond ?_ ?_ | refine Le.bind ?_ (fun _ => ?_) | cases ‹Except _ _› | intro _)
noncomputable def modes_list.v (a0 : List ByteArray) (a1 : Int) : Option Int := lim (fun k => modes_list.f k a0 a1 )
theorem modes_list.tends (a0 : List ByteArray) (a1 : Int) : Tends (fun k => modes_list.f k a0 a1 ) (modes_list.v a0 a1 ) := tends_lim (fun hk => modes_list.mono hk a0 a1 )
set_option maxHeartbeats 4000000 in
set_option maxRecDepth 100000 in
theorem modes_list.v_eq (a0 : List ByteArray) (a1 : Int) : modes_list.v a0 a1 = bif icmp .gtr (a0.length : Int) a1 then (some (2 : Int)) else ((modes_list.l0.v a0 (0 : Int)).bind fun o5 => match o5 with | .error r' => some r' | .ok s3 => (some (0 : Int))) := (modes_list.tends a0 a1 ).uniq (by
  simp only [modes_list.f]
  repeat' (first | with_reducible exact Tends.const _ | apply modes_list.l0.tends | refine Tends.cond ?_ ?_ | refine Tends.bind ?_ (fun _ => ?_) | cases ‹Except _ _› | intro _))
/-! smithy/macro.Name$1 -/

/-! strings.indexFunc -/
set_option maxHeartbeats 4000000 in
set_option maxRecDepth 100000 in
theorem strings_indexFunc.l0.mono {a1 a1' : Int → Option Bool} (hpa1 : ∀ z0, Le (a1 z0) (a1' z0)) (a0 : ByteArray) (a2 : Bool) : ∀ {k k' : Nat}, k ≤ k' → ∀ s, Le (strings_indexFunc.l0 a0 a1 a2 k s) (strings_indexFunc.l0 a0 a1' a2 k' s) := by
  intro k
  induction k with
  | zero => exact fun _ s => Le.none _
  | succ k ih =>
    intro k' hk s
    cases k' with
    | zero => exact absurd hk (by omega)
    | succ k' =>
      have hk' := Nat.le_of_succ_le_succ hk
      simp only [strings_indexFunc.l0]
      repeat' (first | with_reducible exact Le.refl _ | exact hpa1 _ | exact ih hk' _ | refine Le.cond ?_ ?_ | refine Le.bind ?_ (fun _ => ?_) | cases ‹Except _ _› | intro _)
noncomputable def strings_indexFunc.l0.v (a0 : ByteArray) (a1 : Int → Option Bool) (a2 : Bool) (s : Nat) : Option (Except Int Unit) := lim (fun k => strings_indexFunc.l0 a0 a1 a2 k s)
theorem strings_indexFunc.l0.tends (a0 : ByteArray) (a1 : Int → Option Bool) (a2 : Bool) (s : Nat) : Tends (fun k => strings_indexFunc.l0 a0 a1 a2 k s) (strings_indexFunc.l0.v a0 a1 a2 s) := tends_lim (fun hk => strings_indexFunc.l0.mono (fun _ => Le.refl _) a0 a2 hk s)
set_option maxHeartbeats 4000000 in
set_option maxRecDepth 100000 in
theorem strings_indexFunc.l0.v_eq (a0 : ByteArray) (a1 : Int → Option Bool) (a2 : Bool) (s1 : Nat) : strings_indexFunc.l0.v a0 a1 a2 s1 = bif decide (s1 < a0.size) then ((a1 ((Utf8.decode a0 s1).1 : Int)).bind fun v6 => bif (v6 == a2) then (some (Except.error (s1 : Int))) else (strings_indexFunc.l0.v a0 a1 a2 (nxPos a0 s1))) else (some (Except.ok ())) := (strings_indexFunc.l0.tends a0 a1 a2 s1).shift.uniq (by
  simp only [strings_indexFunc.l0]
  repeat' (first | with_reducible exact Tends.const _ | apply strings_indexFunc.l0.tends | refine Tends.cond ?_ ?_ | refine Tends.bind ?_ (fun _ => ?_) | cases ‹Except _ _› | intro _))
set_option maxHeartbeats 4000000 in
set_option maxRecDepth 100000 in
theorem strings_indexFunc.l0.tendsP {pa1 : Nat → Int → Option Bool} {qa1 : Int → Option Bool} (hpa1 : ∀ z0, Tends (fun j => pa1 j z0) (qa1 z0)) (a0 : ByteArray) (a2 : Bool) : ∀ (K : Nat) s, Tends (fun j => strings_indexFunc.l0 a0 (pa1 j) a2 K s) (strings_indexFunc.l0 a0 qa1 a2 K s) := by
  intro K
  induction K with
  | zero => exact fun s => Tends.const _
  | succ K ih =>
    intro s
    simp only [strings_indexFunc.l0]
    repeat' (first | with_reducible exact Tends.const _ | exact hpa1 _ | exact ih _ | refine Tends.cond ?_ ?_ | refine Tends.bind ?_ (fun _ => ?_) | cases ‹Except _ _› | intro _)
set_option maxHeartbeats 4000000 in
set_option maxRecDepth 100000 in
theorem strings_indexFunc.mono {k k' : Nat} (hk' : k ≤ k') {a1 a1' : Int → Option Bool} (hpa1 : ∀ z0, Le (a1 z0) (a1' z0)) (a0 : ByteArray) (a2 : Bool) : Le (strings_indexFunc.f k a0 a1 a2 ) (strings_indexFunc.f k' a0 a1' a2 ) := by
  simp only [strings_indexFunc.f]
  repeat' (first | with_reducible exact Le.refl _ | exact hpa1 _ | refine strings_indexFunc.l0.mono hpa1 _ _ hk' _ | refine Le.cond ?_ ?_ | refine Le.bind ?_ (fun _ => ?_) | cases ‹Except _ _› | intro _)
noncomputable def strings_indexFunc.v (a0 : ByteArray) (a1 : Int → Option Bool) (a2 : Bool) : Option Int := lim (fun k => strings_indexFunc.f k a0 a1 a2 )
theorem strings_indexFunc.tends (a0 : ByteArray) (a1 : Int → Option Bool) (a2 : Bool) : Tends (fun k => strings_indexFunc.f k a0 a1 a2 ) (strings_indexFunc.v a0 a1 a2 ) := tends_lim (fun hk => strings_indexFunc.mono hk (fun _ => Le.refl _) a0 a2 )
set_option maxHeartbeats 4000000 in
set_option maxRecDepth 100000 in
theorem strings_indexFunc.v_eq (a0 : ByteArray) (a1 : Int → Option Bool) (a2 : Bool) : strings_indexFunc.v a0 a1 a2 = (strings_indexFunc.l0.v a0 a1 a2 (0 : Nat)).bind fun o4 => match o4 with | .error r' => some r' | .ok s2 => (some (-1 : Int)) := (strings_indexFunc.tends a0 a1 a2 ).uniq (by
  simp only [strings_indexFunc.f]
  repeat' (first | with_reducible exact Tends.const _ | apply strings_indexFunc.l0.tends | refine Tends.cond ?_ ?_ | refine Tends.bind ?_ (fun _ => ?_) | cases ‹Except _ _› | intro _))
set_option maxHeartbeats 4000000 in
set_option maxRecDepth 100000 in
theorem strings_indexFunc.tendsP {pa1 : Nat → Int → Option Bool} {qa1 : Int → Option Bool} (hpa1 : ∀ z0, Tends (fun j => pa1 j z0) (qa1 z0)) (a0 : ByteArray) (a2 : Bool) (K : Nat) : Tends (fun j => strings_indexFunc.f K a0 (pa1 j) a2 ) (strings_indexFunc.f K a0 qa1 a2 ) := by
  simp only [strings_indexFunc.f]
  repeat' (first | with_reducible exact Tends.const _ | exact hpa1 _ | refine strings_indexFunc.l0.tendsP hpa1 _ _ _ _ | refine Tends.cond ?_ ?_ | refine Tends.bind ?_ (fun _ => ?_) | cases ‹Except _ _› | intro _)
theorem strings_indexFunc.tends2 {pa1 : Nat → Int → Option Bool} {qa1 : Int → Option Bool} (hpa1 : ∀ z0, Tends (fun j => pa1 j z0) (qa1 z0)) (a0 : ByteArray) (a2 : Bool) : Tends (fun k => strings_indexFunc.f k a0 (pa1 k) a2 ) (strings_indexFunc.v a0 qa1 a2 ) := Tends.diag (f := fun K j => strings_indexFunc.f K a0 (pa1 j) a2 ) (fun K => strings_indexFunc.tendsP hpa1 a0 a2 K) (fun h j => strings_indexFunc.mono h (fun _ => Le.refl _) a0 a2 ) (strings_indexFunc.tends a0 qa1 a2 )
/-! strings.IndexFunc -/
set_option maxHeartbeats 4000000 in
set_option maxRecDepth 100000 in
theorem strings_IndexFunc.mono {k k' : Nat} (hk' : k ≤ k') {a1 a1' : Int → Option Bool} (hpa1 : ∀ z0, Le (a1 z0) (a1' z0)) (a0 : ByteArray) : Le (strings_IndexFunc.f k a0 a1 ) (strings_IndexFunc.f k' a0 a1' ) := by
  simp only [strings_IndexFunc.f]
  repeat' (first | with_reducible exact Le.refl _ | exact hpa1 _ | apply strings_indexFunc.mono (hk' := hk') | refine Le.cond ?_ ?_ | refine Le.bind ?_ (fun _ => ?_) | cases ‹Except _ _› | intro _)
noncomputable def strings_IndexFunc.v (a0 : ByteArray) (a1 : Int → Option Bool) : Option Int := lim (fun k => strings_IndexFunc.f k a0 a1 )
theorem strings_IndexFunc.tends (a0 : ByteArray) (a1 : Int → Option Bool) : Tends (fun k => strings_IndexFunc.f k a0 a1 ) (strings_IndexFunc.v a0 a1 ) := tends_lim (fun hk => strings_IndexFunc.mono hk (fun _ => Le.refl _) a0 )
set_option maxHeartbeats 4000000 in
set_option maxRecDepth 100000 in
theorem strings_IndexFunc.v_eq (a0 : ByteArray) (a1 : Int → Option Bool) : strings_IndexFunc.v a0 a1 = (strings_indexFunc.v a0 a1 true).bind fun v1 => some v1 := (strings_IndexFunc.tends a0 a1 ).uniq (by
  simp only [strings_IndexFunc.f]
  repeat' (first | with_reducible exact Tends.const _ | apply strings_indexFunc.tends2 | refine Tends.cond ?_ ?_ | refine Tends.bind ?_ (fun _ => ?_) | cases ‹Except _ _› | intro _))
set_option maxHeartbeats 4000000 in
set_option maxRecDepth 100000 in
theorem strings_IndexFunc.tendsP {pa1 : Nat → Int → Option Bool} {qa1 : Int → Option Bool} (hpa1 : ∀ z0, Tends (fun j => pa1 j z0) (qa1 z0)) (a0 : ByteArray) (K : Nat) : Tends (fun j => strings_IndexFunc.f K a0 (pa1 j) ) (strings_IndexFunc.f K a0 qa1 ) := by
  simp only [strings_IndexFunc.f]
  repeat' (first | with_reducible exact Tends.const _ | exact hpa1 _ | apply strings_indexFunc.tendsP | refine Tends.cond ?_ ?_ | refine Tends.bind ?_ (fun _ => ?_) | cases ‹Except _ _› | intro _)
theorem strings_IndexFunc.tends2 {pa1 : Nat → Int → Option Bool} {qa1 : Int → Option Bool} (hpa1 : ∀ z0, Tends (fun j => pa1 j z0) (qa1 z0)) (a0 : ByteArray) : Tends (fun k => strings_IndexFunc.f k a0 (pa1 k) ) (strings_IndexFunc.v a0 qa1 ) := Tends.diag (f := fun K j => strings_IndexFunc.f K a0 (pa1 j) ) (fun K => strings_IndexFunc.tendsP hpa1 a0 K) (fun h j => strings_IndexFunc.mono h (fun _ => Le.refl _) a0 ) (strings_IndexFunc.tends a0 qa1 )
/-! strings.ContainsFunc -/
set_option maxHeartbeats 4000000 in
set_option maxRecDepth 100000 in
theorem strings_ContainsFunc.mono {k k' : Nat} (hk' : k ≤ k') {a1 a1' : Int → Option Bool} (hpa1 : ∀ z0, Le (a1 z0) (a1' z0)) (a0 : ByteArray) : Le (strings_ContainsFunc.f k a0 a1 ) (strings_ContainsFunc.f k' a0 a1' ) := by
  simp only [strings_ContainsFunc.f]
  repeat' (first | with_reducible exact Le.refl _ | exact hpa1 _ | apply strings_IndexFunc.mono (hk' := hk') | refine Le.cond ?_ ?_ | refine Le.bind ?_ (fun _ => ?_) | cases ‹Except _ _› | intro _)
noncomputable def strings_ContainsFunc.v (a0 : ByteArray) (a1 : Int → Option Bool) : Option Bool := lim (fun k => strings_ContainsFunc.f k a0 a1 )
theorem strings_ContainsFunc.tends (a0 : ByteArray) (a1 : Int → Option Bool) : Tends (fun k => strings_ContainsFunc.f k a0 a1 ) (strings_ContainsFunc.v a0 a1 ) := tends_lim (fun hk => strings_ContainsFunc.mono hk (fun _ => Le.refl _) a0 )
set_option maxHeartbeats 4000000 in
set_option maxRecDepth 100000 in
theorem strings_ContainsFunc.v_eq (a0 : ByteArray) (a1 : Int → Option Bool) : strings_ContainsFunc.v a0 a1 = (strings_IndexFunc.v a0 a1).bind fun v1 => some (icmp .geq v1 (0 : Int)) := (strings_ContainsFunc.tends a0 a1 ).uniq (by
  simp only [strings_ContainsFunc.f]
  repeat' (first | with_reducible exact Tends.const _ | apply strings_IndexFunc.tends2 | refine Tends.cond ?_ ?_ | refine Tends.bind ?_ (fun _ => ?_) | cases ‹Except _ _› | intro _))
set_option maxHeartbeats 4000000 in
set_option maxRecDepth 100000 in
theorem strings_ContainsFunc.tendsP {pa1 : Nat → Int → Option Bool} {qa1 : Int → Option Bool} (hpa1 : ∀ z0, Tends (fun j => pa1 j z0) (qa1 z0)) (a0 : ByteArray) (K : Nat) : Tends (fun j => strings_ContainsFunc.f K a0 (pa1 j) ) (strings_ContainsFunc.f K a0 qa1 ) := by
  simp only [strings_ContainsFunc.f]
  repeat' (first | with_reducible exact Tends.const _ | exact hpa1 _ | apply strings_IndexFunc.tendsP | refine Tends.cond ?_ ?_ | refine Tends.bind ?_ (fun _ => ?_) | cases ‹Except _ _› | intro _)
theorem strings_ContainsFunc.tends2 {pa1 : Nat → Int → Option Bool} {qa1 : Int → Option Bool} (hpa1 : ∀ z0, Tends (fun j => pa1 j z0) (qa1 z0)) (a0 : ByteArray) : Tends (fun k => strings_ContainsFunc.f k a0 (pa1 k) ) (strings_ContainsFunc.v a0 qa1 ) := Tends.diag (f := fun K j => strings_ContainsFunc.f K a0 (pa1 j) ) (fun K => strings_ContainsFunc.tendsP hpa1 a0 K) (fun h j => strings_ContainsFunc.mono h (fun _ => Le.refl _) a0 ) (strings_ContainsFunc.tends a0 qa1 )
/-! smithy/macro.Name -/
set_option maxHeartbeats 4000000 in
set_option maxRecDepth 100000 in
theorem macro_Name.mono {k k' : Nat} (hk' : k ≤ k') (a0 : ByteArray) : Le (macro_Name.f k a0 ) (macro_Name.f k' a0 ) := by
  simp only [macro_Name.f]
  repeat' (first | with_reducible exact Le.refl _ | apply strings_ContainsFunc.mono (hk' := hk') | refine Le.cond ?_ ?_ | refine Le.bind ?_ (fun _ => ?_) | cases ‹Except _ _› | intro _)
noncomputable def macro_Name.v (a0 : ByteArray) : Option Bool := lim (fun k => macro_Name.f k a0 )
theorem macro_Name.tends (a0 : ByteArray) : Tends (fun k => macro_Name.f k a0 ) (macro_Name.v a0 ) := tends_lim (fun hk => macro_Name.mono hk a0 )
set_option maxHeartbeats 4000000 in
set_option maxRecDepth 100000 in
theorem macro_Name.v_eq (a0 : ByteArray) : macro_Name.v a0 = (bif icmp .gtr (a0.size : Int) (0 : Int) then (bif icmp .leq (a0.size : Int) (64 : Int) then ((strings_ContainsFunc.v a0 (fun (z0 : Int) => macro_Name_1.f z0)).bind fun v5 => some (!v5)) else (some false)) else (some false)).bind fun s1 => some s1 := (macro_Name.tends a0 ).uniq (by
  simp only [macro_Name.f]
  repeat' (first | with_reducible exact Tends.const _ | apply strings_ContainsFunc.tends2 | refine Tends.cond ?_ ?_ | refine Tends.bind ?_ (fun _ => ?_) | cases ‹Except _ _› | intro _))
/-! smithy/macro.one -/
set_option maxHeartbeats 4000000 in
set_option maxRecDepth 100000 in
theorem macro_one.mono {k k' : Nat} (hk' : k ≤ k') (a0 : Macro) : Le (macro_one.f k a0 ) (macro_one.f k' a0 ) := by
  simp only [macro_one.f]
  repeat' (first | with_reducible exact Le.refl _ | apply macro_Name.mono (hk' := hk') | refine Le.cond ?_ ?_ | refine Le.bind ?_ (fun _ => ?_) | cases ‹Except _ _› | intro _)
noncomputable def macro_one.v (a0 : Macro) : Option Int := lim (fun k => macro_one.f k a0 )
theorem macro_one.tends (a0 : Macro) : Tends (fun k => macro_one.f k a0 ) (macro_one.v a0 ) := tends_lim (fun hk => macro_one.mono hk a0 )
set_option maxHeartbeats 4000000 in
set_option maxRecDepth 100000 in
theorem macro_one.v_eq (a0 : Macro) : macro_one.v a0 = (macro_Name.v a0.Name).bind fun v1 => bif !v1 then (some (50 : Int)) else ((bif icmp .lss a0.Level (0 : Int) then (some true) else (some (icmp .gtr a0.Level (2 : Int)))).bind fun s4 => bif s4 then (some (51 : Int)) else (bif icmp .gtr (a0.Value.size : Int) (8192 : Int) then (some (41 : Int)) else (some (0 : Int)))) := (macro_one.tends a0 ).uniq (by
  simp only [macro_one.f]
  repeat' (first | with_reducible exact Tends.const _ | apply macro_Name.tends | refine Tends.cond ?_ ?_ | refine Tends.bind ?_ (fun _ => ?_) | cases ‹Except _ _› | intro _))
/-! smithy/macro.byName -/

/-! smithy/macro.Check -/
set_option maxHeartbeats 4000000 in
set_option maxRecDepth 100000 in
theorem macro_Check.l0.mono (a0 : List Macro) : ∀ {k k' : Nat}, k ≤ k' → ∀ s, Le (macro_Check.l0 a0 k s) (macro_Check.l0 a0 k' s) := by
  intro k
  induction k with
  | zero => exact fun _ s => Le.none _
  | succ k ih =>
    intro k' hk s
    cases k' with
    | zero => exact absurd hk (by omega)
    | succ k' =>
      have hk' := Nat.le_of_succ_le_succ hk
      simp only [macro_Check.l0]
      repeat' (first | with_reducible exact Le.refl _ | exact ih hk' _ | apply macro_one.mono (hk' := hk') | refine Le.cond ?_ ?_ | refine Le.bind ?_ (fun _ => ?_) | cases ‹Except _ _› | intro _)
noncomputable def macro_Check.l0.v (a0 : List Macro) (s : Int) : Option (Except Int Unit) := lim (fun k => macro_Check.l0 a0 k s)
theorem macro_Check.l0.tends (a0 : List Macro) (s : Int) : Tends (fun k => macro_Check.l0 a0 k s) (macro_Check.l0.v a0 s) := tends_lim (fun hk => macro_Check.l0.mono a0 hk s)
set_option maxHeartbeats 4000000 in
set_option maxRecDepth 100000 in
theorem macro_Check.l0.v_eq (a0 : List Macro) (s2 : Int) : macro_Check.l0.v a0 s2 = bif icmp .lss s2 (a0.length : Int) then ((idx a0 s2).bind fun x7 => (macro_one.v x7).bind fun v9 => bif icmp .neq v9 (0 : Int) then (some (Except.error v9)) else (macro_Check.l0.v a0 (IntKind.i64.wrap (s2 + (1 : Int))))) else (some (Except.ok ())) := (macro_Check.l0.tends a0 s2).shift.uniq (by
  simp only [macro_Check.l0]
  repeat' (first | with_reducible exact Tends.const _ | apply macro_one.tends | apply macro_Check.l0.tends | refine Tends.cond ?_ ?_ | refine Tends.bind ?_ (fun _ => ?_) | cases ‹Except _ _› | intro _))
set_option maxHeartbeats 4000000 in
set_option maxRecDepth 100000 in
theorem macro_Check.l1.mono (a0 : List Macro) : ∀ {k k' : Nat}, k ≤ k' → ∀ s, Le (macro_Check.l1 a0 k s) (macro_Check.l1 a0 k' s) := by
  intro k
  induction k with
  | zero => exact fun _ s => Le.none _
  | succ k ih =>
    intro k' hk s
    cases k' with
    | zero => exact absurd hk (by omega)
    | succ k' =>
      have hk' := Nat.le_of_succ_le_succ hk
      simp only [macro_Check.l1]
      repeat' (first | with_reducible exact Le.refl _ | exact ih hk' _ | refine Le.cond ?_ ?_ | refine Le.bind ?_ (fun _ => ?_) | cases ‹Except _ _› | intro _)
noncomputable def macro_Check.l1.v (a0 : List Macro) (s : Int) : Option (Except Int Unit) := lim (fun k => macro_Check.l1 a0 k s)
theorem macro_Check.l1.tends (a0 : List Macro) (s : Int) : Tends (fun k => macro_Check.l1 a0 k s) (macro_Check.l1.v a0 s) := tends_lim (fun hk => macro_Check.l1.mono a0 hk s)
set_option maxHeartbeats 4000000 in
set_option maxRecDepth 100000 in
theorem macro_Check.l1.v_eq (a0 : List Macro) (s12 : Int) : macro_Check.l1.v a0 s12 = bif icmp .lss s12 (a0.length : Int) then ((bif icmp .gtr s12 (0 : Int) then ((idx a0 (IntKind.i64.wrap (s12 - (1 : Int)))).bind fun x20 => (idx a0 s12).bind fun x22 => (macro_byName.f x20 x22).bind fun v24 => some (icmp .geq v24 (0 : Int))) else (some false)).bind fun s17 => bif s17 then (some (Except.error (5 : Int))) else (macro_Check.l1.v a0 (IntKind.i64.wrap (s12 + (1 : Int))))) else (some (Except.ok ())) := (macro_Check.l1.tends a0 s12).shift.uniq (by
  simp only [macro_Check.l1]
  repeat' (first | with_reducible exact Tends.const _ | apply macro_Check.l1.tends | refine Tends.cond ?_ ?_ | refine Tends.bind ?_ (fun _ => ?_) | cases ‹Except _ _› | intro _))
set_option maxHeartbeats 4000000 in
set_option maxRecDepth 100000 in
theorem macro_Check.mono {k k' : Nat} (hk' : k ≤ k') (a0 : List Macro) : Le (macro_Check.f k a0 ) (macro_Check.f k' a0 ) := by
  simp only [macro_Check.f]
  repeat' (first | with_reducible exact Le.refl _ | refine macro_Check.l0.mono _ hk' _ | refine macro_Check.l1.mono _ hk' _ | refine Le.cond ?_ ?_ | refine Le.bind ?_ (fun _ => ?_) | cases ‹Except _ _› | intro _)
noncomputable def macro_Check.v (a0 : List Macro) : Option Int := lim (fun k => macro_Check.f k a0 )
theorem macro_Check.tends (a0 : List Macro) : Tends (fun k => macro_Check.f k a0 ) (macro_Check.v a0 ) := tends_lim (fun hk => macro_Check.mono hk a0 )
set_option maxHeartbeats 4000000 in
set_option maxRecDepth 100000 in
theorem macro_Check.v_eq (a0 : List Macro) : macro_Check.v a0 = bif icmp .gtr (a0.length : Int) (256 : Int) then (some (2 : Int)) else ((macro_Check.l0.v a0 (0 : Int)).bind fun o5 => match o5 with | .error r' => some r' | .ok s3 => ((macro_Check.l1.v a0 (0 : Int)).bind fun o15 => match o15 with | .error r' => some r' | .ok s13 => (some (0 : Int)))) := (macro_Check.tends a0 ).uniq (by
  simp only [macro_Check.f]
  repeat' (first | with_reducible exact Tends.const _ | apply macro_Check.l0.tends | apply macro_Check.l1.tends | refine Tends.cond ?_ ?_ | refine Tends.bind ?_ (fun _ => ?_) | cases ‹Except _ _› | intro _))
/-! smithy/modes.Check -/
set_option maxHeartbeats 4000000 in
set_option maxRecDepth 100000 in
theorem modes_Check.l0.mono (a0 : Options) : ∀ {k k' : Nat}, k ≤ k' → ∀ s, Le (modes_Check.l0 a0 k s) (modes_Check.l0 a0 k' s) := by
  intro k
  induction k with
  | zero => exact fun _ s => Le.none _
  | succ k ih =>
    intro k' hk s
    cases k' with
    | zero => exact absurd hk (by omega)
    | succ k' =>
      have hk' := Nat.le_of_succ_le_succ hk
      simp only [modes_Check.l0]
      repeat' (first | with_reducible exact Le.refl _ | exact ih hk' _ | apply macro_Check.mono (hk' := hk') | refine Le.cond ?_ ?_ | refine Le.bind ?_ (fun _ => ?_) | cases ‹Except _ _› | intro _)
noncomputable def modes_Check.l0.v (a0 : Options) (s : Int) : Option (Except Int Unit) := lim (fun k => modes_Check.l0 a0 k s)
theorem modes_Check.l0.tends (a0 : Options) (s : Int) : Tends (fun k => modes_Check.l0 a0 k s) (modes_Check.l0.v a0 s) := tends_lim (fun hk => modes_Check.l0.mono a0 hk s)
set_option maxHeartbeats 4000000 in
set_option maxRecDepth 100000 in
theorem modes_Check.l0.v_eq (a0 : Options) (s15 : Int) : modes_Check.l0.v a0 s15 = bif icmp .lss s15 (a0.Macros.length : Int) then ((idx a0.Macros s15).bind fun x20 => (macro_Check.v ([{ x20 with Level := (2 : Int) }])).bind fun v22 => bif icmp .neq v22 (0 : Int) then (some (Except.error v22)) else (modes_Check.l0.v a0 (IntKind.i64.wrap (s15 + (1 : Int))))) else (some (Except.ok ())) := (modes_Check.l0.tends a0 s15).shift.uniq (by
  simp only [modes_Check.l0]
  repeat' (first | with_reducible exact Tends.const _ | apply macro_Check.tends | apply modes_Check.l0.tends | refine Tends.cond ?_ ?_ | refine Tends.bind ?_ (fun _ => ?_) | cases ‹Except _ _› | intro _))
set_option maxHeartbeats 4000000 in
set_option maxRecDepth 100000 in
theorem modes_Check.mono {k k' : Nat} (hk' : k ≤ k') (a0 : Options) : Le (modes_Check.f k a0 ) (modes_Check.f k' a0 ) := by
  simp only [modes_Check.f]
  repeat' (first | with_reducible exact Le.refl _ | apply modes_set.mono (hk' := hk') | apply modes_list.mono (hk' := hk') | refine modes_Check.l0.mono _ hk' _ | refine Le.cond ?_ ?_ | refine Le.bind ?_ (fun _ => ?_) | cases ‹Except _ _› | intro _)
noncomputable def modes_Check.v (a0 : Options) : Option Int := lim (fun k => modes_Check.f k a0 )
theorem modes_Check.tends (a0 : Options) : Tends (fun k => modes_Check.f k a0 ) (modes_Check.v a0 ) := tends_lim (fun hk => modes_Check.mono hk a0 )
set_option maxHeartbeats 4000000 in
set_option maxRecDepth 100000 in
theorem modes_Check.v_eq (a0 : Options) : modes_Check.v a0 = (bif icmp .lss a0.Slots (1 : Int) then (some true) else (bif icmp .gtr a0.Slots (8 : Int) then (some true) else ((modes_set.v ([a0.Dry, a0.Touch, a0.Query])).bind fun v5 => some (icmp .gtr v5 (1 : Int))))).bind fun s1 => bif s1 then (some (1 : Int)) else ((modes_list.v a0.Files (64 : Int)).bind fun v8 => bif icmp .neq v8 (0 : Int) then (some v8) else ((modes_list.v a0.Goals (512 : Int)).bind fun v11 => bif icmp .neq v11 (0 : Int) then (some v11) else (bif icmp .gtr (a0.Macros.length : Int) (256 : Int) then (some (2 : Int)) else ((modes_Check.l0.v a0 (0 : Int)).bind fun o18 => match o18 with | .error r' => some r' | .ok s16 => (some (0 : Int)))))) := (modes_Check.tends a0 ).uniq (by
  simp only [modes_Check.f]
  repeat' (first | with_reducible exact Tends.const _ | apply modes_set.tends | apply modes_list.tends | apply modes_Check.l0.tends | refine Tends.cond ?_ ?_ | refine Tends.bind ?_ (fun _ => ?_) | cases ‹Except _ _› | intro _))
/-! slices.Index[[]string,string] -/
set_option maxHeartbeats 4000000 in
set_option maxRecDepth 100000 in
theorem slices_Index_string_string.l0.mono (a0 : List ByteArray) (a1 : ByteArray) : ∀ {k k' : Nat}, k ≤ k' → ∀ s, Le (slices_Index_string_string.l0 a0 a1 k s) (slices_Index_string_string.l0 a0 a1 k' s) := by
  intro k
  induction k with
  | zero => exact fun _ s => Le.none _
  | succ k ih =>
    intro k' hk s
    cases k' with
    | zero => exact absurd hk (by omega)
    | succ k' =>
      have hk' := Nat.le_of_succ_le_succ hk
      simp only [slices_Index_string_string.l0]
      repeat' (first | with_reducible exact Le.refl _ | exact ih hk' _ | refine Le.cond ?_ ?_ | refine Le.bind ?_ (fun _ => ?_) | cases ‹Except _ _› | intro _)
noncomputable def slices_Index_string_string.l0.v (a0 : List ByteArray) (a1 : ByteArray) (s : Int) : Option (Except Int Unit) := lim (fun k => slices_Index_string_string.l0 a0 a1 k s)
theorem slices_Index_string_string.l0.tends (a0 : List ByteArray) (a1 : ByteArray) (s : Int) : Tends (fun k => slices_Index_string_string.l0 a0 a1 k s) (slices_Index_string_string.l0.v a0 a1 s) := tends_lim (fun hk => slices_Index_string_string.l0.mono a0 a1 hk s)
set_option maxHeartbeats 4000000 in
set_option maxRecDepth 100000 in
theorem slices_Index_string_string.l0.v_eq (a0 : List ByteArray) (a1 : ByteArray) (s1 : Int) : slices_Index_string_string.l0.v a0 a1 s1 = bif icmp .lss s1 (a0.length : Int) then ((idx a0 s1).bind fun x6 => bif scmp .eql a1 x6 then (some (Except.error s1)) else (slices_Index_string_string.l0.v a0 a1 (IntKind.i64.wrap (s1 + (1 : Int))))) else (some (Except.ok ())) := (slices_Index_string_string.l0.tends a0 a1 s1).shift.uniq (by
  simp only [slices_Index_string_string.l0]
  repeat' (first | with_reducible exact Tends.const _ | apply slices_Index_string_string.l0.tends | refine Tends.cond ?_ ?_ | refine Tends.bind ?_ (fun _ => ?_) | cases ‹Except _ _› | intro _))
set_option maxHeartbeats 4000000 in
set_option maxRecDepth 100000 in
theorem slices_Index_string_string.mono {k k' : Nat} (hk' : k ≤ k') (a0 : List ByteArray) (a1 : ByteArray) : Le (slices_Index_string_string.f k a0 a1 ) (slices_Index_string_string.f k' a0 a1 ) := by
  simp only [slices_Index_string_string.f]
  repeat' (first | with_reducible exact Le.refl _ | refine slices_Index_string_string.l0.mono _ _ hk' _ | refine Le.cond ?_ ?_ | refine Le.bind ?_ (fun _ => ?_) | cases ‹Except _ _› | intro _)
noncomputable def slices_Index_string_string.v (a0 : List ByteArray) (a1 : ByteArray) : Option Int := lim (fun k => slices_Index_string_string.f k a0 a1 )
theorem slices_Index_string_string.tends (a0 : List ByteArray) (a1 : ByteArray) : Tends (fun k => slices_Index_string_string.f k a0 a1 ) (slices_Index_string_string.v a0 a1 ) := tends_lim (fun hk => slices_Index_string_string.mono hk a0 a1 )
set_option maxHeartbeats 4000000 in
set_option maxRecDepth 100000 in
theorem slices_Index_string_string.v_eq (a0 : List ByteArray) (a1 : ByteArray) : slices_Index_string_string.v a0 a1 = (slices_Index_string_string.l0.v a0 a1 (0 : Int)).bind fun o4 => match o4 with | .error r' => some r' | .ok s2 => (some (-1 : Int)) := (slices_Index_string_string.tends a0 a1 ).uniq (by
  simp only [slices_Index_string_string.f]
  repeat' (first | with_reducible exact Tends.const _ | apply slices_Index_string_string.l0.tends | refine Tends.cond ?_ ?_ | refine Tends.bind ?_ (fun _ => ?_) | cases ‹Except _ _› | intro _))
/-! slices.Contains[[]string,string] -/
set_option maxHeartbeats 4000000 in
set_option maxRecDepth 100000 in
theorem slices_Contains_string_string.mono {k k' : Nat} (hk' : k ≤ k') (a0 : List ByteArray) (a1 : ByteArray) : Le (slices_Contains_string_string.f k a0 a1 ) (slices_Contains_string_string.f k' a0 a1 ) := by
  simp only [slices_Contains_string_string.f]
  repeat' (first | with_reducible exact Le.refl _ | apply slices_Index_string_string.mono (hk' := hk') | refine Le.cond ?_ ?_ | refine Le.bind ?_ (fun _ => ?_) | cases ‹Except _ _› | intro _)
noncomputable def slices_Contains_string_string.v (a0 : List ByteArray) (a1 : ByteArray) : Option Bool := lim (fun k => slices_Contains_string_string.f k a0 a1 )
theorem slices_Contains_string_string.tends (a0 : List ByteArray) (a1 : ByteArray) : Tends (fun k => slices_Contains_string_string.f k a0 a1 ) (slices_Contains_string_string.v a0 a1 ) := tends_lim (fun hk => slices_Contains_string_string.mono hk a0 a1 )
set_option maxHeartbeats 4000000 in
set_option maxRecDepth 100000 in
theorem slices_Contains_string_string.v_eq (a0 : List ByteArray) (a1 : ByteArray) : slices_Contains_string_string.v a0 a1 = (slices_Index_string_string.v a0 a1).bind fun v1 => some (icmp .geq v1 (0 : Int)) := (slices_Contains_string_string.tends a0 a1 ).uniq (by
  simp only [slices_Contains_string_string.f]
  repeat' (first | with_reducible exact Tends.const _ | apply slices_Index_string_string.tends | refine Tends.cond ?_ ?_ | refine Tends.bind ?_ (fun _ => ?_) | cases ‹Except _ _› | intro _))
/-! slices.IndexFunc[[]string,string] -/
set_option maxHeartbeats 4000000 in
set_option maxRecDepth 100000 in
theorem slices_IndexFunc_string_string.l0.mono {a1 a1' : ByteArray → Option Bool} (hpa1 : ∀ z0, Le (a1 z0) (a1' z0)) (a0 : List ByteArray) : ∀ {k k' : Nat}, k ≤ k' → ∀ s, Le (slices_IndexFunc_string_string.l0 a0 a1 k s) (slices_IndexFunc_string_string.l0 a0 a1' k' s) := by
  intro k
  induction k with
  | zero => exact fun _ s => Le.none _
  | succ k ih =>
    intro k' hk s
    cases k' with
    | zero => exact absurd hk (by omega)
    | succ k' =>
      have hk' := Nat.le_of_succ_le_succ hk
      simp only [slices_IndexFunc_string_string.l0]
      repeat' (first | with_reducible exact Le.refl _ | exact hpa1 _ | exact ih hk' _ | refine Le.cond ?_ ?_ | refine Le.bind ?_ (fun _ => ?_) | cases ‹Except _ _› | intro _)
noncomputable def slices_IndexFunc_string_string.l0.v (a0 : List ByteArray) (a1 : ByteArray → Option Bool) (s : Int) : Option (Except Int Unit) := lim (fun k => slices_IndexFunc_string_string.l0 a0 a1 k s)
theorem slices_IndexFunc_string_string.l0.tends (a0 : List ByteArray) (a1 : ByteArray → Option Bool) (s : Int) : Tends (fun k => slices_IndexFunc_string_string.l0 a0 a1 k s) (slices_IndexFunc_string_string.l0.v a0 a1 s) := tends_lim (fun hk => slices_IndexFunc_string_string.l0.mono (fun _ => Le.refl _) a0 hk s)
set_option maxHeartbeats 4000000 in
set_option maxRecDepth 100000 in
theorem slices_IndexFunc_string_string.l0.v_eq (a0 : List ByteArray) (a1 : ByteArray → Option Bool) (s1 : Int) : slices_IndexFunc_string_string.l0.v a0 a1 s1 = bif icmp .lss s1 (a0.length : Int) then ((idx a0 s1).bind fun x6 => (a1 x6).bind fun v8 => bif v8 then (some (Except.error s1)) else (slices_IndexFunc_string_string.l0.v a0 a1 (IntKind.i64.wrap (s1 + (1 : Int))))) else (some (Except.ok ())) := (slices_IndexFunc_string_string.l0.tends a0 a1 s1).shift.uniq (by
  simp only [slices_IndexFunc_string_string.l0]
  repeat' (first | with_reducible exact Tends.const _ | apply slices_IndexFunc_string_string.l0.tends | refine Tends.cond ?_ ?_ | refine Tends.bind ?_ (fun _ => ?_) | cases ‹Except _ _› | intro _))
set_option maxHeartbeats 4000000 in
set_option maxRecDepth 100000 in
theorem slices_IndexFunc_string_string.l0.tendsP {pa1 : Nat → ByteArray → Option Bool} {qa1 : ByteArray → Option Bool} (hpa1 : ∀ z0, Tends (fun j => pa1 j z0) (qa1 z0)) (a0 : List ByteArray) : ∀ (K : Nat) s, Tends (fun j => slices_IndexFunc_string_string.l0 a0 (pa1 j) K s) (slices_IndexFunc_string_string.l0 a0 qa1 K s) := by
  intro K
  induction K with
  | zero => exact fun s => Tends.const _
  | succ K ih =>
    intro s
    simp only [slices_IndexFunc_string_string.l0]
    repeat' (first | with_reducible exact Tends.const _ | exact hpa1 _ | exact ih _ | refine Tends.cond ?_ ?_ | refine Tends.bind ?_ (fun _ => ?_) | cases ‹Except _ _› | intro _)
set_option maxHeartbeats 4000000 in
set_option maxRecDepth 100000 in
theorem slices_IndexFunc_string_string.mono {k k' : Nat} (hk' : k ≤ k') {a1 a1' : ByteArray → Option Bool} (hpa1 : ∀ z0, Le (a1 z0) (a1' z0)) (a0 : List ByteArray) : Le (slices_IndexFunc_string_string.f k a0 a1 ) (slices_IndexFunc_string_string.f k' a0 a1' ) := by
  simp only [slices_IndexFunc_string_string.f]
  repeat' (first | with_reducible exact Le.refl _ | exact hpa1 _ | refine slices_IndexFunc_string_string.l0.mono hpa1 _ hk' _ | refine Le.cond ?_ ?_ | refine Le.bind ?_ (fun _ => ?_) | cases ‹Except _ _› | intro _)
noncomputable def slices_IndexFunc_string_string.v (a0 : List ByteArray) (a1 : ByteArray → Option Bool) : Option Int := lim (fun k => slices_IndexFunc_string_string.f k a0 a1 )
theorem slices_IndexFunc_string_string.tends (a0 : List ByteArray) (a1 : ByteArray → Option Bool) : Tends (fun k => slices_IndexFunc_string_string.f k a0 a1 ) (slices_IndexFunc_string_string.v a0 a1 ) := tends_lim (fun hk => slices_IndexFunc_string_string.mono hk (fun _ => Le.refl _) a0 )
set_option maxHeartbeats 4000000 in
set_option maxRecDepth 100000 in
theorem slices_IndexFunc_string_string.v_eq (a0 : List ByteArray) (a1 : ByteArray → Option Bool) : slices_IndexFunc_string_string.v a0 a1 = (slices_IndexFunc_string_string.l0.v a0 a1 (0 : Int)).bind fun o4 => match o4 with | .error r' => some r' | .ok s2 => (some (-1 : Int)) := (slices_IndexFunc_string_string.tends a0 a1 ).uniq (by
  simp only [slices_IndexFunc_string_string.f]
  repeat' (first | with_reducible exact Tends.const _ | apply slices_IndexFunc_string_string.l0.tends | refine Tends.cond ?_ ?_ | refine Tends.bind ?_ (fun _ => ?_) | cases ‹Except _ _› | intro _))
set_option maxHeartbeats 4000000 in
set_option maxRecDepth 100000 in
theorem slices_IndexFunc_string_string.tendsP {pa1 : Nat → ByteArray → Option Bool} {qa1 : ByteArray → Option Bool} (hpa1 : ∀ z0, Tends (fun j => pa1 j z0) (qa1 z0)) (a0 : List ByteArray) (K : Nat) : Tends (fun j => slices_IndexFunc_string_string.f K a0 (pa1 j) ) (slices_IndexFunc_string_string.f K a0 qa1 ) := by
  simp only [slices_IndexFunc_string_string.f]
  repeat' (first | with_reducible exact Tends.const _ | exact hpa1 _ | refine slices_IndexFunc_string_string.l0.tendsP hpa1 _ _ _ | refine Tends.cond ?_ ?_ | refine Tends.bind ?_ (fun _ => ?_) | cases ‹Except _ _› | intro _)
theorem slices_IndexFunc_string_string.tends2 {pa1 : Nat → ByteArray → Option Bool} {qa1 : ByteArray → Option Bool} (hpa1 : ∀ z0, Tends (fun j => pa1 j z0) (qa1 z0)) (a0 : List ByteArray) : Tends (fun k => slices_IndexFunc_string_string.f k a0 (pa1 k) ) (slices_IndexFunc_string_string.v a0 qa1 ) := Tends.diag (f := fun K j => slices_IndexFunc_string_string.f K a0 (pa1 j) ) (fun K => slices_IndexFunc_string_string.tendsP hpa1 a0 K) (fun h j => slices_IndexFunc_string_string.mono h (fun _ => Le.refl _) a0 ) (slices_IndexFunc_string_string.tends a0 qa1 )
/-! slices.ContainsFunc[[]string,string] -/
set_option maxHeartbeats 4000000 in
set_option maxRecDepth 100000 in
theorem slices_ContainsFunc_string_string.mono {k k' : Nat} (hk' : k ≤ k') {a1 a1' : ByteArray → Option Bool} (hpa1 : ∀ z0, Le (a1 z0) (a1' z0)) (a0 : List ByteArray) : Le (slices_ContainsFunc_string_string.f k a0 a1 ) (slices_ContainsFunc_string_string.f k' a0 a1' ) := by
  simp only [slices_ContainsFunc_string_string.f]
  repeat' (first | with_reducible exact Le.refl _ | exact hpa1 _ | apply slices_IndexFunc_string_string.mono (hk' := hk') | refine Le.cond ?_ ?_ | refine Le.bind ?_ (fun _ => ?_) | cases ‹Except _ _› | intro _)
noncomputable def slices_ContainsFunc_string_string.v (a0 : List ByteArray) (a1 : ByteArray → Option Bool) : Option Bool := lim (fun k => slices_ContainsFunc_string_string.f k a0 a1 )
theorem slices_ContainsFunc_string_string.tends (a0 : List ByteArray) (a1 : ByteArray → Option Bool) : Tends (fun k => slices_ContainsFunc_string_string.f k a0 a1 ) (slices_ContainsFunc_string_string.v a0 a1 ) := tends_lim (fun hk => slices_ContainsFunc_string_string.mono hk (fun _ => Le.refl _) a0 )
set_option maxHeartbeats 4000000 in
set_option maxRecDepth 100000 in
theorem slices_ContainsFunc_string_string.v_eq (a0 : List ByteArray) (a1 : ByteArray → Option Bool) : slices_ContainsFunc_string_string.v a0 a1 = (slices_IndexFunc_string_string.v a0 a1).bind fun v1 => some (icmp .geq v1 (0 : Int)) := (slices_ContainsFunc_string_string.tends a0 a1 ).uniq (by
  simp only [slices_ContainsFunc_string_string.f]
  repeat' (first | with_reducible exact Tends.const _ | apply slices_IndexFunc_string_string.tends2 | refine Tends.cond ?_ ?_ | refine Tends.bind ?_ (fun _ => ?_) | cases ‹Except _ _› | intro _))
set_option maxHeartbeats 4000000 in
set_option maxRecDepth 100000 in
theorem slices_ContainsFunc_string_string.tendsP {pa1 : Nat → ByteArray → Option Bool} {qa1 : ByteArray → Option Bool} (hpa1 : ∀ z0, Tends (fun j => pa1 j z0) (qa1 z0)) (a0 : List ByteArray) (K : Nat) : Tends (fun j => slices_ContainsFunc_string_string.f K a0 (pa1 j) ) (slices_ContainsFunc_string_string.f K a0 qa1 ) := by
  simp only [slices_ContainsFunc_string_string.f]
  repeat' (first | with_reducible exact Tends.const _ | exact hpa1 _ | apply slices_IndexFunc_string_string.tendsP | refine Tends.cond ?_ ?_ | refine Tends.bind ?_ (fun _ => ?_) | cases ‹Except _ _› | intro _)
theorem slices_ContainsFunc_string_string.tends2 {pa1 : Nat → ByteArray → Option Bool} {qa1 : ByteArray → Option Bool} (hpa1 : ∀ z0, Tends (fun j => pa1 j z0) (qa1 z0)) (a0 : List ByteArray) : Tends (fun k => slices_ContainsFunc_string_string.f k a0 (pa1 k) ) (slices_ContainsFunc_string_string.v a0 qa1 ) := Tends.diag (f := fun K j => slices_ContainsFunc_string_string.f K a0 (pa1 j) ) (fun K => slices_ContainsFunc_string_string.tendsP hpa1 a0 K) (fun h j => slices_ContainsFunc_string_string.mono h (fun _ => Le.refl _) a0 ) (slices_ContainsFunc_string_string.tends a0 qa1 )
/-! smithy/resolve.right$1 -/

/-! smithy/resolve.right -/
set_option maxHeartbeats 4000000 in
set_option maxRecDepth 100000 in
theorem resolve_right.l0.mono (a0 : Node) (a1 : GM Int) : ∀ {k k' : Nat}, k ≤ k' → ∀ s, Le (resolve_right.l0 a0 a1 k s) (resolve_right.l0 a0 a1 k' s) := by
  intro k
  induction k with
  | zero => exact fun _ s => Le.none _
  | succ k ih =>
    intro k' hk s
    cases k' with
    | zero => exact absurd hk (by omega)
    | succ k' =>
      have hk' := Nat.le_of_succ_le_succ hk
      simp only [resolve_right.l0]
      repeat' (first | with_reducible exact Le.refl _ | exact ih hk' _ | apply names_Check.mono (hk' := hk') | apply slices_Contains_string_string.mono (hk' := hk') | refine Le.cond ?_ ?_ | refine Le.bind ?_ (fun _ => ?_) | cases ‹Except _ _› | intro _)
noncomputable def resolve_right.l0.v (a0 : Node) (a1 : GM Int) (s : Int) : Option (Except Bool Unit) := lim (fun k => resolve_right.l0 a0 a1 k s)
theorem resolve_right.l0.tends (a0 : Node) (a1 : GM Int) (s : Int) : Tends (fun k => resolve_right.l0 a0 a1 k s) (resolve_right.l0.v a0 a1 s) := tends_lim (fun hk => resolve_right.l0.mono a0 a1 hk s)
set_option maxHeartbeats 4000000 in
set_option maxRecDepth 100000 in
theorem resolve_right.l0.v_eq (a0 : Node) (a1 : GM Int) (s13 : Int) : resolve_right.l0.v a0 a1 s13 = bif icmp .lss s13 (a0.Needs.length : Int) then ((idx a0.Needs s13).bind fun x18 => ((names_Check.v x18).bind fun v22 => bif icmp .neq v22 (0 : Int) then (some true) else ((sub a0.Needs (0 : Int) s13).bind fun x25 => (slices_Contains_string_string.v x25 x18).bind fun v27 => bif v27 then (some true) else ((gget a1 (0 : Int) x18).bind fun x30 => some (icmp .neq x30 (1 : Int))))).bind fun s20 => bif s20 then (some (Except.error false)) else (resolve_right.l0.v a0 a1 (IntKind.i64.wrap (s13 + (1 : Int))))) else (some (Except.ok ())) := (resolve_right.l0.tends a0 a1 s13).shift.uniq (by
  simp only [resolve_right.l0]
  repeat' (first | with_reducible exact Tends.const _ | apply names_Check.tends | apply slices_Contains_string_string.tends | apply resolve_right.l0.tends | refine Tends.cond ?_ ?_ | refine Tends.bind ?_ (fun _ => ?_) | cases ‹Except _ _› | intro _))
set_option maxHeartbeats 4000000 in
set_option maxRecDepth 100000 in
theorem resolve_right.mono {k k' : Nat} (hk' : k ≤ k') (a0 : Node) (a1 : GM Int) : Le (resolve_right.f k a0 a1 ) (resolve_right.f k' a0 a1 ) := by
  simp only [resolve_right.f]
  repeat' (first | with_reducible exact Le.refl _ | apply names_Check.mono (hk' := hk') | apply slices_ContainsFunc_string_string.mono (hk' := hk') | refine resolve_right.l0.mono _ _ hk' _ | refine Le.cond ?_ ?_ | refine Le.bind ?_ (fun _ => ?_) | cases ‹Except _ _› | intro _)
noncomputable def resolve_right.v (a0 : Node) (a1 : GM Int) : Option Bool := lim (fun k => resolve_right.f k a0 a1 )
theorem resolve_right.tends (a0 : Node) (a1 : GM Int) : Tends (fun k => resolve_right.f k a0 a1 ) (resolve_right.v a0 a1 ) := tends_lim (fun hk => resolve_right.mono hk a0 a1 )
set_option maxHeartbeats 4000000 in
set_option maxRecDepth 100000 in
theorem resolve_right.v_eq (a0 : Node) (a1 : GM Int) : resolve_right.v a0 a1 = ((names_Check.v a0.Target).bind fun v3 => bif icmp .neq v3 (0 : Int) then (some true) else ((gget a1 (0 : Int) a0.Target).bind fun x6 => bif icmp .eql x6 (1 : Int) then (some true) else (bif icmp .gtr (a0.Needs.length : Int) (65 : Int) then (some true) else (bif icmp .gtr (a0.Recipe.length : Int) (64 : Int) then (some true) else (bif !a0.Has then (some (icmp .gtr (a0.Recipe.length : Int) (0 : Int))) else (some false)))))).bind fun s1 => bif s1 then (some false) else ((resolve_right.l0.v a0 a1 (0 : Int)).bind fun o16 => match o16 with | .error r' => some r' | .ok s14 => ((slices_ContainsFunc_string_string.v a0.Recipe (fun (z0 : ByteArray) => resolve_right_1.f z0)).bind fun v33 => bif v33 then (some false) else (bif scmp .eql a0.Source (⟨#[]⟩ : ByteArray) then (some (scmp .eql a0.Stem (⟨#[]⟩ : ByteArray))) else ((bif icmp .gtr (a0.Needs.length : Int) (0 : Int) then ((idx a0.Needs (0 : Int)).bind fun x40 => bif scmp .eql x40 a0.Source then (some (icmp .leq (a0.Stem.size : Int) (64 : Int))) else (some false)) else (some false)).bind fun s37 => some s37)))) := (resolve_right.tends a0 a1 ).uniq (by
  simp only [resolve_right.f]
  repeat' (first | with_reducible exact Tends.const _ | apply names_Check.tends | apply slices_ContainsFunc_string_string.tends2 | apply resolve_right.l0.tends | refine Tends.cond ?_ ?_ | refine Tends.bind ?_ (fun _ => ?_) | cases ‹Except _ _› | intro _))
/-! smithy/resolve.Check -/
set_option maxHeartbeats 4000000 in
set_option maxRecDepth 100000 in
theorem resolve_Check.l0.mono (a0 : Plan) : ∀ {k k' : Nat}, k ≤ k' → ∀ s, Le (resolve_Check.l0 a0 k s) (resolve_Check.l0 a0 k' s) := by
  intro k
  induction k with
  | zero => exact fun _ s => Le.none _
  | succ k ih =>
    intro k' hk s
    cases k' with
    | zero => exact absurd hk (by omega)
    | succ k' =>
      have hk' := Nat.le_of_succ_le_succ hk
      simp only [resolve_Check.l0]
      repeat' (first | with_reducible exact Le.refl _ | exact ih hk' _ | apply resolve_right.mono (hk' := hk') | refine Le.cond ?_ ?_ | refine Le.bind ?_ (fun _ => ?_) | cases ‹Except _ _› | intro _)
noncomputable def resolve_Check.l0.v (a0 : Plan) (s : (GM Int) × Int) : Option (Except Int (GM Int)) := lim (fun k => resolve_Check.l0 a0 k s)
theorem resolve_Check.l0.tends (a0 : Plan) (s : (GM Int) × Int) : Tends (fun k => resolve_Check.l0 a0 k s) (resolve_Check.l0.v a0 s) := tends_lim (fun hk => resolve_Check.l0.mono a0 hk s)
set_option maxHeartbeats 4000000 in
set_option maxRecDepth 100000 in
theorem resolve_Check.l0.v_eq (a0 : Plan) (s6 : (GM Int) × Int) : resolve_Check.l0.v a0 s6 = bif icmp .lss s6.2 (a0.Nodes.length : Int) then ((idx a0.Nodes s6.2).bind fun x11 => (resolve_right.v x11 s6.1).bind fun v13 => bif !v13 then (some (Except.error (7 : Int))) else ((gput s6.1 x11.Target (1 : Int)).bind fun x16 => resolve_Check.l0.v a0 (x16, IntKind.i64.wrap (s6.2 + (1 : Int))))) else (some (Except.ok s6.1)) := (resolve_Check.l0.tends a0 s6).shift.uniq (by
  simp only [resolve_Check.l0]
  repeat' (first | with_reducible exact Tends.const _ | apply resolve_right.tends | apply resolve_Check.l0.tends | refine Tends.cond ?_ ?_ | refine Tends.bind ?_ (fun _ => ?_) | cases ‹Except _ _› | intro _))
set_option maxHeartbeats 4000000 in
set_option maxRecDepth 100000 in
theorem resolve_Check.l1.mono (a0 : Plan) (s7 : (GM Int)) : ∀ {k k' : Nat}, k ≤ k' → ∀ s, Le (resolve_Check.l1 a0 s7 k s) (resolve_Check.l1 a0 s7 k' s) := by
  intro k
  induction k with
  | zero => exact fun _ s => Le.none _
  | succ k ih =>
    intro k' hk s
    cases k' with
    | zero => exact absurd hk (by omega)
    | succ k' =>
      have hk' := Nat.le_of_succ_le_succ hk
      simp only [resolve_Check.l1]
      repeat' (first | with_reducible exact Le.refl _ | exact ih hk' _ | apply slices_Contains_string_string.mono (hk' := hk') | refine Le.cond ?_ ?_ | refine Le.bind ?_ (fun _ => ?_) | cases ‹Except _ _› | intro _)
noncomputable def resolve_Check.l1.v (a0 : Plan) (s7 : (GM Int)) (s : Int) : Option (Except Int Unit) := lim (fun k => resolve_Check.l1 a0 s7 k s)
theorem resolve_Check.l1.tends (a0 : Plan) (s7 : (GM Int)) (s : Int) : Tends (fun k => resolve_Check.l1 a0 s7 k s) (resolve_Check.l1.v a0 s7 s) := tends_lim (fun hk => resolve_Check.l1.mono a0 s7 hk s)
set_option maxHeartbeats 4000000 in
set_option maxRecDepth 100000 in
theorem resolve_Check.l1.v_eq (a0 : Plan) (s7 : (GM Int)) (s18 : Int) : resolve_Check.l1.v a0 s7 s18 = bif icmp .lss s18 (a0.Goals.length : Int) then ((idx a0.Goals s18).bind fun x23 => ((gget s7 (0 : Int) x23).bind fun x27 => bif icmp .neq x27 (1 : Int) then (some true) else ((sub a0.Goals (0 : Int) s18).bind fun x30 => (slices_Contains_string_string.v x30 x23).bind fun v32 => some v32)).bind fun s25 => bif s25 then (some (Except.error (7 : Int))) else (resolve_Check.l1.v a0 s7 (IntKind.i64.wrap (s18 + (1 : Int))))) else (some (Except.ok ())) := (resolve_Check.l1.tends a0 s7 s18).shift.uniq (by
  simp only [resolve_Check.l1]
  repeat' (first | with_reducible exact Tends.const _ | apply slices_Contains_string_string.tends | apply resolve_Check.l1.tends | refine Tends.cond ?_ ?_ | refine Tends.bind ?_ (fun _ => ?_) | cases ‹Except _ _› | intro _))
set_option maxHeartbeats 4000000 in
set_option maxRecDepth 100000 in
theorem resolve_Check.mono {k k' : Nat} (hk' : k ≤ k') (a0 : Plan) : Le (resolve_Check.f k a0 ) (resolve_Check.f k' a0 ) := by
  simp only [resolve_Check.f]
  repeat' (first | with_reducible exact Le.refl _ | refine resolve_Check.l0.mono _ hk' _ | refine resolve_Check.l1.mono _ _ hk' _ | refine Le.cond ?_ ?_ | refine Le.bind ?_ (fun _ => ?_) | cases ‹Except _ _› | intro _)
noncomputable def resolve_Check.v (a0 : Plan) : Option Int := lim (fun k => resolve_Check.f k a0 )
theorem resolve_Check.tends (a0 : Plan) : Tends (fun k => resolve_Check.f k a0 ) (resolve_Check.v a0 ) := tends_lim (fun hk => resolve_Check.mono hk a0 )
set_option maxHeartbeats 4000000 in
set_option maxRecDepth 100000 in
theorem resolve_Check.v_eq (a0 : Plan) : resolve_Check.v a0 = (bif icmp .gtr (a0.Nodes.length : Int) (256 : Int) then (some true) else (bif icmp .lss (a0.Goals.length : Int) (1 : Int) then (some true) else (some (icmp .gtr (a0.Goals.length : Int) (512 : Int))))).bind fun s1 => bif s1 then (some (7 : Int)) else ((resolve_Check.l0.v a0 ((gempty : GM Int), (0 : Int))).bind fun o9 => match o9 with | .error r' => some r' | .ok s7 => ((resolve_Check.l1.v a0 s7 (0 : Int)).bind fun o21 => match o21 with | .error r' => some r' | .ok s19 => (some (0 : Int)))) := (resolve_Check.tends a0 ).uniq (by
  simp only [resolve_Check.f]
  repeat' (first | with_reducible exact Tends.const _ | apply resolve_Check.l0.tends | apply resolve_Check.l1.tends | refine Tends.cond ?_ ?_ | refine Tends.bind ?_ (fun _ => ?_) | cases ‹Except _ _› | intro _))
/-! smithy/modes.alone -/
set_option maxHeartbeats 4000000 in
set_option maxRecDepth 100000 in
theorem modes_alone.l0.mono (a0 : Node) : ∀ {k k' : Nat}, k ≤ k' → ∀ s, Le (modes_alone.l0 a0 k s) (modes_alone.l0 a0 k' s) := by
  intro k
  induction k with
  | zero => exact fun _ s => Le.none _
  | succ k ih =>
    intro k' hk s
    cases k' with
    | zero => exact absurd hk (by omega)
    | succ k' =>
      have hk' := Nat.le_of_succ_le_succ hk
      simp only [modes_alone.l0]
      repeat' (first | with_reducible exact Le.refl _ | exact ih hk' _ | refine Le.cond ?_ ?_ | refine Le.bind ?_ (fun _ => ?_) | cases ‹Except _ _› | intro _)
noncomputable def modes_alone.l0.v (a0 : Node) (s : (List Node) × Int) : Option (List Node) := lim (fun k => modes_alone.l0 a0 k s)
theorem modes_alone.l0.tends (a0 : Node) (s : (List Node) × Int) : Tends (fun k => modes_alone.l0 a0 k s) (modes_alone.l0.v a0 s) := tends_lim (fun hk => modes_alone.l0.mono a0 hk s)
set_option maxHeartbeats 4000000 in
set_option maxRecDepth 100000 in
theorem modes_alone.l0.v_eq (a0 : Node) (s1 : (List Node) × Int) : modes_alone.l0.v a0 s1 = bif icmp .lss s1.2 (a0.Needs.length : Int) then ((idx a0.Needs s1.2).bind fun x5 => (app 112 s1.1 ([(⟨x5, ([] : List ByteArray), ([] : List ByteArray), false, ByteArray.empty, ByteArray.empty, false, false, false, false⟩ : Node)])).bind fun x7 => modes_alone.l0.v a0 (x7, IntKind.i64.wrap (s1.2 + (1 : Int)))) else (some s1.1) := (modes_alone.l0.tends a0 s1).shift.uniq (by
  simp only [modes_alone.l0]
  repeat' (first | with_reducible exact Tends.const _ | apply modes_alone.l0.tends | refine Tends.cond ?_ ?_ | refine Tends.bind ?_ (fun _ => ?_) | cases ‹Except _ _› | intro _))
set_option maxHeartbeats 4000000 in
set_option maxRecDepth 100000 in
theorem modes_alone.mono {k k' : Nat} (hk' : k ≤ k') (a0 : Node) : Le (modes_alone.f k a0 ) (modes_alone.f k' a0 ) := by
  simp only [modes_alone.f]
  repeat' (first | with_reducible exact Le.refl _ | apply resolve_Check.mono (hk' := hk') | refine modes_alone.l0.mono _ hk' _ | refine Le.cond ?_ ?_ | refine Le.bind ?_ (fun _ => ?_) | cases ‹Except _ _› | intro _)
noncomputable def modes_alone.v (a0 : Node) : Option Int := lim (fun k => modes_alone.f k a0 )
theorem modes_alone.tends (a0 : Node) : Tends (fun k => modes_alone.f k a0 ) (modes_alone.v a0 ) := tends_lim (fun hk => modes_alone.mono hk a0 )
set_option maxHeartbeats 4000000 in
set_option maxRecDepth 100000 in
theorem modes_alone.v_eq (a0 : Node) : modes_alone.v a0 = (modes_alone.l0.v a0 (([] : List Node), (0 : Int))).bind fun s2 => (app 112 s2 ([a0])).bind fun x9 => (resolve_Check.v (⟨x9, [a0.Target]⟩ : Plan)).bind fun v11 => some v11 := (modes_alone.tends a0 ).uniq (by
  simp only [modes_alone.f]
  repeat' (first | with_reducible exact Tends.const _ | apply resolve_Check.tends | apply modes_alone.l0.tends | refine Tends.cond ?_ ?_ | refine Tends.bind ?_ (fun _ => ?_) | cases ‹Except _ _› | intro _))
/-! smithy/modes.Of -/
set_option maxHeartbeats 4000000 in
set_option maxRecDepth 100000 in
theorem modes_Of.mono {k k' : Nat} (hk' : k ≤ k') (a0 : Options) (a1 : Node) (a2 : Flags) : Le (modes_Of.f k a0 a1 a2 ) (modes_Of.f k' a0 a1 a2 ) := by
  simp only [modes_Of.f]
  repeat' (first | with_reducible exact Le.refl _ | apply modes_Check.mono (hk' := hk') | apply modes_alone.mono (hk' := hk') | apply modes_set.mono (hk' := hk') | refine Le.cond ?_ ?_ | refine Le.bind ?_ (fun _ => ?_) | cases ‹Except _ _› | intro _)
noncomputable def modes_Of.v (a0 : Options) (a1 : Node) (a2 : Flags) : Option (Mode × Int) := lim (fun k => modes_Of.f k a0 a1 a2 )
theorem modes_Of.tends (a0 : Options) (a1 : Node) (a2 : Flags) : Tends (fun k => modes_Of.f k a0 a1 a2 ) (modes_Of.v a0 a1 a2 ) := tends_lim (fun hk => modes_Of.mono hk a0 a1 a2 )
set_option maxHeartbeats 4000000 in
set_option maxRecDepth 100000 in
theorem modes_Of.v_eq (a0 : Options) (a1 : Node) (a2 : Flags) : modes_Of.v a0 a1 a2 = (modes_Check.v a0).bind fun v1 => bif icmp .neq v1 (0 : Int) then (some ((⟨false, false, false⟩ : Mode), v1)) else ((modes_alone.v a1).bind fun v4 => bif icmp .neq v4 (0 : Int) then (some ((⟨false, false, false⟩ : Mode), v4)) else ((bif a2.Always then (bif a2.Ignore then (some (⟨false, true, true⟩ : Mode)) else (bif a0.Ignore then (some (⟨false, true, true⟩ : Mode)) else (some (⟨false, true, a1.Ignore⟩ : Mode)))) else ((modes_set.v ([a0.Dry, a0.Touch, a0.Query])).bind fun v12 => bif a2.Ignore then (some (⟨false, icmp .eql v12 (0 : Int), true⟩ : Mode)) else (bif a0.Ignore then (some (⟨false, icmp .eql v12 (0 : Int), true⟩ : Mode)) else (some (⟨false, icmp .eql v12 (0 : Int), a1.Ignore⟩ : Mode))))).bind fun s7 => (bif a0.Dry then (some ({ s7 with Echo := true })) else (bif s7.Run then ((modes_set.v ([a2.Silent, a0.Silent, a1.Silent])).bind fun v20 => some ({ s7 with Echo := icmp .eql v20 (0 : Int) })) else (some ({ s7 with Echo := false })))).bind fun s16 => some (s16, (0 : Int)))) := (modes_Of.tends a0 a1 a2 ).uniq (by
  simp only [modes_Of.f]
  repeat' (first | with_reducible exact Tends.const _ | apply modes_Check.tends | apply modes_alone.tends | apply modes_set.tends | refine Tends.cond ?_ ?_ | refine Tends.bind ?_ (fun _ => ?_) | cases ‹Except _ _› | intro _))
/-! smithy/smithyref19.two -/

/-! smithy/smithyref03.letter -/

/-! smithy/smithyref03.Is -/
set_option maxHeartbeats 4000000 in
set_option maxRecDepth 100000 in
theorem smithyref03_Is.l0.mono (a0 : ByteArray) : ∀ {k k' : Nat}, k ≤ k' → ∀ s, Le (smithyref03_Is.l0 a0 k s) (smithyref03_Is.l0 a0 k' s) := by
  intro k
  induction k with
  | zero => exact fun _ s => Le.none _
  | succ k ih =>
    intro k' hk s
    cases k' with
    | zero => exact absurd hk (by omega)
    | succ k' =>
      have hk' := Nat.le_of_succ_le_succ hk
      simp only [smithyref03_Is.l0]
      repeat' (first | with_reducible exact Le.refl _ | exact ih hk' _ | refine Le.cond ?_ ?_ | refine Le.bind ?_ (fun _ => ?_) | cases ‹Except _ _› | intro _)
noncomputable def smithyref03_Is.l0.v (a0 : ByteArray) (s : Int) : Option (Except Bool Unit) := lim (fun k => smithyref03_Is.l0 a0 k s)
theorem smithyref03_Is.l0.tends (a0 : ByteArray) (s : Int) : Tends (fun k => smithyref03_Is.l0 a0 k s) (smithyref03_Is.l0.v a0 s) := tends_lim (fun hk => smithyref03_Is.l0.mono a0 hk s)
set_option maxHeartbeats 4000000 in
set_option maxRecDepth 100000 in
theorem smithyref03_Is.l0.v_eq (a0 : ByteArray) (s5 : Int) : smithyref03_Is.l0.v a0 s5 = bif icmp .lss s5 (a0.size : Int) then ((bidx a0 s5).bind fun x10 => (smithyref03_letter.f x10).bind fun v12 => bif !v12 then (some (Except.error false)) else (smithyref03_Is.l0.v a0 (IntKind.i64.wrap (s5 + (1 : Int))))) else (some (Except.ok ())) := (smithyref03_Is.l0.tends a0 s5).shift.uniq (by
  simp only [smithyref03_Is.l0]
  repeat' (first | with_reducible exact Tends.const _ | apply smithyref03_Is.l0.tends | refine Tends.cond ?_ ?_ | refine Tends.bind ?_ (fun _ => ?_) | cases ‹Except _ _› | intro _))
set_option maxHeartbeats 4000000 in
set_option maxRecDepth 100000 in
theorem smithyref03_Is.mono {k k' : Nat} (hk' : k ≤ k') (a0 : ByteArray) : Le (smithyref03_Is.f k a0 ) (smithyref03_Is.f k' a0 ) := by
  simp only [smithyref03_Is.f]
  repeat' (first | with_reducible exact Le.refl _ | refine smithyref03_Is.l0.mono _ hk' _ | refine Le.cond ?_ ?_ | refine Le.bind ?_ (fun _ => ?_) | cases ‹Except _ _› | intro _)
noncomputable def smithyref03_Is.v (a0 : ByteArray) : Option Bool := lim (fun k => smithyref03_Is.f k a0 )
theorem smithyref03_Is.tends (a0 : ByteArray) : Tends (fun k => smithyref03_Is.f k a0 ) (smithyref03_Is.v a0 ) := tends_lim (fun hk => smithyref03_Is.mono hk a0 )
set_option maxHeartbeats 4000000 in
set_option maxRecDepth 100000 in
theorem smithyref03_Is.v_eq (a0 : ByteArray) : smithyref03_Is.v a0 = (bif icmp .lss (a0.size : Int) (1 : Int) then (some true) else (some (icmp .gtr (a0.size : Int) (64 : Int)))).bind fun s1 => bif s1 then (some false) else ((smithyref03_Is.l0.v a0 (0 : Int)).bind fun o8 => match o8 with | .error r' => some r' | .ok s6 => (some true)) := (smithyref03_Is.tends a0 ).uniq (by
  simp only [smithyref03_Is.f]
  repeat' (first | with_reducible exact Tends.const _ | apply smithyref03_Is.l0.tends | refine Tends.cond ?_ ?_ | refine Tends.bind ?_ (fun _ => ?_) | cases ‹Except _ _› | intro _))
/-! smithy/smithyref19.names -/
set_option maxHeartbeats 4000000 in
set_option maxRecDepth 100000 in
theorem smithyref19_names.l0.mono (a0 : List ByteArray) : ∀ {k k' : Nat}, k ≤ k' → ∀ s, Le (smithyref19_names.l0 a0 k s) (smithyref19_names.l0 a0 k' s) := by
  intro k
  induction k with
  | zero => exact fun _ s => Le.none _
  | succ k ih =>
    intro k' hk s
    cases k' with
    | zero => exact absurd hk (by omega)
    | succ k' =>
      have hk' := Nat.le_of_succ_le_succ hk
      simp only [smithyref19_names.l0]
      repeat' (first | with_reducible exact Le.refl _ | exact ih hk' _ | apply smithyref03_Is.mono (hk' := hk') | refine Le.cond ?_ ?_ | refine Le.bind ?_ (fun _ => ?_) | cases ‹Except _ _› | intro _)
noncomputable def smithyref19_names.l0.v (a0 : List ByteArray) (s : Int) : Option (Except Int Unit) := lim (fun k => smithyref19_names.l0 a0 k s)
theorem smithyref19_names.l0.tends (a0 : List ByteArray) (s : Int) : Tends (fun k => smithyref19_names.l0 a0 k s) (smithyref19_names.l0.v a0 s) := tends_lim (fun hk => smithyref19_names.l0.mono a0 hk s)
set_option maxHeartbeats 4000000 in
set_option maxRecDepth 100000 in
theorem smithyref19_names.l0.v_eq (a0 : List ByteArray) (s2 : Int) : smithyref19_names.l0.v a0 s2 = bif icmp .lss s2 (a0.length : Int) then ((idx a0 s2).bind fun x7 => (smithyref03_Is.v x7).bind fun v9 => bif !v9 then (some (Except.error (3 : Int))) else (smithyref19_names.l0.v a0 (IntKind.i64.wrap (s2 + (1 : Int))))) else (some (Except.ok ())) := (smithyref19_names.l0.tends a0 s2).shift.uniq (by
  simp only [smithyref19_names.l0]
  repeat' (first | with_reducible exact Tends.const _ | apply smithyref03_Is.tends | apply smithyref19_names.l0.tends | refine Tends.cond ?_ ?_ | refine Tends.bind ?_ (fun _ => ?_) | cases ‹Except _ _› | intro _))
set_option maxHeartbeats 4000000 in
set_option maxRecDepth 100000 in
theorem smithyref19_names.mono {k k' : Nat} (hk' : k ≤ k') (a0 : List ByteArray) (a1 : Int) : Le (smithyref19_names.f k a0 a1 ) (smithyref19_names.f k' a0 a1 ) := by
  simp only [smithyref19_names.f]
  repeat' (first | with_reducible exact Le.refl _ | refine smithyref19_names.l0.mono _ hk' _ | refine Le.cond ?_ ?_ | refine Le.bind ?_ (fun _ => ?_) | cases ‹Except _ _› | intro _)
noncomputable def smithyref19_names.v (a0 : List ByteArray) (a1 : Int) : Option Int := lim (fun k => smithyref19_names.f k a0 a1 )
theorem smithyref19_names.tends (a0 : List ByteArray) (a1 : Int) : Tends (fun k => smithyref19_names.f k a0 a1 ) (smithyref19_names.v a0 a1 ) := tends_lim (fun hk => smithyref19_names.mono hk a0 a1 )
set_option maxHeartbeats 4000000 in
set_option maxRecDepth 100000 in
theorem smithyref19_names.v_eq (a0 : List ByteArray) (a1 : Int) : smithyref19_names.v a0 a1 = bif icmp .gtr (a0.length : Int) a1 then (some (2 : Int)) else ((smithyref19_names.l0.v a0 (0 : Int)).bind fun o5 => match o5 with | .error r' => some r' | .ok s3 => (some (0 : Int))) := (smithyref19_names.tends a0 a1 ).uniq (by
  simp only [smithyref19_names.f]
  repeat' (first | with_reducible exact Tends.const _ | apply smithyref19_names.l0.tends | refine Tends.cond ?_ ?_ | refine Tends.bind ?_ (fun _ => ?_) | cases ‹Except _ _› | intro _))
/-! smithy/smithyref05.Name -/
set_option maxHeartbeats 4000000 in
set_option maxRecDepth 100000 in
theorem smithyref05_Name.l0.mono (a0 : ByteArray) : ∀ {k k' : Nat}, k ≤ k' → ∀ s, Le (smithyref05_Name.l0 a0 k s) (smithyref05_Name.l0 a0 k' s) := by
  intro k
  induction k with
  | zero => exact fun _ s => Le.none _
  | succ k ih =>
    intro k' hk s
    cases k' with
    | zero => exact absurd hk (by omega)
    | succ k' =>
      have hk' := Nat.le_of_succ_le_succ hk
      simp only [smithyref05_Name.l0]
      repeat' (first | with_reducible exact Le.refl _ | exact ih hk' _ | refine Le.cond ?_ ?_ | refine Le.bind ?_ (fun _ => ?_) | cases ‹Except _ _› | intro _)
noncomputable def smithyref05_Name.l0.v (a0 : ByteArray) (s : Int) : Option (Except Bool Unit) := lim (fun k => smithyref05_Name.l0 a0 k s)
theorem smithyref05_Name.l0.tends (a0 : ByteArray) (s : Int) : Tends (fun k => smithyref05_Name.l0 a0 k s) (smithyref05_Name.l0.v a0 s) := tends_lim (fun hk => smithyref05_Name.l0.mono a0 hk s)
set_option maxHeartbeats 4000000 in
set_option maxRecDepth 100000 in
theorem smithyref05_Name.l0.v_eq (a0 : ByteArray) (s5 : Int) : smithyref05_Name.l0.v a0 s5 = bif icmp .lss s5 (a0.size : Int) then ((bidx a0 s5).bind fun x10 => (bif icmp .geq x10 (65 : Int) then (bif icmp .leq x10 (90 : Int) then (some (!true)) else (bif icmp .geq x10 (97 : Int) then (bif icmp .leq x10 (122 : Int) then (some (!true)) else (bif icmp .geq x10 (48 : Int) then (bif icmp .leq x10 (57 : Int) then (some (!true)) else (bif icmp .eql x10 (95 : Int) then (some (!true)) else (some (!(icmp .eql x10 (46 : Int)))))) else (bif icmp .eql x10 (95 : Int) then (some (!true)) else (some (!(icmp .eql x10 (46 : Int))))))) else (bif icmp .geq x10 (48 : Int) then (bif icmp .leq x10 (57 : Int) then (some (!true)) else (bif icmp .eql x10 (95 : Int) then (some (!true)) else (some (!(icmp .eql x10 (46 : Int)))))) else (bif icmp .eql x10 (95 : Int) then (some (!true)) else (some (!(icmp .eql x10 (46 : Int)))))))) else (bif icmp .geq x10 (97 : Int) then (bif icmp .leq x10 (122 : Int) then (some (!true)) else (bif icmp .geq x10 (48 : Int) then (bif icmp .leq x10 (57 : Int) then (some (!true)) else (bif icmp .eql x10 (95 : Int) then (some (!true)) else (some (!(icmp .eql x10 (46 : Int)))))) else (bif icmp .eql x10 (95 : Int) then (some (!true)) else (some (!(icmp .eql x10 (46 : Int))))))) else (bif icmp .geq x10 (48 : Int) then (bif icmp .leq x10 (57 : Int) then (some (!true)) else (bif icmp .eql x10 (95 : Int) then (some (!true)) else (some (!(icmp .eql x10 (46 : Int)))))) else (bif icmp .eql x10 (95 : Int) then (some (!true)) else (some (!(icmp .eql x10 (46 : Int)))))))).bind fun s12 => bif s12 then (some (Except.error false)) else (smithyref05_Name.l0.v a0 (IntKind.i64.wrap (s5 + (1 : Int))))) else (some (Except.ok ())) := (smithyref05_Name.l0.tends a0 s5).shift.uniq (by
  simp only [smithyref05_Name.l0]
  repeat' (first | with_reducible exact Tends.const _ | apply smithyref05_Name.l0.tends | refine Tends.cond ?_ ?_ | refine Tends.bind ?_ (fun _ => ?_) | cases ‹Except _ _› | intro _))
set_option maxHeartbeats 4000000 in
set_option maxRecDepth 100000 in
theorem smithyref05_Name.mono {k k' : Nat} (hk' : k ≤ k') (a0 : ByteArray) : Le (smithyref05_Name.f k a0 ) (smithyref05_Name.f k' a0 ) := by
  simp only [smithyref05_Name.f]
  repeat' (first | with_reducible exact Le.refl _ | refine smithyref05_Name.l0.mono _ hk' _ | refine Le.cond ?_ ?_ | refine Le.bind ?_ (fun _ => ?_) | cases ‹Except _ _› | intro _)
noncomputable def smithyref05_Name.v (a0 : ByteArray) : Option Bool := lim (fun k => smithyref05_Name.f k a0 )
theorem smithyref05_Name.tends (a0 : ByteArray) : Tends (fun k => smithyref05_Name.f k a0 ) (smithyref05_Name.v a0 ) := tends_lim (fun hk => smithyref05_Name.mono hk a0 )
set_option maxHeartbeats 4000000 in
set_option maxRecDepth 100000 in
theorem smithyref05_Name.v_eq (a0 : ByteArray) : smithyref05_Name.v a0 = (bif icmp .lss (a0.size : Int) (1 : Int) then (some true) else (some (icmp .gtr (a0.size : Int) (64 : Int)))).bind fun s1 => bif s1 then (some false) else ((smithyref05_Name.l0.v a0 (0 : Int)).bind fun o8 => match o8 with | .error r' => some r' | .ok s6 => (some true)) := (smithyref05_Name.tends a0 ).uniq (by
  simp only [smithyref05_Name.f]
  repeat' (first | with_reducible exact Tends.const _ | apply smithyref05_Name.l0.tends | refine Tends.cond ?_ ?_ | refine Tends.bind ?_ (fun _ => ?_) | cases ‹Except _ _› | intro _))
/-! smithy/smithyref05.One -/
set_option maxHeartbeats 4000000 in
set_option maxRecDepth 100000 in
theorem smithyref05_One.mono {k k' : Nat} (hk' : k ≤ k') (a0 : Macro) : Le (smithyref05_One.f k a0 ) (smithyref05_One.f k' a0 ) := by
  simp only [smithyref05_One.f]
  repeat' (first | with_reducible exact Le.refl _ | apply smithyref05_Name.mono (hk' := hk') | refine Le.cond ?_ ?_ | refine Le.bind ?_ (fun _ => ?_) | cases ‹Except _ _› | intro _)
noncomputable def smithyref05_One.v (a0 : Macro) : Option Int := lim (fun k => smithyref05_One.f k a0 )
theorem smithyref05_One.tends (a0 : Macro) : Tends (fun k => smithyref05_One.f k a0 ) (smithyref05_One.v a0 ) := tends_lim (fun hk => smithyref05_One.mono hk a0 )
set_option maxHeartbeats 4000000 in
set_option maxRecDepth 100000 in
theorem smithyref05_One.v_eq (a0 : Macro) : smithyref05_One.v a0 = (smithyref05_Name.v a0.Name).bind fun v1 => bif !v1 then (some (50 : Int)) else ((bif icmp .lss a0.Level (0 : Int) then (some true) else (some (icmp .gtr a0.Level (2 : Int)))).bind fun s4 => bif s4 then (some (51 : Int)) else (bif icmp .gtr (a0.Value.size : Int) (8192 : Int) then (some (41 : Int)) else (some (0 : Int)))) := (smithyref05_One.tends a0 ).uniq (by
  simp only [smithyref05_One.f]
  repeat' (first | with_reducible exact Tends.const _ | apply smithyref05_Name.tends | refine Tends.cond ?_ ?_ | refine Tends.bind ?_ (fun _ => ?_) | cases ‹Except _ _› | intro _))
/-! smithy/smithyref19.Check -/
set_option maxHeartbeats 4000000 in
set_option maxRecDepth 100000 in
theorem smithyref19_Check.l0.mono (a0 : Options) : ∀ {k k' : Nat}, k ≤ k' → ∀ s, Le (smithyref19_Check.l0 a0 k s) (smithyref19_Check.l0 a0 k' s) := by
  intro k
  induction k with
  | zero => exact fun _ s => Le.none _
  | succ k ih =>
    intro k' hk s
    cases k' with
    | zero => exact absurd hk (by omega)
    | succ k' =>
      have hk' := Nat.le_of_succ_le_succ hk
      simp only [smithyref19_Check.l0]
      repeat' (first | with_reducible exact Le.refl _ | exact ih hk' _ | apply smithyref05_One.mono (hk' := hk') | refine Le.cond ?_ ?_ | refine Le.bind ?_ (fun _ => ?_) | cases ‹Except _ _› | intro _)
noncomputable def smithyref19_Check.l0.v (a0 : Options) (s : Int × Int) : Option Int := lim (fun k => smithyref19_Check.l0 a0 k s)
theorem smithyref19_Check.l0.tends (a0 : Options) (s : Int × Int) : Tends (fun k => smithyref19_Check.l0 a0 k s) (smithyref19_Check.l0.v a0 s) := tends_lim (fun hk => smithyref19_Check.l0.mono a0 hk s)
set_option maxHeartbeats 4000000 in
set_option maxRecDepth 100000 in
theorem smithyref19_Check.l0.v_eq (a0 : Options) (s21 : Int × Int) : smithyref19_Check.l0.v a0 s21 = bif icmp .lss s21.2 (a0.Macros.length : Int) then (((idx a0.Macros s21.2).bind fun x27 => bif icmp .eql s21.1 (0 : Int) then ((smithyref05_One.v ({ x27 with Level := (2 : Int) })).bind fun v30 => some v30) else (some s21.1)).bind fun s25 => smithyref19_Check.l0.v a0 (s25, IntKind.i64.wrap (s21.2 + (1 : Int)))) else (some s21.1) := (smithyref19_Check.l0.tends a0 s21).shift.uniq (by
  simp only [smithyref19_Check.l0]
  repeat' (first | with_reducible exact Tends.const _ | apply smithyref05_One.tends | apply smithyref19_Check.l0.tends | refine Tends.cond ?_ ?_ | refine Tends.bind ?_ (fun _ => ?_) | cases ‹Except _ _› | intro _))
set_option maxHeartbeats 4000000 in
set_option maxRecDepth 100000 in
theorem smithyref19_Check.mono {k k' : Nat} (hk' : k ≤ k') (a0 : Options) : Le (smithyref19_Check.f k a0 ) (smithyref19_Check.f k' a0 ) := by
  simp only [smithyref19_Check.f]
  repeat' (first | with_reducible exact Le.refl _ | apply smithyref19_names.mono (hk' := hk') | refine smithyref19_Check.l0.mono _ hk' _ | refine Le.cond ?_ ?_ | refine Le.bind ?_ (fun _ => ?_) | cases ‹Except _ _› | intro _)
noncomputable def smithyref19_Check.v (a0 : Options) : Option Int := lim (fun k => smithyref19_Check.f k a0 )
theorem smithyref19_Check.tends (a0 : Options) : Tends (fun k => smithyref19_Check.f k a0 ) (smithyref19_Check.v a0 ) := tends_lim (fun hk => smithyref19_Check.mono hk a0 )
set_option maxHeartbeats 4000000 in
set_option maxRecDepth 100000 in
theorem smithyref19_Check.v_eq (a0 : Options) : smithyref19_Check.v a0 = (bif icmp .lss a0.Slots (1 : Int) then (some true) else (bif icmp .gtr a0.Slots (8 : Int) then (some true) else ((smithyref19_two.f a0.Dry a0.Touch a0.Query).bind fun v5 => some v5))).bind fun s1 => bif s1 then (some (1 : Int)) else ((smithyref19_names.v a0.Files (64 : Int)).bind fun v8 => (bif icmp .eql v8 (0 : Int) then ((smithyref19_names.v a0.Goals (512 : Int)).bind fun v13 => some v13) else (some v8)).bind fun s10 => (bif icmp .eql s10 (0 : Int) then (some (icmp .gtr (a0.Macros.length : Int) (256 : Int))) else (some false)).bind fun s15 => (bif s15 then (some (2 : Int)) else (some s10)).bind fun s18 => (smithyref19_Check.l0.v a0 (s18, (0 : Int))).bind fun s22 => some s22) := (smithyref19_Check.tends a0 ).uniq (by
  simp only [smithyref19_Check.f]
  repeat' (first | with_reducible exact Tends.const _ | apply smithyref19_names.tends | apply smithyref19_Check.l0.tends | refine Tends.cond ?_ ?_ | refine Tends.bind ?_ (fun _ => ?_) | cases ‹Except _ _› | intro _))
/-! smithy/smithyref02.Name -/
set_option maxHeartbeats 4000000 in
set_option maxRecDepth 100000 in
theorem smithyref02_Name.l0.mono (a0 : ByteArray) : ∀ {k k' : Nat}, k ≤ k' → ∀ s, Le (smithyref02_Name.l0 a0 k s) (smithyref02_Name.l0 a0 k' s) := by
  intro k
  induction k with
  | zero => exact fun _ s => Le.none _
  | succ k ih =>
    intro k' hk s
    cases k' with
    | zero => exact absurd hk (by omega)
    | succ k' =>
      have hk' := Nat.le_of_succ_le_succ hk
      simp only [smithyref02_Name.l0]
      repeat' (first | with_reducible exact Le.refl _ | exact ih hk' _ | refine Le.cond ?_ ?_ | refine Le.bind ?_ (fun _ => ?_) | cases ‹Except _ _› | intro _)
noncomputable def smithyref02_Name.l0.v (a0 : ByteArray) (s : Int) : Option (Except Bool Unit) := lim (fun k => smithyref02_Name.l0 a0 k s)
theorem smithyref02_Name.l0.tends (a0 : ByteArray) (s : Int) : Tends (fun k => smithyref02_Name.l0 a0 k s) (smithyref02_Name.l0.v a0 s) := tends_lim (fun hk => smithyref02_Name.l0.mono a0 hk s)
set_option maxHeartbeats 4000000 in
set_option maxRecDepth 100000 in
theorem smithyref02_Name.l0.v_eq (a0 : ByteArray) (s1 : Int) : smithyref02_Name.l0.v a0 s1 = bif icmp .lss s1 (a0.size : Int) then ((bidx a0 s1).bind fun x6 => (bif icmp .geq x6 (97 : Int) then (bif icmp .leq x6 (122 : Int) then (some true) else (bif icmp .geq x6 (65 : Int) then (bif icmp .leq x6 (90 : Int) then (some true) else (bif icmp .geq x6 (48 : Int) then (some (icmp .leq x6 (57 : Int))) else (some false))) else (bif icmp .geq x6 (48 : Int) then (some (icmp .leq x6 (57 : Int))) else (some false)))) else (bif icmp .geq x6 (65 : Int) then (bif icmp .leq x6 (90 : Int) then (some true) else (bif icmp .geq x6 (48 : Int) then (some (icmp .leq x6 (57 : Int))) else (some false))) else (bif icmp .geq x6 (48 : Int) then (some (icmp .leq x6 (57 : Int))) else (some false)))).bind fun s8 => (bif !s8 then (bif icmp .neq x6 (95 : Int) then (bif icmp .neq x6 (45 : Int) then (bif icmp .neq x6 (46 : Int) then (bif icmp .neq x6 (47 : Int) then (some (icmp .neq x6 (43 : Int))) else (some false)) else (some false)) else (some false)) else (some false)) else (some false)).bind fun s20 => bif s20 then (some (Except.error false)) else (smithyref02_Name.l0.v a0 (IntKind.i64.wrap (s1 + (1 : Int))))) else (some (Except.ok ())) := (smithyref02_Name.l0.tends a0 s1).shift.uniq (by
  simp only [smithyref02_Name.l0]
  repeat' (first | with_reducible exact Tends.const _ | apply smithyref02_Name.l0.tends | refine Tends.cond ?_ ?_ | refine Tends.bind ?_ (fun _ => ?_) | cases ‹Except _ _› | intro _))
set_option maxHeartbeats 4000000 in
set_option maxRecDepth 100000 in
theorem smithyref02_Name.mono {k k' : Nat} (hk' : k ≤ k') (a0 : ByteArray) : Le (smithyref02_Name.f k a0 ) (smithyref02_Name.f k' a0 ) := by
  simp only [smithyref02_Name.f]
  repeat' (first | with_reducible exact Le.refl _ | refine smithyref02_Name.l0.mono _ hk' _ | refine Le.cond ?_ ?_ | refine Le.bind ?_ (fun _ => ?_) | cases ‹Except _ _› | intro _)
noncomputable def smithyref02_Name.v (a0 : ByteArray) : Option Bool := lim (fun k => smithyref02_Name.f k a0 )
theorem smithyref02_Name.tends (a0 : ByteArray) : Tends (fun k => smithyref02_Name.f k a0 ) (smithyref02_Name.v a0 ) := tends_lim (fun hk => smithyref02_Name.mono hk a0 )
set_option maxHeartbeats 4000000 in
set_option maxRecDepth 100000 in
theorem smithyref02_Name.v_eq (a0 : ByteArray) : smithyref02_Name.v a0 = (smithyref02_Name.l0.v a0 (0 : Int)).bind fun o4 => match o4 with | .error r' => some r' | .ok s2 => ((bif icmp .gtr (a0.size : Int) (0 : Int) then (some (icmp .leq (a0.size : Int) (64 : Int))) else (some false)).bind fun s28 => some s28) := (smithyref02_Name.tends a0 ).uniq (by
  simp only [smithyref02_Name.f]
  repeat' (first | with_reducible exact Tends.const _ | apply smithyref02_Name.l0.tends | refine Tends.cond ?_ ?_ | refine Tends.bind ?_ (fun _ => ?_) | cases ‹Except _ _› | intro _))
/-! smithy/smithyref03.Has -/
set_option maxHeartbeats 4000000 in
set_option maxRecDepth 100000 in
theorem smithyref03_Has.l0.mono (a0 : List ByteArray) (a1 : ByteArray) : ∀ {k k' : Nat}, k ≤ k' → ∀ s, Le (smithyref03_Has.l0 a0 a1 k s) (smithyref03_Has.l0 a0 a1 k' s) := by
  intro k
  induction k with
  | zero => exact fun _ s => Le.none _
  | succ k ih =>
    intro k' hk s
    cases k' with
    | zero => exact absurd hk (by omega)
    | succ k' =>
      have hk' := Nat.le_of_succ_le_succ hk
      simp only [smithyref03_Has.l0]
      repeat' (first | with_reducible exact Le.refl _ | exact ih hk' _ | refine Le.cond ?_ ?_ | refine Le.bind ?_ (fun _ => ?_) | cases ‹Except _ _› | intro _)
noncomputable def smithyref03_Has.l0.v (a0 : List ByteArray) (a1 : ByteArray) (s : Int) : Option (Except Bool Unit) := lim (fun k => smithyref03_Has.l0 a0 a1 k s)
theorem smithyref03_Has.l0.tends (a0 : List ByteArray) (a1 : ByteArray) (s : Int) : Tends (fun k => smithyref03_Has.l0 a0 a1 k s) (smithyref03_Has.l0.v a0 a1 s) := tends_lim (fun hk => smithyref03_Has.l0.mono a0 a1 hk s)
set_option maxHeartbeats 4000000 in
set_option maxRecDepth 100000 in
theorem smithyref03_Has.l0.v_eq (a0 : List ByteArray) (a1 : ByteArray) (s1 : Int) : smithyref03_Has.l0.v a0 a1 s1 = bif icmp .lss s1 (a0.length : Int) then ((idx a0 s1).bind fun x6 => bif scmp .eql x6 a1 then (some (Except.error true)) else (smithyref03_Has.l0.v a0 a1 (IntKind.i64.wrap (s1 + (1 : Int))))) else (some (Except.ok ())) := (smithyref03_Has.l0.tends a0 a1 s1).shift.uniq (by
  simp only [smithyref03_Has.l0]
  repeat' (first | with_reducible exact Tends.const _ | apply smithyref03_Has.l0.tends | refine Tends.cond ?_ ?_ | refine Tends.bind ?_ (fun _ => ?_) | cases ‹Except _ _› | intro _))
set_option maxHeartbeats 4000000 in
set_option maxRecDepth 100000 in
theorem smithyref03_Has.mono {k k' : Nat} (hk' : k ≤ k') (a0 : List ByteArray) (a1 : ByteArray) : Le (smithyref03_Has.f k a0 a1 ) (smithyref03_Has.f k' a0 a1 ) := by
  simp only [smithyref03_Has.f]
  repeat' (first | with_reducible exact Le.refl _ | refine smithyref03_Has.l0.mono _ _ hk' _ | refine Le.cond ?_ ?_ | refine Le.bind ?_ (fun _ => ?_) | cases ‹Except _ _› | intro _)
noncomputable def smithyref03_Has.v (a0 : List ByteArray) (a1 : ByteArray) : Option Bool := lim (fun k => smithyref03_Has.f k a0 a1 )
theorem smithyref03_Has.tends (a0 : List ByteArray) (a1 : ByteArray) : Tends (fun k => smithyref03_Has.f k a0 a1 ) (smithyref03_Has.v a0 a1 ) := tends_lim (fun hk => smithyref03_Has.mono hk a0 a1 )
set_option maxHeartbeats 4000000 in
set_option maxRecDepth 100000 in
theorem smithyref03_Has.v_eq (a0 : List ByteArray) (a1 : ByteArray) : smithyref03_Has.v a0 a1 = (smithyref03_Has.l0.v a0 a1 (0 : Int)).bind fun o4 => match o4 with | .error r' => some r' | .ok s2 => (some false) := (smithyref03_Has.tends a0 a1 ).uniq (by
  simp only [smithyref03_Has.f]
  repeat' (first | with_reducible exact Tends.const _ | apply smithyref03_Has.l0.tends | refine Tends.cond ?_ ?_ | refine Tends.bind ?_ (fun _ => ?_) | cases ‹Except _ _› | intro _))
/-! smithy/smithyref12.Node -/
set_option maxHeartbeats 4000000 in
set_option maxRecDepth 100000 in
theorem smithyref12_Node.l0.mono (a0 : Node) : ∀ {k k' : Nat}, k ≤ k' → ∀ s, Le (smithyref12_Node.l0 a0 k s) (smithyref12_Node.l0 a0 k' s) := by
  intro k
  induction k with
  | zero => exact fun _ s => Le.none _
  | succ k ih =>
    intro k' hk s
    cases k' with
    | zero => exact absurd hk (by omega)
    | succ k' =>
      have hk' := Nat.le_of_succ_le_succ hk
      simp only [smithyref12_Node.l0]
      repeat' (first | with_reducible exact Le.refl _ | exact ih hk' _ | apply smithyref02_Name.mono (hk' := hk') | apply smithyref03_Has.mono (hk' := hk') | refine Le.cond ?_ ?_ | refine Le.bind ?_ (fun _ => ?_) | cases ‹Except _ _› | intro _)
noncomputable def smithyref12_Node.l0.v (a0 : Node) (s : Int) : Option (Except Int Unit) := lim (fun k => smithyref12_Node.l0 a0 k s)
theorem smithyref12_Node.l0.tends (a0 : Node) (s : Int) : Tends (fun k => smithyref12_Node.l0 a0 k s) (smithyref12_Node.l0.v a0 s) := tends_lim (fun hk => smithyref12_Node.l0.mono a0 hk s)
set_option maxHeartbeats 4000000 in
set_option maxRecDepth 100000 in
theorem smithyref12_Node.l0.v_eq (a0 : Node) (s10 : Int) : smithyref12_Node.l0.v a0 s10 = bif icmp .lss s10 (a0.Needs.length : Int) then (((idx a0.Needs s10).bind fun x17 => (smithyref02_Name.v x17).bind fun v19 => bif !v19 then (some true) else ((idx a0.Needs s10).bind fun x22 => bif scmp .eql x22 a0.Target then (some true) else ((sub a0.Needs (0 : Int) s10).bind fun x25 => (idx a0.Needs s10).bind fun x27 => (smithyref03_Has.v x25 x27).bind fun v29 => some v29))).bind fun s15 => bif s15 then (some (Except.error (7 : Int))) else (smithyref12_Node.l0.v a0 (IntKind.i64.wrap (s10 + (1 : Int))))) else (some (Except.ok ())) := (smithyref12_Node.l0.tends a0 s10).shift.uniq (by
  simp only [smithyref12_Node.l0]
  repeat' (first | with_reducible exact Tends.const _ | apply smithyref02_Name.tends | apply smithyref03_Has.tends | apply smithyref12_Node.l0.tends | refine Tends.cond ?_ ?_ | refine Tends.bind ?_ (fun _ => ?_) | cases ‹Except _ _› | intro _))
set_option maxHeartbeats 4000000 in
set_option maxRecDepth 100000 in
theorem smithyref12_Node.l1.mono (a0 : Node) : ∀ {k k' : Nat}, k ≤ k' → ∀ s, Le (smithyref12_Node.l1 a0 k s) (smithyref12_Node.l1 a0 k' s) := by
  intro k
  induction k with
  | zero => exact fun _ s => Le.none _
  | succ k ih =>
    intro k' hk s
    cases k' with
    | zero => exact absurd hk (by omega)
    | succ k' =>
      have hk' := Nat.le_of_succ_le_succ hk
      simp only [smithyref12_Node.l1]
      repeat' (first | with_reducible exact Le.refl _ | exact ih hk' _ | refine Le.cond ?_ ?_ | refine Le.bind ?_ (fun _ => ?_) | cases ‹Except _ _› | intro _)
noncomputable def smithyref12_Node.l1.v (a0 : Node) (s : Int) : Option (Except Int Unit) := lim (fun k => smithyref12_Node.l1 a0 k s)
theorem smithyref12_Node.l1.tends (a0 : Node) (s : Int) : Tends (fun k => smithyref12_Node.l1 a0 k s) (smithyref12_Node.l1.v a0 s) := tends_lim (fun hk => smithyref12_Node.l1.mono a0 hk s)
set_option maxHeartbeats 4000000 in
set_option maxRecDepth 100000 in
theorem smithyref12_Node.l1.v_eq (a0 : Node) (s32 : Int) : smithyref12_Node.l1.v a0 s32 = bif icmp .lss s32 (a0.Recipe.length : Int) then ((idx a0.Recipe s32).bind fun x37 => bif icmp .gtr (x37.size : Int) (65536 : Int) then (some (Except.error (7 : Int))) else (smithyref12_Node.l1.v a0 (IntKind.i64.wrap (s32 + (1 : Int))))) else (some (Except.ok ())) := (smithyref12_Node.l1.tends a0 s32).shift.uniq (by
  simp only [smithyref12_Node.l1]
  repeat' (first | with_reducible exact Tends.const _ | apply smithyref12_Node.l1.tends | refine Tends.cond ?_ ?_ | refine Tends.bind ?_ (fun _ => ?_) | cases ‹Except _ _› | intro _))
set_option maxHeartbeats 4000000 in
set_option maxRecDepth 100000 in
theorem smithyref12_Node.mono {k k' : Nat} (hk' : k ≤ k') (a0 : Node) : Le (smithyref12_Node.f k a0 ) (smithyref12_Node.f k' a0 ) := by
  simp only [smithyref12_Node.f]
  repeat' (first | with_reducible exact Le.refl _ | apply smithyref02_Name.mono (hk' := hk') | refine smithyref12_Node.l0.mono _ hk' _ | refine smithyref12_Node.l1.mono _ hk' _ | refine Le.cond ?_ ?_ | refine Le.bind ?_ (fun _ => ?_) | cases ‹Except _ _› | intro _)
noncomputable def smithyref12_Node.v (a0 : Node) : Option Int := lim (fun k => smithyref12_Node.f k a0 )
theorem smithyref12_Node.tends (a0 : Node) : Tends (fun k => smithyref12_Node.f k a0 ) (smithyref12_Node.v a0 ) := tends_lim (fun hk => smithyref12_Node.mono hk a0 )
set_option maxHeartbeats 4000000 in
set_option maxRecDepth 100000 in
theorem smithyref12_Node.v_eq (a0 : Node) : smithyref12_Node.v a0 = ((smithyref02_Name.v a0.Target).bind fun v3 => bif !v3 then (some true) else (bif icmp .gtr (a0.Needs.length : Int) (65 : Int) then (some true) else (bif icmp .gtr (a0.Recipe.length : Int) (64 : Int) then (some true) else (bif !a0.Has then (some (icmp .gtr (a0.Recipe.length : Int) (0 : Int))) else (some false))))).bind fun s1 => bif s1 then (some (7 : Int)) else ((smithyref12_Node.l0.v a0 (0 : Int)).bind fun o13 => match o13 with | .error r' => some r' | .ok s11 => ((smithyref12_Node.l1.v a0 (0 : Int)).bind fun o35 => match o35 with | .error r' => some r' | .ok s33 => ((bif scmp .neq a0.Source (⟨#[]⟩ : ByteArray) then (bif icmp .eql (a0.Needs.length : Int) (0 : Int) then (some true) else ((idx a0.Needs (0 : Int)).bind fun x44 => bif scmp .neq x44 a0.Source then (some true) else (bif scmp .eql a0.Source (⟨#[]⟩ : ByteArray) then (bif scmp .neq a0.Stem (⟨#[]⟩ : ByteArray) then (some true) else (some (icmp .gtr (a0.Stem.size : Int) (64 : Int)))) else (some (icmp .gtr (a0.Stem.size : Int) (64 : Int)))))) else (bif scmp .eql a0.Source (⟨#[]⟩ : ByteArray) then (bif scmp .neq a0.Stem (⟨#[]⟩ : ByteArray) then (some true) else (some (icmp .gtr (a0.Stem.size : Int) (64 : Int)))) else (some (icmp .gtr (a0.Stem.size : Int) (64 : Int))))).bind fun s40 => bif s40 then (some (7 : Int)) else (some (0 : Int))))) := (smithyref12_Node.tends a0 ).uniq (by
  simp only [smithyref12_Node.f]
  repeat' (first | with_reducible exact Tends.const _ | apply smithyref02_Name.tends | apply smithyref12_Node.l0.tends | apply smithyref12_Node.l1.tends | refine Tends.cond ?_ ?_ | refine Tends.bind ?_ (fun _ => ?_) | cases ‹Except _ _› | intro _))
/-! smithy/smithyref19.asked -/
set_option maxHeartbeats 4000000 in
set_option maxRecDepth 100000 in
theorem smithyref19_asked.mono {k k' : Nat} (hk' : k ≤ k') (a0 : Options) (a1 : Node) : Le (smithyref19_asked.f k a0 a1 ) (smithyref19_asked.f k' a0 a1 ) := by
  simp only [smithyref19_asked.f]
  repeat' (first | with_reducible exact Le.refl _ | apply smithyref19_Check.mono (hk' := hk') | apply smithyref12_Node.mono (hk' := hk') | refine Le.cond ?_ ?_ | refine Le.bind ?_ (fun _ => ?_) | cases ‹Except _ _› | intro _)
noncomputable def smithyref19_asked.v (a0 : Options) (a1 : Node) : Option Int := lim (fun k => smithyref19_asked.f k a0 a1 )
theorem smithyref19_asked.tends (a0 : Options) (a1 : Node) : Tends (fun k => smithyref19_asked.f k a0 a1 ) (smithyref19_asked.v a0 a1 ) := tends_lim (fun hk => smithyref19_asked.mono hk a0 a1 )
set_option maxHeartbeats 4000000 in
set_option maxRecDepth 100000 in
theorem smithyref19_asked.v_eq (a0 : Options) (a1 : Node) : smithyref19_asked.v a0 a1 = (smithyref19_Check.v a0).bind fun v1 => (bif icmp .eql v1 (0 : Int) then ((smithyref12_Node.v a1).bind fun v6 => some v6) else (some v1)).bind fun s3 => some s3 := (smithyref19_asked.tends a0 a1 ).uniq (by
  simp only [smithyref19_asked.f]
  repeat' (first | with_reducible exact Tends.const _ | apply smithyref19_Check.tends | apply smithyref12_Node.tends | refine Tends.cond ?_ ?_ | refine Tends.bind ?_ (fun _ => ?_) | cases ‹Except _ _› | intro _))
/-! smithy/smithyref19.Mode -/

/-! smithy/smithyref19.Of -/
set_option maxHeartbeats 4000000 in
set_option maxRecDepth 100000 in
theorem smithyref19_Of.mono {k k' : Nat} (hk' : k ≤ k') (a0 : Options) (a1 : Node) (a2 : Flags) : Le (smithyref19_Of.f k a0 a1 a2 ) (smithyref19_Of.f k' a0 a1 a2 ) := by
  simp only [smithyref19_Of.f]
  repeat' (first | with_reducible exact Le.refl _ | apply smithyref19_asked.mono (hk' := hk') | refine Le.cond ?_ ?_ | refine Le.bind ?_ (fun _ => ?_) | cases ‹Except _ _› | intro _)
noncomputable def smithyref19_Of.v (a0 : Options) (a1 : Node) (a2 : Flags) : Option (Mode × Int) := lim (fun k => smithyref19_Of.f k a0 a1 a2 )
theorem smithyref19_Of.tends (a0 : Options) (a1 : Node) (a2 : Flags) : Tends (fun k => smithyref19_Of.f k a0 a1 a2 ) (smithyref19_Of.v a0 a1 a2 ) := tends_lim (fun hk => smithyref19_Of.mono hk a0 a1 a2 )
set_option maxHeartbeats 4000000 in
set_option maxRecDepth 100000 in
theorem smithyref19_Of.v_eq (a0 : Options) (a1 : Node) (a2 : Flags) : smithyref19_Of.v a0 a1 a2 = (smithyref19_asked.v a0 a1).bind fun v1 => bif icmp .neq v1 (0 : Int) then (some ((⟨false, false, false⟩ : Mode), v1)) else ((smithyref19_Mode.f a0 a1 a2).bind fun v4 => some (v4, (0 : Int))) := (smithyref19_Of.tends a0 a1 a2 ).uniq (by
  simp only [smithyref19_Of.f]
  repeat' (first | with_reducible exact Tends.const _ | apply smithyref19_asked.tends | refine Tends.cond ?_ ?_ | refine Tends.bind ?_ (fun _ => ?_) | cases ‹Except _ _› | intro _))
/-! smithy/modes.Touches -/
set_option maxHeartbeats 4000000 in
set_option maxRecDepth 100000 in
theorem modes_Touches.mono {k k' : Nat} (hk' : k ≤ k') (a0 : Options) (a1 : Node) : Le (modes_Touches.f k a0 a1 ) (modes_Touches.f k' a0 a1 ) := by
  simp only [modes_Touches.f]
  repeat' (first | with_reducible exact Le.refl _ | apply modes_Check.mono (hk' := hk') | apply modes_alone.mono (hk' := hk') | refine Le.cond ?_ ?_ | refine Le.bind ?_ (fun _ => ?_) | cases ‹Except _ _› | intro _)
noncomputable def modes_Touches.v (a0 : Options) (a1 : Node) : Option (Bool × Int) := lim (fun k => modes_Touches.f k a0 a1 )
theorem modes_Touches.tends (a0 : Options) (a1 : Node) : Tends (fun k => modes_Touches.f k a0 a1 ) (modes_Touches.v a0 a1 ) := tends_lim (fun hk => modes_Touches.mono hk a0 a1 )
set_option maxHeartbeats 4000000 in
set_option maxRecDepth 100000 in
theorem modes_Touches.v_eq (a0 : Options) (a1 : Node) : modes_Touches.v a0 a1 = (modes_Check.v a0).bind fun v1 => bif icmp .neq v1 (0 : Int) then (some (false, v1)) else ((modes_alone.v a1).bind fun v4 => bif icmp .neq v4 (0 : Int) then (some (false, v4)) else ((bif a0.Touch then (some (!a1.Phony)) else (some false)).bind fun s7 => some (s7, (0 : Int)))) := (modes_Touches.tends a0 a1 ).uniq (by
  simp only [modes_Touches.f]
  repeat' (first | with_reducible exact Tends.const _ | apply modes_Check.tends | apply modes_alone.tends | refine Tends.cond ?_ ?_ | refine Tends.bind ?_ (fun _ => ?_) | cases ‹Except _ _› | intro _))
/-! smithy/smithyref19.Touches -/
set_option maxHeartbeats 4000000 in
set_option maxRecDepth 100000 in
theorem smithyref19_Touches.mono {k k' : Nat} (hk' : k ≤ k') (a0 : Options) (a1 : Node) : Le (smithyref19_Touches.f k a0 a1 ) (smithyref19_Touches.f k' a0 a1 ) := by
  simp only [smithyref19_Touches.f]
  repeat' (first | with_reducible exact Le.refl _ | apply smithyref19_asked.mono (hk' := hk') | refine Le.cond ?_ ?_ | refine Le.bind ?_ (fun _ => ?_) | cases ‹Except _ _› | intro _)
noncomputable def smithyref19_Touches.v (a0 : Options) (a1 : Node) : Option (Bool × Int) := lim (fun k => smithyref19_Touches.f k a0 a1 )
theorem smithyref19_Touches.tends (a0 : Options) (a1 : Node) : Tends (fun k => smithyref19_Touches.f k a0 a1 ) (smithyref19_Touches.v a0 a1 ) := tends_lim (fun hk => smithyref19_Touches.mono hk a0 a1 )
set_option maxHeartbeats 4000000 in
set_option maxRecDepth 100000 in
theorem smithyref19_Touches.v_eq (a0 : Options) (a1 : Node) : smithyref19_Touches.v a0 a1 = (smithyref19_asked.v a0 a1).bind fun v1 => bif icmp .neq v1 (0 : Int) then (some (false, v1)) else ((bif a0.Touch then (some (!a1.Phony)) else (some false)).bind fun s4 => some (s4, (0 : Int))) := (smithyref19_Touches.tends a0 a1 ).uniq (by
  simp only [smithyref19_Touches.f]
  repeat' (first | with_reducible exact Tends.const _ | apply smithyref19_asked.tends | refine Tends.cond ?_ ?_ | refine Tends.bind ?_ (fun _ => ?_) | cases ‹Except _ _› | intro _))
/-! smithy/smithylaw19.small -/
set_option maxHeartbeats 4000000 in
set_option maxRecDepth 100000 in
theorem smithylaw19_small.mono {k k' : Nat} (hk' : k ≤ k') : Le (smithylaw19_small.f k ) (smithylaw19_small.f k' ) := by
  simp only [smithylaw19_small.f]
  repeat' (first | with_reducible exact Le.refl _ | apply modes_Of.mono (hk' := hk') | apply modes_Check.mono (hk' := hk') | refine Le.cond ?_ ?_ | refine Le.bind ?_ (fun _ => ?_) | cases ‹Except _ _› | intro _)
noncomputable def smithylaw19_small.v : Option Bool := lim (fun k => smithylaw19_small.f k )
theorem smithylaw19_small.tends : Tends (fun k => smithylaw19_small.f k ) (smithylaw19_small.v ) := tends_lim (fun hk => smithylaw19_small.mono hk )
set_option maxHeartbeats 4000000 in
set_option maxRecDepth 100000 in
theorem smithylaw19_small.v_eq : smithylaw19_small.v = (modes_Of.v (⟨false, false, false, false, false, false, (1 : Int), ([] : List ByteArray), ([] : List Macro), ([] : List ByteArray)⟩ : Options) (⟨(⟨#[116]⟩ : ByteArray), ([] : List ByteArray), ([] : List ByteArray), false, ByteArray.empty, ByteArray.empty, false, false, false, false⟩ : Node) (⟨false, false, false⟩ : Flags)).bind fun v1 => (modes_Of.v (⟨true, false, false, false, false, false, (1 : Int), ([] : List ByteArray), ([] : List Macro), ([] : List ByteArray)⟩ : Options) (⟨(⟨#[116]⟩ : ByteArray), ([] : List ByteArray), ([] : List ByteArray), false, ByteArray.empty, ByteArray.empty, false, false, false, false⟩ : Node) (⟨false, true, false⟩ : Flags)).bind fun v3 => (bif icmp .eql v1.2 (0 : Int) then (bif icmp .eql v3.2 (0 : Int) then (bif eqMode v1.1 (⟨true, true, false⟩ : Mode) then (bif eqMode v3.1 (⟨true, false, false⟩ : Mode) then ((modes_Check.v (⟨false, false, false, false, false, false, (0 : Int), ([] : List ByteArray), ([] : List Macro), ([] : List ByteArray)⟩ : Options)).bind fun v11 => some (icmp .eql v11 (1 : Int))) else (some false)) else (some false)) else (some false)) else (some false)).bind fun s5 => some s5 := (smithylaw19_small.tends ).uniq (by
  simp only [smithylaw19_small.f]
  repeat' (first | with_reducible exact Tends.const _ | apply modes_Of.tends | apply modes_Check.tends | refine Tends.cond ?_ ?_ | refine Tends.bind ?_ (fun _ => ?_) | cases ‹Except _ _› | intro _))
/-! smithy/smithylaw19.ModesOf -/
set_option maxHeartbeats 4000000 in
set_option maxRecDepth 100000 in
theorem smithylaw19_ModesOf.mono {k k' : Nat} (hk' : k ≤ k') (a0 : Options) (a1 : Node) (a2 : Flags) : Le (smithylaw19_ModesOf.f k a0 a1 a2 ) (smithylaw19_ModesOf.f k' a0 a1 a2 ) := by
  simp only [smithylaw19_ModesOf.f]
  repeat' (first | with_reducible exact Le.refl _ | apply modes_Of.mono (hk' := hk') | apply smithyref19_Of.mono (hk' := hk') | apply modes_Touches.mono (hk' := hk') | apply smithyref19_Touches.mono (hk' := hk') | apply smithylaw19_small.mono (hk' := hk') | refine Le.cond ?_ ?_ | refine Le.bind ?_ (fun _ => ?_) | cases ‹Except _ _› | intro _)
noncomputable def smithylaw19_ModesOf.v (a0 : Options) (a1 : Node) (a2 : Flags) : Option Bool := lim (fun k => smithylaw19_ModesOf.f k a0 a1 a2 )
theorem smithylaw19_ModesOf.tends (a0 : Options) (a1 : Node) (a2 : Flags) : Tends (fun k => smithylaw19_ModesOf.f k a0 a1 a2 ) (smithylaw19_ModesOf.v a0 a1 a2 ) := tends_lim (fun hk => smithylaw19_ModesOf.mono hk a0 a1 a2 )
set_option maxHeartbeats 4000000 in
set_option maxRecDepth 100000 in
theorem smithylaw19_ModesOf.v_eq (a0 : Options) (a1 : Node) (a2 : Flags) : smithylaw19_ModesOf.v a0 a1 a2 = (modes_Of.v a0 a1 a2).bind fun v1 => (smithyref19_Of.v a0 a1 a2).bind fun v3 => (modes_Touches.v a0 a1).bind fun v5 => (smithyref19_Touches.v a0 a1).bind fun v7 => (bif eqMode v1.1 v3.1 then (bif icmp .eql v1.2 v3.2 then (bif (v5.1 == v7.1) then (bif icmp .eql v5.2 v7.2 then ((smithylaw19_small.v).bind fun v15 => some v15) else (some false)) else (some false)) else (some false)) else (some false)).bind fun s9 => some s9 := (smithylaw19_ModesOf.tends a0 a1 a2 ).uniq (by
  simp only [smithylaw19_ModesOf.f]
  repeat' (first | with_reducible exact Tends.const _ | apply modes_Of.tends | apply smithyref19_Of.tends | apply modes_Touches.tends | apply smithyref19_Touches.tends | apply smithylaw19_small.tends | refine Tends.cond ?_ ?_ | refine Tends.bind ?_ (fun _ => ?_) | cases ‹Except _ _› | intro _))
/-! smithy/smithylaw19.ModesNothing -/
set_option maxHeartbeats 4000000 in
set_option maxRecDepth 100000 in
theorem smithylaw19_ModesNothing.mono {k k' : Nat} (hk' : k ≤ k') (a0 : Options) (a1 : Node) (a2 : Flags) : Le (smithylaw19_ModesNothing.f k a0 a1 a2 ) (smithylaw19_ModesNothing.f k' a0 a1 a2 ) := by
  simp only [smithylaw19_ModesNothing.f]
  repeat' (first | with_reducible exact Le.refl _ | apply modes_Of.mono (hk' := hk') | apply smithyref19_Check.mono (hk' := hk') | apply smithylaw19_small.mono (hk' := hk') | apply smithyref12_Node.mono (hk' := hk') | refine Le.cond ?_ ?_ | refine Le.bind ?_ (fun _ => ?_) | cases ‹Except _ _› | intro _)
noncomputable def smithylaw19_ModesNothing.v (a0 : Options) (a1 : Node) (a2 : Flags) : Option Bool := lim (fun k => smithylaw19_ModesNothing.f k a0 a1 a2 )
theorem smithylaw19_ModesNothing.tends (a0 : Options) (a1 : Node) (a2 : Flags) : Tends (fun k => smithylaw19_ModesNothing.f k a0 a1 a2 ) (smithylaw19_ModesNothing.v a0 a1 a2 ) := tends_lim (fun hk => smithylaw19_ModesNothing.mono hk a0 a1 a2 )
set_option maxHeartbeats 4000000 in
set_option maxRecDepth 100000 in
theorem smithylaw19_ModesNothing.v_eq (a0 : Options) (a1 : Node) (a2 : Flags) : smithylaw19_ModesNothing.v a0 a1 a2 = (modes_Of.v a0 a1 a2).bind fun v1 => bif icmp .neq v1.2 (0 : Int) then ((bif eqMode v1.1 (⟨false, false, false⟩ : Mode) then ((smithyref19_Check.v a0).bind fun v7 => bif icmp .neq v7 (0 : Int) then ((smithylaw19_small.v).bind fun v10 => some v10) else ((smithyref12_Node.v a1).bind fun v12 => bif icmp .neq v12 (0 : Int) then ((smithylaw19_small.v).bind fun v15 => some v15) else (some false))) else (some false)).bind fun s4 => some s4) else ((bif a0.Dry then (bif v1.1.Run then (some (!a2.Always)) else (some false)) else (bif a0.Touch then (bif v1.1.Run then (some (!a2.Always)) else (some false)) else (bif a0.Query then (bif v1.1.Run then (some (!a2.Always)) else (some false)) else (some false)))).bind fun s17 => bif s17 then (some false) else ((bif !a0.Dry then (bif !a0.Touch then (bif !a0.Query then (bif !v1.1.Run then (some true) else (bif v1.1.Echo then (some false) else (some false))) else (bif v1.1.Echo then (bif !v1.1.Run then (some (!a0.Dry)) else (some false)) else (some false))) else (bif v1.1.Echo then (bif !v1.1.Run then (some (!a0.Dry)) else (some false)) else (some false))) else (bif v1.1.Echo then (bif !v1.1.Run then (some (!a0.Dry)) else (some false)) else (some false))).bind fun s26 => bif s26 then (some false) else ((bif !a0.Ignore then (bif !a0.Silent then (bif !a0.Dry then (bif !a0.Touch then (bif !a0.Query then (bif !a1.Ignore then (bif !a1.Silent then (some (eqFlags a2 (⟨false, false, false⟩ : Flags))) else (some false)) else (some false)) else (some false)) else (some false)) else (some false)) else (some false)) else (some false)).bind fun s40 => (bif !s40 then ((smithylaw19_small.v).bind fun v52 => some v52) else (bif eqMode v1.1 (⟨true, true, false⟩ : Mode) then ((smithylaw19_small.v).bind fun v55 => some v55) else (some false))).bind fun s49 => some s49))) := (smithylaw19_ModesNothing.tends a0 a1 a2 ).uniq (by
  simp only [smithylaw19_ModesNothing.f]
  repeat' (first | with_reducible exact Tends.const _ | apply modes_Of.tends | apply smithyref19_Check.tends | apply smithylaw19_small.tends | apply smithyref12_Node.tends | refine Tends.cond ?_ ?_ | refine Tends.bind ?_ (fun _ => ?_) | cases ‹Except _ _› | intro _))
end Go.Proofs.Ytmmjbobicnmilaa.F
