import Derived.Test.YtlpmolohppoofaaFOx6
set_option linter.unusedVariables false
set_option linter.unusedSimpArgs false
set_option linter.unnecessarySimpa false
set_option linter.deprecated false
namespace Go.Proofs.Ytlpmolohppoofaa.F
open Go Go.RowKit Go.Proofs.Ytlpmolohppoofaa.Sl
/-! smithy/macro.Name$1 -/
/-! strings.indexFunc -/
set_option maxHeartbeats 4000000 in
set_option maxRecDepth 100000 in
theorem strings_indexFunc.l0.mono {a1 a1' : Int → Option Bool} (hpa1 : ∀ z0, Le (a1 z0) (a1' z0)) (a0 : ByteArray) (a2 : Bool) : ∀ {k k' : Nat}, k ≤ k' → ∀ s, Le (strings_indexFunc.l0 a0 a1 a2 k s) (strings_indexFunc.l0 a0 a1' a2 k' s) := by
  intro k
  induction k with
  | zero => exact fun _ s => Le.none _
  | succ k ih =>
    intro k' hk s
    cases k' with
    | zero => exact absurd hk (by omega)
    | succ k' =>
      have hk' := Nat.le_of_succ_le_succ hk
      simp only [strings_indexFunc.l0]
      repeat' (first | with_reducible exact Le.refl _ | exact hpa1 _ | exact ih hk' _ | refine Le.cond ?_ ?_ | refine Le.bind ?_ (fun _ => ?_) | cases ‹Except _ _› | intro _)
noncomputable def strings_indexFunc.l0.v (a0 : ByteArray) (a1 : Int → Option Bool) (a2 : Bool) (s : Nat) : Option (Except Int Unit) := lim (fun k => strings_indexFunc.l0 a0 a1 a2 k s)
theorem strings_indexFunc.l0.tends (a0 : ByteArray) (a1 : Int → Option Bool) (a2 : Bool) (s : Nat) : Tends (fun k => strings_indexFunc.l0 a0 a1 a2 k s) (strings_indexFunc.l0.v a0 a1 a2 s) := tends_lim (fun hk => strings_indexFunc.l0.mono (fun _ => Le.refl _) a0 a2 hk s)
set_option maxHeartbeats 4000000 in
set_option maxRecDepth 100000 in
theorem strings_indexFunc.l0.v_eq (a0 : ByteArray) (a1 : Int → Option Bool) (a2 : Bool) (s1 : Nat) : strings_indexFunc.l0.v a0 a1 a2 s1 = bif decide (s1 < a0.size) then ((a1 ((Utf8.decode a0 s1).1 : Int)).bind fun v6 => bif (v6 == a2) then (some (Except.error (s1 : Int))) else (strings_indexFunc.l0.v a0 a1 a2 (nxPos a0 s1))) else (some (Except.ok ())) := (strings_indexFunc.l0.tends a0 a1 a2 s1).shift.uniq (by
  simp only [strings_indexFunc.l0]
  repeat' (first | with_reducible exact Tends.const _ | apply strings_indexFunc.l0.tends | refine Tends.cond ?_ ?_ | refine Tends.bind ?_ (fun _ => ?_) | cases ‹Except _ _› | intro _))
set_option maxHeartbeats 4000000 in
set_option maxRecDepth 100000 in
theorem strings_indexFunc.l0.tendsP {pa1 : Nat → Int → Option Bool} {qa1 : Int → Option Bool} (hpa1 : ∀ z0, Tends (fun j => pa1 j z0) (qa1 z0)) (a0 : ByteArray) (a2 : Bool) : ∀ (K : Nat) s, Tends (fun j => strings_indexFunc.l0 a0 (pa1 j) a2 K s) (strings_indexFunc.l0 a0 qa1 a2 K s) := by
  intro K
  induction K with
  | zero => exact fun s => Tends.const _
  | succ K ih =>
    intro s
    simp only [strings_indexFunc.l0]
    repeat' (first | with_reducible exact Tends.const _ | exact hpa1 _ | exact ih _ | refine Tends.cond ?_ ?_ | refine Tends.bind ?_ (fun _ => ?_) | cases ‹Except _ _› | intro _)
set_option maxHeartbeats 4000000 in
set_option maxRecDepth 100000 in
theorem strings_indexFunc.mono {k k' : Nat} (hk' : k ≤ k') {a1 a1' : Int → Option Bool} (hpa1 : ∀ z0, Le (a1 z0) (a1' z0)) (a0 : ByteArray) (a2 : Bool) : Le (strings_indexFunc.f k a0 a1 a2 ) (strings_indexFunc.f k' a0 a1' a2 ) := by
  simp only [strings_indexFunc.f]
  repeat' (first | with_reducible exact Le.refl _ | exact hpa1 _ | refine strings_indexFunc.l0.mono hpa1 _ _ hk' _ | refine Le.cond ?_ ?_ | refine Le.bind ?_ (fun _ => ?_) | cases ‹Except _ _› | intro _)
noncomputable def strings_indexFunc.v (a0 : ByteArray) (a1 : Int → Option Bool) (a2 : Bool) : Option Int := lim (fun k => strings_indexFunc.f k a0 a1 a2 )
theorem strings_indexFunc.tends (a0 : ByteArray) (a1 : Int → Option Bool) (a2 : Bool) : Tends (fun k => strings_indexFunc.f k a0 a1 a2 ) (strings_indexFunc.v a0 a1 a2 ) := tends_lim (fun hk => strings_indexFunc.mono hk (fun _ => Le.refl _) a0 a2 )
set_option maxHeartbeats 4000000 in
set_option maxRecDepth 100000 in
theorem strings_indexFunc.v_eq (a0 : ByteArray) (a1 : Int → Option Bool) (a2 : Bool) : strings_indexFunc.v a0 a1 a2 = (strings_indexFunc.l0.v a0 a1 a2 (0 : Nat)).bind fun o4 => match o4 with | .error r' => some r' | .ok s2 => (some (-1 : Int)) := (strings_indexFunc.tends a0 a1 a2 ).uniq (by
  simp only [strings_indexFunc.f]
  repeat' (first | with_reducible exact Tends.const _ | apply strings_indexFunc.l0.tends | refine Tends.cond ?_ ?_ | refine Tends.bind ?_ (fun _ => ?_) | cases ‹Except _ _› | intro _))
set_option maxHeartbeats 4000000 in
set_option maxRecDepth 100000 in
theorem strings_indexFunc.tendsP {pa1 : Nat → Int → Option Bool} {qa1 : Int → Option Bool} (hpa1 : ∀ z0, Tends (fun j => pa1 j z0) (qa1 z0)) (a0 : ByteArray) (a2 : Bool) (K : Nat) : Tends (fun j => strings_indexFunc.f K a0 (pa1 j) a2 ) (strings_indexFunc.f K a0 qa1 a2 ) := by
  simp only [strings_indexFunc.f]
  repeat' (first | with_reducible exact Tends.const _ | exact hpa1 _ | refine strings_indexFunc.l0.tendsP hpa1 _ _ _ _ | refine Tends.cond ?_ ?_ | refine Tends.bind ?_ (fun _ => ?_) | cases ‹Except _ _› | intro _)
theorem strings_indexFunc.tends2 {pa1 : Nat → Int → Option Bool} {qa1 : Int → Option Bool} (hpa1 : ∀ z0, Tends (fun j => pa1 j z0) (qa1 z0)) (a0 : ByteArray) (a2 : Bool) : Tends (fun k => strings_indexFunc.f k a0 (pa1 k) a2 ) (strings_indexFunc.v a0 qa1 a2 ) := Tends.diag (f := fun K j => strings_indexFunc.f K a0 (pa1 j) a2 ) (fun K => strings_indexFunc.tendsP hpa1 a0 a2 K) (fun h j => strings_indexFunc.mono h (fun _ => Le.refl _) a0 a2 ) (strings_indexFunc.tends a0 qa1 a2 )
/-! strings.IndexFunc -/
set_option maxHeartbeats 4000000 in
set_option maxRecDepth 100000 in
theorem strings_IndexFunc.mono {k k' : Nat} (hk' : k ≤ k') {a1 a1' : Int → Option Bool} (hpa1 : ∀ z0, Le (a1 z0) (a1' z0)) (a0 : ByteArray) : Le (strings_IndexFunc.f k a0 a1 ) (strings_IndexFunc.f k' a0 a1' ) := by
  simp only [strings_IndexFunc.f]
  repeat' (first | with_reducible exact Le.refl _ | exact hpa1 _ | apply strings_indexFunc.mono (hk' := hk') | refine Le.cond ?_ ?_ | refine Le.bind ?_ (fun _ => ?_) | cases ‹Except _ _› | intro _)
noncomputable def strings_IndexFunc.v (a0 : ByteArray) (a1 : Int → Option Bool) : Option Int := lim (fun k => strings_IndexFunc.f k a0 a1 )
theorem strings_IndexFunc.tends (a0 : ByteArray) (a1 : Int → Option Bool) : Tends (fun k => strings_IndexFunc.f k a0 a1 ) (strings_IndexFunc.v a0 a1 ) := tends_lim (fun hk => strings_IndexFunc.mono hk (fun _ => Le.refl _) a0 )
set_option maxHeartbeats 4000000 in
set_option maxRecDepth 100000 in
theorem strings_IndexFunc.v_eq (a0 : ByteArray) (a1 : Int → Option Bool) : strings_IndexFunc.v a0 a1 = (strings_indexFunc.v a0 a1 true).bind fun v1 => some v1 := (strings_IndexFunc.tends a0 a1 ).uniq (by
  simp only [strings_IndexFunc.f]
  repeat' (first | with_reducible exact Tends.const _ | apply strings_indexFunc.tends2 | refine Tends.cond ?_ ?_ | refine Tends.bind ?_ (fun _ => ?_) | cases ‹Except _ _› | intro _))
set_option maxHeartbeats 4000000 in
set_option maxRecDepth 100000 in
theorem strings_IndexFunc.tendsP {pa1 : Nat → Int → Option Bool} {qa1 : Int → Option Bool} (hpa1 : ∀ z0, Tends (fun j => pa1 j z0) (qa1 z0)) (a0 : ByteArray) (K : Nat) : Tends (fun j => strings_IndexFunc.f K a0 (pa1 j) ) (strings_IndexFunc.f K a0 qa1 ) := by
  simp only [strings_IndexFunc.f]
  repeat' (first | with_reducible exact Tends.const _ | exact hpa1 _ | apply strings_indexFunc.tendsP | refine Tends.cond ?_ ?_ | refine Tends.bind ?_ (fun _ => ?_) | cases ‹Except _ _› | intro _)
theorem strings_IndexFunc.tends2 {pa1 : Nat → Int → Option Bool} {qa1 : Int → Option Bool} (hpa1 : ∀ z0, Tends (fun j => pa1 j z0) (qa1 z0)) (a0 : ByteArray) : Tends (fun k => strings_IndexFunc.f k a0 (pa1 k) ) (strings_IndexFunc.v a0 qa1 ) := Tends.diag (f := fun K j => strings_IndexFunc.f K a0 (pa1 j) ) (fun K => strings_IndexFunc.tendsP hpa1 a0 K) (fun h j => strings_IndexFunc.mono h (fun _ => Le.refl _) a0 ) (strings_IndexFunc.tends a0 qa1 )
/-! strings.ContainsFunc -/
set_option maxHeartbeats 4000000 in
set_option maxRecDepth 100000 in
theorem strings_ContainsFunc.mono {k k' : Nat} (hk' : k ≤ k') {a1 a1' : Int → Option Bool} (hpa1 : ∀ z0, Le (a1 z0) (a1' z0)) (a0 : ByteArray) : Le (strings_ContainsFunc.f k a0 a1 ) (strings_ContainsFunc.f k' a0 a1' ) := by
  simp only [strings_ContainsFunc.f]
  repeat' (first | with_reducible exact Le.refl _ | exact hpa1 _ | apply strings_IndexFunc.mono (hk' := hk') | refine Le.cond ?_ ?_ | refine Le.bind ?_ (fun _ => ?_) | cases ‹Except _ _› | intro _)
noncomputable def strings_ContainsFunc.v (a0 : ByteArray) (a1 : Int → Option Bool) : Option Bool := lim (fun k => strings_ContainsFunc.f k a0 a1 )
theorem strings_ContainsFunc.tends (a0 : ByteArray) (a1 : Int → Option Bool) : Tends (fun k => strings_ContainsFunc.f k a0 a1 ) (strings_ContainsFunc.v a0 a1 ) := tends_lim (fun hk => strings_ContainsFunc.mono hk (fun _ => Le.refl _) a0 )
set_option maxHeartbeats 4000000 in
set_option maxRecDepth 100000 in
theorem strings_ContainsFunc.v_eq (a0 : ByteArray) (a1 : Int → Option Bool) : strings_ContainsFunc.v a0 a1 = (strings_IndexFunc.v a0 a1).bind fun v1 => some (icmp .geq v1 (0 : Int)) := (strings_ContainsFunc.tends a0 a1 ).uniq (by
  simp only [strings_ContainsFunc.f]
  repeat' (first | with_reducible exact Tends.const _ | apply strings_IndexFunc.tends2 | refine Tends.cond ?_ ?_ | refine Tends.bind ?_ (fun _ => ?_) | cases ‹Except _ _› | intro _))
set_option maxHeartbeats 4000000 in
set_option maxRecDepth 100000 in
theorem strings_ContainsFunc.tendsP {pa1 : Nat → Int → Option Bool} {qa1 : Int → Option Bool} (hpa1 : ∀ z0, Tends (fun j => pa1 j z0) (qa1 z0)) (a0 : ByteArray) (K : Nat) : Tends (fun j => strings_ContainsFunc.f K a0 (pa1 j) ) (strings_ContainsFunc.f K a0 qa1 ) := by
  simp only [strings_ContainsFunc.f]
  repeat' (first | with_reducible exact Tends.const _ | exact hpa1 _ | apply strings_IndexFunc.tendsP | refine Tends.cond ?_ ?_ | refine Tends.bind ?_ (fun _ => ?_) | cases ‹Except _ _› | intro _)
theorem strings_ContainsFunc.tends2 {pa1 : Nat → Int → Option Bool} {qa1 : Int → Option Bool} (hpa1 : ∀ z0, Tends (fun j => pa1 j z0) (qa1 z0)) (a0 : ByteArray) : Tends (fun k => strings_ContainsFunc.f k a0 (pa1 k) ) (strings_ContainsFunc.v a0 qa1 ) := Tends.diag (f := fun K j => strings_ContainsFunc.f K a0 (pa1 j) ) (fun K => strings_ContainsFunc.tendsP hpa1 a0 K) (fun h j => strings_ContainsFunc.mono h (fun _ => Le.refl _) a0 ) (strings_ContainsFunc.tends a0 qa1 )
/-! smithy/macro.Name -/
set_option maxHeartbeats 4000000 in
set_option maxRecDepth 100000 in
theorem macro_Name.mono {k k' : Nat} (hk' : k ≤ k') (a0 : ByteArray) : Le (macro_Name.f k a0 ) (macro_Name.f k' a0 ) := by
  simp only [macro_Name.f]
  repeat' (first | with_reducible exact Le.refl _ | apply strings_ContainsFunc.mono (hk' := hk') | refine Le.cond ?_ ?_ | refine Le.bind ?_ (fun _ => ?_) | cases ‹Except _ _› | intro _)
noncomputable def macro_Name.v (a0 : ByteArray) : Option Bool := lim (fun k => macro_Name.f k a0 )
theorem macro_Name.tends (a0 : ByteArray) : Tends (fun k => macro_Name.f k a0 ) (macro_Name.v a0 ) := tends_lim (fun hk => macro_Name.mono hk a0 )
set_option maxHeartbeats 4000000 in
set_option maxRecDepth 100000 in
theorem macro_Name.v_eq (a0 : ByteArray) : macro_Name.v a0 = (bif icmp .gtr (a0.size : Int) (0 : Int) then (bif icmp .leq (a0.size : Int) (64 : Int) then ((strings_ContainsFunc.v a0 (fun (z0 : Int) => macro_Name_1.f z0)).bind fun v5 => some (!v5)) else (some false)) else (some false)).bind fun s1 => some s1 := (macro_Name.tends a0 ).uniq (by
  simp only [macro_Name.f]
  repeat' (first | with_reducible exact Tends.const _ | apply strings_ContainsFunc.tends2 | refine Tends.cond ?_ ?_ | refine Tends.bind ?_ (fun _ => ?_) | cases ‹Except _ _› | intro _))
/-! smithy/macro.one -/
set_option maxHeartbeats 4000000 in
set_option maxRecDepth 100000 in
theorem macro_one.mono {k k' : Nat} (hk' : k ≤ k') (a0 : Macro) : Le (macro_one.f k a0 ) (macro_one.f k' a0 ) := by
  simp only [macro_one.f]
  repeat' (first | with_reducible exact Le.refl _ | apply macro_Name.mono (hk' := hk') | refine Le.cond ?_ ?_ | refine Le.bind ?_ (fun _ => ?_) | cases ‹Except _ _› | intro _)
noncomputable def macro_one.v (a0 : Macro) : Option Int := lim (fun k => macro_one.f k a0 )
theorem macro_one.tends (a0 : Macro) : Tends (fun k => macro_one.f k a0 ) (macro_one.v a0 ) := tends_lim (fun hk => macro_one.mono hk a0 )
set_option maxHeartbeats 4000000 in
set_option maxRecDepth 100000 in
theorem macro_one.v_eq (a0 : Macro) : macro_one.v a0 = (macro_Name.v a0.Name).bind fun v1 => bif !v1 then (some (50 : Int)) else ((bif icmp .lss a0.Level (0 : Int) then (some true) else (some (icmp .gtr a0.Level (2 : Int)))).bind fun s4 => bif s4 then (some (51 : Int)) else (bif icmp .gtr (a0.Value.size : Int) (8192 : Int) then (some (41 : Int)) else (some (0 : Int)))) := (macro_one.tends a0 ).uniq (by
  simp only [macro_one.f]
  repeat' (first | with_reducible exact Tends.const _ | apply macro_Name.tends | refine Tends.cond ?_ ?_ | refine Tends.bind ?_ (fun _ => ?_) | cases ‹Except _ _› | intro _))
/-! smithy/macro.byName -/
/-! smithy/macro.Check -/
set_option maxHeartbeats 4000000 in
set_option maxRecDepth 100000 in
theorem macro_Check.l0.mono (a0 : List Macro) : ∀ {k k' : Nat}, k ≤ k' → ∀ s, Le (macro_Check.l0 a0 k s) (macro_Check.l0 a0 k' s) := by
  intro k
  induction k with
  | zero => exact fun _ s => Le.none _
  | succ k ih =>
    intro k' hk s
    cases k' with
    | zero => exact absurd hk (by omega)
    | succ k' =>
      have hk' := Nat.le_of_succ_le_succ hk
      simp only [macro_Check.l0]
      repeat' (first | with_reducible exact Le.refl _ | exact ih hk' _ | apply macro_one.mono (hk' := hk') | refine Le.cond ?_ ?_ | refine Le.bind ?_ (fun _ => ?_) | cases ‹Except _ _› | intro _)
noncomputable def macro_Check.l0.v (a0 : List Macro) (s : Int) : Option (Except Int Unit) := lim (fun k => macro_Check.l0 a0 k s)
theorem macro_Check.l0.tends (a0 : List Macro) (s : Int) : Tends (fun k => macro_Check.l0 a0 k s) (macro_Check.l0.v a0 s) := tends_lim (fun hk => macro_Check.l0.mono a0 hk s)
set_option maxHeartbeats 4000000 in
set_option maxRecDepth 100000 in
theorem macro_Check.l0.v_eq (a0 : List Macro) (s2 : Int) : macro_Check.l0.v a0 s2 = bif icmp .lss s2 (a0.length : Int) then ((idx a0 s2).bind fun x7 => (macro_one.v x7).bind fun v9 => bif icmp .neq v9 (0 : Int) then (some (Except.error v9)) else (macro_Check.l0.v a0 (IntKind.i64.wrap (s2 + (1 : Int))))) else (some (Except.ok ())) := (macro_Check.l0.tends a0 s2).shift.uniq (by
  simp only [macro_Check.l0]
  repeat' (first | with_reducible exact Tends.const _ | apply macro_one.tends | apply macro_Check.l0.tends | refine Tends.cond ?_ ?_ | refine Tends.bind ?_ (fun _ => ?_) | cases ‹Except _ _› | intro _))
set_option maxHeartbeats 4000000 in
set_option maxRecDepth 100000 in
theorem macro_Check.l1.mono (a0 : List Macro) : ∀ {k k' : Nat}, k ≤ k' → ∀ s, Le (macro_Check.l1 a0 k s) (macro_Check.l1 a0 k' s) := by
  intro k
  induction k with
  | zero => exact fun _ s => Le.none _
  | succ k ih =>
    intro k' hk s
    cases k' with
    | zero => exact absurd hk (by omega)
    | succ k' =>
      have hk' := Nat.le_of_succ_le_succ hk
      simp only [macro_Check.l1]
      repeat' (first | with_reducible exact Le.refl _ | exact ih hk' _ | refine Le.cond ?_ ?_ | refine Le.bind ?_ (fun _ => ?_) | cases ‹Except _ _› | intro _)
noncomputable def macro_Check.l1.v (a0 : List Macro) (s : Int) : Option (Except Int Unit) := lim (fun k => macro_Check.l1 a0 k s)
theorem macro_Check.l1.tends (a0 : List Macro) (s : Int) : Tends (fun k => macro_Check.l1 a0 k s) (macro_Check.l1.v a0 s) := tends_lim (fun hk => macro_Check.l1.mono a0 hk s)
set_option maxHeartbeats 4000000 in
set_option maxRecDepth 100000 in
theorem macro_Check.l1.v_eq (a0 : List Macro) (s12 : Int) : macro_Check.l1.v a0 s12 = bif icmp .lss s12 (a0.length : Int) then ((bif icmp .gtr s12 (0 : Int) then ((idx a0 (IntKind.i64.wrap (s12 - (1 : Int)))).bind fun x20 => (idx a0 s12).bind fun x22 => (macro_byName.f x20 x22).bind fun v24 => some (icmp .geq v24 (0 : Int))) else (some false)).bind fun s17 => bif s17 then (some (Except.error (5 : Int))) else (macro_Check.l1.v a0 (IntKind.i64.wrap (s12 + (1 : Int))))) else (some (Except.ok ())) := (macro_Check.l1.tends a0 s12).shift.uniq (by
  simp only [macro_Check.l1]
  repeat' (first | with_reducible exact Tends.const _ | apply macro_Check.l1.tends | refine Tends.cond ?_ ?_ | refine Tends.bind ?_ (fun _ => ?_) | cases ‹Except _ _› | intro _))
set_option maxHeartbeats 4000000 in
set_option maxRecDepth 100000 in
theorem macro_Check.mono {k k' : Nat} (hk' : k ≤ k') (a0 : List Macro) : Le (macro_Check.f k a0 ) (macro_Check.f k' a0 ) := by
  simp only [macro_Check.f]
  repeat' (first | with_reducible exact Le.refl _ | refine macro_Check.l0.mono _ hk' _ | refine macro_Check.l1.mono _ hk' _ | refine Le.cond ?_ ?_ | refine Le.bind ?_ (fun _ => ?_) | cases ‹Except _ _› | intro _)
noncomputable def macro_Check.v (a0 : List Macro) : Option Int := lim (fun k => macro_Check.f k a0 )
theorem macro_Check.tends (a0 : List Macro) : Tends (fun k => macro_Check.f k a0 ) (macro_Check.v a0 ) := tends_lim (fun hk => macro_Check.mono hk a0 )
set_option maxHeartbeats 4000000 in
set_option maxRecDepth 100000 in
theorem macro_Check.v_eq (a0 : List Macro) : macro_Check.v a0 = bif icmp .gtr (a0.length : Int) (256 : Int) then (some (2 : Int)) else ((macro_Check.l0.v a0 (0 : Int)).bind fun o5 => match o5 with | .error r' => some r' | .ok s3 => ((macro_Check.l1.v a0 (0 : Int)).bind fun o15 => match o15 with | .error r' => some r' | .ok s13 => (some (0 : Int)))) := (macro_Check.tends a0 ).uniq (by
  simp only [macro_Check.f]
  repeat' (first | with_reducible exact Tends.const _ | apply macro_Check.l0.tends | apply macro_Check.l1.tends | refine Tends.cond ?_ ?_ | refine Tends.bind ?_ (fun _ => ?_) | cases ‹Except _ _› | intro _))
/-! smithy/names.letter -/
/-! smithy/names.Check -/
set_option maxHeartbeats 4000000 in
set_option maxRecDepth 100000 in
theorem names_Check.l0.mono (a0 : ByteArray) : ∀ {k k' : Nat}, k ≤ k' → ∀ s, Le (names_Check.l0 a0 k s) (names_Check.l0 a0 k' s) := by
  intro k
  induction k with
  | zero => exact fun _ s => Le.none _
  | succ k ih =>
    intro k' hk s
    cases k' with
    | zero => exact absurd hk (by omega)
    | succ k' =>
      have hk' := Nat.le_of_succ_le_succ hk
      simp only [names_Check.l0]
      repeat' (first | with_reducible exact Le.refl _ | exact ih hk' _ | refine Le.cond ?_ ?_ | refine Le.bind ?_ (fun _ => ?_) | cases ‹Except _ _› | intro _)
noncomputable def names_Check.l0.v (a0 : ByteArray) (s : Int) : Option (Except Int Unit) := lim (fun k => names_Check.l0 a0 k s)
theorem names_Check.l0.tends (a0 : ByteArray) (s : Int) : Tends (fun k => names_Check.l0 a0 k s) (names_Check.l0.v a0 s) := tends_lim (fun hk => names_Check.l0.mono a0 hk s)
set_option maxHeartbeats 4000000 in
set_option maxRecDepth 100000 in
theorem names_Check.l0.v_eq (a0 : ByteArray) (s5 : Int) : names_Check.l0.v a0 s5 = bif icmp .lss s5 (a0.size : Int) then ((bidx a0 s5).bind fun x10 => (names_letter.f x10).bind fun v12 => bif !v12 then (some (Except.error (3 : Int))) else (names_Check.l0.v a0 (IntKind.i64.wrap (s5 + (1 : Int))))) else (some (Except.ok ())) := (names_Check.l0.tends a0 s5).shift.uniq (by
  simp only [names_Check.l0]
  repeat' (first | with_reducible exact Tends.const _ | apply names_Check.l0.tends | refine Tends.cond ?_ ?_ | refine Tends.bind ?_ (fun _ => ?_) | cases ‹Except _ _› | intro _))
set_option maxHeartbeats 4000000 in
set_option maxRecDepth 100000 in
theorem names_Check.mono {k k' : Nat} (hk' : k ≤ k') (a0 : ByteArray) : Le (names_Check.f k a0 ) (names_Check.f k' a0 ) := by
  simp only [names_Check.f]
  repeat' (first | with_reducible exact Le.refl _ | refine names_Check.l0.mono _ hk' _ | refine Le.cond ?_ ?_ | refine Le.bind ?_ (fun _ => ?_) | cases ‹Except _ _› | intro _)
noncomputable def names_Check.v (a0 : ByteArray) : Option Int := lim (fun k => names_Check.f k a0 )
theorem names_Check.tends (a0 : ByteArray) : Tends (fun k => names_Check.f k a0 ) (names_Check.v a0 ) := tends_lim (fun hk => names_Check.mono hk a0 )
set_option maxHeartbeats 4000000 in
set_option maxRecDepth 100000 in
theorem names_Check.v_eq (a0 : ByteArray) : names_Check.v a0 = (bif icmp .eql (a0.size : Int) (0 : Int) then (some true) else (some (icmp .gtr (a0.size : Int) (64 : Int)))).bind fun s1 => bif s1 then (some (3 : Int)) else ((names_Check.l0.v a0 (0 : Int)).bind fun o8 => match o8 with | .error r' => some r' | .ok s6 => (some (0 : Int))) := (names_Check.tends a0 ).uniq (by
  simp only [names_Check.f]
  repeat' (first | with_reducible exact Tends.const _ | apply names_Check.l0.tends | refine Tends.cond ?_ ?_ | refine Tends.bind ?_ (fun _ => ?_) | cases ‹Except _ _› | intro _))
/-! slices.IndexFunc[[]string,string] -/
set_option maxHeartbeats 4000000 in
set_option maxRecDepth 100000 in
theorem slices_IndexFunc_string_string.l0.mono {a1 a1' : ByteArray → Option Bool} (hpa1 : ∀ z0, Le (a1 z0) (a1' z0)) (a0 : List ByteArray) : ∀ {k k' : Nat}, k ≤ k' → ∀ s, Le (slices_IndexFunc_string_string.l0 a0 a1 k s) (slices_IndexFunc_string_string.l0 a0 a1' k' s) := by
  intro k
  induction k with
  | zero => exact fun _ s => Le.none _
  | succ k ih =>
    intro k' hk s
    cases k' with
    | zero => exact absurd hk (by omega)
    | succ k' =>
      have hk' := Nat.le_of_succ_le_succ hk
      simp only [slices_IndexFunc_string_string.l0]
      repeat' (first | with_reducible exact Le.refl _ | exact hpa1 _ | exact ih hk' _ | refine Le.cond ?_ ?_ | refine Le.bind ?_ (fun _ => ?_) | cases ‹Except _ _› | intro _)
noncomputable def slices_IndexFunc_string_string.l0.v (a0 : List ByteArray) (a1 : ByteArray → Option Bool) (s : Int) : Option (Except Int Unit) := lim (fun k => slices_IndexFunc_string_string.l0 a0 a1 k s)
theorem slices_IndexFunc_string_string.l0.tends (a0 : List ByteArray) (a1 : ByteArray → Option Bool) (s : Int) : Tends (fun k => slices_IndexFunc_string_string.l0 a0 a1 k s) (slices_IndexFunc_string_string.l0.v a0 a1 s) := tends_lim (fun hk => slices_IndexFunc_string_string.l0.mono (fun _ => Le.refl _) a0 hk s)
set_option maxHeartbeats 4000000 in
set_option maxRecDepth 100000 in
theorem slices_IndexFunc_string_string.l0.v_eq (a0 : List ByteArray) (a1 : ByteArray → Option Bool) (s1 : Int) : slices_IndexFunc_string_string.l0.v a0 a1 s1 = bif icmp .lss s1 (a0.length : Int) then ((idx a0 s1).bind fun x6 => (a1 x6).bind fun v8 => bif v8 then (some (Except.error s1)) else (slices_IndexFunc_string_string.l0.v a0 a1 (IntKind.i64.wrap (s1 + (1 : Int))))) else (some (Except.ok ())) := (slices_IndexFunc_string_string.l0.tends a0 a1 s1).shift.uniq (by
  simp only [slices_IndexFunc_string_string.l0]
  repeat' (first | with_reducible exact Tends.const _ | apply slices_IndexFunc_string_string.l0.tends | refine Tends.cond ?_ ?_ | refine Tends.bind ?_ (fun _ => ?_) | cases ‹Except _ _› | intro _))
set_option maxHeartbeats 4000000 in
set_option maxRecDepth 100000 in
theorem slices_IndexFunc_string_string.l0.tendsP {pa1 : Nat → ByteArray → Option Bool} {qa1 : ByteArray → Option Bool} (hpa1 : ∀ z0, Tends (fun j => pa1 j z0) (qa1 z0)) (a0 : List ByteArray) : ∀ (K : Nat) s, Tends (fun j => slices_IndexFunc_string_string.l0 a0 (pa1 j) K s) (slices_IndexFunc_string_string.l0 a0 qa1 K s) := by
  intro K
  induction K with
  | zero => exact fun s => Tends.const _
  | succ K ih =>
    intro s
    simp only [slices_IndexFunc_string_string.l0]
    repeat' (first | with_reducible exact Tends.const _ | exact hpa1 _ | exact ih _ | refine Tends.cond ?_ ?_ | refine Tends.bind ?_ (fun _ => ?_) | cases ‹Except _ _› | intro _)
set_option maxHeartbeats 4000000 in
set_option maxRecDepth 100000 in
theorem slices_IndexFunc_string_string.mono {k k' : Nat} (hk' : k ≤ k') {a1 a1' : ByteArray → Option Bool} (hpa1 : ∀ z0, Le (a1 z0) (a1' z0)) (a0 : List ByteArray) : Le (slices_IndexFunc_string_string.f k a0 a1 ) (slices_IndexFunc_string_string.f k' a0 a1' ) := by
  simp only [slices_IndexFunc_string_string.f]
  repeat' (first | with_reducible exact Le.refl _ | exact hpa1 _ | refine slices_IndexFunc_string_string.l0.mono hpa1 _ hk' _ | refine Le.cond ?_ ?_ | refine Le.bind ?_ (fun _ => ?_) | cases ‹Except _ _› | intro _)
noncomputable def slices_IndexFunc_string_string.v (a0 : List ByteArray) (a1 : ByteArray → Option Bool) : Option Int := lim (fun k => slices_IndexFunc_string_string.f k a0 a1 )
theorem slices_IndexFunc_string_string.tends (a0 : List ByteArray) (a1 : ByteArray → Option Bool) : Tends (fun k => slices_IndexFunc_string_string.f k a0 a1 ) (slices_IndexFunc_string_string.v a0 a1 ) := tends_lim (fun hk => slices_IndexFunc_string_string.mono hk (fun _ => Le.refl _) a0 )
set_option maxHeartbeats 4000000 in
set_option maxRecDepth 100000 in
theorem slices_IndexFunc_string_string.v_eq (a0 : List ByteArray) (a1 : ByteArray → Option Bool) : slices_IndexFunc_string_string.v a0 a1 = (slices_IndexFunc_string_string.l0.v a0 a1 (0 : Int)).bind fun o4 => match o4 with | .error r' => some r' | .ok s2 => (some (-1 : Int)) := (slices_IndexFunc_string_string.tends a0 a1 ).uniq (by
  simp only [slices_IndexFunc_string_string.f]
  repeat' (first | with_reducible exact Tends.const _ | apply slices_IndexFunc_string_string.l0.tends | refine Tends.cond ?_ ?_ | refine Tends.bind ?_ (fun _ => ?_) | cases ‹Except _ _› | intro _))
set_option maxHeartbeats 4000000 in
set_option maxRecDepth 100000 in
theorem slices_IndexFunc_string_string.tendsP {pa1 : Nat → ByteArray → Option Bool} {qa1 : ByteArray → Option Bool} (hpa1 : ∀ z0, Tends (fun j => pa1 j z0) (qa1 z0)) (a0 : List ByteArray) (K : Nat) : Tends (fun j => slices_IndexFunc_string_string.f K a0 (pa1 j) ) (slices_IndexFunc_string_string.f K a0 qa1 ) := by
  simp only [slices_IndexFunc_string_string.f]
  repeat' (first | with_reducible exact Tends.const _ | exact hpa1 _ | refine slices_IndexFunc_string_string.l0.tendsP hpa1 _ _ _ | refine Tends.cond ?_ ?_ | refine Tends.bind ?_ (fun _ => ?_) | cases ‹Except _ _› | intro _)
theorem slices_IndexFunc_string_string.tends2 {pa1 : Nat → ByteArray → Option Bool} {qa1 : ByteArray → Option Bool} (hpa1 : ∀ z0, Tends (fun j => pa1 j z0) (qa1 z0)) (a0 : List ByteArray) : Tends (fun k => slices_IndexFunc_string_string.f k a0 (pa1 k) ) (slices_IndexFunc_string_string.v a0 qa1 ) := Tends.diag (f := fun K j => slices_IndexFunc_string_string.f K a0 (pa1 j) ) (fun K => slices_IndexFunc_string_string.tendsP hpa1 a0 K) (fun h j => slices_IndexFunc_string_string.mono h (fun _ => Le.refl _) a0 ) (slices_IndexFunc_string_string.tends a0 qa1 )
/-! slices.ContainsFunc[[]string,string] -/
set_option maxHeartbeats 4000000 in
set_option maxRecDepth 100000 in
theorem slices_ContainsFunc_string_string.mono {k k' : Nat} (hk' : k ≤ k') {a1 a1' : ByteArray → Option Bool} (hpa1 : ∀ z0, Le (a1 z0) (a1' z0)) (a0 : List ByteArray) : Le (slices_ContainsFunc_string_string.f k a0 a1 ) (slices_ContainsFunc_string_string.f k' a0 a1' ) := by
  simp only [slices_ContainsFunc_string_string.f]
  repeat' (first | with_reducible exact Le.refl _ | exact hpa1 _ | apply slices_IndexFunc_string_string.mono (hk' := hk') | refine Le.cond ?_ ?_ | refine Le.bind ?_ (fun _ => ?_) | cases ‹Except _ _› | intro _)
noncomputable def slices_ContainsFunc_string_string.v (a0 : List ByteArray) (a1 : ByteArray → Option Bool) : Option Bool := lim (fun k => slices_ContainsFunc_string_string.f k a0 a1 )
theorem slices_ContainsFunc_string_string.tends (a0 : List ByteArray) (a1 : ByteArray → Option Bool) : Tends (fun k => slices_ContainsFunc_string_string.f k a0 a1 ) (slices_ContainsFunc_string_string.v a0 a1 ) := tends_lim (fun hk => slices_ContainsFunc_string_string.mono hk (fun _ => Le.refl _) a0 )
set_option maxHeartbeats 4000000 in
set_option maxRecDepth 100000 in
theorem slices_ContainsFunc_string_string.v_eq (a0 : List ByteArray) (a1 : ByteArray → Option Bool) : slices_ContainsFunc_string_string.v a0 a1 = (slices_IndexFunc_string_string.v a0 a1).bind fun v1 => some (icmp .geq v1 (0 : Int)) := (slices_ContainsFunc_string_string.tends a0 a1 ).uniq (by
  simp only [slices_ContainsFunc_string_string.f]
  repeat' (first | with_reducible exact Tends.const _ | apply slices_IndexFunc_string_string.tends2 | refine Tends.cond ?_ ?_ | refine Tends.bind ?_ (fun _ => ?_) | cases ‹Except _ _› | intro _))
set_option maxHeartbeats 4000000 in
set_option maxRecDepth 100000 in
theorem slices_ContainsFunc_string_string.tendsP {pa1 : Nat → ByteArray → Option Bool} {qa1 : ByteArray → Option Bool} (hpa1 : ∀ z0, Tends (fun j => pa1 j z0) (qa1 z0)) (a0 : List ByteArray) (K : Nat) : Tends (fun j => slices_ContainsFunc_string_string.f K a0 (pa1 j) ) (slices_ContainsFunc_string_string.f K a0 qa1 ) := by
  simp only [slices_ContainsFunc_string_string.f]
  repeat' (first | with_reducible exact Tends.const _ | exact hpa1 _ | apply slices_IndexFunc_string_string.tendsP | refine Tends.cond ?_ ?_ | refine Tends.bind ?_ (fun _ => ?_) | cases ‹Except _ _› | intro _)
theorem slices_ContainsFunc_string_string.tends2 {pa1 : Nat → ByteArray → Option Bool} {qa1 : ByteArray → Option Bool} (hpa1 : ∀ z0, Tends (fun j => pa1 j z0) (qa1 z0)) (a0 : List ByteArray) : Tends (fun k => slices_ContainsFunc_string_string.f k a0 (pa1 k) ) (slices_ContainsFunc_string_string.v a0 qa1 ) := Tends.diag (f := fun K j => slices_ContainsFunc_string_string.f K a0 (pa1 j) ) (fun K => slices_ContainsFunc_string_string.tendsP hpa1 a0 K) (fun h j => slices_ContainsFunc_string_string.mono h (fun _ => Le.refl _) a0 ) (slices_ContainsFunc_string_string.tends a0 qa1 )
/-! smithy/load.named$1 -/
set_option maxHeartbeats 4000000 in
set_option maxRecDepth 100000 in
theorem load_named_1.mono {k k' : Nat} (hk' : k ≤ k') (a0 : ByteArray) : Le (load_named_1.f k a0 ) (load_named_1.f k' a0 ) := by
  simp only [load_named_1.f]
  repeat' (first | with_reducible exact Le.refl _ | apply names_Check.mono (hk' := hk') | refine Le.cond ?_ ?_ | refine Le.bind ?_ (fun _ => ?_) | cases ‹Except _ _› | intro _)
noncomputable def load_named_1.v (a0 : ByteArray) : Option Bool := lim (fun k => load_named_1.f k a0 )
theorem load_named_1.tends (a0 : ByteArray) : Tends (fun k => load_named_1.f k a0 ) (load_named_1.v a0 ) := tends_lim (fun hk => load_named_1.mono hk a0 )
set_option maxHeartbeats 4000000 in
set_option maxRecDepth 100000 in
theorem load_named_1.v_eq (a0 : ByteArray) : load_named_1.v a0 = (names_Check.v a0).bind fun v1 => some (icmp .neq v1 (0 : Int)) := (load_named_1.tends a0 ).uniq (by
  simp only [load_named_1.f]
  repeat' (first | with_reducible exact Tends.const _ | apply names_Check.tends | refine Tends.cond ?_ ?_ | refine Tends.bind ?_ (fun _ => ?_) | cases ‹Except _ _› | intro _))
/-! smithy/load.named -/
set_option maxHeartbeats 4000000 in
set_option maxRecDepth 100000 in
theorem load_named.mono {k k' : Nat} (hk' : k ≤ k') (a0 : List ByteArray) (a1 : Int) : Le (load_named.f k a0 a1 ) (load_named.f k' a0 a1 ) := by
  simp only [load_named.f]
  repeat' (first | with_reducible exact Le.refl _ | apply slices_ContainsFunc_string_string.mono (hk' := hk') | apply load_named_1.mono (hk' := hk') | refine Le.cond ?_ ?_ | refine Le.bind ?_ (fun _ => ?_) | cases ‹Except _ _› | intro _)
noncomputable def load_named.v (a0 : List ByteArray) (a1 : Int) : Option Bool := lim (fun k => load_named.f k a0 a1 )
theorem load_named.tends (a0 : List ByteArray) (a1 : Int) : Tends (fun k => load_named.f k a0 a1 ) (load_named.v a0 a1 ) := tends_lim (fun hk => load_named.mono hk a0 a1 )
set_option maxHeartbeats 4000000 in
set_option maxRecDepth 100000 in
theorem load_named.v_eq (a0 : List ByteArray) (a1 : Int) : load_named.v a0 a1 = (bif icmp .leq (a0.length : Int) a1 then ((slices_ContainsFunc_string_string.v a0 (fun (z0 : ByteArray) => load_named_1.v z0)).bind fun v4 => some (!v4)) else (some false)).bind fun s1 => some s1 := (load_named.tends a0 a1 ).uniq (by
  simp only [load_named.f]
  repeat' (first | with_reducible exact Tends.const _ | apply slices_ContainsFunc_string_string.tends2 | apply load_named_1.tends | refine Tends.cond ?_ ?_ | refine Tends.bind ?_ (fun _ => ?_) | cases ‹Except _ _› | intro _))
/-! slices.Index[[]string,string] -/
set_option maxHeartbeats 4000000 in
set_option maxRecDepth 100000 in
theorem slices_Index_string_string.l0.mono (a0 : List ByteArray) (a1 : ByteArray) : ∀ {k k' : Nat}, k ≤ k' → ∀ s, Le (slices_Index_string_string.l0 a0 a1 k s) (slices_Index_string_string.l0 a0 a1 k' s) := by
  intro k
  induction k with
  | zero => exact fun _ s => Le.none _
  | succ k ih =>
    intro k' hk s
    cases k' with
    | zero => exact absurd hk (by omega)
    | succ k' =>
      have hk' := Nat.le_of_succ_le_succ hk
      simp only [slices_Index_string_string.l0]
      repeat' (first | with_reducible exact Le.refl _ | exact ih hk' _ | refine Le.cond ?_ ?_ | refine Le.bind ?_ (fun _ => ?_) | cases ‹Except _ _› | intro _)
noncomputable def slices_Index_string_string.l0.v (a0 : List ByteArray) (a1 : ByteArray) (s : Int) : Option (Except Int Unit) := lim (fun k => slices_Index_string_string.l0 a0 a1 k s)
theorem slices_Index_string_string.l0.tends (a0 : List ByteArray) (a1 : ByteArray) (s : Int) : Tends (fun k => slices_Index_string_string.l0 a0 a1 k s) (slices_Index_string_string.l0.v a0 a1 s) := tends_lim (fun hk => slices_Index_string_string.l0.mono a0 a1 hk s)
set_option maxHeartbeats 4000000 in
set_option maxRecDepth 100000 in
theorem slices_Index_string_string.l0.v_eq (a0 : List ByteArray) (a1 : ByteArray) (s1 : Int) : slices_Index_string_string.l0.v a0 a1 s1 = bif icmp .lss s1 (a0.length : Int) then ((idx a0 s1).bind fun x6 => bif scmp .eql a1 x6 then (some (Except.error s1)) else (slices_Index_string_string.l0.v a0 a1 (IntKind.i64.wrap (s1 + (1 : Int))))) else (some (Except.ok ())) := (slices_Index_string_string.l0.tends a0 a1 s1).shift.uniq (by
  simp only [slices_Index_string_string.l0]
  repeat' (first | with_reducible exact Tends.const _ | apply slices_Index_string_string.l0.tends | refine Tends.cond ?_ ?_ | refine Tends.bind ?_ (fun _ => ?_) | cases ‹Except _ _› | intro _))
set_option maxHeartbeats 4000000 in
set_option maxRecDepth 100000 in
theorem slices_Index_string_string.mono {k k' : Nat} (hk' : k ≤ k') (a0 : List ByteArray) (a1 : ByteArray) : Le (slices_Index_string_string.f k a0 a1 ) (slices_Index_string_string.f k' a0 a1 ) := by
  simp only [slices_Index_string_string.f]
  repeat' (first | with_reducible exact Le.refl _ | refine slices_Index_string_string.l0.mono _ _ hk' _ | refine Le.cond ?_ ?_ | refine Le.bind ?_ (fun _ => ?_) | cases ‹Except _ _› | intro _)
noncomputable def slices_Index_string_string.v (a0 : List ByteArray) (a1 : ByteArray) : Option Int := lim (fun k => slices_Index_string_string.f k a0 a1 )
theorem slices_Index_string_string.tends (a0 : List ByteArray) (a1 : ByteArray) : Tends (fun k => slices_Index_string_string.f k a0 a1 ) (slices_Index_string_string.v a0 a1 ) := tends_lim (fun hk => slices_Index_string_string.mono hk a0 a1 )
set_option maxHeartbeats 4000000 in
set_option maxRecDepth 100000 in
theorem slices_Index_string_string.v_eq (a0 : List ByteArray) (a1 : ByteArray) : slices_Index_string_string.v a0 a1 = (slices_Index_string_string.l0.v a0 a1 (0 : Int)).bind fun o4 => match o4 with | .error r' => some r' | .ok s2 => (some (-1 : Int)) := (slices_Index_string_string.tends a0 a1 ).uniq (by
  simp only [slices_Index_string_string.f]
  repeat' (first | with_reducible exact Tends.const _ | apply slices_Index_string_string.l0.tends | refine Tends.cond ?_ ?_ | refine Tends.bind ?_ (fun _ => ?_) | cases ‹Except _ _› | intro _))
/-! slices.Contains[[]string,string] -/
set_option maxHeartbeats 4000000 in
set_option maxRecDepth 100000 in
theorem slices_Contains_string_string.mono {k k' : Nat} (hk' : k ≤ k') (a0 : List ByteArray) (a1 : ByteArray) : Le (slices_Contains_string_string.f k a0 a1 ) (slices_Contains_string_string.f k' a0 a1 ) := by
  simp only [slices_Contains_string_string.f]
  repeat' (first | with_reducible exact Le.refl _ | apply slices_Index_string_string.mono (hk' := hk') | refine Le.cond ?_ ?_ | refine Le.bind ?_ (fun _ => ?_) | cases ‹Except _ _› | intro _)
noncomputable def slices_Contains_string_string.v (a0 : List ByteArray) (a1 : ByteArray) : Option Bool := lim (fun k => slices_Contains_string_string.f k a0 a1 )
theorem slices_Contains_string_string.tends (a0 : List ByteArray) (a1 : ByteArray) : Tends (fun k => slices_Contains_string_string.f k a0 a1 ) (slices_Contains_string_string.v a0 a1 ) := tends_lim (fun hk => slices_Contains_string_string.mono hk a0 a1 )
set_option maxHeartbeats 4000000 in
set_option maxRecDepth 100000 in
theorem slices_Contains_string_string.v_eq (a0 : List ByteArray) (a1 : ByteArray) : slices_Contains_string_string.v a0 a1 = (slices_Index_string_string.v a0 a1).bind fun v1 => some (icmp .geq v1 (0 : Int)) := (slices_Contains_string_string.tends a0 a1 ).uniq (by
  simp only [slices_Contains_string_string.f]
  repeat' (first | with_reducible exact Tends.const _ | apply slices_Index_string_string.tends | refine Tends.cond ?_ ?_ | refine Tends.bind ?_ (fun _ => ?_) | cases ‹Except _ _› | intro _))
/-! smithy/names.Unique -/
set_option maxHeartbeats 4000000 in
set_option maxRecDepth 100000 in
theorem names_Unique.l0.mono (a0 : List ByteArray) : ∀ {k k' : Nat}, k ≤ k' → ∀ s, Le (names_Unique.l0 a0 k s) (names_Unique.l0 a0 k' s) := by
  intro k
  induction k with
  | zero => exact fun _ s => Le.none _
  | succ k ih =>
    intro k' hk s
    cases k' with
    | zero => exact absurd hk (by omega)
    | succ k' =>
      have hk' := Nat.le_of_succ_le_succ hk
      simp only [names_Unique.l0]
      repeat' (first | with_reducible exact Le.refl _ | exact ih hk' _ | apply slices_Contains_string_string.mono (hk' := hk') | refine Le.cond ?_ ?_ | refine Le.bind ?_ (fun _ => ?_) | cases ‹Except _ _› | intro _)
noncomputable def names_Unique.l0.v (a0 : List ByteArray) (s : (List ByteArray) × Int) : Option (List ByteArray) := lim (fun k => names_Unique.l0 a0 k s)
theorem names_Unique.l0.tends (a0 : List ByteArray) (s : (List ByteArray) × Int) : Tends (fun k => names_Unique.l0 a0 k s) (names_Unique.l0.v a0 s) := tends_lim (fun hk => names_Unique.l0.mono a0 hk s)
set_option maxHeartbeats 4000000 in
set_option maxRecDepth 100000 in
theorem names_Unique.l0.v_eq (a0 : List ByteArray) (s1 : (List ByteArray) × Int) : names_Unique.l0.v a0 s1 = bif icmp .lss s1.2 (a0.length : Int) then (((idx a0 s1.2).bind fun x7 => (slices_Contains_string_string.v s1.1 x7).bind fun v9 => bif !v9 then ((app 16 s1.1 ([x7])).bind fun x12 => some x12) else (some s1.1)).bind fun s5 => names_Unique.l0.v a0 (s5, IntKind.i64.wrap (s1.2 + (1 : Int)))) else (some s1.1) := (names_Unique.l0.tends a0 s1).shift.uniq (by
  simp only [names_Unique.l0]
  repeat' (first | with_reducible exact Tends.const _ | apply slices_Contains_string_string.tends | apply names_Unique.l0.tends | refine Tends.cond ?_ ?_ | refine Tends.bind ?_ (fun _ => ?_) | cases ‹Except _ _› | intro _))
set_option maxHeartbeats 4000000 in
set_option maxRecDepth 100000 in
theorem names_Unique.mono {k k' : Nat} (hk' : k ≤ k') (a0 : List ByteArray) : Le (names_Unique.f k a0 ) (names_Unique.f k' a0 ) := by
  simp only [names_Unique.f]
  repeat' (first | with_reducible exact Le.refl _ | refine names_Unique.l0.mono _ hk' _ | refine Le.cond ?_ ?_ | refine Le.bind ?_ (fun _ => ?_) | cases ‹Except _ _› | intro _)
noncomputable def names_Unique.v (a0 : List ByteArray) : Option (List ByteArray) := lim (fun k => names_Unique.f k a0 )
theorem names_Unique.tends (a0 : List ByteArray) : Tends (fun k => names_Unique.f k a0 ) (names_Unique.v a0 ) := tends_lim (fun hk => names_Unique.mono hk a0 )
set_option maxHeartbeats 4000000 in
set_option maxRecDepth 100000 in
theorem names_Unique.v_eq (a0 : List ByteArray) : names_Unique.v a0 = (names_Unique.l0.v a0 (([] : List ByteArray), (0 : Int))).bind fun s2 => some s2 := (names_Unique.tends a0 ).uniq (by
  simp only [names_Unique.f]
  repeat' (first | with_reducible exact Tends.const _ | apply names_Unique.l0.tends | refine Tends.cond ?_ ?_ | refine Tends.bind ?_ (fun _ => ?_) | cases ‹Except _ _› | intro _))
/-! smithy/load.once -/
set_option maxHeartbeats 4000000 in
set_option maxRecDepth 100000 in
theorem load_once.mono {k k' : Nat} (hk' : k ≤ k') (a0 : List ByteArray) : Le (load_once.f k a0 ) (load_once.f k' a0 ) := by
  simp only [load_once.f]
  repeat' (first | with_reducible exact Le.refl _ | apply names_Unique.mono (hk' := hk') | refine Le.cond ?_ ?_ | refine Le.bind ?_ (fun _ => ?_) | cases ‹Except _ _› | intro _)
noncomputable def load_once.v (a0 : List ByteArray) : Option Bool := lim (fun k => load_once.f k a0 )
theorem load_once.tends (a0 : List ByteArray) : Tends (fun k => load_once.f k a0 ) (load_once.v a0 ) := tends_lim (fun hk => load_once.mono hk a0 )
set_option maxHeartbeats 4000000 in
set_option maxRecDepth 100000 in
theorem load_once.v_eq (a0 : List ByteArray) : load_once.v a0 = (names_Unique.v a0).bind fun v1 => some (icmp .eql (v1.length : Int) (a0.length : Int)) := (load_once.tends a0 ).uniq (by
  simp only [load_once.f]
  repeat' (first | with_reducible exact Tends.const _ | apply names_Unique.tends | refine Tends.cond ?_ ?_ | refine Tends.bind ?_ (fun _ => ?_) | cases ‹Except _ _› | intro _))
/-! smithy/load.recipe$1 -/
/-! smithy/load.recipe -/
set_option maxHeartbeats 4000000 in
set_option maxRecDepth 100000 in
theorem load_recipe.mono {k k' : Nat} (hk' : k ≤ k') (a0 : List ByteArray) (a1 : Bool) : Le (load_recipe.f k a0 a1 ) (load_recipe.f k' a0 a1 ) := by
  simp only [load_recipe.f]
  repeat' (first | with_reducible exact Le.refl _ | apply slices_ContainsFunc_string_string.mono (hk' := hk') | refine Le.cond ?_ ?_ | refine Le.bind ?_ (fun _ => ?_) | cases ‹Except _ _› | intro _)
noncomputable def load_recipe.v (a0 : List ByteArray) (a1 : Bool) : Option Bool := lim (fun k => load_recipe.f k a0 a1 )
theorem load_recipe.tends (a0 : List ByteArray) (a1 : Bool) : Tends (fun k => load_recipe.f k a0 a1 ) (load_recipe.v a0 a1 ) := tends_lim (fun hk => load_recipe.mono hk a0 a1 )
set_option maxHeartbeats 4000000 in
set_option maxRecDepth 100000 in
theorem load_recipe.v_eq (a0 : List ByteArray) (a1 : Bool) : load_recipe.v a0 a1 = (bif icmp .leq (a0.length : Int) (64 : Int) then (bif a1 then ((slices_ContainsFunc_string_string.v a0 (fun (z0 : ByteArray) => load_recipe_1.f z0)).bind fun v5 => some (!v5)) else (bif icmp .eql (a0.length : Int) (0 : Int) then ((slices_ContainsFunc_string_string.v a0 (fun (z0 : ByteArray) => load_recipe_1.f z0)).bind fun v8 => some (!v8)) else (some false))) else (some false)).bind fun s1 => some s1 := (load_recipe.tends a0 a1 ).uniq (by
  simp only [load_recipe.f]
  repeat' (first | with_reducible exact Tends.const _ | apply slices_ContainsFunc_string_string.tends2 | refine Tends.cond ?_ ?_ | refine Tends.bind ?_ (fun _ => ?_) | cases ‹Except _ _› | intro _))
/-! smithy/load.rules -/
set_option maxHeartbeats 4000000 in
set_option maxRecDepth 100000 in
theorem load_rules.l0.mono (a0 : List Rule) : ∀ {k k' : Nat}, k ≤ k' → ∀ s, Le (load_rules.l0 a0 k s) (load_rules.l0 a0 k' s) := by
  intro k
  induction k with
  | zero => exact fun _ s => Le.none _
  | succ k ih =>
    intro k' hk s
    cases k' with
    | zero => exact absurd hk (by omega)
    | succ k' =>
      have hk' := Nat.le_of_succ_le_succ hk
      simp only [load_rules.l0]
      repeat' (first | with_reducible exact Le.refl _ | exact ih hk' _ | apply names_Check.mono (hk' := hk') | apply load_named.mono (hk' := hk') | apply load_once.mono (hk' := hk') | apply load_recipe.mono (hk' := hk') | refine Le.cond ?_ ?_ | refine Le.bind ?_ (fun _ => ?_) | cases ‹Except _ _› | intro _)
noncomputable def load_rules.l0.v (a0 : List Rule) (s : (GM Bool) × Int) : Option (Except Bool Unit) := lim (fun k => load_rules.l0 a0 k s)
theorem load_rules.l0.tends (a0 : List Rule) (s : (GM Bool) × Int) : Tends (fun k => load_rules.l0 a0 k s) (load_rules.l0.v a0 s) := tends_lim (fun hk => load_rules.l0.mono a0 hk s)
set_option maxHeartbeats 4000000 in
set_option maxRecDepth 100000 in
theorem load_rules.l0.v_eq (a0 : List Rule) (s1 : (GM Bool) × Int) : load_rules.l0.v a0 s1 = bif icmp .lss s1.2 (a0.length : Int) then ((idx a0 s1.2).bind fun x6 => ((gget s1.1 false x6.Target).bind fun x10 => bif x10 then (some true) else ((names_Check.v x6.Target).bind fun v13 => bif icmp .neq v13 (0 : Int) then (some true) else ((load_named.v x6.Needs (64 : Int)).bind fun v16 => bif !v16 then (some true) else ((load_once.v x6.Needs).bind fun v19 => bif !v19 then (some true) else ((load_recipe.v x6.Recipe x6.Has).bind fun v22 => some (!v22)))))).bind fun s8 => bif s8 then (some (Except.error false)) else ((gput s1.1 x6.Target true).bind fun x25 => load_rules.l0.v a0 (x25, IntKind.i64.wrap (s1.2 + (1 : Int))))) else (some (Except.ok ())) := (load_rules.l0.tends a0 s1).shift.uniq (by
  simp only [load_rules.l0]
  repeat' (first | with_reducible exact Tends.const _ | apply names_Check.tends | apply load_named.tends | apply load_once.tends | apply load_recipe.tends | apply load_rules.l0.tends | refine Tends.cond ?_ ?_ | refine Tends.bind ?_ (fun _ => ?_) | cases ‹Except _ _› | intro _))
set_option maxHeartbeats 4000000 in
set_option maxRecDepth 100000 in
theorem load_rules.mono {k k' : Nat} (hk' : k ≤ k') (a0 : List Rule) : Le (load_rules.f k a0 ) (load_rules.f k' a0 ) := by
  simp only [load_rules.f]
  repeat' (first | with_reducible exact Le.refl _ | refine load_rules.l0.mono _ hk' _ | refine Le.cond ?_ ?_ | refine Le.bind ?_ (fun _ => ?_) | cases ‹Except _ _› | intro _)
noncomputable def load_rules.v (a0 : List Rule) : Option Bool := lim (fun k => load_rules.f k a0 )
theorem load_rules.tends (a0 : List Rule) : Tends (fun k => load_rules.f k a0 ) (load_rules.v a0 ) := tends_lim (fun hk => load_rules.mono hk a0 )
set_option maxHeartbeats 4000000 in
set_option maxRecDepth 100000 in
theorem load_rules.v_eq (a0 : List Rule) : load_rules.v a0 = (load_rules.l0.v a0 ((gempty : GM Bool), (0 : Int))).bind fun o4 => match o4 with | .error r' => some r' | .ok s2 => (some (icmp .leq (a0.length : Int) (512 : Int))) := (load_rules.tends a0 ).uniq (by
  simp only [load_rules.f]
  repeat' (first | with_reducible exact Tends.const _ | apply load_rules.l0.tends | refine Tends.cond ?_ ?_ | refine Tends.bind ?_ (fun _ => ?_) | cases ‹Except _ _› | intro _))
/-! smithy/special.Suffix -/
set_option maxHeartbeats 4000000 in
set_option maxRecDepth 100000 in
theorem special_Suffix.mono {k k' : Nat} (hk' : k ≤ k') (a0 : ByteArray) : Le (special_Suffix.f k a0 ) (special_Suffix.f k' a0 ) := by
  simp only [special_Suffix.f]
  repeat' (first | with_reducible exact Le.refl _ | apply names_Check.mono (hk' := hk') | refine Le.cond ?_ ?_ | refine Le.bind ?_ (fun _ => ?_) | cases ‹Except _ _› | intro _)
noncomputable def special_Suffix.v (a0 : ByteArray) : Option Bool := lim (fun k => special_Suffix.f k a0 )
theorem special_Suffix.tends (a0 : ByteArray) : Tends (fun k => special_Suffix.f k a0 ) (special_Suffix.v a0 ) := tends_lim (fun hk => special_Suffix.mono hk a0 )
set_option maxHeartbeats 4000000 in
set_option maxRecDepth 100000 in
theorem special_Suffix.v_eq (a0 : ByteArray) : special_Suffix.v a0 = ((names_Check.v a0).bind fun v3 => bif icmp .eql v3 (0 : Int) then (bif icmp .gtr (a0.size : Int) (1 : Int) then ((bidx a0 (0 : Int)).bind fun x7 => bif icmp .eql x7 (46 : Int) then ((ssub a0 (1 : Int) (a0.size : Int)).bind fun x10 => (strings_ContainsAny.f x10 (⟨#[46, 47]⟩ : ByteArray)).bind fun v12 => some (!v12)) else (some false)) else (some false)) else (some false)).bind fun s1 => some s1 := (special_Suffix.tends a0 ).uniq (by
  simp only [special_Suffix.f]
  repeat' (first | with_reducible exact Tends.const _ | apply names_Check.tends | refine Tends.cond ?_ ?_ | refine Tends.bind ?_ (fun _ => ?_) | cases ‹Except _ _› | intro _))
/-! cmp.isNaN[string] -/
/-! cmp.Less[string] -/
/-! slices.IsSorted[[]string,string] -/
set_option maxHeartbeats 4000000 in
set_option maxRecDepth 100000 in
theorem slices_IsSorted_string_string.l0.mono (a0 : List ByteArray) : ∀ {k k' : Nat}, k ≤ k' → ∀ s, Le (slices_IsSorted_string_string.l0 a0 k s) (slices_IsSorted_string_string.l0 a0 k' s) := by
  intro k
  induction k with
  | zero => exact fun _ s => Le.none _
  | succ k ih =>
    intro k' hk s
    cases k' with
    | zero => exact absurd hk (by omega)
    | succ k' =>
      have hk' := Nat.le_of_succ_le_succ hk
      simp only [slices_IsSorted_string_string.l0]
      repeat' (first | with_reducible exact Le.refl _ | exact ih hk' _ | refine Le.cond ?_ ?_ | refine Le.bind ?_ (fun _ => ?_) | cases ‹Except _ _› | intro _)
noncomputable def slices_IsSorted_string_string.l0.v (a0 : List ByteArray) (s : Int) : Option (Except Bool Unit) := lim (fun k => slices_IsSorted_string_string.l0 a0 k s)
theorem slices_IsSorted_string_string.l0.tends (a0 : List ByteArray) (s : Int) : Tends (fun k => slices_IsSorted_string_string.l0 a0 k s) (slices_IsSorted_string_string.l0.v a0 s) := tends_lim (fun hk => slices_IsSorted_string_string.l0.mono a0 hk s)
set_option maxHeartbeats 4000000 in
set_option maxRecDepth 100000 in
theorem slices_IsSorted_string_string.l0.v_eq (a0 : List ByteArray) (s1 : Int) : slices_IsSorted_string_string.l0.v a0 s1 = bif icmp .gtr s1 (0 : Int) then ((idx a0 s1).bind fun x6 => (idx a0 (IntKind.i64.wrap (s1 - (1 : Int)))).bind fun x8 => (cmp_Less_string.f x6 x8).bind fun v10 => bif v10 then (some (Except.error false)) else (slices_IsSorted_string_string.l0.v a0 (IntKind.i64.wrap (s1 - (1 : Int))))) else (some (Except.ok ())) := (slices_IsSorted_string_string.l0.tends a0 s1).shift.uniq (by
  simp only [slices_IsSorted_string_string.l0]
  repeat' (first | with_reducible exact Tends.const _ | apply slices_IsSorted_string_string.l0.tends | refine Tends.cond ?_ ?_ | refine Tends.bind ?_ (fun _ => ?_) | cases ‹Except _ _› | intro _))
set_option maxHeartbeats 4000000 in
set_option maxRecDepth 100000 in
theorem slices_IsSorted_string_string.mono {k k' : Nat} (hk' : k ≤ k') (a0 : List ByteArray) : Le (slices_IsSorted_string_string.f k a0 ) (slices_IsSorted_string_string.f k' a0 ) := by
  simp only [slices_IsSorted_string_string.f]
  repeat' (first | with_reducible exact Le.refl _ | refine slices_IsSorted_string_string.l0.mono _ hk' _ | refine Le.cond ?_ ?_ | refine Le.bind ?_ (fun _ => ?_) | cases ‹Except _ _› | intro _)
noncomputable def slices_IsSorted_string_string.v (a0 : List ByteArray) : Option Bool := lim (fun k => slices_IsSorted_string_string.f k a0 )
theorem slices_IsSorted_string_string.tends (a0 : List ByteArray) : Tends (fun k => slices_IsSorted_string_string.f k a0 ) (slices_IsSorted_string_string.v a0 ) := tends_lim (fun hk => slices_IsSorted_string_string.mono hk a0 )
set_option maxHeartbeats 4000000 in
set_option maxRecDepth 100000 in
theorem slices_IsSorted_string_string.v_eq (a0 : List ByteArray) : slices_IsSorted_string_string.v a0 = (slices_IsSorted_string_string.l0.v a0 (IntKind.i64.wrap ((a0.length : Int) - (1 : Int)))).bind fun o4 => match o4 with | .error r' => some r' | .ok s2 => (some true) := (slices_IsSorted_string_string.tends a0 ).uniq (by
  simp only [slices_IsSorted_string_string.f]
  repeat' (first | with_reducible exact Tends.const _ | apply slices_IsSorted_string_string.l0.tends | refine Tends.cond ?_ ?_ | refine Tends.bind ?_ (fun _ => ?_) | cases ‹Except _ _› | intro _))
/-! smithy/load.list -/
set_option maxHeartbeats 4000000 in
set_option maxRecDepth 100000 in
theorem load_list.mono {k k' : Nat} (hk' : k ≤ k') (a0 : List ByteArray) : Le (load_list.f k a0 ) (load_list.f k' a0 ) := by
  simp only [load_list.f]
  repeat' (first | with_reducible exact Le.refl _ | apply load_named.mono (hk' := hk') | apply slices_IsSorted_string_string.mono (hk' := hk') | apply load_once.mono (hk' := hk') | refine Le.cond ?_ ?_ | refine Le.bind ?_ (fun _ => ?_) | cases ‹Except _ _› | intro _)
noncomputable def load_list.v (a0 : List ByteArray) : Option Bool := lim (fun k => load_list.f k a0 )
theorem load_list.tends (a0 : List ByteArray) : Tends (fun k => load_list.f k a0 ) (load_list.v a0 ) := tends_lim (fun hk => load_list.mono hk a0 )
set_option maxHeartbeats 4000000 in
set_option maxRecDepth 100000 in
theorem load_list.v_eq (a0 : List ByteArray) : load_list.v a0 = ((load_named.v a0 (512 : Int)).bind fun v3 => bif v3 then ((slices_IsSorted_string_string.v a0).bind fun v6 => bif v6 then ((load_once.v a0).bind fun v9 => some v9) else (some false)) else (some false)).bind fun s1 => some s1 := (load_list.tends a0 ).uniq (by
  simp only [load_list.f]
  repeat' (first | with_reducible exact Tends.const _ | apply load_named.tends | apply slices_IsSorted_string_string.tends | apply load_once.tends | refine Tends.cond ?_ ?_ | refine Tends.bind ?_ (fun _ => ?_) | cases ‹Except _ _› | intro _))
/-! smithy/load.settings -/
set_option maxHeartbeats 4000000 in
set_option maxRecDepth 100000 in
theorem load_settings.l0.mono (a0 : Special) : ∀ {k k' : Nat}, k ≤ k' → ∀ s, Le (load_settings.l0 a0 k s) (load_settings.l0 a0 k' s) := by
  intro k
  induction k with
  | zero => exact fun _ s => Le.none _
  | succ k ih =>
    intro k' hk s
    cases k' with
    | zero => exact absurd hk (by omega)
    | succ k' =>
      have hk' := Nat.le_of_succ_le_succ hk
      simp only [load_settings.l0]
      repeat' (first | with_reducible exact Le.refl _ | exact ih hk' _ | apply special_Suffix.mono (hk' := hk') | refine Le.cond ?_ ?_ | refine Le.bind ?_ (fun _ => ?_) | cases ‹Except _ _› | intro _)
noncomputable def load_settings.l0.v (a0 : Special) (s : Int) : Option (Except Bool Unit) := lim (fun k => load_settings.l0 a0 k s)
theorem load_settings.l0.tends (a0 : Special) (s : Int) : Tends (fun k => load_settings.l0 a0 k s) (load_settings.l0.v a0 s) := tends_lim (fun hk => load_settings.l0.mono a0 hk s)
set_option maxHeartbeats 4000000 in
set_option maxRecDepth 100000 in
theorem load_settings.l0.v_eq (a0 : Special) (s7 : Int) : load_settings.l0.v a0 s7 = bif icmp .lss s7 (a0.Suffixes.length : Int) then ((idx a0.Suffixes s7).bind fun x12 => (special_Suffix.v x12).bind fun v14 => bif !v14 then (some (Except.error false)) else (load_settings.l0.v a0 (IntKind.i64.wrap (s7 + (1 : Int))))) else (some (Except.ok ())) := (load_settings.l0.tends a0 s7).shift.uniq (by
  simp only [load_settings.l0]
  repeat' (first | with_reducible exact Tends.const _ | apply special_Suffix.tends | apply load_settings.l0.tends | refine Tends.cond ?_ ?_ | refine Tends.bind ?_ (fun _ => ?_) | cases ‹Except _ _› | intro _))
set_option maxHeartbeats 4000000 in
set_option maxRecDepth 100000 in
theorem load_settings.mono {k k' : Nat} (hk' : k ≤ k') (a0 : Special) : Le (load_settings.f k a0 ) (load_settings.f k' a0 ) := by
  simp only [load_settings.f]
  repeat' (first | with_reducible exact Le.refl _ | apply load_once.mono (hk' := hk') | apply load_list.mono (hk' := hk') | apply load_recipe.mono (hk' := hk') | refine load_settings.l0.mono _ hk' _ | refine Le.cond ?_ ?_ | refine Le.bind ?_ (fun _ => ?_) | cases ‹Except _ _› | intro _)
noncomputable def load_settings.v (a0 : Special) : Option Bool := lim (fun k => load_settings.f k a0 )
theorem load_settings.tends (a0 : Special) : Tends (fun k => load_settings.f k a0 ) (load_settings.v a0 ) := tends_lim (fun hk => load_settings.mono hk a0 )
set_option maxHeartbeats 4000000 in
set_option maxRecDepth 100000 in
theorem load_settings.v_eq (a0 : Special) : load_settings.v a0 = (bif icmp .gtr (a0.Suffixes.length : Int) (32 : Int) then (some true) else ((load_once.v a0.Suffixes).bind fun v4 => some (!v4))).bind fun s1 => bif s1 then (some false) else ((load_settings.l0.v a0 (0 : Int)).bind fun o10 => match o10 with | .error r' => some r' | .ok s8 => (((load_list.v a0.Phony).bind fun v19 => bif v19 then ((load_list.v a0.Precious).bind fun v22 => bif v22 then ((load_list.v a0.Ignore).bind fun v25 => bif v25 then ((load_list.v a0.Silent).bind fun v28 => bif v28 then ((load_recipe.v a0.Default a0.HasDefault).bind fun v31 => some v31) else (some false)) else (some false)) else (some false)) else (some false)).bind fun s17 => some s17)) := (load_settings.tends a0 ).uniq (by
  simp only [load_settings.f]
  repeat' (first | with_reducible exact Tends.const _ | apply load_once.tends | apply load_list.tends | apply load_recipe.tends | apply load_settings.l0.tends | refine Tends.cond ?_ ?_ | refine Tends.bind ?_ (fun _ => ?_) | cases ‹Except _ _› | intro _))
/-! smithy/load.infers -/
set_option maxHeartbeats 4000000 in
set_option maxRecDepth 100000 in
theorem load_infers.l0.mono (a0 : List Infer) (a1 : List ByteArray) : ∀ {k k' : Nat}, k ≤ k' → ∀ s, Le (load_infers.l0 a0 a1 k s) (load_infers.l0 a0 a1 k' s) := by
  intro k
  induction k with
  | zero => exact fun _ s => Le.none _
  | succ k ih =>
    intro k' hk s
    cases k' with
    | zero => exact absurd hk (by omega)
    | succ k' =>
      have hk' := Nat.le_of_succ_le_succ hk
      simp only [load_infers.l0]
      repeat' (first | with_reducible exact Le.refl _ | exact ih hk' _ | apply slices_Contains_string_string.mono (hk' := hk') | apply load_recipe.mono (hk' := hk') | refine Le.cond ?_ ?_ | refine Le.bind ?_ (fun _ => ?_) | cases ‹Except _ _› | intro _)
noncomputable def load_infers.l0.v (a0 : List Infer) (a1 : List ByteArray) (s : (GM Bool) × Int) : Option (Except Bool Unit) := lim (fun k => load_infers.l0 a0 a1 k s)
theorem load_infers.l0.tends (a0 : List Infer) (a1 : List ByteArray) (s : (GM Bool) × Int) : Tends (fun k => load_infers.l0 a0 a1 k s) (load_infers.l0.v a0 a1 s) := tends_lim (fun hk => load_infers.l0.mono a0 a1 hk s)
set_option maxHeartbeats 4000000 in
set_option maxRecDepth 100000 in
theorem load_infers.l0.v_eq (a0 : List Infer) (a1 : List ByteArray) (s1 : (GM Bool) × Int) : load_infers.l0.v a0 a1 s1 = bif icmp .lss s1.2 (a0.length : Int) then ((idx a0 s1.2).bind fun x6 => ((gget s1.1 false (enc2 (x6.From, x6.To))).bind fun x10 => bif x10 then (some true) else ((slices_Contains_string_string.v a1 x6.From).bind fun v13 => bif !v13 then (some true) else (bif scmp .neq x6.To (⟨#[]⟩ : ByteArray) then ((slices_Contains_string_string.v a1 x6.To).bind fun v17 => bif !v17 then (some true) else ((load_recipe.v x6.Recipe true).bind fun v20 => some (!v20))) else ((load_recipe.v x6.Recipe true).bind fun v22 => some (!v22))))).bind fun s8 => bif s8 then (some (Except.error false)) else ((gput s1.1 (enc2 (x6.From, x6.To)) true).bind fun x25 => load_infers.l0.v a0 a1 (x25, IntKind.i64.wrap (s1.2 + (1 : Int))))) else (some (Except.ok ())) := (load_infers.l0.tends a0 a1 s1).shift.uniq (by
  simp only [load_infers.l0]
  repeat' (first | with_reducible exact Tends.const _ | apply slices_Contains_string_string.tends | apply load_recipe.tends | apply load_infers.l0.tends | refine Tends.cond ?_ ?_ | refine Tends.bind ?_ (fun _ => ?_) | cases ‹Except _ _› | intro _))
set_option maxHeartbeats 4000000 in
set_option maxRecDepth 100000 in
theorem load_infers.mono {k k' : Nat} (hk' : k ≤ k') (a0 : List Infer) (a1 : List ByteArray) : Le (load_infers.f k a0 a1 ) (load_infers.f k' a0 a1 ) := by
  simp only [load_infers.f]
  repeat' (first | with_reducible exact Le.refl _ | refine load_infers.l0.mono _ _ hk' _ | refine Le.cond ?_ ?_ | refine Le.bind ?_ (fun _ => ?_) | cases ‹Except _ _› | intro _)
noncomputable def load_infers.v (a0 : List Infer) (a1 : List ByteArray) : Option Bool := lim (fun k => load_infers.f k a0 a1 )
theorem load_infers.tends (a0 : List Infer) (a1 : List ByteArray) : Tends (fun k => load_infers.f k a0 a1 ) (load_infers.v a0 a1 ) := tends_lim (fun hk => load_infers.mono hk a0 a1 )
set_option maxHeartbeats 4000000 in
set_option maxRecDepth 100000 in
theorem load_infers.v_eq (a0 : List Infer) (a1 : List ByteArray) : load_infers.v a0 a1 = (load_infers.l0.v a0 a1 ((gempty : GM Bool), (0 : Int))).bind fun o4 => match o4 with | .error r' => some r' | .ok s2 => (some (icmp .leq (a0.length : Int) (512 : Int))) := (load_infers.tends a0 a1 ).uniq (by
  simp only [load_infers.f]
  repeat' (first | with_reducible exact Tends.const _ | apply load_infers.l0.tends | refine Tends.cond ?_ ?_ | refine Tends.bind ?_ (fun _ => ?_) | cases ‹Except _ _› | intro _))
/-! smithy/load.Check$1 -/
/-! slices.IndexFunc[[]smithy/api.Rule,smithy/api.Rule] -/
set_option maxHeartbeats 4000000 in
set_option maxRecDepth 100000 in
theorem slices_IndexFunc_api_Rule_api_Rule.l0.mono {a1 a1' : Rule → Option Bool} (hpa1 : ∀ z0, Le (a1 z0) (a1' z0)) (a0 : List Rule) : ∀ {k k' : Nat}, k ≤ k' → ∀ s, Le (slices_IndexFunc_api_Rule_api_Rule.l0 a0 a1 k s) (slices_IndexFunc_api_Rule_api_Rule.l0 a0 a1' k' s) := by
  intro k
  induction k with
  | zero => exact fun _ s => Le.none _
  | succ k ih =>
    intro k' hk s
    cases k' with
    | zero => exact absurd hk (by omega)
    | succ k' =>
      have hk' := Nat.le_of_succ_le_succ hk
      simp only [slices_IndexFunc_api_Rule_api_Rule.l0]
      repeat' (first | with_reducible exact Le.refl _ | exact hpa1 _ | exact ih hk' _ | refine Le.cond ?_ ?_ | refine Le.bind ?_ (fun _ => ?_) | cases ‹Except _ _› | intro _)
noncomputable def slices_IndexFunc_api_Rule_api_Rule.l0.v (a0 : List Rule) (a1 : Rule → Option Bool) (s : Int) : Option (Except Int Unit) := lim (fun k => slices_IndexFunc_api_Rule_api_Rule.l0 a0 a1 k s)
theorem slices_IndexFunc_api_Rule_api_Rule.l0.tends (a0 : List Rule) (a1 : Rule → Option Bool) (s : Int) : Tends (fun k => slices_IndexFunc_api_Rule_api_Rule.l0 a0 a1 k s) (slices_IndexFunc_api_Rule_api_Rule.l0.v a0 a1 s) := tends_lim (fun hk => slices_IndexFunc_api_Rule_api_Rule.l0.mono (fun _ => Le.refl _) a0 hk s)
set_option maxHeartbeats 4000000 in
set_option maxRecDepth 100000 in
theorem slices_IndexFunc_api_Rule_api_Rule.l0.v_eq (a0 : List Rule) (a1 : Rule → Option Bool) (s1 : Int) : slices_IndexFunc_api_Rule_api_Rule.l0.v a0 a1 s1 = bif icmp .lss s1 (a0.length : Int) then ((idx a0 s1).bind fun x6 => (a1 x6).bind fun v8 => bif v8 then (some (Except.error s1)) else (slices_IndexFunc_api_Rule_api_Rule.l0.v a0 a1 (IntKind.i64.wrap (s1 + (1 : Int))))) else (some (Except.ok ())) := (slices_IndexFunc_api_Rule_api_Rule.l0.tends a0 a1 s1).shift.uniq (by
  simp only [slices_IndexFunc_api_Rule_api_Rule.l0]
  repeat' (first | with_reducible exact Tends.const _ | apply slices_IndexFunc_api_Rule_api_Rule.l0.tends | refine Tends.cond ?_ ?_ | refine Tends.bind ?_ (fun _ => ?_) | cases ‹Except _ _› | intro _))
set_option maxHeartbeats 4000000 in
set_option maxRecDepth 100000 in
theorem slices_IndexFunc_api_Rule_api_Rule.l0.tendsP {pa1 : Nat → Rule → Option Bool} {qa1 : Rule → Option Bool} (hpa1 : ∀ z0, Tends (fun j => pa1 j z0) (qa1 z0)) (a0 : List Rule) : ∀ (K : Nat) s, Tends (fun j => slices_IndexFunc_api_Rule_api_Rule.l0 a0 (pa1 j) K s) (slices_IndexFunc_api_Rule_api_Rule.l0 a0 qa1 K s) := by
  intro K
  induction K with
  | zero => exact fun s => Tends.const _
  | succ K ih =>
    intro s
    simp only [slices_IndexFunc_api_Rule_api_Rule.l0]
    repeat' (first | with_reducible exact Tends.const _ | exact hpa1 _ | exact ih _ | refine Tends.cond ?_ ?_ | refine Tends.bind ?_ (fun _ => ?_) | cases ‹Except _ _› | intro _)
set_option maxHeartbeats 4000000 in
set_option maxRecDepth 100000 in
theorem slices_IndexFunc_api_Rule_api_Rule.mono {k k' : Nat} (hk' : k ≤ k') {a1 a1' : Rule → Option Bool} (hpa1 : ∀ z0, Le (a1 z0) (a1' z0)) (a0 : List Rule) : Le (slices_IndexFunc_api_Rule_api_Rule.f k a0 a1 ) (slices_IndexFunc_api_Rule_api_Rule.f k' a0 a1' ) := by
  simp only [slices_IndexFunc_api_Rule_api_Rule.f]
  repeat' (first | with_reducible exact Le.refl _ | exact hpa1 _ | refine slices_IndexFunc_api_Rule_api_Rule.l0.mono hpa1 _ hk' _ | refine Le.cond ?_ ?_ | refine Le.bind ?_ (fun _ => ?_) | cases ‹Except _ _› | intro _)
noncomputable def slices_IndexFunc_api_Rule_api_Rule.v (a0 : List Rule) (a1 : Rule → Option Bool) : Option Int := lim (fun k => slices_IndexFunc_api_Rule_api_Rule.f k a0 a1 )
theorem slices_IndexFunc_api_Rule_api_Rule.tends (a0 : List Rule) (a1 : Rule → Option Bool) : Tends (fun k => slices_IndexFunc_api_Rule_api_Rule.f k a0 a1 ) (slices_IndexFunc_api_Rule_api_Rule.v a0 a1 ) := tends_lim (fun hk => slices_IndexFunc_api_Rule_api_Rule.mono hk (fun _ => Le.refl _) a0 )
set_option maxHeartbeats 4000000 in
set_option maxRecDepth 100000 in
theorem slices_IndexFunc_api_Rule_api_Rule.v_eq (a0 : List Rule) (a1 : Rule → Option Bool) : slices_IndexFunc_api_Rule_api_Rule.v a0 a1 = (slices_IndexFunc_api_Rule_api_Rule.l0.v a0 a1 (0 : Int)).bind fun o4 => match o4 with | .error r' => some r' | .ok s2 => (some (-1 : Int)) := (slices_IndexFunc_api_Rule_api_Rule.tends a0 a1 ).uniq (by
  simp only [slices_IndexFunc_api_Rule_api_Rule.f]
  repeat' (first | with_reducible exact Tends.const _ | apply slices_IndexFunc_api_Rule_api_Rule.l0.tends | refine Tends.cond ?_ ?_ | refine Tends.bind ?_ (fun _ => ?_) | cases ‹Except _ _› | intro _))
set_option maxHeartbeats 4000000 in
set_option maxRecDepth 100000 in
theorem slices_IndexFunc_api_Rule_api_Rule.tendsP {pa1 : Nat → Rule → Option Bool} {qa1 : Rule → Option Bool} (hpa1 : ∀ z0, Tends (fun j => pa1 j z0) (qa1 z0)) (a0 : List Rule) (K : Nat) : Tends (fun j => slices_IndexFunc_api_Rule_api_Rule.f K a0 (pa1 j) ) (slices_IndexFunc_api_Rule_api_Rule.f K a0 qa1 ) := by
  simp only [slices_IndexFunc_api_Rule_api_Rule.f]
  repeat' (first | with_reducible exact Tends.const _ | exact hpa1 _ | refine slices_IndexFunc_api_Rule_api_Rule.l0.tendsP hpa1 _ _ _ | refine Tends.cond ?_ ?_ | refine Tends.bind ?_ (fun _ => ?_) | cases ‹Except _ _› | intro _)
theorem slices_IndexFunc_api_Rule_api_Rule.tends2 {pa1 : Nat → Rule → Option Bool} {qa1 : Rule → Option Bool} (hpa1 : ∀ z0, Tends (fun j => pa1 j z0) (qa1 z0)) (a0 : List Rule) : Tends (fun k => slices_IndexFunc_api_Rule_api_Rule.f k a0 (pa1 k) ) (slices_IndexFunc_api_Rule_api_Rule.v a0 qa1 ) := Tends.diag (f := fun K j => slices_IndexFunc_api_Rule_api_Rule.f K a0 (pa1 j) ) (fun K => slices_IndexFunc_api_Rule_api_Rule.tendsP hpa1 a0 K) (fun h j => slices_IndexFunc_api_Rule_api_Rule.mono h (fun _ => Le.refl _) a0 ) (slices_IndexFunc_api_Rule_api_Rule.tends a0 qa1 )
/-! slices.ContainsFunc[[]smithy/api.Rule,smithy/api.Rule] -/
set_option maxHeartbeats 4000000 in
set_option maxRecDepth 100000 in
theorem slices_ContainsFunc_api_Rule_api_Rule.mono {k k' : Nat} (hk' : k ≤ k') {a1 a1' : Rule → Option Bool} (hpa1 : ∀ z0, Le (a1 z0) (a1' z0)) (a0 : List Rule) : Le (slices_ContainsFunc_api_Rule_api_Rule.f k a0 a1 ) (slices_ContainsFunc_api_Rule_api_Rule.f k' a0 a1' ) := by
  simp only [slices_ContainsFunc_api_Rule_api_Rule.f]
  repeat' (first | with_reducible exact Le.refl _ | exact hpa1 _ | apply slices_IndexFunc_api_Rule_api_Rule.mono (hk' := hk') | refine Le.cond ?_ ?_ | refine Le.bind ?_ (fun _ => ?_) | cases ‹Except _ _› | intro _)
noncomputable def slices_ContainsFunc_api_Rule_api_Rule.v (a0 : List Rule) (a1 : Rule → Option Bool) : Option Bool := lim (fun k => slices_ContainsFunc_api_Rule_api_Rule.f k a0 a1 )
theorem slices_ContainsFunc_api_Rule_api_Rule.tends (a0 : List Rule) (a1 : Rule → Option Bool) : Tends (fun k => slices_ContainsFunc_api_Rule_api_Rule.f k a0 a1 ) (slices_ContainsFunc_api_Rule_api_Rule.v a0 a1 ) := tends_lim (fun hk => slices_ContainsFunc_api_Rule_api_Rule.mono hk (fun _ => Le.refl _) a0 )
set_option maxHeartbeats 4000000 in
set_option maxRecDepth 100000 in
theorem slices_ContainsFunc_api_Rule_api_Rule.v_eq (a0 : List Rule) (a1 : Rule → Option Bool) : slices_ContainsFunc_api_Rule_api_Rule.v a0 a1 = (slices_IndexFunc_api_Rule_api_Rule.v a0 a1).bind fun v1 => some (icmp .geq v1 (0 : Int)) := (slices_ContainsFunc_api_Rule_api_Rule.tends a0 a1 ).uniq (by
  simp only [slices_ContainsFunc_api_Rule_api_Rule.f]
  repeat' (first | with_reducible exact Tends.const _ | apply slices_IndexFunc_api_Rule_api_Rule.tends2 | refine Tends.cond ?_ ?_ | refine Tends.bind ?_ (fun _ => ?_) | cases ‹Except _ _› | intro _))
set_option maxHeartbeats 4000000 in
set_option maxRecDepth 100000 in
theorem slices_ContainsFunc_api_Rule_api_Rule.tendsP {pa1 : Nat → Rule → Option Bool} {qa1 : Rule → Option Bool} (hpa1 : ∀ z0, Tends (fun j => pa1 j z0) (qa1 z0)) (a0 : List Rule) (K : Nat) : Tends (fun j => slices_ContainsFunc_api_Rule_api_Rule.f K a0 (pa1 j) ) (slices_ContainsFunc_api_Rule_api_Rule.f K a0 qa1 ) := by
  simp only [slices_ContainsFunc_api_Rule_api_Rule.f]
  repeat' (first | with_reducible exact Tends.const _ | exact hpa1 _ | apply slices_IndexFunc_api_Rule_api_Rule.tendsP | refine Tends.cond ?_ ?_ | refine Tends.bind ?_ (fun _ => ?_) | cases ‹Except _ _› | intro _)
theorem slices_ContainsFunc_api_Rule_api_Rule.tends2 {pa1 : Nat → Rule → Option Bool} {qa1 : Rule → Option Bool} (hpa1 : ∀ z0, Tends (fun j => pa1 j z0) (qa1 z0)) (a0 : List Rule) : Tends (fun k => slices_ContainsFunc_api_Rule_api_Rule.f k a0 (pa1 k) ) (slices_ContainsFunc_api_Rule_api_Rule.v a0 qa1 ) := Tends.diag (f := fun K j => slices_ContainsFunc_api_Rule_api_Rule.f K a0 (pa1 j) ) (fun K => slices_ContainsFunc_api_Rule_api_Rule.tendsP hpa1 a0 K) (fun h j => slices_ContainsFunc_api_Rule_api_Rule.mono h (fun _ => Le.refl _) a0 ) (slices_ContainsFunc_api_Rule_api_Rule.tends a0 qa1 )
/-! smithy/load.Check -/
set_option maxHeartbeats 4000000 in
set_option maxRecDepth 100000 in
theorem load_Check.mono {k k' : Nat} (hk' : k ≤ k') (a0 : Make) : Le (load_Check.f k a0 ) (load_Check.f k' a0 ) := by
  simp only [load_Check.f]
  repeat' (first | with_reducible exact Le.refl _ | apply macro_Check.mono (hk' := hk') | apply load_rules.mono (hk' := hk') | apply load_settings.mono (hk' := hk') | apply load_infers.mono (hk' := hk') | apply slices_ContainsFunc_api_Rule_api_Rule.mono (hk' := hk') | refine Le.cond ?_ ?_ | refine Le.bind ?_ (fun _ => ?_) | cases ‹Except _ _› | intro _)
noncomputable def load_Check.v (a0 : Make) : Option Int := lim (fun k => load_Check.f k a0 )
theorem load_Check.tends (a0 : Make) : Tends (fun k => load_Check.f k a0 ) (load_Check.v a0 ) := tends_lim (fun hk => load_Check.mono hk a0 )
set_option maxHeartbeats 4000000 in
set_option maxRecDepth 100000 in
theorem load_Check.v_eq (a0 : Make) : load_Check.v a0 = ((macro_Check.v a0.Macros).bind fun v3 => bif icmp .eql v3 (0 : Int) then ((load_rules.v a0.Rules).bind fun v6 => bif v6 then ((load_settings.v a0.Special).bind fun v9 => bif v9 then ((load_infers.v a0.Infers a0.Special.Suffixes).bind fun v12 => some v12) else (some false)) else (some false)) else (some false)).bind fun s1 => (bif s1 then (bif scmp .eql a0.First (⟨#[]⟩ : ByteArray) then (some true) else ((slices_ContainsFunc_api_Rule_api_Rule.v a0.Rules (fun (z0 : Rule) => load_Check_1.f z0 a0)).bind fun v18 => some v18)) else (some false)).bind fun s14 => bif !s14 then (some (6 : Int)) else (some (0 : Int)) := (load_Check.tends a0 ).uniq (by
  simp only [load_Check.f]
  repeat' (first | with_reducible exact Tends.const _ | apply macro_Check.tends | apply load_rules.tends | apply load_settings.tends | apply load_infers.tends | apply slices_ContainsFunc_api_Rule_api_Rule.tends2 | refine Tends.cond ?_ ?_ | refine Tends.bind ?_ (fun _ => ?_) | cases ‹Except _ _› | intro _))
/-! smithy/graph.asked -/
set_option maxHeartbeats 4000000 in
set_option maxRecDepth 100000 in
theorem graph_asked.l0.mono (a1 : List ByteArray) : ∀ {k k' : Nat}, k ≤ k' → ∀ s, Le (graph_asked.l0 a1 k s) (graph_asked.l0 a1 k' s) := by
  intro k
  induction k with
  | zero => exact fun _ s => Le.none _
  | succ k ih =>
    intro k' hk s
    cases k' with
    | zero => exact absurd hk (by omega)
    | succ k' =>
      have hk' := Nat.le_of_succ_le_succ hk
      simp only [graph_asked.l0]
      repeat' (first | with_reducible exact Le.refl _ | exact ih hk' _ | apply names_Check.mono (hk' := hk') | refine Le.cond ?_ ?_ | refine Le.bind ?_ (fun _ => ?_) | cases ‹Except _ _› | intro _)
noncomputable def graph_asked.l0.v (a1 : List ByteArray) (s : Int) : Option (Except Int Unit) := lim (fun k => graph_asked.l0 a1 k s)
theorem graph_asked.l0.tends (a1 : List ByteArray) (s : Int) : Tends (fun k => graph_asked.l0 a1 k s) (graph_asked.l0.v a1 s) := tends_lim (fun hk => graph_asked.l0.mono a1 hk s)
set_option maxHeartbeats 4000000 in
set_option maxRecDepth 100000 in
theorem graph_asked.l0.v_eq (a1 : List ByteArray) (s5 : Int) : graph_asked.l0.v a1 s5 = bif icmp .lss s5 (a1.length : Int) then ((idx a1 s5).bind fun x10 => (names_Check.v x10).bind fun v12 => bif icmp .neq v12 (0 : Int) then (some (Except.error v12)) else (graph_asked.l0.v a1 (IntKind.i64.wrap (s5 + (1 : Int))))) else (some (Except.ok ())) := (graph_asked.l0.tends a1 s5).shift.uniq (by
  simp only [graph_asked.l0]
  repeat' (first | with_reducible exact Tends.const _ | apply names_Check.tends | apply graph_asked.l0.tends | refine Tends.cond ?_ ?_ | refine Tends.bind ?_ (fun _ => ?_) | cases ‹Except _ _› | intro _))
set_option maxHeartbeats 4000000 in
set_option maxRecDepth 100000 in
theorem graph_asked.mono {k k' : Nat} (hk' : k ≤ k') (a0 : Make) (a1 : List ByteArray) : Le (graph_asked.f k a0 a1 ) (graph_asked.f k' a0 a1 ) := by
  simp only [graph_asked.f]
  repeat' (first | with_reducible exact Le.refl _ | apply load_Check.mono (hk' := hk') | refine graph_asked.l0.mono _ hk' _ | refine Le.cond ?_ ?_ | refine Le.bind ?_ (fun _ => ?_) | cases ‹Except _ _› | intro _)
noncomputable def graph_asked.v (a0 : Make) (a1 : List ByteArray) : Option Int := lim (fun k => graph_asked.f k a0 a1 )
theorem graph_asked.tends (a0 : Make) (a1 : List ByteArray) : Tends (fun k => graph_asked.f k a0 a1 ) (graph_asked.v a0 a1 ) := tends_lim (fun hk => graph_asked.mono hk a0 a1 )
set_option maxHeartbeats 4000000 in
set_option maxRecDepth 100000 in
theorem graph_asked.v_eq (a0 : Make) (a1 : List ByteArray) : graph_asked.v a0 a1 = (load_Check.v a0).bind fun v1 => bif icmp .neq v1 (0 : Int) then (some v1) else (bif icmp .gtr (a1.length : Int) (512 : Int) then (some (2 : Int)) else ((graph_asked.l0.v a1 (0 : Int)).bind fun o8 => match o8 with | .error r' => some r' | .ok s6 => (some (0 : Int)))) := (graph_asked.tends a0 a1 ).uniq (by
  simp only [graph_asked.f]
  repeat' (first | with_reducible exact Tends.const _ | apply load_Check.tends | apply graph_asked.l0.tends | refine Tends.cond ?_ ?_ | refine Tends.bind ?_ (fun _ => ?_) | cases ‹Except _ _› | intro _))
/-! smithy/graph.needs -/
set_option maxHeartbeats 4000000 in
set_option maxRecDepth 100000 in
theorem graph_needs.l0.mono (a0 : Make) : ∀ {k k' : Nat}, k ≤ k' → ∀ s, Le (graph_needs.l0 a0 k s) (graph_needs.l0 a0 k' s) := by
  intro k
  induction k with
  | zero => exact fun _ s => Le.none _
  | succ k ih =>
    intro k' hk s
    cases k' with
    | zero => exact absurd hk (by omega)
    | succ k' =>
      have hk' := Nat.le_of_succ_le_succ hk
      simp only [graph_needs.l0]
      repeat' (first | with_reducible exact Le.refl _ | exact ih hk' _ | refine Le.cond ?_ ?_ | refine Le.bind ?_ (fun _ => ?_) | cases ‹Except _ _› | intro _)
noncomputable def graph_needs.l0.v (a0 : Make) (s : (GM (List ByteArray)) × Int) : Option (GM (List ByteArray)) := lim (fun k => graph_needs.l0 a0 k s)
theorem graph_needs.l0.tends (a0 : Make) (s : (GM (List ByteArray)) × Int) : Tends (fun k => graph_needs.l0 a0 k s) (graph_needs.l0.v a0 s) := tends_lim (fun hk => graph_needs.l0.mono a0 hk s)
set_option maxHeartbeats 4000000 in
set_option maxRecDepth 100000 in
theorem graph_needs.l0.v_eq (a0 : Make) (s1 : (GM (List ByteArray)) × Int) : graph_needs.l0.v a0 s1 = bif icmp .lss s1.2 (a0.Rules.length : Int) then ((idx a0.Rules s1.2).bind fun x5 => (gput s1.1 x5.Target x5.Needs).bind fun x7 => graph_needs.l0.v a0 (x7, IntKind.i64.wrap (s1.2 + (1 : Int)))) else (some s1.1) := (graph_needs.l0.tends a0 s1).shift.uniq (by
  simp only [graph_needs.l0]
  repeat' (first | with_reducible exact Tends.const _ | apply graph_needs.l0.tends | refine Tends.cond ?_ ?_ | refine Tends.bind ?_ (fun _ => ?_) | cases ‹Except _ _› | intro _))
set_option maxHeartbeats 4000000 in
set_option maxRecDepth 100000 in
theorem graph_needs.mono {k k' : Nat} (hk' : k ≤ k') (a0 : Make) : Le (graph_needs.f k a0 ) (graph_needs.f k' a0 ) := by
  simp only [graph_needs.f]
  repeat' (first | with_reducible exact Le.refl _ | refine graph_needs.l0.mono _ hk' _ | refine Le.cond ?_ ?_ | refine Le.bind ?_ (fun _ => ?_) | cases ‹Except _ _› | intro _)
noncomputable def graph_needs.v (a0 : Make) : Option (GM (List ByteArray)) := lim (fun k => graph_needs.f k a0 )
theorem graph_needs.tends (a0 : Make) : Tends (fun k => graph_needs.f k a0 ) (graph_needs.v a0 ) := tends_lim (fun hk => graph_needs.mono hk a0 )
set_option maxHeartbeats 4000000 in
set_option maxRecDepth 100000 in
theorem graph_needs.v_eq (a0 : Make) : graph_needs.v a0 = (graph_needs.l0.v a0 ((gempty : GM (List ByteArray)), (0 : Int))).bind fun s2 => some s2 := (graph_needs.tends a0 ).uniq (by
  simp only [graph_needs.f]
  repeat' (first | with_reducible exact Tends.const _ | apply graph_needs.l0.tends | refine Tends.cond ?_ ?_ | refine Tends.bind ?_ (fun _ => ?_) | cases ‹Except _ _› | intro _))
/-! smithy/graph.walk -/
set_option maxHeartbeats 4000000 in
set_option maxRecDepth 100000 in
theorem graph_walk.l2.mono (s2 : (GM Int) × (List ByteArray) × (List GraphFrame)) (x7 : GraphFrame) (x16 : ByteArray) (x18 : List ByteArray) : ∀ {k k' : Nat}, k ≤ k' → ∀ s, Le (graph_walk.l2 s2 x7 x16 x18 k s) (graph_walk.l2 s2 x7 x16 x18 k' s) := by
  intro k
  induction k with
  | zero => exact fun _ s => Le.none _
  | succ k ih =>
    intro k' hk s
    cases k' with
    | zero => exact absurd hk (by omega)
    | succ k' =>
      have hk' := Nat.le_of_succ_le_succ hk
      simp only [graph_walk.l2]
      repeat' (first | with_reducible exact Le.refl _ | exact ih hk' _ | refine Le.cond ?_ ?_ | refine Le.bind ?_ (fun _ => ?_) | cases ‹Except _ _› | intro _)
noncomputable def graph_walk.l2.v (s2 : (GM Int) × (List ByteArray) × (List GraphFrame)) (x7 : GraphFrame) (x16 : ByteArray) (x18 : List ByteArray) (s : (List ByteArray) × Int) : Option (List ByteArray) := lim (fun k => graph_walk.l2 s2 x7 x16 x18 k s)
theorem graph_walk.l2.tends (s2 : (GM Int) × (List ByteArray) × (List GraphFrame)) (x7 : GraphFrame) (x16 : ByteArray) (x18 : List ByteArray) (s : (List ByteArray) × Int) : Tends (fun k => graph_walk.l2 s2 x7 x16 x18 k s) (graph_walk.l2.v s2 x7 x16 x18 s) := tends_lim (fun hk => graph_walk.l2.mono s2 x7 x16 x18 hk s)
set_option maxHeartbeats 4000000 in
set_option maxRecDepth 100000 in
theorem graph_walk.l2.v_eq (s2 : (GM Int) × (List ByteArray) × (List GraphFrame)) (x7 : GraphFrame) (x16 : ByteArray) (x18 : List ByteArray) (s23 : (List ByteArray) × Int) : graph_walk.l2.v s2 x7 x16 x18 s23 = (idx (s2.2.2.set (IntKind.i64.wrap ((s2.2.2.length : Int) - (1 : Int))).toNat ({ x7 with left := x18 })) s23.2).bind fun x26 => (app 16 s23.1 ([x26.name])).bind fun x28 => (idx (s2.2.2.set (IntKind.i64.wrap ((s2.2.2.length : Int) - (1 : Int))).toNat ({ x7 with left := x18 })) s23.2).bind fun x30 => bif scmp .eql x30.name x16 then (some x28) else (graph_walk.l2.v s2 x7 x16 x18 (x28, IntKind.i64.wrap (s23.2 - (1 : Int)))) := (graph_walk.l2.tends s2 x7 x16 x18 s23).shift.uniq (by
  simp only [graph_walk.l2]
  repeat' (first | with_reducible exact Tends.const _ | apply graph_walk.l2.tends | refine Tends.cond ?_ ?_ | refine Tends.bind ?_ (fun _ => ?_) | cases ‹Except _ _› | intro _))
set_option maxHeartbeats 4000000 in
set_option maxRecDepth 100000 in
theorem graph_walk.l1.mono (s1 : (GM (List ByteArray)) × (GM Int) × (List ByteArray) × (List GraphFrame) × (List ByteArray)) : ∀ {k k' : Nat}, k ≤ k' → ∀ s, Le (graph_walk.l1 s1 k s) (graph_walk.l1 s1 k' s) := by
  intro k
  induction k with
  | zero => exact fun _ s => Le.none _
  | succ k ih =>
    intro k' hk s
    cases k' with
    | zero => exact absurd hk (by omega)
    | succ k' =>
      have hk' := Nat.le_of_succ_le_succ hk
      simp only [graph_walk.l1]
      repeat' (first | with_reducible exact Le.refl _ | exact ih hk' _ | refine graph_walk.l2.mono _ _ _ _ hk' _ | refine Le.cond ?_ ?_ | refine Le.bind ?_ (fun _ => ?_) | cases ‹Except _ _› | intro _)
noncomputable def graph_walk.l1.v (s1 : (GM (List ByteArray)) × (GM Int) × (List ByteArray) × (List GraphFrame) × (List ByteArray)) (s : (GM Int) × (List ByteArray) × (List GraphFrame)) : Option (Except ((List ByteArray) × (List ByteArray)) ((List ByteArray) × (List GraphFrame) × (GM Int))) := lim (fun k => graph_walk.l1 s1 k s)
theorem graph_walk.l1.tends (s1 : (GM (List ByteArray)) × (GM Int) × (List ByteArray) × (List GraphFrame) × (List ByteArray)) (s : (GM Int) × (List ByteArray) × (List GraphFrame)) : Tends (fun k => graph_walk.l1 s1 k s) (graph_walk.l1.v s1 s) := tends_lim (fun hk => graph_walk.l1.mono s1 hk s)
set_option maxHeartbeats 4000000 in
set_option maxRecDepth 100000 in
theorem graph_walk.l1.v_eq (s1 : (GM (List ByteArray)) × (GM Int) × (List ByteArray) × (List GraphFrame) × (List ByteArray)) (s2 : (GM Int) × (List ByteArray) × (List GraphFrame)) : graph_walk.l1.v s1 s2 = bif icmp .gtr (s2.2.2.length : Int) (0 : Int) then ((idx s2.2.2 (IntKind.i64.wrap ((s2.2.2.length : Int) - (1 : Int)))).bind fun x7 => bif icmp .eql (x7.left.length : Int) (0 : Int) then ((gput s2.1 x7.name (2 : Int)).bind fun x10 => (app 16 s2.2.1 ([x7.name])).bind fun x12 => (inrow s2.2.2 (IntKind.i64.wrap ((s2.2.2.length : Int) - (1 : Int)))).bind fun z14 => graph_walk.l1.v s1 (x10, x12, s2.2.2.take (IntKind.i64.wrap ((s2.2.2.length : Int) - (1 : Int))).toNat)) else ((idx x7.left (0 : Int)).bind fun x16 => (sub x7.left (1 : Int) (x7.left.length : Int)).bind fun x18 => (gget s2.1 (0 : Int) x16).bind fun x20 => bif icmp .eql x20 (1 : Int) then ((graph_walk.l2.v s2 x7 x16 x18 (([] : List ByteArray), IntKind.i64.wrap (((s2.2.2.set (IntKind.i64.wrap ((s2.2.2.length : Int) - (1 : Int))).toNat ({ x7 with left := x18 })).length : Int) - (1 : Int)))).bind fun s24 => (slices_Reverse_string_string.f s24).bind fun v33 => some (Except.error (([] : List ByteArray), v33))) else (bif icmp .eql x20 (2 : Int) then (graph_walk.l1.v s1 (s2.1, s2.2.1, s2.2.2.set (IntKind.i64.wrap ((s2.2.2.length : Int) - (1 : Int))).toNat ({ x7 with left := x18 }))) else ((gput s2.1 x16 (1 : Int)).bind fun x36 => (gget s1.1 ([] : List ByteArray) x16).bind fun x38 => (app 40 (s2.2.2.set (IntKind.i64.wrap ((s2.2.2.length : Int) - (1 : Int))).toNat ({ x7 with left := x18 })) ([(⟨x16, x38⟩ : GraphFrame)])).bind fun x40 => graph_walk.l1.v s1 (x36, s2.2.1, x40))))) else (some (Except.ok (s2.2.1, s2.2.2, s2.1))) := (graph_walk.l1.tends s1 s2).shift.uniq (by
  simp only [graph_walk.l1]
  repeat' (first | with_reducible exact Tends.const _ | apply graph_walk.l2.tends | apply graph_walk.l1.tends | refine Tends.cond ?_ ?_ | refine Tends.bind ?_ (fun _ => ?_) | cases ‹Except _ _› | intro _))
set_option maxHeartbeats 4000000 in
set_option maxRecDepth 100000 in
theorem graph_walk.l0.mono : ∀ {k k' : Nat}, k ≤ k' → ∀ s, Le (graph_walk.l0 k s) (graph_walk.l0 k' s) := by
  intro k
  induction k with
  | zero => exact fun _ s => Le.none _
  | succ k ih =>
    intro k' hk s
    cases k' with
    | zero => exact absurd hk (by omega)
    | succ k' =>
      have hk' := Nat.le_of_succ_le_succ hk
      simp only [graph_walk.l0]
      repeat' (first | with_reducible exact Le.refl _ | exact ih hk' _ | refine graph_walk.l1.mono _ hk' _ | refine Le.cond ?_ ?_ | refine Le.bind ?_ (fun _ => ?_) | cases ‹Except _ _› | intro _)
noncomputable def graph_walk.l0.v (s : (GM (List ByteArray)) × (GM Int) × (List ByteArray) × (List GraphFrame) × (List ByteArray)) : Option ((List ByteArray) × (List ByteArray)) := lim (fun k => graph_walk.l0 k s)
theorem graph_walk.l0.tends (s : (GM (List ByteArray)) × (GM Int) × (List ByteArray) × (List GraphFrame) × (List ByteArray)) : Tends (fun k => graph_walk.l0 k s) (graph_walk.l0.v s) := tends_lim (fun hk => graph_walk.l0.mono hk s)
set_option maxHeartbeats 4000000 in
set_option maxRecDepth 100000 in
theorem graph_walk.l0.v_eq (s1 : (GM (List ByteArray)) × (GM Int) × (List ByteArray) × (List GraphFrame) × (List ByteArray)) : graph_walk.l0.v s1 = (graph_walk.l1.v s1 (s1.2.1, s1.2.2.1, s1.2.2.2.1)).bind fun o5 => match o5 with | .error r' => some r' | .ok s3 => (bif icmp .gtr (s1.2.2.2.2.length : Int) (0 : Int) then ((idx s1.2.2.2.2 (0 : Int)).bind fun x43 => (sub s1.2.2.2.2 (1 : Int) (s1.2.2.2.2.length : Int)).bind fun x45 => (gget s3.2.2 (0 : Int) x43).bind fun x47 => bif icmp .eql x47 (0 : Int) then ((gput s3.2.2 x43 (1 : Int)).bind fun x50 => (gget s1.1 ([] : List ByteArray) x43).bind fun x52 => (app 40 s3.2.1 ([(⟨x43, x52⟩ : GraphFrame)])).bind fun x54 => graph_walk.l0.v (s1.1, x50, s3.1, x54, x45)) else (graph_walk.l0.v (s1.1, s3.2.2, s3.1, s3.2.1, x45))) else (some (s3.1, ([] : List ByteArray)))) := (graph_walk.l0.tends s1).shift.uniq (by
  simp only [graph_walk.l0]
  repeat' (first | with_reducible exact Tends.const _ | apply graph_walk.l1.tends | apply graph_walk.l0.tends | refine Tends.cond ?_ ?_ | refine Tends.bind ?_ (fun _ => ?_) | cases ‹Except _ _› | intro _))
set_option maxHeartbeats 4000000 in
set_option maxRecDepth 100000 in
theorem graph_walk.mono {k k' : Nat} (hk' : k ≤ k') (a0 : Make) (a1 : List ByteArray) : Le (graph_walk.f k a0 a1 ) (graph_walk.f k' a0 a1 ) := by
  simp only [graph_walk.f]
  repeat' (first | with_reducible exact Le.refl _ | apply graph_needs.mono (hk' := hk') | refine graph_walk.l0.mono hk' _ | refine Le.cond ?_ ?_ | refine Le.bind ?_ (fun _ => ?_) | cases ‹Except _ _› | intro _)
noncomputable def graph_walk.v (a0 : Make) (a1 : List ByteArray) : Option ((List ByteArray) × (List ByteArray)) := lim (fun k => graph_walk.f k a0 a1 )
theorem graph_walk.tends (a0 : Make) (a1 : List ByteArray) : Tends (fun k => graph_walk.f k a0 a1 ) (graph_walk.v a0 a1 ) := tends_lim (fun hk => graph_walk.mono hk a0 a1 )
set_option maxHeartbeats 4000000 in
set_option maxRecDepth 100000 in
theorem graph_walk.v_eq (a0 : Make) (a1 : List ByteArray) : graph_walk.v a0 a1 = (graph_needs.v a0).bind fun v56 => graph_walk.l0.v (v56, (gempty : GM Int), ([] : List ByteArray), ([] : List GraphFrame), a1) := (graph_walk.tends a0 a1 ).uniq (by
  simp only [graph_walk.f]
  repeat' (first | with_reducible exact Tends.const _ | apply graph_needs.tends | apply graph_walk.l0.tends | refine Tends.cond ?_ ?_ | refine Tends.bind ?_ (fun _ => ?_) | cases ‹Except _ _› | intro _))
/-! smithy/graph.Order -/
set_option maxHeartbeats 4000000 in
set_option maxRecDepth 100000 in
theorem graph_Order.mono {k k' : Nat} (hk' : k ≤ k') (a0 : Make) (a1 : List ByteArray) : Le (graph_Order.f k a0 a1 ) (graph_Order.f k' a0 a1 ) := by
  simp only [graph_Order.f]
  repeat' (first | with_reducible exact Le.refl _ | apply graph_asked.mono (hk' := hk') | apply graph_walk.mono (hk' := hk') | refine Le.cond ?_ ?_ | refine Le.bind ?_ (fun _ => ?_) | cases ‹Except _ _› | intro _)
noncomputable def graph_Order.v (a0 : Make) (a1 : List ByteArray) : Option ((List ByteArray) × Int) := lim (fun k => graph_Order.f k a0 a1 )
theorem graph_Order.tends (a0 : Make) (a1 : List ByteArray) : Tends (fun k => graph_Order.f k a0 a1 ) (graph_Order.v a0 a1 ) := tends_lim (fun hk => graph_Order.mono hk a0 a1 )
set_option maxHeartbeats 4000000 in
set_option maxRecDepth 100000 in
theorem graph_Order.v_eq (a0 : Make) (a1 : List ByteArray) : graph_Order.v a0 a1 = (graph_asked.v a0 a1).bind fun v1 => bif icmp .neq v1 (0 : Int) then (some (([] : List ByteArray), v1)) else ((graph_walk.v a0 a1).bind fun v4 => bif icmp .gtr (v4.2.length : Int) (0 : Int) then (some (([] : List ByteArray), (100 : Int))) else (some (v4.1, (0 : Int)))) := (graph_Order.tends a0 a1 ).uniq (by
  simp only [graph_Order.f]
  repeat' (first | with_reducible exact Tends.const _ | apply graph_asked.tends | apply graph_walk.tends | refine Tends.cond ?_ ?_ | refine Tends.bind ?_ (fun _ => ?_) | cases ‹Except _ _› | intro _))
/-! smithy/graph.Ring -/
set_option maxHeartbeats 4000000 in
set_option maxRecDepth 100000 in
theorem graph_Ring.mono {k k' : Nat} (hk' : k ≤ k') (a0 : Make) (a1 : List ByteArray) : Le (graph_Ring.f k a0 a1 ) (graph_Ring.f k' a0 a1 ) := by
  simp only [graph_Ring.f]
  repeat' (first | with_reducible exact Le.refl _ | apply graph_asked.mono (hk' := hk') | apply graph_walk.mono (hk' := hk') | refine Le.cond ?_ ?_ | refine Le.bind ?_ (fun _ => ?_) | cases ‹Except _ _› | intro _)
noncomputable def graph_Ring.v (a0 : Make) (a1 : List ByteArray) : Option ((List ByteArray) × Bool × Int) := lim (fun k => graph_Ring.f k a0 a1 )
theorem graph_Ring.tends (a0 : Make) (a1 : List ByteArray) : Tends (fun k => graph_Ring.f k a0 a1 ) (graph_Ring.v a0 a1 ) := tends_lim (fun hk => graph_Ring.mono hk a0 a1 )
set_option maxHeartbeats 4000000 in
set_option maxRecDepth 100000 in
theorem graph_Ring.v_eq (a0 : Make) (a1 : List ByteArray) : graph_Ring.v a0 a1 = (graph_asked.v a0 a1).bind fun v1 => bif icmp .neq v1 (0 : Int) then (some (([] : List ByteArray), false, v1)) else ((graph_walk.v a0 a1).bind fun v4 => some (v4.2, icmp .gtr (v4.2.length : Int) (0 : Int), (0 : Int))) := (graph_Ring.tends a0 a1 ).uniq (by
  simp only [graph_Ring.f]
  repeat' (first | with_reducible exact Tends.const _ | apply graph_asked.tends | apply graph_walk.tends | refine Tends.cond ?_ ?_ | refine Tends.bind ?_ (fun _ => ?_) | cases ‹Except _ _› | intro _))
/-! smithy/smithyref05.Name -/
set_option maxHeartbeats 4000000 in
set_option maxRecDepth 100000 in
theorem smithyref05_Name.l0.mono (a0 : ByteArray) : ∀ {k k' : Nat}, k ≤ k' → ∀ s, Le (smithyref05_Name.l0 a0 k s) (smithyref05_Name.l0 a0 k' s) := by
  intro k
  induction k with
  | zero => exact fun _ s => Le.none _
  | succ k ih =>
    intro k' hk s
    cases k' with
    | zero => exact absurd hk (by omega)
    | succ k' =>
      have hk' := Nat.le_of_succ_le_succ hk
      simp only [smithyref05_Name.l0]
      repeat' (first | with_reducible exact Le.refl _ | exact ih hk' _ | refine Le.cond ?_ ?_ | refine Le.bind ?_ (fun _ => ?_) | cases ‹Except _ _› | intro _)
noncomputable def smithyref05_Name.l0.v (a0 : ByteArray) (s : Int) : Option (Except Bool Unit) := lim (fun k => smithyref05_Name.l0 a0 k s)
theorem smithyref05_Name.l0.tends (a0 : ByteArray) (s : Int) : Tends (fun k => smithyref05_Name.l0 a0 k s) (smithyref05_Name.l0.v a0 s) := tends_lim (fun hk => smithyref05_Name.l0.mono a0 hk s)
set_option maxHeartbeats 4000000 in
set_option maxRecDepth 100000 in
theorem smithyref05_Name.l0.v_eq (a0 : ByteArray) (s5 : Int) : smithyref05_Name.l0.v a0 s5 = bif icmp .lss s5 (a0.size : Int) then ((bidx a0 s5).bind fun x10 => (bif icmp .geq x10 (65 : Int) then (bif icmp .leq x10 (90 : Int) then (some (!true)) else (bif icmp .geq x10 (97 : Int) then (bif icmp .leq x10 (122 : Int) then (some (!true)) else (bif icmp .geq x10 (48 : Int) then (bif icmp .leq x10 (57 : Int) then (some (!true)) else (bif icmp .eql x10 (95 : Int) then (some (!true)) else (some (!(icmp .eql x10 (46 : Int)))))) else (bif icmp .eql x10 (95 : Int) then (some (!true)) else (some (!(icmp .eql x10 (46 : Int))))))) else (bif icmp .geq x10 (48 : Int) then (bif icmp .leq x10 (57 : Int) then (some (!true)) else (bif icmp .eql x10 (95 : Int) then (some (!true)) else (some (!(icmp .eql x10 (46 : Int)))))) else (bif icmp .eql x10 (95 : Int) then (some (!true)) else (some (!(icmp .eql x10 (46 : Int)))))))) else (bif icmp .geq x10 (97 : Int) then (bif icmp .leq x10 (122 : Int) then (some (!true)) else (bif icmp .geq x10 (48 : Int) then (bif icmp .leq x10 (57 : Int) then (some (!true)) else (bif icmp .eql x10 (95 : Int) then (some (!true)) else (some (!(icmp .eql x10 (46 : Int)))))) else (bif icmp .eql x10 (95 : Int) then (some (!true)) else (some (!(icmp .eql x10 (46 : Int))))))) else (bif icmp .geq x10 (48 : Int) then (bif icmp .leq x10 (57 : Int) then (some (!true)) else (bif icmp .eql x10 (95 : Int) then (some (!true)) else (some (!(icmp .eql x10 (46 : Int)))))) else (bif icmp .eql x10 (95 : Int) then (some (!true)) else (some (!(icmp .eql x10 (46 : Int)))))))).bind fun s12 => bif s12 then (some (Except.error false)) else (smithyref05_Name.l0.v a0 (IntKind.i64.wrap (s5 + (1 : Int))))) else (some (Except.ok ())) := (smithyref05_Name.l0.tends a0 s5).shift.uniq (by
  simp only [smithyref05_Name.l0]
  repeat' (first | with_reducible exact Tends.const _ | apply smithyref05_Name.l0.tends | refine Tends.cond ?_ ?_ | refine Tends.bind ?_ (fun _ => ?_) | cases ‹Except _ _› | intro _))
set_option maxHeartbeats 4000000 in
set_option maxRecDepth 100000 in
theorem smithyref05_Name.mono {k k' : Nat} (hk' : k ≤ k') (a0 : ByteArray) : Le (smithyref05_Name.f k a0 ) (smithyref05_Name.f k' a0 ) := by
  simp only [smithyref05_Name.f]
  repeat' (first | with_reducible exact Le.refl _ | refine smithyref05_Name.l0.mono _ hk' _ | refine Le.cond ?_ ?_ | refine Le.bind ?_ (fun _ => ?_) | cases ‹Except _ _› | intro _)
noncomputable def smithyref05_Name.v (a0 : ByteArray) : Option Bool := lim (fun k => smithyref05_Name.f k a0 )
theorem smithyref05_Name.tends (a0 : ByteArray) : Tends (fun k => smithyref05_Name.f k a0 ) (smithyref05_Name.v a0 ) := tends_lim (fun hk => smithyref05_Name.mono hk a0 )
set_option maxHeartbeats 4000000 in
set_option maxRecDepth 100000 in
theorem smithyref05_Name.v_eq (a0 : ByteArray) : smithyref05_Name.v a0 = (bif icmp .lss (a0.size : Int) (1 : Int) then (some true) else (some (icmp .gtr (a0.size : Int) (64 : Int)))).bind fun s1 => bif s1 then (some false) else ((smithyref05_Name.l0.v a0 (0 : Int)).bind fun o8 => match o8 with | .error r' => some r' | .ok s6 => (some true)) := (smithyref05_Name.tends a0 ).uniq (by
  simp only [smithyref05_Name.f]
  repeat' (first | with_reducible exact Tends.const _ | apply smithyref05_Name.l0.tends | refine Tends.cond ?_ ?_ | refine Tends.bind ?_ (fun _ => ?_) | cases ‹Except _ _› | intro _))
/-! smithy/smithyref05.One -/
set_option maxHeartbeats 4000000 in
set_option maxRecDepth 100000 in
theorem smithyref05_One.mono {k k' : Nat} (hk' : k ≤ k') (a0 : Macro) : Le (smithyref05_One.f k a0 ) (smithyref05_One.f k' a0 ) := by
  simp only [smithyref05_One.f]
  repeat' (first | with_reducible exact Le.refl _ | apply smithyref05_Name.mono (hk' := hk') | refine Le.cond ?_ ?_ | refine Le.bind ?_ (fun _ => ?_) | cases ‹Except _ _› | intro _)
noncomputable def smithyref05_One.v (a0 : Macro) : Option Int := lim (fun k => smithyref05_One.f k a0 )
theorem smithyref05_One.tends (a0 : Macro) : Tends (fun k => smithyref05_One.f k a0 ) (smithyref05_One.v a0 ) := tends_lim (fun hk => smithyref05_One.mono hk a0 )
set_option maxHeartbeats 4000000 in
set_option maxRecDepth 100000 in
theorem smithyref05_One.v_eq (a0 : Macro) : smithyref05_One.v a0 = (smithyref05_Name.v a0.Name).bind fun v1 => bif !v1 then (some (50 : Int)) else ((bif icmp .lss a0.Level (0 : Int) then (some true) else (some (icmp .gtr a0.Level (2 : Int)))).bind fun s4 => bif s4 then (some (51 : Int)) else (bif icmp .gtr (a0.Value.size : Int) (8192 : Int) then (some (41 : Int)) else (some (0 : Int)))) := (smithyref05_One.tends a0 ).uniq (by
  simp only [smithyref05_One.f]
  repeat' (first | with_reducible exact Tends.const _ | apply smithyref05_Name.tends | refine Tends.cond ?_ ?_ | refine Tends.bind ?_ (fun _ => ?_) | cases ‹Except _ _› | intro _))
/-! smithy/smithyref05.Check -/
set_option maxHeartbeats 4000000 in
set_option maxRecDepth 100000 in
theorem smithyref05_Check.l0.mono (a0 : List Macro) : ∀ {k k' : Nat}, k ≤ k' → ∀ s, Le (smithyref05_Check.l0 a0 k s) (smithyref05_Check.l0 a0 k' s) := by
  intro k
  induction k with
  | zero => exact fun _ s => Le.none _
  | succ k ih =>
    intro k' hk s
    cases k' with
    | zero => exact absurd hk (by omega)
    | succ k' =>
      have hk' := Nat.le_of_succ_le_succ hk
      simp only [smithyref05_Check.l0]
      repeat' (first | with_reducible exact Le.refl _ | exact ih hk' _ | apply smithyref05_One.mono (hk' := hk') | refine Le.cond ?_ ?_ | refine Le.bind ?_ (fun _ => ?_) | cases ‹Except _ _› | intro _)
noncomputable def smithyref05_Check.l0.v (a0 : List Macro) (s : Int) : Option (Except Int Unit) := lim (fun k => smithyref05_Check.l0 a0 k s)
theorem smithyref05_Check.l0.tends (a0 : List Macro) (s : Int) : Tends (fun k => smithyref05_Check.l0 a0 k s) (smithyref05_Check.l0.v a0 s) := tends_lim (fun hk => smithyref05_Check.l0.mono a0 hk s)
set_option maxHeartbeats 4000000 in
set_option maxRecDepth 100000 in
theorem smithyref05_Check.l0.v_eq (a0 : List Macro) (s2 : Int) : smithyref05_Check.l0.v a0 s2 = bif icmp .lss s2 (a0.length : Int) then ((idx a0 s2).bind fun x7 => (smithyref05_One.v x7).bind fun v9 => bif icmp .neq v9 (0 : Int) then (some (Except.error v9)) else (smithyref05_Check.l0.v a0 (IntKind.i64.wrap (s2 + (1 : Int))))) else (some (Except.ok ())) := (smithyref05_Check.l0.tends a0 s2).shift.uniq (by
  simp only [smithyref05_Check.l0]
  repeat' (first | with_reducible exact Tends.const _ | apply smithyref05_One.tends | apply smithyref05_Check.l0.tends | refine Tends.cond ?_ ?_ | refine Tends.bind ?_ (fun _ => ?_) | cases ‹Except _ _› | intro _))
set_option maxHeartbeats 4000000 in
set_option maxRecDepth 100000 in
theorem smithyref05_Check.l1.mono (a0 : List Macro) : ∀ {k k' : Nat}, k ≤ k' → ∀ s, Le (smithyref05_Check.l1 a0 k s) (smithyref05_Check.l1 a0 k' s) := by
  intro k
  induction k with
  | zero => exact fun _ s => Le.none _
  | succ k ih =>
    intro k' hk s
    cases k' with
    | zero => exact absurd hk (by omega)
    | succ k' =>
      have hk' := Nat.le_of_succ_le_succ hk
      simp only [smithyref05_Check.l1]
      repeat' (first | with_reducible exact Le.refl _ | exact ih hk' _ | refine Le.cond ?_ ?_ | refine Le.bind ?_ (fun _ => ?_) | cases ‹Except _ _› | intro _)
noncomputable def smithyref05_Check.l1.v (a0 : List Macro) (s : Int) : Option (Except Int Unit) := lim (fun k => smithyref05_Check.l1 a0 k s)
theorem smithyref05_Check.l1.tends (a0 : List Macro) (s : Int) : Tends (fun k => smithyref05_Check.l1 a0 k s) (smithyref05_Check.l1.v a0 s) := tends_lim (fun hk => smithyref05_Check.l1.mono a0 hk s)
set_option maxHeartbeats 4000000 in
set_option maxRecDepth 100000 in
theorem smithyref05_Check.l1.v_eq (a0 : List Macro) (s12 : Int) : smithyref05_Check.l1.v a0 s12 = bif icmp .lss s12 (a0.length : Int) then ((idx a0 (IntKind.i64.wrap (s12 - (1 : Int)))).bind fun x17 => (idx a0 s12).bind fun x19 => bif scmp .geq x17.Name x19.Name then (some (Except.error (5 : Int))) else (smithyref05_Check.l1.v a0 (IntKind.i64.wrap (s12 + (1 : Int))))) else (some (Except.ok ())) := (smithyref05_Check.l1.tends a0 s12).shift.uniq (by
  simp only [smithyref05_Check.l1]
  repeat' (first | with_reducible exact Tends.const _ | apply smithyref05_Check.l1.tends | refine Tends.cond ?_ ?_ | refine Tends.bind ?_ (fun _ => ?_) | cases ‹Except _ _› | intro _))
set_option maxHeartbeats 4000000 in
set_option maxRecDepth 100000 in
theorem smithyref05_Check.mono {k k' : Nat} (hk' : k ≤ k') (a0 : List Macro) : Le (smithyref05_Check.f k a0 ) (smithyref05_Check.f k' a0 ) := by
  simp only [smithyref05_Check.f]
  repeat' (first | with_reducible exact Le.refl _ | refine smithyref05_Check.l0.mono _ hk' _ | refine smithyref05_Check.l1.mono _ hk' _ | refine Le.cond ?_ ?_ | refine Le.bind ?_ (fun _ => ?_) | cases ‹Except _ _› | intro _)
noncomputable def smithyref05_Check.v (a0 : List Macro) : Option Int := lim (fun k => smithyref05_Check.f k a0 )
theorem smithyref05_Check.tends (a0 : List Macro) : Tends (fun k => smithyref05_Check.f k a0 ) (smithyref05_Check.v a0 ) := tends_lim (fun hk => smithyref05_Check.mono hk a0 )
set_option maxHeartbeats 4000000 in
set_option maxRecDepth 100000 in
theorem smithyref05_Check.v_eq (a0 : List Macro) : smithyref05_Check.v a0 = bif icmp .gtr (a0.length : Int) (256 : Int) then (some (2 : Int)) else ((smithyref05_Check.l0.v a0 (0 : Int)).bind fun o5 => match o5 with | .error r' => some r' | .ok s3 => ((smithyref05_Check.l1.v a0 (1 : Int)).bind fun o15 => match o15 with | .error r' => some r' | .ok s13 => (some (0 : Int)))) := (smithyref05_Check.tends a0 ).uniq (by
  simp only [smithyref05_Check.f]
  repeat' (first | with_reducible exact Tends.const _ | apply smithyref05_Check.l0.tends | apply smithyref05_Check.l1.tends | refine Tends.cond ?_ ?_ | refine Tends.bind ?_ (fun _ => ?_) | cases ‹Except _ _› | intro _))
/-! smithy/smithyref02.Name -/
set_option maxHeartbeats 4000000 in
set_option maxRecDepth 100000 in
theorem smithyref02_Name.l0.mono (a0 : ByteArray) : ∀ {k k' : Nat}, k ≤ k' → ∀ s, Le (smithyref02_Name.l0 a0 k s) (smithyref02_Name.l0 a0 k' s) := by
  intro k
  induction k with
  | zero => exact fun _ s => Le.none _
  | succ k ih =>
    intro k' hk s
    cases k' with
    | zero => exact absurd hk (by omega)
    | succ k' =>
      have hk' := Nat.le_of_succ_le_succ hk
      simp only [smithyref02_Name.l0]
      repeat' (first | with_reducible exact Le.refl _ | exact ih hk' _ | refine Le.cond ?_ ?_ | refine Le.bind ?_ (fun _ => ?_) | cases ‹Except _ _› | intro _)
noncomputable def smithyref02_Name.l0.v (a0 : ByteArray) (s : Int) : Option (Except Bool Unit) := lim (fun k => smithyref02_Name.l0 a0 k s)
theorem smithyref02_Name.l0.tends (a0 : ByteArray) (s : Int) : Tends (fun k => smithyref02_Name.l0 a0 k s) (smithyref02_Name.l0.v a0 s) := tends_lim (fun hk => smithyref02_Name.l0.mono a0 hk s)
set_option maxHeartbeats 4000000 in
set_option maxRecDepth 100000 in
theorem smithyref02_Name.l0.v_eq (a0 : ByteArray) (s1 : Int) : smithyref02_Name.l0.v a0 s1 = bif icmp .lss s1 (a0.size : Int) then ((bidx a0 s1).bind fun x6 => (bif icmp .geq x6 (97 : Int) then (bif icmp .leq x6 (122 : Int) then (some true) else (bif icmp .geq x6 (65 : Int) then (bif icmp .leq x6 (90 : Int) then (some true) else (bif icmp .geq x6 (48 : Int) then (some (icmp .leq x6 (57 : Int))) else (some false))) else (bif icmp .geq x6 (48 : Int) then (some (icmp .leq x6 (57 : Int))) else (some false)))) else (bif icmp .geq x6 (65 : Int) then (bif icmp .leq x6 (90 : Int) then (some true) else (bif icmp .geq x6 (48 : Int) then (some (icmp .leq x6 (57 : Int))) else (some false))) else (bif icmp .geq x6 (48 : Int) then (some (icmp .leq x6 (57 : Int))) else (some false)))).bind fun s8 => (bif !s8 then (bif icmp .neq x6 (95 : Int) then (bif icmp .neq x6 (45 : Int) then (bif icmp .neq x6 (46 : Int) then (bif icmp .neq x6 (47 : Int) then (some (icmp .neq x6 (43 : Int))) else (some false)) else (some false)) else (some false)) else (some false)) else (some false)).bind fun s20 => bif s20 then (some (Except.error false)) else (smithyref02_Name.l0.v a0 (IntKind.i64.wrap (s1 + (1 : Int))))) else (some (Except.ok ())) := (smithyref02_Name.l0.tends a0 s1).shift.uniq (by
  simp only [smithyref02_Name.l0]
  repeat' (first | with_reducible exact Tends.const _ | apply smithyref02_Name.l0.tends | refine Tends.cond ?_ ?_ | refine Tends.bind ?_ (fun _ => ?_) | cases ‹Except _ _› | intro _))
set_option maxHeartbeats 4000000 in
set_option maxRecDepth 100000 in
theorem smithyref02_Name.mono {k k' : Nat} (hk' : k ≤ k') (a0 : ByteArray) : Le (smithyref02_Name.f k a0 ) (smithyref02_Name.f k' a0 ) := by
  simp only [smithyref02_Name.f]
  repeat' (first | with_reducible exact Le.refl _ | refine smithyref02_Name.l0.mono _ hk' _ | refine Le.cond ?_ ?_ | refine Le.bind ?_ (fun _ => ?_) | cases ‹Except _ _› | intro _)
noncomputable def smithyref02_Name.v (a0 : ByteArray) : Option Bool := lim (fun k => smithyref02_Name.f k a0 )
theorem smithyref02_Name.tends (a0 : ByteArray) : Tends (fun k => smithyref02_Name.f k a0 ) (smithyref02_Name.v a0 ) := tends_lim (fun hk => smithyref02_Name.mono hk a0 )
set_option maxHeartbeats 4000000 in
set_option maxRecDepth 100000 in
theorem smithyref02_Name.v_eq (a0 : ByteArray) : smithyref02_Name.v a0 = (smithyref02_Name.l0.v a0 (0 : Int)).bind fun o4 => match o4 with | .error r' => some r' | .ok s2 => ((bif icmp .gtr (a0.size : Int) (0 : Int) then (some (icmp .leq (a0.size : Int) (64 : Int))) else (some false)).bind fun s28 => some s28) := (smithyref02_Name.tends a0 ).uniq (by
  simp only [smithyref02_Name.f]
  repeat' (first | with_reducible exact Tends.const _ | apply smithyref02_Name.l0.tends | refine Tends.cond ?_ ?_ | refine Tends.bind ?_ (fun _ => ?_) | cases ‹Except _ _› | intro _))
/-! smithy/smithyref08.Suffix -/
set_option maxHeartbeats 4000000 in
set_option maxRecDepth 100000 in
theorem smithyref08_Suffix.l0.mono (a0 : ByteArray) : ∀ {k k' : Nat}, k ≤ k' → ∀ s, Le (smithyref08_Suffix.l0 a0 k s) (smithyref08_Suffix.l0 a0 k' s) := by
  intro k
  induction k with
  | zero => exact fun _ s => Le.none _
  | succ k ih =>
    intro k' hk s
    cases k' with
    | zero => exact absurd hk (by omega)
    | succ k' =>
      have hk' := Nat.le_of_succ_le_succ hk
      simp only [smithyref08_Suffix.l0]
      repeat' (first | with_reducible exact Le.refl _ | exact ih hk' _ | refine Le.cond ?_ ?_ | refine Le.bind ?_ (fun _ => ?_) | cases ‹Except _ _› | intro _)
noncomputable def smithyref08_Suffix.l0.v (a0 : ByteArray) (s : Int) : Option (Except Bool Unit) := lim (fun k => smithyref08_Suffix.l0 a0 k s)
theorem smithyref08_Suffix.l0.tends (a0 : ByteArray) (s : Int) : Tends (fun k => smithyref08_Suffix.l0 a0 k s) (smithyref08_Suffix.l0.v a0 s) := tends_lim (fun hk => smithyref08_Suffix.l0.mono a0 hk s)
set_option maxHeartbeats 4000000 in
set_option maxRecDepth 100000 in
theorem smithyref08_Suffix.l0.v_eq (a0 : ByteArray) (s1 : Int) : smithyref08_Suffix.l0.v a0 s1 = bif icmp .lss s1 (a0.size : Int) then (((bidx a0 s1).bind fun x8 => bif icmp .eql x8 (46 : Int) then (some true) else ((bidx a0 s1).bind fun x11 => some (icmp .eql x11 (47 : Int)))).bind fun s6 => bif s6 then (some (Except.error false)) else (smithyref08_Suffix.l0.v a0 (IntKind.i64.wrap (s1 + (1 : Int))))) else (some (Except.ok ())) := (smithyref08_Suffix.l0.tends a0 s1).shift.uniq (by
  simp only [smithyref08_Suffix.l0]
  repeat' (first | with_reducible exact Tends.const _ | apply smithyref08_Suffix.l0.tends | refine Tends.cond ?_ ?_ | refine Tends.bind ?_ (fun _ => ?_) | cases ‹Except _ _› | intro _))
set_option maxHeartbeats 4000000 in
set_option maxRecDepth 100000 in
theorem smithyref08_Suffix.mono {k k' : Nat} (hk' : k ≤ k') (a0 : ByteArray) : Le (smithyref08_Suffix.f k a0 ) (smithyref08_Suffix.f k' a0 ) := by
  simp only [smithyref08_Suffix.f]
  repeat' (first | with_reducible exact Le.refl _ | apply smithyref02_Name.mono (hk' := hk') | refine smithyref08_Suffix.l0.mono _ hk' _ | refine Le.cond ?_ ?_ | refine Le.bind ?_ (fun _ => ?_) | cases ‹Except _ _› | intro _)
noncomputable def smithyref08_Suffix.v (a0 : ByteArray) : Option Bool := lim (fun k => smithyref08_Suffix.f k a0 )
theorem smithyref08_Suffix.tends (a0 : ByteArray) : Tends (fun k => smithyref08_Suffix.f k a0 ) (smithyref08_Suffix.v a0 ) := tends_lim (fun hk => smithyref08_Suffix.mono hk a0 )
set_option maxHeartbeats 4000000 in
set_option maxRecDepth 100000 in
theorem smithyref08_Suffix.v_eq (a0 : ByteArray) : smithyref08_Suffix.v a0 = (smithyref08_Suffix.l0.v a0 (1 : Int)).bind fun o4 => match o4 with | .error r' => some r' | .ok s2 => ((bif icmp .gtr (a0.size : Int) (1 : Int) then ((bidx a0 (0 : Int)).bind fun x17 => bif icmp .eql x17 (46 : Int) then ((smithyref02_Name.v a0).bind fun v20 => some v20) else (some false)) else (some false)).bind fun s14 => some s14) := (smithyref08_Suffix.tends a0 ).uniq (by
  simp only [smithyref08_Suffix.f]
  repeat' (first | with_reducible exact Tends.const _ | apply smithyref02_Name.tends | apply smithyref08_Suffix.l0.tends | refine Tends.cond ?_ ?_ | refine Tends.bind ?_ (fun _ => ?_) | cases ‹Except _ _› | intro _))
/-! smithy/smithyref03.Has -/
set_option maxHeartbeats 4000000 in
set_option maxRecDepth 100000 in
theorem smithyref03_Has.l0.mono (a0 : List ByteArray) (a1 : ByteArray) : ∀ {k k' : Nat}, k ≤ k' → ∀ s, Le (smithyref03_Has.l0 a0 a1 k s) (smithyref03_Has.l0 a0 a1 k' s) := by
  intro k
  induction k with
  | zero => exact fun _ s => Le.none _
  | succ k ih =>
    intro k' hk s
    cases k' with
    | zero => exact absurd hk (by omega)
    | succ k' =>
      have hk' := Nat.le_of_succ_le_succ hk
      simp only [smithyref03_Has.l0]
      repeat' (first | with_reducible exact Le.refl _ | exact ih hk' _ | refine Le.cond ?_ ?_ | refine Le.bind ?_ (fun _ => ?_) | cases ‹Except _ _› | intro _)
noncomputable def smithyref03_Has.l0.v (a0 : List ByteArray) (a1 : ByteArray) (s : Int) : Option (Except Bool Unit) := lim (fun k => smithyref03_Has.l0 a0 a1 k s)
theorem smithyref03_Has.l0.tends (a0 : List ByteArray) (a1 : ByteArray) (s : Int) : Tends (fun k => smithyref03_Has.l0 a0 a1 k s) (smithyref03_Has.l0.v a0 a1 s) := tends_lim (fun hk => smithyref03_Has.l0.mono a0 a1 hk s)
set_option maxHeartbeats 4000000 in
set_option maxRecDepth 100000 in
theorem smithyref03_Has.l0.v_eq (a0 : List ByteArray) (a1 : ByteArray) (s1 : Int) : smithyref03_Has.l0.v a0 a1 s1 = bif icmp .lss s1 (a0.length : Int) then ((idx a0 s1).bind fun x6 => bif scmp .eql x6 a1 then (some (Except.error true)) else (smithyref03_Has.l0.v a0 a1 (IntKind.i64.wrap (s1 + (1 : Int))))) else (some (Except.ok ())) := (smithyref03_Has.l0.tends a0 a1 s1).shift.uniq (by
  simp only [smithyref03_Has.l0]
  repeat' (first | with_reducible exact Tends.const _ | apply smithyref03_Has.l0.tends | refine Tends.cond ?_ ?_ | refine Tends.bind ?_ (fun _ => ?_) | cases ‹Except _ _› | intro _))
set_option maxHeartbeats 4000000 in
set_option maxRecDepth 100000 in
theorem smithyref03_Has.mono {k k' : Nat} (hk' : k ≤ k') (a0 : List ByteArray) (a1 : ByteArray) : Le (smithyref03_Has.f k a0 a1 ) (smithyref03_Has.f k' a0 a1 ) := by
  simp only [smithyref03_Has.f]
  repeat' (first | with_reducible exact Le.refl _ | refine smithyref03_Has.l0.mono _ _ hk' _ | refine Le.cond ?_ ?_ | refine Le.bind ?_ (fun _ => ?_) | cases ‹Except _ _› | intro _)
noncomputable def smithyref03_Has.v (a0 : List ByteArray) (a1 : ByteArray) : Option Bool := lim (fun k => smithyref03_Has.f k a0 a1 )
theorem smithyref03_Has.tends (a0 : List ByteArray) (a1 : ByteArray) : Tends (fun k => smithyref03_Has.f k a0 a1 ) (smithyref03_Has.v a0 a1 ) := tends_lim (fun hk => smithyref03_Has.mono hk a0 a1 )
set_option maxHeartbeats 4000000 in
set_option maxRecDepth 100000 in
theorem smithyref03_Has.v_eq (a0 : List ByteArray) (a1 : ByteArray) : smithyref03_Has.v a0 a1 = (smithyref03_Has.l0.v a0 a1 (0 : Int)).bind fun o4 => match o4 with | .error r' => some r' | .ok s2 => (some false) := (smithyref03_Has.tends a0 a1 ).uniq (by
  simp only [smithyref03_Has.f]
  repeat' (first | with_reducible exact Tends.const _ | apply smithyref03_Has.l0.tends | refine Tends.cond ?_ ?_ | refine Tends.bind ?_ (fun _ => ?_) | cases ‹Except _ _› | intro _))
/-! smithy/smithyref03.letter -/
/-! smithy/smithyref03.Is -/
set_option maxHeartbeats 4000000 in
set_option maxRecDepth 100000 in
theorem smithyref03_Is.l0.mono (a0 : ByteArray) : ∀ {k k' : Nat}, k ≤ k' → ∀ s, Le (smithyref03_Is.l0 a0 k s) (smithyref03_Is.l0 a0 k' s) := by
  intro k
  induction k with
  | zero => exact fun _ s => Le.none _
  | succ k ih =>
    intro k' hk s
    cases k' with
    | zero => exact absurd hk (by omega)
    | succ k' =>
      have hk' := Nat.le_of_succ_le_succ hk
      simp only [smithyref03_Is.l0]
      repeat' (first | with_reducible exact Le.refl _ | exact ih hk' _ | refine Le.cond ?_ ?_ | refine Le.bind ?_ (fun _ => ?_) | cases ‹Except _ _› | intro _)
noncomputable def smithyref03_Is.l0.v (a0 : ByteArray) (s : Int) : Option (Except Bool Unit) := lim (fun k => smithyref03_Is.l0 a0 k s)
theorem smithyref03_Is.l0.tends (a0 : ByteArray) (s : Int) : Tends (fun k => smithyref03_Is.l0 a0 k s) (smithyref03_Is.l0.v a0 s) := tends_lim (fun hk => smithyref03_Is.l0.mono a0 hk s)
set_option maxHeartbeats 4000000 in
set_option maxRecDepth 100000 in
theorem smithyref03_Is.l0.v_eq (a0 : ByteArray) (s5 : Int) : smithyref03_Is.l0.v a0 s5 = bif icmp .lss s5 (a0.size : Int) then ((bidx a0 s5).bind fun x10 => (smithyref03_letter.f x10).bind fun v12 => bif !v12 then (some (Except.error false)) else (smithyref03_Is.l0.v a0 (IntKind.i64.wrap (s5 + (1 : Int))))) else (some (Except.ok ())) := (smithyref03_Is.l0.tends a0 s5).shift.uniq (by
  simp only [smithyref03_Is.l0]
  repeat' (first | with_reducible exact Tends.const _ | apply smithyref03_Is.l0.tends | refine Tends.cond ?_ ?_ | refine Tends.bind ?_ (fun _ => ?_) | cases ‹Except _ _› | intro _))
set_option maxHeartbeats 4000000 in
set_option maxRecDepth 100000 in
theorem smithyref03_Is.mono {k k' : Nat} (hk' : k ≤ k') (a0 : ByteArray) : Le (smithyref03_Is.f k a0 ) (smithyref03_Is.f k' a0 ) := by
  simp only [smithyref03_Is.f]
  repeat' (first | with_reducible exact Le.refl _ | refine smithyref03_Is.l0.mono _ hk' _ | refine Le.cond ?_ ?_ | refine Le.bind ?_ (fun _ => ?_) | cases ‹Except _ _› | intro _)
noncomputable def smithyref03_Is.v (a0 : ByteArray) : Option Bool := lim (fun k => smithyref03_Is.f k a0 )
theorem smithyref03_Is.tends (a0 : ByteArray) : Tends (fun k => smithyref03_Is.f k a0 ) (smithyref03_Is.v a0 ) := tends_lim (fun hk => smithyref03_Is.mono hk a0 )
set_option maxHeartbeats 4000000 in
set_option maxRecDepth 100000 in
theorem smithyref03_Is.v_eq (a0 : ByteArray) : smithyref03_Is.v a0 = (bif icmp .lss (a0.size : Int) (1 : Int) then (some true) else (some (icmp .gtr (a0.size : Int) (64 : Int)))).bind fun s1 => bif s1 then (some false) else ((smithyref03_Is.l0.v a0 (0 : Int)).bind fun o8 => match o8 with | .error r' => some r' | .ok s6 => (some true)) := (smithyref03_Is.tends a0 ).uniq (by
  simp only [smithyref03_Is.f]
  repeat' (first | with_reducible exact Tends.const _ | apply smithyref03_Is.l0.tends | refine Tends.cond ?_ ?_ | refine Tends.bind ?_ (fun _ => ?_) | cases ‹Except _ _› | intro _))
end Go.Proofs.Ytlpmolohppoofaa.F
