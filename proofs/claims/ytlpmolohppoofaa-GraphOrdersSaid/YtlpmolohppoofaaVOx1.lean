import Derived.Test.YtlpmolohppoofaaVOx0
set_option linter.unusedVariables false
set_option linter.unusedSimpArgs false
set_option linter.unnecessarySimpa false
set_option linter.deprecated false
namespace Go.Proofs.Ytlpmolohppoofaa.F
open Go Go.RowKit Go.Proofs.Ytlpmolohppoofaa.Sl
/-! smithy/smithyref09.listed -/
set_option maxHeartbeats 4000000 in
set_option maxRecDepth 100000 in
theorem smithyref09_listed.l0.mono (a0 : List ByteArray) : ∀ {k k' : Nat}, k ≤ k' → ∀ s, Le (smithyref09_listed.l0 a0 k s) (smithyref09_listed.l0 a0 k' s) := by
  intro k
  induction k with
  | zero => exact fun _ s => Le.none _
  | succ k ih =>
    intro k' hk s
    cases k' with
    | zero => exact absurd hk (by omega)
    | succ k' =>
      have hk' := Nat.le_of_succ_le_succ hk
      simp only [smithyref09_listed.l0]
      repeat' (first | with_reducible exact Le.refl _ | exact ih hk' _ | apply smithyref03_Is.mono (hk' := hk') | refine Le.cond ?_ ?_ | refine Le.bind ?_ (fun _ => ?_) | cases ‹Except _ _› | intro _)
noncomputable def smithyref09_listed.l0.v (a0 : List ByteArray) (s : Int) : Option (Except Bool Unit) := lim (fun k => smithyref09_listed.l0 a0 k s)
theorem smithyref09_listed.l0.tends (a0 : List ByteArray) (s : Int) : Tends (fun k => smithyref09_listed.l0 a0 k s) (smithyref09_listed.l0.v a0 s) := tends_lim (fun hk => smithyref09_listed.l0.mono a0 hk s)
set_option maxHeartbeats 4000000 in
set_option maxRecDepth 100000 in
theorem smithyref09_listed.l0.v_eq (a0 : List ByteArray) (s1 : Int) : smithyref09_listed.l0.v a0 s1 = bif icmp .lss s1 (a0.length : Int) then ((idx a0 s1).bind fun x6 => ((smithyref03_Is.v x6).bind fun v10 => bif !v10 then (some true) else (bif icmp .gtr s1 (0 : Int) then ((idx a0 (IntKind.i64.wrap (s1 - (1 : Int)))).bind fun x14 => some (scmp .geq x14 x6)) else (some false))).bind fun s8 => bif s8 then (some (Except.error false)) else (smithyref09_listed.l0.v a0 (IntKind.i64.wrap (s1 + (1 : Int))))) else (some (Except.ok ())) := (smithyref09_listed.l0.tends a0 s1).shift.uniq (by
  simp only [smithyref09_listed.l0]
  repeat' (first | with_reducible exact Tends.const _ | apply smithyref03_Is.tends | apply smithyref09_listed.l0.tends | refine Tends.cond ?_ ?_ | refine Tends.bind ?_ (fun _ => ?_) | cases ‹Except _ _› | intro _))
set_option maxHeartbeats 4000000 in
set_option maxRecDepth 100000 in
theorem smithyref09_listed.mono {k k' : Nat} (hk' : k ≤ k') (a0 : List ByteArray) : Le (smithyref09_listed.f k a0 ) (smithyref09_listed.f k' a0 ) := by
  simp only [smithyref09_listed.f]
  repeat' (first | with_reducible exact Le.refl _ | refine smithyref09_listed.l0.mono _ hk' _ | refine Le.cond ?_ ?_ | refine Le.bind ?_ (fun _ => ?_) | cases ‹Except _ _› | intro _)
noncomputable def smithyref09_listed.v (a0 : List ByteArray) : Option Bool := lim (fun k => smithyref09_listed.f k a0 )
theorem smithyref09_listed.tends (a0 : List ByteArray) : Tends (fun k => smithyref09_listed.f k a0 ) (smithyref09_listed.v a0 ) := tends_lim (fun hk => smithyref09_listed.mono hk a0 )
set_option maxHeartbeats 4000000 in
set_option maxRecDepth 100000 in
theorem smithyref09_listed.v_eq (a0 : List ByteArray) : smithyref09_listed.v a0 = (smithyref09_listed.l0.v a0 (0 : Int)).bind fun o4 => match o4 with | .error r' => some r' | .ok s2 => (some (icmp .leq (a0.length : Int) (512 : Int))) := (smithyref09_listed.tends a0 ).uniq (by
  simp only [smithyref09_listed.f]
  repeat' (first | with_reducible exact Tends.const _ | apply smithyref09_listed.l0.tends | refine Tends.cond ?_ ?_ | refine Tends.bind ?_ (fun _ => ?_) | cases ‹Except _ _› | intro _))
/-! smithy/smithyref09.lines -/
set_option maxHeartbeats 4000000 in
set_option maxRecDepth 100000 in
theorem smithyref09_lines.l0.mono (a0 : List ByteArray) : ∀ {k k' : Nat}, k ≤ k' → ∀ s, Le (smithyref09_lines.l0 a0 k s) (smithyref09_lines.l0 a0 k' s) := by
  intro k
  induction k with
  | zero => exact fun _ s => Le.none _
  | succ k ih =>
    intro k' hk s
    cases k' with
    | zero => exact absurd hk (by omega)
    | succ k' =>
      have hk' := Nat.le_of_succ_le_succ hk
      simp only [smithyref09_lines.l0]
      repeat' (first | with_reducible exact Le.refl _ | exact ih hk' _ | refine Le.cond ?_ ?_ | refine Le.bind ?_ (fun _ => ?_) | cases ‹Except _ _› | intro _)
noncomputable def smithyref09_lines.l0.v (a0 : List ByteArray) (s : Int) : Option (Except Bool Unit) := lim (fun k => smithyref09_lines.l0 a0 k s)
theorem smithyref09_lines.l0.tends (a0 : List ByteArray) (s : Int) : Tends (fun k => smithyref09_lines.l0 a0 k s) (smithyref09_lines.l0.v a0 s) := tends_lim (fun hk => smithyref09_lines.l0.mono a0 hk s)
set_option maxHeartbeats 4000000 in
set_option maxRecDepth 100000 in
theorem smithyref09_lines.l0.v_eq (a0 : List ByteArray) (s6 : Int) : smithyref09_lines.l0.v a0 s6 = bif icmp .lss s6 (a0.length : Int) then ((idx a0 s6).bind fun x11 => bif icmp .gtr (x11.size : Int) (65536 : Int) then (some (Except.error false)) else (smithyref09_lines.l0.v a0 (IntKind.i64.wrap (s6 + (1 : Int))))) else (some (Except.ok ())) := (smithyref09_lines.l0.tends a0 s6).shift.uniq (by
  simp only [smithyref09_lines.l0]
  repeat' (first | with_reducible exact Tends.const _ | apply smithyref09_lines.l0.tends | refine Tends.cond ?_ ?_ | refine Tends.bind ?_ (fun _ => ?_) | cases ‹Except _ _› | intro _))
set_option maxHeartbeats 4000000 in
set_option maxRecDepth 100000 in
theorem smithyref09_lines.mono {k k' : Nat} (hk' : k ≤ k') (a0 : List ByteArray) (a1 : Bool) : Le (smithyref09_lines.f k a0 a1 ) (smithyref09_lines.f k' a0 a1 ) := by
  simp only [smithyref09_lines.f]
  repeat' (first | with_reducible exact Le.refl _ | refine smithyref09_lines.l0.mono _ hk' _ | refine Le.cond ?_ ?_ | refine Le.bind ?_ (fun _ => ?_) | cases ‹Except _ _› | intro _)
noncomputable def smithyref09_lines.v (a0 : List ByteArray) (a1 : Bool) : Option Bool := lim (fun k => smithyref09_lines.f k a0 a1 )
theorem smithyref09_lines.tends (a0 : List ByteArray) (a1 : Bool) : Tends (fun k => smithyref09_lines.f k a0 a1 ) (smithyref09_lines.v a0 a1 ) := tends_lim (fun hk => smithyref09_lines.mono hk a0 a1 )
set_option maxHeartbeats 4000000 in
set_option maxRecDepth 100000 in
theorem smithyref09_lines.v_eq (a0 : List ByteArray) (a1 : Bool) : smithyref09_lines.v a0 a1 = (bif icmp .gtr (a0.length : Int) (64 : Int) then (some true) else (bif !a1 then (some (icmp .gtr (a0.length : Int) (0 : Int))) else (some false))).bind fun s1 => bif s1 then (some false) else ((smithyref09_lines.l0.v a0 (0 : Int)).bind fun o9 => match o9 with | .error r' => some r' | .ok s7 => (some true)) := (smithyref09_lines.tends a0 a1 ).uniq (by
  simp only [smithyref09_lines.f]
  repeat' (first | with_reducible exact Tends.const _ | apply smithyref09_lines.l0.tends | refine Tends.cond ?_ ?_ | refine Tends.bind ?_ (fun _ => ?_) | cases ‹Except _ _› | intro _))
/-! smithy/smithyref09.special -/
set_option maxHeartbeats 4000000 in
set_option maxRecDepth 100000 in
theorem smithyref09_special.l0.mono (a0 : Special) : ∀ {k k' : Nat}, k ≤ k' → ∀ s, Le (smithyref09_special.l0 a0 k s) (smithyref09_special.l0 a0 k' s) := by
  intro k
  induction k with
  | zero => exact fun _ s => Le.none _
  | succ k ih =>
    intro k' hk s
    cases k' with
    | zero => exact absurd hk (by omega)
    | succ k' =>
      have hk' := Nat.le_of_succ_le_succ hk
      simp only [smithyref09_special.l0]
      repeat' (first | with_reducible exact Le.refl _ | exact ih hk' _ | apply smithyref08_Suffix.mono (hk' := hk') | apply smithyref03_Has.mono (hk' := hk') | refine Le.cond ?_ ?_ | refine Le.bind ?_ (fun _ => ?_) | cases ‹Except _ _› | intro _)
noncomputable def smithyref09_special.l0.v (a0 : Special) (s : Int) : Option (Except Bool Unit) := lim (fun k => smithyref09_special.l0 a0 k s)
theorem smithyref09_special.l0.tends (a0 : Special) (s : Int) : Tends (fun k => smithyref09_special.l0 a0 k s) (smithyref09_special.l0.v a0 s) := tends_lim (fun hk => smithyref09_special.l0.mono a0 hk s)
set_option maxHeartbeats 4000000 in
set_option maxRecDepth 100000 in
theorem smithyref09_special.l0.v_eq (a0 : Special) (s2 : Int) : smithyref09_special.l0.v a0 s2 = bif icmp .lss s2 (a0.Suffixes.length : Int) then ((idx a0.Suffixes s2).bind fun x7 => ((smithyref08_Suffix.v x7).bind fun v11 => bif !v11 then (some true) else ((sub a0.Suffixes (0 : Int) s2).bind fun x14 => (smithyref03_Has.v x14 x7).bind fun v16 => some v16)).bind fun s9 => bif s9 then (some (Except.error false)) else (smithyref09_special.l0.v a0 (IntKind.i64.wrap (s2 + (1 : Int))))) else (some (Except.ok ())) := (smithyref09_special.l0.tends a0 s2).shift.uniq (by
  simp only [smithyref09_special.l0]
  repeat' (first | with_reducible exact Tends.const _ | apply smithyref08_Suffix.tends | apply smithyref03_Has.tends | apply smithyref09_special.l0.tends | refine Tends.cond ?_ ?_ | refine Tends.bind ?_ (fun _ => ?_) | cases ‹Except _ _› | intro _))
set_option maxHeartbeats 4000000 in
set_option maxRecDepth 100000 in
theorem smithyref09_special.mono {k k' : Nat} (hk' : k ≤ k') (a0 : Special) : Le (smithyref09_special.f k a0 ) (smithyref09_special.f k' a0 ) := by
  simp only [smithyref09_special.f]
  repeat' (first | with_reducible exact Le.refl _ | apply smithyref09_listed.mono (hk' := hk') | apply smithyref09_lines.mono (hk' := hk') | refine smithyref09_special.l0.mono _ hk' _ | refine Le.cond ?_ ?_ | refine Le.bind ?_ (fun _ => ?_) | cases ‹Except _ _› | intro _)
noncomputable def smithyref09_special.v (a0 : Special) : Option Bool := lim (fun k => smithyref09_special.f k a0 )
theorem smithyref09_special.tends (a0 : Special) : Tends (fun k => smithyref09_special.f k a0 ) (smithyref09_special.v a0 ) := tends_lim (fun hk => smithyref09_special.mono hk a0 )
set_option maxHeartbeats 4000000 in
set_option maxRecDepth 100000 in
theorem smithyref09_special.v_eq (a0 : Special) : smithyref09_special.v a0 = bif icmp .gtr (a0.Suffixes.length : Int) (32 : Int) then (some false) else ((smithyref09_special.l0.v a0 (0 : Int)).bind fun o5 => match o5 with | .error r' => some r' | .ok s3 => (((smithyref09_listed.v a0.Phony).bind fun v21 => bif v21 then ((smithyref09_listed.v a0.Precious).bind fun v24 => bif v24 then ((smithyref09_listed.v a0.Ignore).bind fun v27 => bif v27 then ((smithyref09_listed.v a0.Silent).bind fun v30 => bif v30 then ((smithyref09_lines.v a0.Default a0.HasDefault).bind fun v33 => some v33) else (some false)) else (some false)) else (some false)) else (some false)).bind fun s19 => some s19)) := (smithyref09_special.tends a0 ).uniq (by
  simp only [smithyref09_special.f]
  repeat' (first | with_reducible exact Tends.const _ | apply smithyref09_listed.tends | apply smithyref09_lines.tends | apply smithyref09_special.l0.tends | refine Tends.cond ?_ ?_ | refine Tends.bind ?_ (fun _ => ?_) | cases ‹Except _ _› | intro _))
/-! smithy/smithyref09.infers -/
set_option maxHeartbeats 4000000 in
set_option maxRecDepth 100000 in
theorem smithyref09_infers.l1.mono (x7 : Infer) (x23 : List Infer) : ∀ {k k' : Nat}, k ≤ k' → ∀ s, Le (smithyref09_infers.l1 x7 x23 k s) (smithyref09_infers.l1 x7 x23 k' s) := by
  intro k
  induction k with
  | zero => exact fun _ s => Le.none _
  | succ k ih =>
    intro k' hk s
    cases k' with
    | zero => exact absurd hk (by omega)
    | succ k' =>
      have hk' := Nat.le_of_succ_le_succ hk
      simp only [smithyref09_infers.l1]
      repeat' (first | with_reducible exact Le.refl _ | exact ih hk' _ | refine Le.cond ?_ ?_ | refine Le.bind ?_ (fun _ => ?_) | cases ‹Except _ _› | intro _)
noncomputable def smithyref09_infers.l1.v (x7 : Infer) (x23 : List Infer) (s : Int) : Option (Except Bool Unit) := lim (fun k => smithyref09_infers.l1 x7 x23 k s)
theorem smithyref09_infers.l1.tends (x7 : Infer) (x23 : List Infer) (s : Int) : Tends (fun k => smithyref09_infers.l1 x7 x23 k s) (smithyref09_infers.l1.v x7 x23 s) := tends_lim (fun hk => smithyref09_infers.l1.mono x7 x23 hk s)
set_option maxHeartbeats 4000000 in
set_option maxRecDepth 100000 in
theorem smithyref09_infers.l1.v_eq (x7 : Infer) (x23 : List Infer) (s25 : Int) : smithyref09_infers.l1.v x7 x23 s25 = bif icmp .lss s25 (x23.length : Int) then ((idx x23 s25).bind fun x30 => (bif scmp .eql x30.From x7.From then (some (scmp .eql x30.To x7.To)) else (some false)).bind fun s32 => bif s32 then (some (Except.error false)) else (smithyref09_infers.l1.v x7 x23 (IntKind.i64.wrap (s25 + (1 : Int))))) else (some (Except.ok ())) := (smithyref09_infers.l1.tends x7 x23 s25).shift.uniq (by
  simp only [smithyref09_infers.l1]
  repeat' (first | with_reducible exact Tends.const _ | apply smithyref09_infers.l1.tends | refine Tends.cond ?_ ?_ | refine Tends.bind ?_ (fun _ => ?_) | cases ‹Except _ _› | intro _))
set_option maxHeartbeats 4000000 in
set_option maxRecDepth 100000 in
theorem smithyref09_infers.l0.mono (a0 : List Infer) (a1 : List ByteArray) : ∀ {k k' : Nat}, k ≤ k' → ∀ s, Le (smithyref09_infers.l0 a0 a1 k s) (smithyref09_infers.l0 a0 a1 k' s) := by
  intro k
  induction k with
  | zero => exact fun _ s => Le.none _
  | succ k ih =>
    intro k' hk s
    cases k' with
    | zero => exact absurd hk (by omega)
    | succ k' =>
      have hk' := Nat.le_of_succ_le_succ hk
      simp only [smithyref09_infers.l0]
      repeat' (first | with_reducible exact Le.refl _ | exact ih hk' _ | apply smithyref03_Has.mono (hk' := hk') | apply smithyref09_lines.mono (hk' := hk') | refine smithyref09_infers.l1.mono _ _ hk' _ | refine Le.cond ?_ ?_ | refine Le.bind ?_ (fun _ => ?_) | cases ‹Except _ _› | intro _)
noncomputable def smithyref09_infers.l0.v (a0 : List Infer) (a1 : List ByteArray) (s : Int) : Option (Except Bool Unit) := lim (fun k => smithyref09_infers.l0 a0 a1 k s)
theorem smithyref09_infers.l0.tends (a0 : List Infer) (a1 : List ByteArray) (s : Int) : Tends (fun k => smithyref09_infers.l0 a0 a1 k s) (smithyref09_infers.l0.v a0 a1 s) := tends_lim (fun hk => smithyref09_infers.l0.mono a0 a1 hk s)
set_option maxHeartbeats 4000000 in
set_option maxRecDepth 100000 in
theorem smithyref09_infers.l0.v_eq (a0 : List Infer) (a1 : List ByteArray) (s2 : Int) : smithyref09_infers.l0.v a0 a1 s2 = bif icmp .lss s2 (a0.length : Int) then ((idx a0 s2).bind fun x7 => ((smithyref03_Has.v a1 x7.From).bind fun v11 => bif !v11 then (some true) else (bif scmp .neq x7.To (⟨#[]⟩ : ByteArray) then ((smithyref03_Has.v a1 x7.To).bind fun v15 => bif !v15 then (some true) else ((smithyref09_lines.v x7.Recipe true).bind fun v18 => some (!v18))) else ((smithyref09_lines.v x7.Recipe true).bind fun v20 => some (!v20)))).bind fun s9 => bif s9 then (some (Except.error false)) else ((sub a0 (0 : Int) s2).bind fun x23 => (smithyref09_infers.l1.v x7 x23 (0 : Int)).bind fun o28 => match o28 with | .error r' => some (Except.error r') | .ok s26 => (smithyref09_infers.l0.v a0 a1 (IntKind.i64.wrap (s2 + (1 : Int)))))) else (some (Except.ok ())) := (smithyref09_infers.l0.tends a0 a1 s2).shift.uniq (by
  simp only [smithyref09_infers.l0]
  repeat' (first | with_reducible exact Tends.const _ | apply smithyref03_Has.tends | apply smithyref09_lines.tends | apply smithyref09_infers.l1.tends | apply smithyref09_infers.l0.tends | refine Tends.cond ?_ ?_ | refine Tends.bind ?_ (fun _ => ?_) | cases ‹Except _ _› | intro _))
set_option maxHeartbeats 4000000 in
set_option maxRecDepth 100000 in
theorem smithyref09_infers.mono {k k' : Nat} (hk' : k ≤ k') (a0 : List Infer) (a1 : List ByteArray) : Le (smithyref09_infers.f k a0 a1 ) (smithyref09_infers.f k' a0 a1 ) := by
  simp only [smithyref09_infers.f]
  repeat' (first | with_reducible exact Le.refl _ | refine smithyref09_infers.l0.mono _ _ hk' _ | refine Le.cond ?_ ?_ | refine Le.bind ?_ (fun _ => ?_) | cases ‹Except _ _› | intro _)
noncomputable def smithyref09_infers.v (a0 : List Infer) (a1 : List ByteArray) : Option Bool := lim (fun k => smithyref09_infers.f k a0 a1 )
theorem smithyref09_infers.tends (a0 : List Infer) (a1 : List ByteArray) : Tends (fun k => smithyref09_infers.f k a0 a1 ) (smithyref09_infers.v a0 a1 ) := tends_lim (fun hk => smithyref09_infers.mono hk a0 a1 )
set_option maxHeartbeats 4000000 in
set_option maxRecDepth 100000 in
theorem smithyref09_infers.v_eq (a0 : List Infer) (a1 : List ByteArray) : smithyref09_infers.v a0 a1 = bif icmp .gtr (a0.length : Int) (512 : Int) then (some false) else ((smithyref09_infers.l0.v a0 a1 (0 : Int)).bind fun o5 => match o5 with | .error r' => some r' | .ok s3 => (some true)) := (smithyref09_infers.tends a0 a1 ).uniq (by
  simp only [smithyref09_infers.f]
  repeat' (first | with_reducible exact Tends.const _ | apply smithyref09_infers.l0.tends | refine Tends.cond ?_ ?_ | refine Tends.bind ?_ (fun _ => ?_) | cases ‹Except _ _› | intro _))
/-! smithy/smithyref09.Right -/
set_option maxHeartbeats 4000000 in
set_option maxRecDepth 100000 in
theorem smithyref09_Right.l1.mono (x18 : Rule) : ∀ {k k' : Nat}, k ≤ k' → ∀ s, Le (smithyref09_Right.l1 x18 k s) (smithyref09_Right.l1 x18 k' s) := by
  intro k
  induction k with
  | zero => exact fun _ s => Le.none _
  | succ k ih =>
    intro k' hk s
    cases k' with
    | zero => exact absurd hk (by omega)
    | succ k' =>
      have hk' := Nat.le_of_succ_le_succ hk
      simp only [smithyref09_Right.l1]
      repeat' (first | with_reducible exact Le.refl _ | exact ih hk' _ | apply smithyref03_Is.mono (hk' := hk') | apply smithyref03_Has.mono (hk' := hk') | refine Le.cond ?_ ?_ | refine Le.bind ?_ (fun _ => ?_) | cases ‹Except _ _› | intro _)
noncomputable def smithyref09_Right.l1.v (x18 : Rule) (s : Int) : Option (Except Bool Unit) := lim (fun k => smithyref09_Right.l1 x18 k s)
theorem smithyref09_Right.l1.tends (x18 : Rule) (s : Int) : Tends (fun k => smithyref09_Right.l1 x18 k s) (smithyref09_Right.l1.v x18 s) := tends_lim (fun hk => smithyref09_Right.l1.mono x18 hk s)
set_option maxHeartbeats 4000000 in
set_option maxRecDepth 100000 in
theorem smithyref09_Right.l1.v_eq (x18 : Rule) (s29 : Int) : smithyref09_Right.l1.v x18 s29 = bif icmp .lss s29 (x18.Needs.length : Int) then ((idx x18.Needs s29).bind fun x34 => ((smithyref03_Is.v x34).bind fun v38 => bif !v38 then (some true) else ((sub x18.Needs (0 : Int) s29).bind fun x41 => (smithyref03_Has.v x41 x34).bind fun v43 => some v43)).bind fun s36 => bif s36 then (some (Except.error false)) else (smithyref09_Right.l1.v x18 (IntKind.i64.wrap (s29 + (1 : Int))))) else (some (Except.ok ())) := (smithyref09_Right.l1.tends x18 s29).shift.uniq (by
  simp only [smithyref09_Right.l1]
  repeat' (first | with_reducible exact Tends.const _ | apply smithyref03_Is.tends | apply smithyref03_Has.tends | apply smithyref09_Right.l1.tends | refine Tends.cond ?_ ?_ | refine Tends.bind ?_ (fun _ => ?_) | cases ‹Except _ _› | intro _))
set_option maxHeartbeats 4000000 in
set_option maxRecDepth 100000 in
theorem smithyref09_Right.l2.mono (x18 : Rule) (x46 : List Rule) : ∀ {k k' : Nat}, k ≤ k' → ∀ s, Le (smithyref09_Right.l2 x18 x46 k s) (smithyref09_Right.l2 x18 x46 k' s) := by
  intro k
  induction k with
  | zero => exact fun _ s => Le.none _
  | succ k ih =>
    intro k' hk s
    cases k' with
    | zero => exact absurd hk (by omega)
    | succ k' =>
      have hk' := Nat.le_of_succ_le_succ hk
      simp only [smithyref09_Right.l2]
      repeat' (first | with_reducible exact Le.refl _ | exact ih hk' _ | refine Le.cond ?_ ?_ | refine Le.bind ?_ (fun _ => ?_) | cases ‹Except _ _› | intro _)
noncomputable def smithyref09_Right.l2.v (x18 : Rule) (x46 : List Rule) (s : Int) : Option (Except Bool Unit) := lim (fun k => smithyref09_Right.l2 x18 x46 k s)
theorem smithyref09_Right.l2.tends (x18 : Rule) (x46 : List Rule) (s : Int) : Tends (fun k => smithyref09_Right.l2 x18 x46 k s) (smithyref09_Right.l2.v x18 x46 s) := tends_lim (fun hk => smithyref09_Right.l2.mono x18 x46 hk s)
set_option maxHeartbeats 4000000 in
set_option maxRecDepth 100000 in
theorem smithyref09_Right.l2.v_eq (x18 : Rule) (x46 : List Rule) (s48 : Int) : smithyref09_Right.l2.v x18 x46 s48 = bif icmp .lss s48 (x46.length : Int) then ((idx x46 s48).bind fun x53 => bif scmp .eql x53.Target x18.Target then (some (Except.error false)) else (smithyref09_Right.l2.v x18 x46 (IntKind.i64.wrap (s48 + (1 : Int))))) else (some (Except.ok ())) := (smithyref09_Right.l2.tends x18 x46 s48).shift.uniq (by
  simp only [smithyref09_Right.l2]
  repeat' (first | with_reducible exact Tends.const _ | apply smithyref09_Right.l2.tends | refine Tends.cond ?_ ?_ | refine Tends.bind ?_ (fun _ => ?_) | cases ‹Except _ _› | intro _))
set_option maxHeartbeats 4000000 in
set_option maxRecDepth 100000 in
theorem smithyref09_Right.l0.mono (a0 : Make) : ∀ {k k' : Nat}, k ≤ k' → ∀ s, Le (smithyref09_Right.l0 a0 k s) (smithyref09_Right.l0 a0 k' s) := by
  intro k
  induction k with
  | zero => exact fun _ s => Le.none _
  | succ k ih =>
    intro k' hk s
    cases k' with
    | zero => exact absurd hk (by omega)
    | succ k' =>
      have hk' := Nat.le_of_succ_le_succ hk
      simp only [smithyref09_Right.l0]
      repeat' (first | with_reducible exact Le.refl _ | exact ih hk' _ | apply smithyref03_Is.mono (hk' := hk') | apply smithyref09_lines.mono (hk' := hk') | refine smithyref09_Right.l1.mono _ hk' _ | refine smithyref09_Right.l2.mono _ _ hk' _ | refine Le.cond ?_ ?_ | refine Le.bind ?_ (fun _ => ?_) | cases ‹Except _ _› | intro _)
noncomputable def smithyref09_Right.l0.v (a0 : Make) (s : Bool × Int) : Option (Except Bool Bool) := lim (fun k => smithyref09_Right.l0 a0 k s)
theorem smithyref09_Right.l0.tends (a0 : Make) (s : Bool × Int) : Tends (fun k => smithyref09_Right.l0 a0 k s) (smithyref09_Right.l0.v a0 s) := tends_lim (fun hk => smithyref09_Right.l0.mono a0 hk s)
set_option maxHeartbeats 4000000 in
set_option maxRecDepth 100000 in
theorem smithyref09_Right.l0.v_eq (a0 : Make) (s13 : Bool × Int) : smithyref09_Right.l0.v a0 s13 = bif icmp .lss s13.2 (a0.Rules.length : Int) then ((idx a0.Rules s13.2).bind fun x18 => ((smithyref03_Is.v x18.Target).bind fun v22 => bif !v22 then (some true) else (bif icmp .gtr (x18.Needs.length : Int) (64 : Int) then (some true) else ((smithyref09_lines.v x18.Recipe x18.Has).bind fun v26 => some (!v26)))).bind fun s20 => bif s20 then (some (Except.error false)) else ((smithyref09_Right.l1.v x18 (0 : Int)).bind fun o32 => match o32 with | .error r' => some (Except.error r') | .ok s30 => ((sub a0.Rules (0 : Int) s13.2).bind fun x46 => (smithyref09_Right.l2.v x18 x46 (0 : Int)).bind fun o51 => match o51 with | .error r' => some (Except.error r') | .ok s49 => ((bif s13.1 then (some true) else (some (scmp .eql x18.Target a0.First))).bind fun s56 => smithyref09_Right.l0.v a0 (s56, IntKind.i64.wrap (s13.2 + (1 : Int))))))) else (some (Except.ok s13.1)) := (smithyref09_Right.l0.tends a0 s13).shift.uniq (by
  simp only [smithyref09_Right.l0]
  repeat' (first | with_reducible exact Tends.const _ | apply smithyref03_Is.tends | apply smithyref09_lines.tends | apply smithyref09_Right.l1.tends | apply smithyref09_Right.l2.tends | apply smithyref09_Right.l0.tends | refine Tends.cond ?_ ?_ | refine Tends.bind ?_ (fun _ => ?_) | cases ‹Except _ _› | intro _))
set_option maxHeartbeats 4000000 in
set_option maxRecDepth 100000 in
theorem smithyref09_Right.mono {k k' : Nat} (hk' : k ≤ k') (a0 : Make) : Le (smithyref09_Right.f k a0 ) (smithyref09_Right.f k' a0 ) := by
  simp only [smithyref09_Right.f]
  repeat' (first | with_reducible exact Le.refl _ | apply smithyref05_Check.mono (hk' := hk') | apply smithyref09_special.mono (hk' := hk') | apply smithyref09_infers.mono (hk' := hk') | refine smithyref09_Right.l0.mono _ hk' _ | refine Le.cond ?_ ?_ | refine Le.bind ?_ (fun _ => ?_) | cases ‹Except _ _› | intro _)
noncomputable def smithyref09_Right.v (a0 : Make) : Option Bool := lim (fun k => smithyref09_Right.f k a0 )
theorem smithyref09_Right.tends (a0 : Make) : Tends (fun k => smithyref09_Right.f k a0 ) (smithyref09_Right.v a0 ) := tends_lim (fun hk => smithyref09_Right.mono hk a0 )
set_option maxHeartbeats 4000000 in
set_option maxRecDepth 100000 in
theorem smithyref09_Right.v_eq (a0 : Make) : smithyref09_Right.v a0 = ((smithyref05_Check.v a0.Macros).bind fun v3 => bif icmp .neq v3 (0 : Int) then (some true) else (bif icmp .gtr (a0.Rules.length : Int) (512 : Int) then (some true) else ((smithyref09_special.v a0.Special).bind fun v7 => bif !v7 then (some true) else ((smithyref09_infers.v a0.Infers a0.Special.Suffixes).bind fun v10 => some (!v10))))).bind fun s1 => bif s1 then (some false) else ((smithyref09_Right.l0.v a0 (scmp .eql a0.First (⟨#[]⟩ : ByteArray), (0 : Int))).bind fun o16 => match o16 with | .error r' => some r' | .ok s14 => (some s14)) := (smithyref09_Right.tends a0 ).uniq (by
  simp only [smithyref09_Right.f]
  repeat' (first | with_reducible exact Tends.const _ | apply smithyref05_Check.tends | apply smithyref09_special.tends | apply smithyref09_infers.tends | apply smithyref09_Right.l0.tends | refine Tends.cond ?_ ?_ | refine Tends.bind ?_ (fun _ => ?_) | cases ‹Except _ _› | intro _))
/-! smithy/smithyref02.List -/
set_option maxHeartbeats 4000000 in
set_option maxRecDepth 100000 in
theorem smithyref02_List.l0.mono (a0 : List ByteArray) : ∀ {k k' : Nat}, k ≤ k' → ∀ s, Le (smithyref02_List.l0 a0 k s) (smithyref02_List.l0 a0 k' s) := by
  intro k
  induction k with
  | zero => exact fun _ s => Le.none _
  | succ k ih =>
    intro k' hk s
    cases k' with
    | zero => exact absurd hk (by omega)
    | succ k' =>
      have hk' := Nat.le_of_succ_le_succ hk
      simp only [smithyref02_List.l0]
      repeat' (first | with_reducible exact Le.refl _ | exact ih hk' _ | apply smithyref02_Name.mono (hk' := hk') | refine Le.cond ?_ ?_ | refine Le.bind ?_ (fun _ => ?_) | cases ‹Except _ _› | intro _)
noncomputable def smithyref02_List.l0.v (a0 : List ByteArray) (s : Int) : Option (Except Int Unit) := lim (fun k => smithyref02_List.l0 a0 k s)
theorem smithyref02_List.l0.tends (a0 : List ByteArray) (s : Int) : Tends (fun k => smithyref02_List.l0 a0 k s) (smithyref02_List.l0.v a0 s) := tends_lim (fun hk => smithyref02_List.l0.mono a0 hk s)
set_option maxHeartbeats 4000000 in
set_option maxRecDepth 100000 in
theorem smithyref02_List.l0.v_eq (a0 : List ByteArray) (s2 : Int) : smithyref02_List.l0.v a0 s2 = bif icmp .lss s2 (a0.length : Int) then ((idx a0 s2).bind fun x7 => (smithyref02_Name.v x7).bind fun v9 => bif !v9 then (some (Except.error (3 : Int))) else (smithyref02_List.l0.v a0 (IntKind.i64.wrap (s2 + (1 : Int))))) else (some (Except.ok ())) := (smithyref02_List.l0.tends a0 s2).shift.uniq (by
  simp only [smithyref02_List.l0]
  repeat' (first | with_reducible exact Tends.const _ | apply smithyref02_Name.tends | apply smithyref02_List.l0.tends | refine Tends.cond ?_ ?_ | refine Tends.bind ?_ (fun _ => ?_) | cases ‹Except _ _› | intro _))
set_option maxHeartbeats 4000000 in
set_option maxRecDepth 100000 in
theorem smithyref02_List.mono {k k' : Nat} (hk' : k ≤ k') (a0 : List ByteArray) : Le (smithyref02_List.f k a0 ) (smithyref02_List.f k' a0 ) := by
  simp only [smithyref02_List.f]
  repeat' (first | with_reducible exact Le.refl _ | refine smithyref02_List.l0.mono _ hk' _ | refine Le.cond ?_ ?_ | refine Le.bind ?_ (fun _ => ?_) | cases ‹Except _ _› | intro _)
noncomputable def smithyref02_List.v (a0 : List ByteArray) : Option Int := lim (fun k => smithyref02_List.f k a0 )
theorem smithyref02_List.tends (a0 : List ByteArray) : Tends (fun k => smithyref02_List.f k a0 ) (smithyref02_List.v a0 ) := tends_lim (fun hk => smithyref02_List.mono hk a0 )
set_option maxHeartbeats 4000000 in
set_option maxRecDepth 100000 in
theorem smithyref02_List.v_eq (a0 : List ByteArray) : smithyref02_List.v a0 = bif icmp .gtr (a0.length : Int) (512 : Int) then (some (2 : Int)) else ((smithyref02_List.l0.v a0 (0 : Int)).bind fun o5 => match o5 with | .error r' => some r' | .ok s3 => (some (0 : Int))) := (smithyref02_List.tends a0 ).uniq (by
  simp only [smithyref02_List.f]
  repeat' (first | with_reducible exact Tends.const _ | apply smithyref02_List.l0.tends | refine Tends.cond ?_ ?_ | refine Tends.bind ?_ (fun _ => ?_) | cases ‹Except _ _› | intro _))
/-! smithy/graph.all -/
set_option maxHeartbeats 4000000 in
set_option maxRecDepth 100000 in
theorem graph_all.l0.mono (a0 : Make) : ∀ {k k' : Nat}, k ≤ k' → ∀ s, Le (graph_all.l0 a0 k s) (graph_all.l0 a0 k' s) := by
  intro k
  induction k with
  | zero => exact fun _ s => Le.none _
  | succ k ih =>
    intro k' hk s
    cases k' with
    | zero => exact absurd hk (by omega)
    | succ k' =>
      have hk' := Nat.le_of_succ_le_succ hk
      simp only [graph_all.l0]
      repeat' (first | with_reducible exact Le.refl _ | exact ih hk' _ | refine Le.cond ?_ ?_ | refine Le.bind ?_ (fun _ => ?_) | cases ‹Except _ _› | intro _)
noncomputable def graph_all.l0.v (a0 : Make) (s : (List ByteArray) × Int) : Option (List ByteArray) := lim (fun k => graph_all.l0 a0 k s)
theorem graph_all.l0.tends (a0 : Make) (s : (List ByteArray) × Int) : Tends (fun k => graph_all.l0 a0 k s) (graph_all.l0.v a0 s) := tends_lim (fun hk => graph_all.l0.mono a0 hk s)
set_option maxHeartbeats 4000000 in
set_option maxRecDepth 100000 in
theorem graph_all.l0.v_eq (a0 : Make) (s1 : (List ByteArray) × Int) : graph_all.l0.v a0 s1 = bif icmp .lss s1.2 (a0.Rules.length : Int) then ((idx a0.Rules s1.2).bind fun x5 => (app 16 s1.1 ([x5.Target])).bind fun x7 => (app 16 x7 x5.Needs).bind fun x9 => graph_all.l0.v a0 (x9, IntKind.i64.wrap (s1.2 + (1 : Int)))) else (some s1.1) := (graph_all.l0.tends a0 s1).shift.uniq (by
  simp only [graph_all.l0]
  repeat' (first | with_reducible exact Tends.const _ | apply graph_all.l0.tends | refine Tends.cond ?_ ?_ | refine Tends.bind ?_ (fun _ => ?_) | cases ‹Except _ _› | intro _))
set_option maxHeartbeats 4000000 in
set_option maxRecDepth 100000 in
theorem graph_all.mono {k k' : Nat} (hk' : k ≤ k') (a0 : Make) : Le (graph_all.f k a0 ) (graph_all.f k' a0 ) := by
  simp only [graph_all.f]
  repeat' (first | with_reducible exact Le.refl _ | refine graph_all.l0.mono _ hk' _ | refine Le.cond ?_ ?_ | refine Le.bind ?_ (fun _ => ?_) | cases ‹Except _ _› | intro _)
noncomputable def graph_all.v (a0 : Make) : Option (List ByteArray) := lim (fun k => graph_all.f k a0 )
theorem graph_all.tends (a0 : Make) : Tends (fun k => graph_all.f k a0 ) (graph_all.v a0 ) := tends_lim (fun hk => graph_all.mono hk a0 )
set_option maxHeartbeats 4000000 in
set_option maxRecDepth 100000 in
theorem graph_all.v_eq (a0 : Make) : graph_all.v a0 = (graph_all.l0.v a0 (([] : List ByteArray), (0 : Int))).bind fun s2 => (slices_Sort_string_string.f s2).bind fun v11 => (slices_Compact_string_string.f v11).bind fun v13 => some v13 := (graph_all.tends a0 ).uniq (by
  simp only [graph_all.f]
  repeat' (first | with_reducible exact Tends.const _ | apply graph_all.l0.tends | refine Tends.cond ?_ ?_ | refine Tends.bind ?_ (fun _ => ?_) | cases ‹Except _ _› | intro _))
/-! slices.isNaN[string] -/
/-! slices.BinarySearch[[]string,string] -/
set_option maxHeartbeats 4000000 in
set_option maxRecDepth 100000 in
theorem slices_BinarySearch_string_string.l0.mono (a0 : List ByteArray) (a1 : ByteArray) : ∀ {k k' : Nat}, k ≤ k' → ∀ s, Le (slices_BinarySearch_string_string.l0 a0 a1 k s) (slices_BinarySearch_string_string.l0 a0 a1 k' s) := by
  intro k
  induction k with
  | zero => exact fun _ s => Le.none _
  | succ k ih =>
    intro k' hk s
    cases k' with
    | zero => exact absurd hk (by omega)
    | succ k' =>
      have hk' := Nat.le_of_succ_le_succ hk
      simp only [slices_BinarySearch_string_string.l0]
      repeat' (first | with_reducible exact Le.refl _ | exact ih hk' _ | refine Le.cond ?_ ?_ | refine Le.bind ?_ (fun _ => ?_) | cases ‹Except _ _› | intro _)
noncomputable def slices_BinarySearch_string_string.l0.v (a0 : List ByteArray) (a1 : ByteArray) (s : Int × Int) : Option Int := lim (fun k => slices_BinarySearch_string_string.l0 a0 a1 k s)
theorem slices_BinarySearch_string_string.l0.tends (a0 : List ByteArray) (a1 : ByteArray) (s : Int × Int) : Tends (fun k => slices_BinarySearch_string_string.l0 a0 a1 k s) (slices_BinarySearch_string_string.l0.v a0 a1 s) := tends_lim (fun hk => slices_BinarySearch_string_string.l0.mono a0 a1 hk s)
set_option maxHeartbeats 4000000 in
set_option maxRecDepth 100000 in
theorem slices_BinarySearch_string_string.l0.v_eq (a0 : List ByteArray) (a1 : ByteArray) (s1 : Int × Int) : slices_BinarySearch_string_string.l0.v a0 a1 s1 = bif icmp .lss s1.1 s1.2 then ((idx a0 (IntKind.i64.wrap ((IntKind.u64.wrap (IntKind.i64.wrap (s1.1 + s1.2))) / 2 ^ (Int.toNat (1 : Int))))).bind fun x5 => (cmp_Less_string.f x5 a1).bind fun v7 => bif v7 then (slices_BinarySearch_string_string.l0.v a0 a1 (IntKind.i64.wrap (IntKind.i64.wrap ((IntKind.u64.wrap (IntKind.i64.wrap (s1.1 + s1.2))) / 2 ^ (Int.toNat (1 : Int))) + (1 : Int)), s1.2)) else (slices_BinarySearch_string_string.l0.v a0 a1 (s1.1, IntKind.i64.wrap ((IntKind.u64.wrap (IntKind.i64.wrap (s1.1 + s1.2))) / 2 ^ (Int.toNat (1 : Int)))))) else (some s1.1) := (slices_BinarySearch_string_string.l0.tends a0 a1 s1).shift.uniq (by
  simp only [slices_BinarySearch_string_string.l0]
  repeat' (first | with_reducible exact Tends.const _ | apply slices_BinarySearch_string_string.l0.tends | refine Tends.cond ?_ ?_ | refine Tends.bind ?_ (fun _ => ?_) | cases ‹Except _ _› | intro _))
set_option maxHeartbeats 4000000 in
set_option maxRecDepth 100000 in
theorem slices_BinarySearch_string_string.mono {k k' : Nat} (hk' : k ≤ k') (a0 : List ByteArray) (a1 : ByteArray) : Le (slices_BinarySearch_string_string.f k a0 a1 ) (slices_BinarySearch_string_string.f k' a0 a1 ) := by
  simp only [slices_BinarySearch_string_string.f]
  repeat' (first | with_reducible exact Le.refl _ | refine slices_BinarySearch_string_string.l0.mono _ _ hk' _ | refine Le.cond ?_ ?_ | refine Le.bind ?_ (fun _ => ?_) | cases ‹Except _ _› | intro _)
noncomputable def slices_BinarySearch_string_string.v (a0 : List ByteArray) (a1 : ByteArray) : Option (Int × Bool) := lim (fun k => slices_BinarySearch_string_string.f k a0 a1 )
theorem slices_BinarySearch_string_string.tends (a0 : List ByteArray) (a1 : ByteArray) : Tends (fun k => slices_BinarySearch_string_string.f k a0 a1 ) (slices_BinarySearch_string_string.v a0 a1 ) := tends_lim (fun hk => slices_BinarySearch_string_string.mono hk a0 a1 )
set_option maxHeartbeats 4000000 in
set_option maxRecDepth 100000 in
theorem slices_BinarySearch_string_string.v_eq (a0 : List ByteArray) (a1 : ByteArray) : slices_BinarySearch_string_string.v a0 a1 = (slices_BinarySearch_string_string.l0.v a0 a1 ((0 : Int), (a0.length : Int))).bind fun s2 => (bif icmp .lss s2 (a0.length : Int) then ((idx a0 s2).bind fun x13 => bif scmp .eql x13 a1 then (some true) else ((idx a0 s2).bind fun x16 => (slices_isNaN_string.f x16).bind fun v18 => bif v18 then ((slices_isNaN_string.f a1).bind fun v21 => some v21) else (some false))) else (some false)).bind fun s10 => some (s2, s10) := (slices_BinarySearch_string_string.tends a0 a1 ).uniq (by
  simp only [slices_BinarySearch_string_string.f]
  repeat' (first | with_reducible exact Tends.const _ | apply slices_BinarySearch_string_string.l0.tends | refine Tends.cond ?_ ?_ | refine Tends.bind ?_ (fun _ => ?_) | cases ‹Except _ _› | intro _))
/-! smithy/graph.one -/
set_option maxHeartbeats 4000000 in
set_option maxRecDepth 100000 in
theorem graph_one.mono {k k' : Nat} (hk' : k ≤ k') (a0 : Make) (a1 : ByteArray) : Le (graph_one.f k a0 a1 ) (graph_one.f k' a0 a1 ) := by
  simp only [graph_one.f]
  repeat' (first | with_reducible exact Le.refl _ | apply graph_asked.mono (hk' := hk') | apply graph_all.mono (hk' := hk') | apply slices_BinarySearch_string_string.mono (hk' := hk') | refine Le.cond ?_ ?_ | refine Le.bind ?_ (fun _ => ?_) | cases ‹Except _ _› | intro _)
noncomputable def graph_one.v (a0 : Make) (a1 : ByteArray) : Option Int := lim (fun k => graph_one.f k a0 a1 )
theorem graph_one.tends (a0 : Make) (a1 : ByteArray) : Tends (fun k => graph_one.f k a0 a1 ) (graph_one.v a0 a1 ) := tends_lim (fun hk => graph_one.mono hk a0 a1 )
set_option maxHeartbeats 4000000 in
set_option maxRecDepth 100000 in
theorem graph_one.v_eq (a0 : Make) (a1 : ByteArray) : graph_one.v a0 a1 = (graph_asked.v a0 ([a1])).bind fun v1 => bif icmp .neq v1 (0 : Int) then (some v1) else ((graph_all.v a0).bind fun v4 => (slices_BinarySearch_string_string.v v4 a1).bind fun v6 => bif !v6.2 then (some (9 : Int)) else (some (0 : Int))) := (graph_one.tends a0 a1 ).uniq (by
  simp only [graph_one.f]
  repeat' (first | with_reducible exact Tends.const _ | apply graph_asked.tends | apply graph_all.tends | apply slices_BinarySearch_string_string.tends | refine Tends.cond ?_ ?_ | refine Tends.bind ?_ (fun _ => ?_) | cases ‹Except _ _› | intro _))
/-! smithy/graph.Users -/
set_option maxHeartbeats 4000000 in
set_option maxRecDepth 100000 in
theorem graph_Users.l0.mono (a0 : Make) (a1 : ByteArray) : ∀ {k k' : Nat}, k ≤ k' → ∀ s, Le (graph_Users.l0 a0 a1 k s) (graph_Users.l0 a0 a1 k' s) := by
  intro k
  induction k with
  | zero => exact fun _ s => Le.none _
  | succ k ih =>
    intro k' hk s
    cases k' with
    | zero => exact absurd hk (by omega)
    | succ k' =>
      have hk' := Nat.le_of_succ_le_succ hk
      simp only [graph_Users.l0]
      repeat' (first | with_reducible exact Le.refl _ | exact ih hk' _ | apply slices_Contains_string_string.mono (hk' := hk') | refine Le.cond ?_ ?_ | refine Le.bind ?_ (fun _ => ?_) | cases ‹Except _ _› | intro _)
noncomputable def graph_Users.l0.v (a0 : Make) (a1 : ByteArray) (s : (List ByteArray) × Int) : Option (List ByteArray) := lim (fun k => graph_Users.l0 a0 a1 k s)
theorem graph_Users.l0.tends (a0 : Make) (a1 : ByteArray) (s : (List ByteArray) × Int) : Tends (fun k => graph_Users.l0 a0 a1 k s) (graph_Users.l0.v a0 a1 s) := tends_lim (fun hk => graph_Users.l0.mono a0 a1 hk s)
set_option maxHeartbeats 4000000 in
set_option maxRecDepth 100000 in
theorem graph_Users.mono {k k' : Nat} (hk' : k ≤ k') (a0 : Make) (a1 : ByteArray) : Le (graph_Users.f k a0 a1 ) (graph_Users.f k' a0 a1 ) := by
  simp only [graph_Users.f]
  repeat' (first | with_reducible exact Le.refl _ | apply graph_one.mono (hk' := hk') | refine graph_Users.l0.mono _ _ hk' _ | refine Le.cond ?_ ?_ | refine Le.bind ?_ (fun _ => ?_) | cases ‹Except _ _› | intro _)
noncomputable def graph_Users.v (a0 : Make) (a1 : ByteArray) : Option ((List ByteArray) × Int) := lim (fun k => graph_Users.f k a0 a1 )
theorem graph_Users.tends (a0 : Make) (a1 : ByteArray) : Tends (fun k => graph_Users.f k a0 a1 ) (graph_Users.v a0 a1 ) := tends_lim (fun hk => graph_Users.mono hk a0 a1 )
set_option maxHeartbeats 4000000 in
set_option maxRecDepth 100000 in
theorem graph_Users.v_eq (a0 : Make) (a1 : ByteArray) : graph_Users.v a0 a1 = (graph_one.v a0 a1).bind fun v1 => bif icmp .neq v1 (0 : Int) then (some (([] : List ByteArray), v1)) else ((graph_Users.l0.v a0 a1 (([] : List ByteArray), (0 : Int))).bind fun s5 => some (s5, (0 : Int))) := (graph_Users.tends a0 a1 ).uniq (by
  simp only [graph_Users.f]
  repeat' (first | with_reducible exact Tends.const _ | apply graph_one.tends | apply graph_Users.l0.tends | refine Tends.cond ?_ ?_ | refine Tends.bind ?_ (fun _ => ?_) | cases ‹Except _ _› | intro _))
/-! smithy/graph.Depth -/
set_option maxHeartbeats 4000000 in
set_option maxRecDepth 100000 in
theorem graph_Depth.l1.mono (x13 : ByteArray) (x15 : List ByteArray) : ∀ {k k' : Nat}, k ≤ k' → ∀ s, Le (graph_Depth.l1 x13 x15 k s) (graph_Depth.l1 x13 x15 k' s) := by
  intro k
  induction k with
  | zero => exact fun _ s => Le.none _
  | succ k ih =>
    intro k' hk s
    cases k' with
    | zero => exact absurd hk (by omega)
    | succ k' =>
      have hk' := Nat.le_of_succ_le_succ hk
      simp only [graph_Depth.l1]
      repeat' (first | with_reducible exact Le.refl _ | exact ih hk' _ | refine Le.cond ?_ ?_ | refine Le.bind ?_ (fun _ => ?_) | cases ‹Except _ _› | intro _)
set_option maxHeartbeats 4000000 in
set_option maxRecDepth 100000 in
theorem graph_Depth.l0.mono (v4 : (List ByteArray) × (List ByteArray)) (v7 : (GM (List ByteArray))) : ∀ {k k' : Nat}, k ≤ k' → ∀ s, Le (graph_Depth.l0 v4 v7 k s) (graph_Depth.l0 v4 v7 k' s) := by
  intro k
  induction k with
  | zero => exact fun _ s => Le.none _
  | succ k ih =>
    intro k' hk s
    cases k' with
    | zero => exact absurd hk (by omega)
    | succ k' =>
      have hk' := Nat.le_of_succ_le_succ hk
      simp only [graph_Depth.l0]
      repeat' (first | with_reducible exact Le.refl _ | exact ih hk' _ | refine graph_Depth.l1.mono _ _ hk' _ | refine Le.cond ?_ ?_ | refine Le.bind ?_ (fun _ => ?_) | cases ‹Except _ _› | intro _)
noncomputable def graph_Depth.l0.v (v4 : (List ByteArray) × (List ByteArray)) (v7 : (GM (List ByteArray))) (s : (GM Int) × Int) : Option (GM Int) := lim (fun k => graph_Depth.l0 v4 v7 k s)
theorem graph_Depth.l0.tends (v4 : (List ByteArray) × (List ByteArray)) (v7 : (GM (List ByteArray))) (s : (GM Int) × Int) : Tends (fun k => graph_Depth.l0 v4 v7 k s) (graph_Depth.l0.v v4 v7 s) := tends_lim (fun hk => graph_Depth.l0.mono v4 v7 hk s)
set_option maxHeartbeats 4000000 in
set_option maxRecDepth 100000 in
theorem graph_Depth.mono {k k' : Nat} (hk' : k ≤ k') (a0 : Make) (a1 : ByteArray) : Le (graph_Depth.f k a0 a1 ) (graph_Depth.f k' a0 a1 ) := by
  simp only [graph_Depth.f]
  repeat' (first | with_reducible exact Le.refl _ | apply graph_one.mono (hk' := hk') | apply graph_walk.mono (hk' := hk') | apply graph_needs.mono (hk' := hk') | refine graph_Depth.l0.mono _ _ hk' _ | refine Le.cond ?_ ?_ | refine Le.bind ?_ (fun _ => ?_) | cases ‹Except _ _› | intro _)
noncomputable def graph_Depth.v (a0 : Make) (a1 : ByteArray) : Option (Int × Int) := lim (fun k => graph_Depth.f k a0 a1 )
theorem graph_Depth.tends (a0 : Make) (a1 : ByteArray) : Tends (fun k => graph_Depth.f k a0 a1 ) (graph_Depth.v a0 a1 ) := tends_lim (fun hk => graph_Depth.mono hk a0 a1 )
set_option maxHeartbeats 4000000 in
set_option maxRecDepth 100000 in
theorem graph_Depth.v_eq (a0 : Make) (a1 : ByteArray) : graph_Depth.v a0 a1 = (graph_one.v a0 a1).bind fun v1 => bif icmp .neq v1 (0 : Int) then (some ((0 : Int), v1)) else ((graph_walk.v a0 ([a1])).bind fun v4 => bif icmp .gtr (v4.2.length : Int) (0 : Int) then (some ((0 : Int), (100 : Int))) else ((graph_needs.v a0).bind fun v7 => (graph_Depth.l0.v v4 v7 ((gempty : GM Int), (0 : Int))).bind fun s10 => (gget s10 (0 : Int) a1).bind fun x29 => some (x29, (0 : Int)))) := (graph_Depth.tends a0 a1 ).uniq (by
  simp only [graph_Depth.f]
  repeat' (first | with_reducible exact Tends.const _ | apply graph_one.tends | apply graph_walk.tends | apply graph_needs.tends | apply graph_Depth.l0.tends | refine Tends.cond ?_ ?_ | refine Tends.bind ?_ (fun _ => ?_) | cases ‹Except _ _› | intro _))
/-! smithy/smithyplain.Texts -/
set_option maxHeartbeats 4000000 in
set_option maxRecDepth 100000 in
theorem smithyplain_Texts.l0.mono (a0 : List ByteArray) (a1 : List ByteArray) : ∀ {k k' : Nat}, k ≤ k' → ∀ s, Le (smithyplain_Texts.l0 a0 a1 k s) (smithyplain_Texts.l0 a0 a1 k' s) := by
  intro k
  induction k with
  | zero => exact fun _ s => Le.none _
  | succ k ih =>
    intro k' hk s
    cases k' with
    | zero => exact absurd hk (by omega)
    | succ k' =>
      have hk' := Nat.le_of_succ_le_succ hk
      simp only [smithyplain_Texts.l0]
      repeat' (first | with_reducible exact Le.refl _ | exact ih hk' _ | refine Le.cond ?_ ?_ | refine Le.bind ?_ (fun _ => ?_) | cases ‹Except _ _› | intro _)
set_option maxHeartbeats 4000000 in
set_option maxRecDepth 100000 in
theorem smithyplain_Texts.mono {k k' : Nat} (hk' : k ≤ k') (a0 : List ByteArray) (a1 : List ByteArray) : Le (smithyplain_Texts.f k a0 a1 ) (smithyplain_Texts.f k' a0 a1 ) := by
  simp only [smithyplain_Texts.f]
  repeat' (first | with_reducible exact Le.refl _ | refine smithyplain_Texts.l0.mono _ _ hk' _ | refine Le.cond ?_ ?_ | refine Le.bind ?_ (fun _ => ?_) | cases ‹Except _ _› | intro _)
noncomputable def smithyplain_Texts.v (a0 : List ByteArray) (a1 : List ByteArray) : Option Bool := lim (fun k => smithyplain_Texts.f k a0 a1 )
theorem smithyplain_Texts.tends (a0 : List ByteArray) (a1 : List ByteArray) : Tends (fun k => smithyplain_Texts.f k a0 a1 ) (smithyplain_Texts.v a0 a1 ) := tends_lim (fun hk => smithyplain_Texts.mono hk a0 a1 )
/-! smithy/smithylaw10.speaks -/
set_option maxHeartbeats 4000000 in
set_option maxRecDepth 100000 in
theorem smithylaw10_speaks.mono {k k' : Nat} (hk' : k ≤ k') : Le (smithylaw10_speaks.f k ) (smithylaw10_speaks.f k' ) := by
  simp only [smithylaw10_speaks.f]
  repeat' (first | with_reducible exact Le.refl _ | apply graph_Order.mono (hk' := hk') | apply graph_Users.mono (hk' := hk') | apply graph_Depth.mono (hk' := hk') | apply smithyplain_Texts.mono (hk' := hk') | refine Le.cond ?_ ?_ | refine Le.bind ?_ (fun _ => ?_) | cases ‹Except _ _› | intro _)
noncomputable def smithylaw10_speaks.v : Option Bool := lim (fun k => smithylaw10_speaks.f k )
theorem smithylaw10_speaks.tends : Tends (fun k => smithylaw10_speaks.f k ) (smithylaw10_speaks.v ) := tends_lim (fun hk => smithylaw10_speaks.mono hk )
set_option maxHeartbeats 4000000 in
set_option maxRecDepth 100000 in
theorem smithylaw10_speaks.v_eq : smithylaw10_speaks.v = (graph_Order.v (⟨([] : List Macro), [(⟨(⟨#[97]⟩ : ByteArray), [(⟨#[98]⟩ : ByteArray), (⟨#[99]⟩ : ByteArray)], ([] : List ByteArray), false⟩ : Rule), (⟨(⟨#[98]⟩ : ByteArray), [(⟨#[100]⟩ : ByteArray)], ([] : List ByteArray), false⟩ : Rule), (⟨(⟨#[99]⟩ : ByteArray), [(⟨#[100]⟩ : ByteArray)], ([] : List ByteArray), false⟩ : Rule)], ([] : List Infer), zeroSpecial, ByteArray.empty⟩ : Make) ([(⟨#[97]⟩ : ByteArray)])).bind fun v1 => (graph_Users.v (⟨([] : List Macro), [(⟨(⟨#[97]⟩ : ByteArray), [(⟨#[98]⟩ : ByteArray), (⟨#[99]⟩ : ByteArray)], ([] : List ByteArray), false⟩ : Rule), (⟨(⟨#[98]⟩ : ByteArray), [(⟨#[100]⟩ : ByteArray)], ([] : List ByteArray), false⟩ : Rule), (⟨(⟨#[99]⟩ : ByteArray), [(⟨#[100]⟩ : ByteArray)], ([] : List ByteArray), false⟩ : Rule)], ([] : List Infer), zeroSpecial, ByteArray.empty⟩ : Make) (⟨#[100]⟩ : ByteArray)).bind fun v3 => (graph_Depth.v (⟨([] : List Macro), [(⟨(⟨#[97]⟩ : ByteArray), [(⟨#[98]⟩ : ByteArray), (⟨#[99]⟩ : ByteArray)], ([] : List ByteArray), false⟩ : Rule), (⟨(⟨#[98]⟩ : ByteArray), [(⟨#[100]⟩ : ByteArray)], ([] : List ByteArray), false⟩ : Rule), (⟨(⟨#[99]⟩ : ByteArray), [(⟨#[100]⟩ : ByteArray)], ([] : List ByteArray), false⟩ : Rule)], ([] : List Infer), zeroSpecial, ByteArray.empty⟩ : Make) (⟨#[97]⟩ : ByteArray)).bind fun v5 => (bif icmp .eql v1.2 (0 : Int) then ((smithyplain_Texts.v v1.1 ([(⟨#[100]⟩ : ByteArray), (⟨#[98]⟩ : ByteArray), (⟨#[99]⟩ : ByteArray), (⟨#[97]⟩ : ByteArray)])).bind fun v10 => bif v10 then (bif icmp .eql v3.2 (0 : Int) then ((smithyplain_Texts.v v3.1 ([(⟨#[98]⟩ : ByteArray), (⟨#[99]⟩ : ByteArray)])).bind fun v14 => bif v14 then (bif icmp .eql v5.1 (2 : Int) then (some (icmp .eql v5.2 (0 : Int))) else (some false)) else (some false)) else (some false)) else (some false)) else (some false)).bind fun s7 => some s7 := (smithylaw10_speaks.tends ).uniq (by
  simp only [smithylaw10_speaks.f]
  repeat' (first | with_reducible exact Tends.const _ | apply graph_Order.tends | apply graph_Users.tends | apply graph_Depth.tends | apply smithyplain_Texts.tends | refine Tends.cond ?_ ?_ | refine Tends.bind ?_ (fun _ => ?_) | cases ‹Except _ _› | intro _))
/-! slices.Clone[[]string,string] -/
/-! smithy/graph.Reach -/
set_option maxHeartbeats 4000000 in
set_option maxRecDepth 100000 in
theorem graph_Reach.l0.mono (v4 : (GM (List ByteArray))) : ∀ {k k' : Nat}, k ≤ k' → ∀ s, Le (graph_Reach.l0 v4 k s) (graph_Reach.l0 v4 k' s) := by
  intro k
  induction k with
  | zero => exact fun _ s => Le.none _
  | succ k ih =>
    intro k' hk s
    cases k' with
    | zero => exact absurd hk (by omega)
    | succ k' =>
      have hk' := Nat.le_of_succ_le_succ hk
      simp only [graph_Reach.l0]
      repeat' (first | with_reducible exact Le.refl _ | exact ih hk' _ | refine Le.cond ?_ ?_ | refine Le.bind ?_ (fun _ => ?_) | cases ‹Except _ _› | intro _)
noncomputable def graph_Reach.l0.v (v4 : (GM (List ByteArray))) (s : (GM Int) × (List ByteArray) × (List ByteArray)) : Option (List ByteArray) := lim (fun k => graph_Reach.l0 v4 k s)
theorem graph_Reach.l0.tends (v4 : (GM (List ByteArray))) (s : (GM Int) × (List ByteArray) × (List ByteArray)) : Tends (fun k => graph_Reach.l0 v4 k s) (graph_Reach.l0.v v4 s) := tends_lim (fun hk => graph_Reach.l0.mono v4 hk s)
set_option maxHeartbeats 4000000 in
set_option maxRecDepth 100000 in
theorem graph_Reach.l0.v_eq (v4 : (GM (List ByteArray))) (s8 : (GM Int) × (List ByteArray) × (List ByteArray)) : graph_Reach.l0.v v4 s8 = bif icmp .gtr (s8.2.2.length : Int) (0 : Int) then ((idx s8.2.2 (IntKind.i64.wrap ((s8.2.2.length : Int) - (1 : Int)))).bind fun x12 => (inrow s8.2.2 (IntKind.i64.wrap ((s8.2.2.length : Int) - (1 : Int)))).bind fun z14 => (gget s8.1 (0 : Int) x12).bind fun x16 => bif icmp .eql x16 (0 : Int) then ((gput s8.1 x12 (1 : Int)).bind fun x19 => (app 16 s8.2.1 ([x12])).bind fun x21 => (gget v4 ([] : List ByteArray) x12).bind fun x23 => (app 16 (s8.2.2.take (IntKind.i64.wrap ((s8.2.2.length : Int) - (1 : Int))).toNat) x23).bind fun x25 => graph_Reach.l0.v v4 (x19, x21, x25)) else (graph_Reach.l0.v v4 (s8.1, s8.2.1, s8.2.2.take (IntKind.i64.wrap ((s8.2.2.length : Int) - (1 : Int))).toNat))) else (some s8.2.1) := (graph_Reach.l0.tends v4 s8).shift.uniq (by
  simp only [graph_Reach.l0]
  repeat' (first | with_reducible exact Tends.const _ | apply graph_Reach.l0.tends | refine Tends.cond ?_ ?_ | refine Tends.bind ?_ (fun _ => ?_) | cases ‹Except _ _› | intro _))
set_option maxHeartbeats 4000000 in
set_option maxRecDepth 100000 in
theorem graph_Reach.mono {k k' : Nat} (hk' : k ≤ k') (a0 : Make) (a1 : List ByteArray) : Le (graph_Reach.f k a0 a1 ) (graph_Reach.f k' a0 a1 ) := by
  simp only [graph_Reach.f]
  repeat' (first | with_reducible exact Le.refl _ | apply graph_asked.mono (hk' := hk') | apply graph_needs.mono (hk' := hk') | refine graph_Reach.l0.mono _ hk' _ | refine Le.cond ?_ ?_ | refine Le.bind ?_ (fun _ => ?_) | cases ‹Except _ _› | intro _)
noncomputable def graph_Reach.v (a0 : Make) (a1 : List ByteArray) : Option ((List ByteArray) × Int) := lim (fun k => graph_Reach.f k a0 a1 )
theorem graph_Reach.tends (a0 : Make) (a1 : List ByteArray) : Tends (fun k => graph_Reach.f k a0 a1 ) (graph_Reach.v a0 a1 ) := tends_lim (fun hk => graph_Reach.mono hk a0 a1 )
set_option maxHeartbeats 4000000 in
set_option maxRecDepth 100000 in
theorem graph_Reach.v_eq (a0 : Make) (a1 : List ByteArray) : graph_Reach.v a0 a1 = (graph_asked.v a0 a1).bind fun v1 => bif icmp .neq v1 (0 : Int) then (some (([] : List ByteArray), v1)) else ((graph_needs.v a0).bind fun v4 => (slices_Clone_string_string.f a1).bind fun v6 => (graph_Reach.l0.v v4 ((gempty : GM Int), ([] : List ByteArray), v6)).bind fun s9 => (slices_Sort_string_string.f s9).bind fun v27 => some (v27, (0 : Int))) := (graph_Reach.tends a0 a1 ).uniq (by
  simp only [graph_Reach.f]
  repeat' (first | with_reducible exact Tends.const _ | apply graph_asked.tends | apply graph_needs.tends | apply graph_Reach.l0.tends | refine Tends.cond ?_ ?_ | refine Tends.bind ?_ (fun _ => ?_) | cases ‹Except _ _› | intro _))
/-! smithy/smithyref10.Needs -/
set_option maxHeartbeats 4000000 in
set_option maxRecDepth 100000 in
theorem smithyref10_Needs.l0.mono (a0 : Make) (a1 : ByteArray) : ∀ {k k' : Nat}, k ≤ k' → ∀ s, Le (smithyref10_Needs.l0 a0 a1 k s) (smithyref10_Needs.l0 a0 a1 k' s) := by
  intro k
  induction k with
  | zero => exact fun _ s => Le.none _
  | succ k ih =>
    intro k' hk s
    cases k' with
    | zero => exact absurd hk (by omega)
    | succ k' =>
      have hk' := Nat.le_of_succ_le_succ hk
      simp only [smithyref10_Needs.l0]
      repeat' (first | with_reducible exact Le.refl _ | exact ih hk' _ | refine Le.cond ?_ ?_ | refine Le.bind ?_ (fun _ => ?_) | cases ‹Except _ _› | intro _)
noncomputable def smithyref10_Needs.l0.v (a0 : Make) (a1 : ByteArray) (s : Int) : Option (Except (List ByteArray) Unit) := lim (fun k => smithyref10_Needs.l0 a0 a1 k s)
theorem smithyref10_Needs.l0.tends (a0 : Make) (a1 : ByteArray) (s : Int) : Tends (fun k => smithyref10_Needs.l0 a0 a1 k s) (smithyref10_Needs.l0.v a0 a1 s) := tends_lim (fun hk => smithyref10_Needs.l0.mono a0 a1 hk s)
set_option maxHeartbeats 4000000 in
set_option maxRecDepth 100000 in
theorem smithyref10_Needs.l0.v_eq (a0 : Make) (a1 : ByteArray) (s1 : Int) : smithyref10_Needs.l0.v a0 a1 s1 = bif icmp .lss s1 (a0.Rules.length : Int) then ((idx a0.Rules s1).bind fun x6 => bif scmp .eql x6.Target a1 then ((idx a0.Rules s1).bind fun x9 => some (Except.error x9.Needs)) else (smithyref10_Needs.l0.v a0 a1 (IntKind.i64.wrap (s1 + (1 : Int))))) else (some (Except.ok ())) := (smithyref10_Needs.l0.tends a0 a1 s1).shift.uniq (by
  simp only [smithyref10_Needs.l0]
  repeat' (first | with_reducible exact Tends.const _ | apply smithyref10_Needs.l0.tends | refine Tends.cond ?_ ?_ | refine Tends.bind ?_ (fun _ => ?_) | cases ‹Except _ _› | intro _))
set_option maxHeartbeats 4000000 in
set_option maxRecDepth 100000 in
theorem smithyref10_Needs.mono {k k' : Nat} (hk' : k ≤ k') (a0 : Make) (a1 : ByteArray) : Le (smithyref10_Needs.f k a0 a1 ) (smithyref10_Needs.f k' a0 a1 ) := by
  simp only [smithyref10_Needs.f]
  repeat' (first | with_reducible exact Le.refl _ | refine smithyref10_Needs.l0.mono _ _ hk' _ | refine Le.cond ?_ ?_ | refine Le.bind ?_ (fun _ => ?_) | cases ‹Except _ _› | intro _)
noncomputable def smithyref10_Needs.v (a0 : Make) (a1 : ByteArray) : Option (List ByteArray) := lim (fun k => smithyref10_Needs.f k a0 a1 )
theorem smithyref10_Needs.tends (a0 : Make) (a1 : ByteArray) : Tends (fun k => smithyref10_Needs.f k a0 a1 ) (smithyref10_Needs.v a0 a1 ) := tends_lim (fun hk => smithyref10_Needs.mono hk a0 a1 )
set_option maxHeartbeats 4000000 in
set_option maxRecDepth 100000 in
theorem smithyref10_Needs.v_eq (a0 : Make) (a1 : ByteArray) : smithyref10_Needs.v a0 a1 = (smithyref10_Needs.l0.v a0 a1 (0 : Int)).bind fun o4 => match o4 with | .error r' => some r' | .ok s2 => (some ([] : List ByteArray)) := (smithyref10_Needs.tends a0 a1 ).uniq (by
  simp only [smithyref10_Needs.f]
  repeat' (first | with_reducible exact Tends.const _ | apply smithyref10_Needs.l0.tends | refine Tends.cond ?_ ?_ | refine Tends.bind ?_ (fun _ => ?_) | cases ‹Except _ _› | intro _))
/-! smithy/smithylaw10.GraphOrders -/
set_option maxHeartbeats 4000000 in
set_option maxRecDepth 100000 in
theorem smithylaw10_GraphOrders.l1.mono (v1 : (List ByteArray) × Int) (s38 : Int) (v59 : (List ByteArray)) : ∀ {k k' : Nat}, k ≤ k' → ∀ s, Le (smithylaw10_GraphOrders.l1 v1 s38 v59 k s) (smithylaw10_GraphOrders.l1 v1 s38 v59 k' s) := by
  intro k
  induction k with
  | zero => exact fun _ s => Le.none _
  | succ k ih =>
    intro k' hk s
    cases k' with
    | zero => exact absurd hk (by omega)
    | succ k' =>
      have hk' := Nat.le_of_succ_le_succ hk
      simp only [smithylaw10_GraphOrders.l1]
      repeat' (first | with_reducible exact Le.refl _ | exact ih hk' _ | apply smithyref03_Has.mono (hk' := hk') | refine Le.cond ?_ ?_ | refine Le.bind ?_ (fun _ => ?_) | cases ‹Except _ _› | intro _)
noncomputable def smithylaw10_GraphOrders.l1.v (v1 : (List ByteArray) × Int) (s38 : Int) (v59 : (List ByteArray)) (s : Int) : Option (Except Bool Unit) := lim (fun k => smithylaw10_GraphOrders.l1 v1 s38 v59 k s)
theorem smithylaw10_GraphOrders.l1.tends (v1 : (List ByteArray) × Int) (s38 : Int) (v59 : (List ByteArray)) (s : Int) : Tends (fun k => smithylaw10_GraphOrders.l1 v1 s38 v59 k s) (smithylaw10_GraphOrders.l1.v v1 s38 v59 s) := tends_lim (fun hk => smithylaw10_GraphOrders.l1.mono v1 s38 v59 hk s)
set_option maxHeartbeats 4000000 in
set_option maxRecDepth 100000 in
theorem smithylaw10_GraphOrders.l1.v_eq (v1 : (List ByteArray) × Int) (s38 : Int) (v59 : (List ByteArray)) (s61 : Int) : smithylaw10_GraphOrders.l1.v v1 s38 v59 s61 = bif icmp .lss s61 (v59.length : Int) then ((sub v1.1 (0 : Int) s38).bind fun x66 => (idx v59 s61).bind fun x68 => (smithyref03_Has.v x66 x68).bind fun v70 => bif !v70 then (some (Except.error false)) else (smithylaw10_GraphOrders.l1.v v1 s38 v59 (IntKind.i64.wrap (s61 + (1 : Int))))) else (some (Except.ok ())) := (smithylaw10_GraphOrders.l1.tends v1 s38 v59 s61).shift.uniq (by
  simp only [smithylaw10_GraphOrders.l1]
  repeat' (first | with_reducible exact Tends.const _ | apply smithyref03_Has.tends | apply smithylaw10_GraphOrders.l1.tends | refine Tends.cond ?_ ?_ | refine Tends.bind ?_ (fun _ => ?_) | cases ‹Except _ _› | intro _))
set_option maxHeartbeats 4000000 in
set_option maxRecDepth 100000 in
theorem smithylaw10_GraphOrders.l0.mono (a0 : Make) (v1 : (List ByteArray) × Int) (v29 : (List ByteArray) × Int) : ∀ {k k' : Nat}, k ≤ k' → ∀ s, Le (smithylaw10_GraphOrders.l0 a0 v1 v29 k s) (smithylaw10_GraphOrders.l0 a0 v1 v29 k' s) := by
  intro k
  induction k with
  | zero => exact fun _ s => Le.none _
  | succ k ih =>
    intro k' hk s
    cases k' with
    | zero => exact absurd hk (by omega)
    | succ k' =>
      have hk' := Nat.le_of_succ_le_succ hk
      simp only [smithylaw10_GraphOrders.l0]
      repeat' (first | with_reducible exact Le.refl _ | exact ih hk' _ | apply smithyref03_Has.mono (hk' := hk') | apply smithyref10_Needs.mono (hk' := hk') | refine smithylaw10_GraphOrders.l1.mono _ _ _ hk' _ | refine Le.cond ?_ ?_ | refine Le.bind ?_ (fun _ => ?_) | cases ‹Except _ _› | intro _)
noncomputable def smithylaw10_GraphOrders.l0.v (a0 : Make) (v1 : (List ByteArray) × Int) (v29 : (List ByteArray) × Int) (s : Int) : Option (Except Bool Unit) := lim (fun k => smithylaw10_GraphOrders.l0 a0 v1 v29 k s)
theorem smithylaw10_GraphOrders.l0.tends (a0 : Make) (v1 : (List ByteArray) × Int) (v29 : (List ByteArray) × Int) (s : Int) : Tends (fun k => smithylaw10_GraphOrders.l0 a0 v1 v29 k s) (smithylaw10_GraphOrders.l0.v a0 v1 v29 s) := tends_lim (fun hk => smithylaw10_GraphOrders.l0.mono a0 v1 v29 hk s)
set_option maxHeartbeats 4000000 in
set_option maxRecDepth 100000 in
theorem smithylaw10_GraphOrders.l0.v_eq (a0 : Make) (v1 : (List ByteArray) × Int) (v29 : (List ByteArray) × Int) (s38 : Int) : smithylaw10_GraphOrders.l0.v a0 v1 v29 s38 = bif icmp .lss s38 (v1.1.length : Int) then (((idx v1.1 s38).bind fun x45 => (smithyref03_Has.v v29.1 x45).bind fun v47 => bif !v47 then (some true) else ((sub v1.1 (0 : Int) s38).bind fun x50 => (idx v1.1 s38).bind fun x52 => (smithyref03_Has.v x50 x52).bind fun v54 => some v54)).bind fun s43 => bif s43 then (some (Except.error false)) else ((idx v1.1 s38).bind fun x57 => (smithyref10_Needs.v a0 x57).bind fun v59 => (smithylaw10_GraphOrders.l1.v v1 s38 v59 (0 : Int)).bind fun o64 => match o64 with | .error r' => some (Except.error r') | .ok s62 => (smithylaw10_GraphOrders.l0.v a0 v1 v29 (IntKind.i64.wrap (s38 + (1 : Int)))))) else (some (Except.ok ())) := (smithylaw10_GraphOrders.l0.tends a0 v1 v29 s38).shift.uniq (by
  simp only [smithylaw10_GraphOrders.l0]
  repeat' (first | with_reducible exact Tends.const _ | apply smithyref03_Has.tends | apply smithyref10_Needs.tends | apply smithylaw10_GraphOrders.l1.tends | apply smithylaw10_GraphOrders.l0.tends | refine Tends.cond ?_ ?_ | refine Tends.bind ?_ (fun _ => ?_) | cases ‹Except _ _› | intro _))
set_option maxHeartbeats 4000000 in
set_option maxRecDepth 100000 in
theorem smithylaw10_GraphOrders.mono {k k' : Nat} (hk' : k ≤ k') (a0 : Make) (a1 : List ByteArray) : Le (smithylaw10_GraphOrders.f k a0 a1 ) (smithylaw10_GraphOrders.f k' a0 a1 ) := by
  simp only [smithylaw10_GraphOrders.f]
  repeat' (first | with_reducible exact Le.refl _ | apply graph_Order.mono (hk' := hk') | apply graph_Ring.mono (hk' := hk') | apply smithyref09_Right.mono (hk' := hk') | apply smithyref02_List.mono (hk' := hk') | apply smithylaw10_speaks.mono (hk' := hk') | apply graph_Reach.mono (hk' := hk') | refine smithylaw10_GraphOrders.l0.mono _ _ _ hk' _ | refine Le.cond ?_ ?_ | refine Le.bind ?_ (fun _ => ?_) | cases ‹Except _ _› | intro _)
noncomputable def smithylaw10_GraphOrders.v (a0 : Make) (a1 : List ByteArray) : Option Bool := lim (fun k => smithylaw10_GraphOrders.f k a0 a1 )
theorem smithylaw10_GraphOrders.tends (a0 : Make) (a1 : List ByteArray) : Tends (fun k => smithylaw10_GraphOrders.f k a0 a1 ) (smithylaw10_GraphOrders.v a0 a1 ) := tends_lim (fun hk => smithylaw10_GraphOrders.mono hk a0 a1 )
set_option maxHeartbeats 4000000 in
set_option maxRecDepth 100000 in
theorem smithylaw10_GraphOrders.v_eq (a0 : Make) (a1 : List ByteArray) : smithylaw10_GraphOrders.v a0 a1 = (graph_Order.v a0 a1).bind fun v1 => (graph_Ring.v a0 a1).bind fun v3 => ((smithyref09_Right.v a0).bind fun v7 => bif !v7 then (some true) else ((smithyref02_List.v a1).bind fun v10 => some (icmp .neq v10 (0 : Int)))).bind fun s5 => bif s5 then ((bif icmp .neq v1.2 (0 : Int) then (bif icmp .neq v3.2.2 (0 : Int) then (bif !v3.2.1 then ((smithylaw10_speaks.v).bind fun v18 => some v18) else (some false)) else (some false)) else (some false)).bind fun s13 => some s13) else (bif v3.2.1 then ((bif icmp .eql v1.2 (100 : Int) then (bif icmp .eql (v1.1.length : Int) (0 : Int) then (bif icmp .gtr (v3.1.length : Int) (0 : Int) then (bif icmp .eql v3.2.2 (0 : Int) then ((smithylaw10_speaks.v).bind fun v27 => some v27) else (some false)) else (some false)) else (some false)) else (some false)).bind fun s21 => some s21) else ((graph_Reach.v a0 a1).bind fun v29 => (bif icmp .neq v1.2 (0 : Int) then (some true) else (bif icmp .neq v3.2.2 (0 : Int) then (some true) else (bif icmp .neq v29.2 (0 : Int) then (some true) else (bif icmp .neq (v1.1.length : Int) (v29.1.length : Int) then (some true) else (some (icmp .neq (v3.1.length : Int) (0 : Int))))))).bind fun s31 => bif s31 then (some false) else ((smithylaw10_GraphOrders.l0.v a0 v1 v29 (0 : Int)).bind fun o41 => match o41 with | .error r' => some r' | .ok s39 => ((smithylaw10_speaks.v).bind fun v73 => some v73)))) := (smithylaw10_GraphOrders.tends a0 a1 ).uniq (by
  simp only [smithylaw10_GraphOrders.f]
  repeat' (first | with_reducible exact Tends.const _ | apply graph_Order.tends | apply graph_Ring.tends | apply smithyref09_Right.tends | apply smithyref02_List.tends | apply smithylaw10_speaks.tends | apply graph_Reach.tends | apply smithylaw10_GraphOrders.l0.tends | refine Tends.cond ?_ ?_ | refine Tends.bind ?_ (fun _ => ?_) | cases ‹Except _ _› | intro _))
end Go.Proofs.Ytlpmolohppoofaa.F
