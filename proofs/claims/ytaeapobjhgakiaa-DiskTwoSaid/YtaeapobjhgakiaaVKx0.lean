import Derived.Test.YtaeapobjhgakiaaFKx6
set_option linter.unusedVariables false
set_option linter.unusedSimpArgs false
set_option linter.unnecessarySimpa false
set_option linter.deprecated false
namespace Go.Proofs.Ytaeapobjhgakiaa.F
open Go Go.RowKit Go.Proofs.Ytaeapobjhgakiaa.Sl
/-! smithy/disk.named -/
set_option maxHeartbeats 4000000 in
set_option maxRecDepth 100000 in
theorem disk_named.l0.mono (a0 : ByteArray) : ∀ {k k' : Nat}, k ≤ k' → ∀ s, Le (disk_named.l0 a0 k s) (disk_named.l0 a0 k' s) := by
  intro k
  induction k with
  | zero => exact fun _ s => Le.none _
  | succ k ih =>
    intro k' hk s
    cases k' with
    | zero => exact absurd hk (by omega)
    | succ k' =>
      have hk' := Nat.le_of_succ_le_succ hk
      simp only [disk_named.l0]
      repeat' (first | with_reducible exact Le.refl _ | exact ih hk' _ | refine Le.cond ?_ ?_ | refine Le.bind ?_ (fun _ => ?_) | cases ‹Except _ _› | intro _)
noncomputable def disk_named.l0.v (a0 : ByteArray) (s : Int) : Option (Except Bool Unit) := lim (fun k => disk_named.l0 a0 k s)
theorem disk_named.l0.tends (a0 : ByteArray) (s : Int) : Tends (fun k => disk_named.l0 a0 k s) (disk_named.l0.v a0 s) := tends_lim (fun hk => disk_named.l0.mono a0 hk s)
set_option maxHeartbeats 4000000 in
set_option maxRecDepth 100000 in
theorem disk_named.l0.v_eq (a0 : ByteArray) (s5 : Int) : disk_named.l0.v a0 s5 = bif icmp .lss s5 (a0.size : Int) then ((bidx a0 s5).bind fun x10 => (bif icmp .geq x10 (65 : Int) then (bif icmp .leq x10 (90 : Int) then (some (!true)) else (bif icmp .geq x10 (97 : Int) then (bif icmp .leq x10 (122 : Int) then (some (!true)) else (bif icmp .geq x10 (48 : Int) then (bif icmp .leq x10 (57 : Int) then (some (!true)) else ((strings_IndexByte.f (⟨#[95, 45, 46, 47, 43]⟩ : ByteArray) x10).bind fun v20 => some (!(icmp .geq v20 (0 : Int))))) else ((strings_IndexByte.f (⟨#[95, 45, 46, 47, 43]⟩ : ByteArray) x10).bind fun v22 => some (!(icmp .geq v22 (0 : Int)))))) else (bif icmp .geq x10 (48 : Int) then (bif icmp .leq x10 (57 : Int) then (some (!true)) else ((strings_IndexByte.f (⟨#[95, 45, 46, 47, 43]⟩ : ByteArray) x10).bind fun v26 => some (!(icmp .geq v26 (0 : Int))))) else ((strings_IndexByte.f (⟨#[95, 45, 46, 47, 43]⟩ : ByteArray) x10).bind fun v28 => some (!(icmp .geq v28 (0 : Int))))))) else (bif icmp .geq x10 (97 : Int) then (bif icmp .leq x10 (122 : Int) then (some (!true)) else (bif icmp .geq x10 (48 : Int) then (bif icmp .leq x10 (57 : Int) then (some (!true)) else ((strings_IndexByte.f (⟨#[95, 45, 46, 47, 43]⟩ : ByteArray) x10).bind fun v34 => some (!(icmp .geq v34 (0 : Int))))) else ((strings_IndexByte.f (⟨#[95, 45, 46, 47, 43]⟩ : ByteArray) x10).bind fun v36 => some (!(icmp .geq v36 (0 : Int)))))) else (bif icmp .geq x10 (48 : Int) then (bif icmp .leq x10 (57 : Int) then (some (!true)) else ((strings_IndexByte.f (⟨#[95, 45, 46, 47, 43]⟩ : ByteArray) x10).bind fun v40 => some (!(icmp .geq v40 (0 : Int))))) else ((strings_IndexByte.f (⟨#[95, 45, 46, 47, 43]⟩ : ByteArray) x10).bind fun v42 => some (!(icmp .geq v42 (0 : Int))))))).bind fun s12 => bif s12 then (some (Except.error false)) else (disk_named.l0.v a0 (IntKind.i64.wrap (s5 + (1 : Int))))) else (some (Except.ok ())) := (disk_named.l0.tends a0 s5).shift.uniq (by
  simp only [disk_named.l0]
  repeat' (first | with_reducible exact Tends.const _ | apply disk_named.l0.tends | refine Tends.cond ?_ ?_ | refine Tends.bind ?_ (fun _ => ?_) | cases ‹Except _ _› | intro _))
set_option maxHeartbeats 4000000 in
set_option maxRecDepth 100000 in
theorem disk_named.mono {k k' : Nat} (hk' : k ≤ k') (a0 : ByteArray) : Le (disk_named.f k a0 ) (disk_named.f k' a0 ) := by
  simp only [disk_named.f]
  repeat' (first | with_reducible exact Le.refl _ | refine disk_named.l0.mono _ hk' _ | refine Le.cond ?_ ?_ | refine Le.bind ?_ (fun _ => ?_) | cases ‹Except _ _› | intro _)
noncomputable def disk_named.v (a0 : ByteArray) : Option Bool := lim (fun k => disk_named.f k a0 )
theorem disk_named.tends (a0 : ByteArray) : Tends (fun k => disk_named.f k a0 ) (disk_named.v a0 ) := tends_lim (fun hk => disk_named.mono hk a0 )
set_option maxHeartbeats 4000000 in
set_option maxRecDepth 100000 in
theorem disk_named.v_eq (a0 : ByteArray) : disk_named.v a0 = (bif icmp .lss (a0.size : Int) (1 : Int) then (some true) else (some (icmp .gtr (a0.size : Int) (64 : Int)))).bind fun s1 => bif s1 then (some false) else ((disk_named.l0.v a0 (0 : Int)).bind fun o8 => match o8 with | .error r' => some r' | .ok s6 => (some true)) := (disk_named.tends a0 ).uniq (by
  simp only [disk_named.f]
  repeat' (first | with_reducible exact Tends.const _ | apply disk_named.l0.tends | refine Tends.cond ?_ ?_ | refine Tends.bind ?_ (fun _ => ?_) | cases ‹Except _ _› | intro _))
/-! smithy/disk.Check -/
set_option maxHeartbeats 4000000 in
set_option maxRecDepth 100000 in
theorem disk_Check.l0.mono (a0 : Disk) : ∀ {k k' : Nat}, k ≤ k' → ∀ s, Le (disk_Check.l0 a0 k s) (disk_Check.l0 a0 k' s) := by
  intro k
  induction k with
  | zero => exact fun _ s => Le.none _
  | succ k ih =>
    intro k' hk s
    cases k' with
    | zero => exact absurd hk (by omega)
    | succ k' =>
      have hk' := Nat.le_of_succ_le_succ hk
      simp only [disk_Check.l0]
      repeat' (first | with_reducible exact Le.refl _ | exact ih hk' _ | apply disk_named.mono (hk' := hk') | refine Le.cond ?_ ?_ | refine Le.bind ?_ (fun _ => ?_) | cases ‹Except _ _› | intro _)
noncomputable def disk_Check.l0.v (a0 : Disk) (s : File × Int) : Option (Except Int Unit) := lim (fun k => disk_Check.l0 a0 k s)
theorem disk_Check.l0.tends (a0 : Disk) (s : File × Int) : Tends (fun k => disk_Check.l0 a0 k s) (disk_Check.l0.v a0 s) := tends_lim (fun hk => disk_Check.l0.mono a0 hk s)
set_option maxHeartbeats 4000000 in
set_option maxRecDepth 100000 in
theorem disk_Check.l0.v_eq (a0 : Disk) (s6 : File × Int) : disk_Check.l0.v a0 s6 = bif icmp .lss s6.2 (a0.Files.length : Int) then ((idx a0.Files s6.2).bind fun x11 => ((disk_named.v x11.Name).bind fun v15 => bif !v15 then (some true) else (bif icmp .gtr s6.2 (0 : Int) then (bif scmp .leq x11.Name s6.1.Name then (some true) else (bif icmp .gtr (x11.Text.size : Int) (4096 : Int) then (some true) else (bif icmp .lss x11.Stamp (0 : Int) then (some true) else (some (icmp .gtr x11.Stamp a0.Clock))))) else (bif icmp .gtr (x11.Text.size : Int) (4096 : Int) then (some true) else (bif icmp .lss x11.Stamp (0 : Int) then (some true) else (some (icmp .gtr x11.Stamp a0.Clock)))))).bind fun s13 => bif s13 then (some (Except.error (4 : Int))) else (disk_Check.l0.v a0 (x11, IntKind.i64.wrap (s6.2 + (1 : Int))))) else (some (Except.ok ())) := (disk_Check.l0.tends a0 s6).shift.uniq (by
  simp only [disk_Check.l0]
  repeat' (first | with_reducible exact Tends.const _ | apply disk_named.tends | apply disk_Check.l0.tends | refine Tends.cond ?_ ?_ | refine Tends.bind ?_ (fun _ => ?_) | cases ‹Except _ _› | intro _))
set_option maxHeartbeats 4000000 in
set_option maxRecDepth 100000 in
theorem disk_Check.mono {k k' : Nat} (hk' : k ≤ k') (a0 : Disk) : Le (disk_Check.f k a0 ) (disk_Check.f k' a0 ) := by
  simp only [disk_Check.f]
  repeat' (first | with_reducible exact Le.refl _ | refine disk_Check.l0.mono _ hk' _ | refine Le.cond ?_ ?_ | refine Le.bind ?_ (fun _ => ?_) | cases ‹Except _ _› | intro _)
noncomputable def disk_Check.v (a0 : Disk) : Option Int := lim (fun k => disk_Check.f k a0 )
theorem disk_Check.tends (a0 : Disk) : Tends (fun k => disk_Check.f k a0 ) (disk_Check.v a0 ) := tends_lim (fun hk => disk_Check.mono hk a0 )
set_option maxHeartbeats 4000000 in
set_option maxRecDepth 100000 in
theorem disk_Check.v_eq (a0 : Disk) : disk_Check.v a0 = (bif icmp .lss a0.Clock (0 : Int) then (some true) else (bif icmp .gtr a0.Clock (1099511627776 : Int) then (some true) else (some (icmp .gtr (a0.Files.length : Int) (256 : Int))))).bind fun s1 => bif s1 then (some (4 : Int)) else ((disk_Check.l0.v a0 ((⟨ByteArray.empty, ByteArray.empty, (0 : Int)⟩ : File), (0 : Int))).bind fun o9 => match o9 with | .error r' => some r' | .ok s7 => (some (0 : Int))) := (disk_Check.tends a0 ).uniq (by
  simp only [disk_Check.f]
  repeat' (first | with_reducible exact Tends.const _ | apply disk_Check.l0.tends | refine Tends.cond ?_ ?_ | refine Tends.bind ?_ (fun _ => ?_) | cases ‹Except _ _› | intro _))
/-! smithy/disk.asked -/
set_option maxHeartbeats 4000000 in
set_option maxRecDepth 100000 in
theorem disk_asked.mono {k k' : Nat} (hk' : k ≤ k') (a0 : Disk) (a1 : ByteArray) : Le (disk_asked.f k a0 a1 ) (disk_asked.f k' a0 a1 ) := by
  simp only [disk_asked.f]
  repeat' (first | with_reducible exact Le.refl _ | apply disk_Check.mono (hk' := hk') | apply disk_named.mono (hk' := hk') | refine Le.cond ?_ ?_ | refine Le.bind ?_ (fun _ => ?_) | cases ‹Except _ _› | intro _)
noncomputable def disk_asked.v (a0 : Disk) (a1 : ByteArray) : Option Int := lim (fun k => disk_asked.f k a0 a1 )
theorem disk_asked.tends (a0 : Disk) (a1 : ByteArray) : Tends (fun k => disk_asked.f k a0 a1 ) (disk_asked.v a0 a1 ) := tends_lim (fun hk => disk_asked.mono hk a0 a1 )
set_option maxHeartbeats 4000000 in
set_option maxRecDepth 100000 in
theorem disk_asked.v_eq (a0 : Disk) (a1 : ByteArray) : disk_asked.v a0 a1 = (disk_Check.v a0).bind fun v1 => bif icmp .neq v1 (0 : Int) then (some v1) else ((disk_named.v a1).bind fun v4 => bif !v4 then (some (3 : Int)) else (some (0 : Int))) := (disk_asked.tends a0 a1 ).uniq (by
  simp only [disk_asked.f]
  repeat' (first | with_reducible exact Tends.const _ | apply disk_Check.tends | apply disk_named.tends | refine Tends.cond ?_ ?_ | refine Tends.bind ?_ (fun _ => ?_) | cases ‹Except _ _› | intro _))
/-! slices.BinarySearchFunc[[]smithy/api.File,smithy/api.File,string] -/
set_option maxHeartbeats 4000000 in
set_option maxRecDepth 100000 in
theorem slices_BinarySearchFunc_api_File_api_File_string.l0.mono {a2 a2' : File → ByteArray → Option Int} (hpa2 : ∀ z0 z1, Le (a2 z0 z1) (a2' z0 z1)) (a0 : List File) (a1 : ByteArray) : ∀ {k k' : Nat}, k ≤ k' → ∀ s, Le (slices_BinarySearchFunc_api_File_api_File_string.l0 a0 a1 a2 k s) (slices_BinarySearchFunc_api_File_api_File_string.l0 a0 a1 a2' k' s) := by
  intro k
  induction k with
  | zero => exact fun _ s => Le.none _
  | succ k ih =>
    intro k' hk s
    cases k' with
    | zero => exact absurd hk (by omega)
    | succ k' =>
      have hk' := Nat.le_of_succ_le_succ hk
      simp only [slices_BinarySearchFunc_api_File_api_File_string.l0]
      repeat' (first | with_reducible exact Le.refl _ | exact hpa2 _ _ | exact ih hk' _ | refine Le.cond ?_ ?_ | refine Le.bind ?_ (fun _ => ?_) | cases ‹Except _ _› | intro _)
noncomputable def slices_BinarySearchFunc_api_File_api_File_string.l0.v (a0 : List File) (a1 : ByteArray) (a2 : File → ByteArray → Option Int) (s : Int × Int) : Option Int := lim (fun k => slices_BinarySearchFunc_api_File_api_File_string.l0 a0 a1 a2 k s)
theorem slices_BinarySearchFunc_api_File_api_File_string.l0.tends (a0 : List File) (a1 : ByteArray) (a2 : File → ByteArray → Option Int) (s : Int × Int) : Tends (fun k => slices_BinarySearchFunc_api_File_api_File_string.l0 a0 a1 a2 k s) (slices_BinarySearchFunc_api_File_api_File_string.l0.v a0 a1 a2 s) := tends_lim (fun hk => slices_BinarySearchFunc_api_File_api_File_string.l0.mono (fun _ _ => Le.refl _) a0 a1 hk s)
set_option maxHeartbeats 4000000 in
set_option maxRecDepth 100000 in
theorem slices_BinarySearchFunc_api_File_api_File_string.l0.v_eq (a0 : List File) (a1 : ByteArray) (a2 : File → ByteArray → Option Int) (s1 : Int × Int) : slices_BinarySearchFunc_api_File_api_File_string.l0.v a0 a1 a2 s1 = bif icmp .lss s1.1 s1.2 then ((idx a0 (IntKind.i64.wrap ((IntKind.u64.wrap (IntKind.i64.wrap (s1.1 + s1.2))) / 2 ^ (Int.toNat (1 : Int))))).bind fun x5 => (a2 x5 a1).bind fun v7 => bif icmp .lss v7 (0 : Int) then (slices_BinarySearchFunc_api_File_api_File_string.l0.v a0 a1 a2 (IntKind.i64.wrap (IntKind.i64.wrap ((IntKind.u64.wrap (IntKind.i64.wrap (s1.1 + s1.2))) / 2 ^ (Int.toNat (1 : Int))) + (1 : Int)), s1.2)) else (slices_BinarySearchFunc_api_File_api_File_string.l0.v a0 a1 a2 (s1.1, IntKind.i64.wrap ((IntKind.u64.wrap (IntKind.i64.wrap (s1.1 + s1.2))) / 2 ^ (Int.toNat (1 : Int)))))) else (some s1.1) := (slices_BinarySearchFunc_api_File_api_File_string.l0.tends a0 a1 a2 s1).shift.uniq (by
  simp only [slices_BinarySearchFunc_api_File_api_File_string.l0]
  repeat' (first | with_reducible exact Tends.const _ | apply slices_BinarySearchFunc_api_File_api_File_string.l0.tends | refine Tends.cond ?_ ?_ | refine Tends.bind ?_ (fun _ => ?_) | cases ‹Except _ _› | intro _))
set_option maxHeartbeats 4000000 in
set_option maxRecDepth 100000 in
theorem slices_BinarySearchFunc_api_File_api_File_string.l0.tendsP {pa2 : Nat → File → ByteArray → Option Int} {qa2 : File → ByteArray → Option Int} (hpa2 : ∀ z0 z1, Tends (fun j => pa2 j z0 z1) (qa2 z0 z1)) (a0 : List File) (a1 : ByteArray) : ∀ (K : Nat) s, Tends (fun j => slices_BinarySearchFunc_api_File_api_File_string.l0 a0 a1 (pa2 j) K s) (slices_BinarySearchFunc_api_File_api_File_string.l0 a0 a1 qa2 K s) := by
  intro K
  induction K with
  | zero => exact fun s => Tends.const _
  | succ K ih =>
    intro s
    simp only [slices_BinarySearchFunc_api_File_api_File_string.l0]
    repeat' (first | with_reducible exact Tends.const _ | exact hpa2 _ _ | exact ih _ | refine Tends.cond ?_ ?_ | refine Tends.bind ?_ (fun _ => ?_) | cases ‹Except _ _› | intro _)
set_option maxHeartbeats 4000000 in
set_option maxRecDepth 100000 in
theorem slices_BinarySearchFunc_api_File_api_File_string.mono {k k' : Nat} (hk' : k ≤ k') {a2 a2' : File → ByteArray → Option Int} (hpa2 : ∀ z0 z1, Le (a2 z0 z1) (a2' z0 z1)) (a0 : List File) (a1 : ByteArray) : Le (slices_BinarySearchFunc_api_File_api_File_string.f k a0 a1 a2 ) (slices_BinarySearchFunc_api_File_api_File_string.f k' a0 a1 a2' ) := by
  simp only [slices_BinarySearchFunc_api_File_api_File_string.f]
  repeat' (first | with_reducible exact Le.refl _ | exact hpa2 _ _ | refine slices_BinarySearchFunc_api_File_api_File_string.l0.mono hpa2 _ _ hk' _ | refine Le.cond ?_ ?_ | refine Le.bind ?_ (fun _ => ?_) | cases ‹Except _ _› | intro _)
noncomputable def slices_BinarySearchFunc_api_File_api_File_string.v (a0 : List File) (a1 : ByteArray) (a2 : File → ByteArray → Option Int) : Option (Int × Bool) := lim (fun k => slices_BinarySearchFunc_api_File_api_File_string.f k a0 a1 a2 )
theorem slices_BinarySearchFunc_api_File_api_File_string.tends (a0 : List File) (a1 : ByteArray) (a2 : File → ByteArray → Option Int) : Tends (fun k => slices_BinarySearchFunc_api_File_api_File_string.f k a0 a1 a2 ) (slices_BinarySearchFunc_api_File_api_File_string.v a0 a1 a2 ) := tends_lim (fun hk => slices_BinarySearchFunc_api_File_api_File_string.mono hk (fun _ _ => Le.refl _) a0 a1 )
set_option maxHeartbeats 4000000 in
set_option maxRecDepth 100000 in
theorem slices_BinarySearchFunc_api_File_api_File_string.v_eq (a0 : List File) (a1 : ByteArray) (a2 : File → ByteArray → Option Int) : slices_BinarySearchFunc_api_File_api_File_string.v a0 a1 a2 = (slices_BinarySearchFunc_api_File_api_File_string.l0.v a0 a1 a2 ((0 : Int), (a0.length : Int))).bind fun s2 => (bif icmp .lss s2 (a0.length : Int) then ((idx a0 s2).bind fun x13 => (a2 x13 a1).bind fun v15 => some (icmp .eql v15 (0 : Int))) else (some false)).bind fun s10 => some (s2, s10) := (slices_BinarySearchFunc_api_File_api_File_string.tends a0 a1 a2 ).uniq (by
  simp only [slices_BinarySearchFunc_api_File_api_File_string.f]
  repeat' (first | with_reducible exact Tends.const _ | apply slices_BinarySearchFunc_api_File_api_File_string.l0.tends | refine Tends.cond ?_ ?_ | refine Tends.bind ?_ (fun _ => ?_) | cases ‹Except _ _› | intro _))
set_option maxHeartbeats 4000000 in
set_option maxRecDepth 100000 in
theorem slices_BinarySearchFunc_api_File_api_File_string.tendsP {pa2 : Nat → File → ByteArray → Option Int} {qa2 : File → ByteArray → Option Int} (hpa2 : ∀ z0 z1, Tends (fun j => pa2 j z0 z1) (qa2 z0 z1)) (a0 : List File) (a1 : ByteArray) (K : Nat) : Tends (fun j => slices_BinarySearchFunc_api_File_api_File_string.f K a0 a1 (pa2 j) ) (slices_BinarySearchFunc_api_File_api_File_string.f K a0 a1 qa2 ) := by
  simp only [slices_BinarySearchFunc_api_File_api_File_string.f]
  repeat' (first | with_reducible exact Tends.const _ | exact hpa2 _ _ | refine slices_BinarySearchFunc_api_File_api_File_string.l0.tendsP hpa2 _ _ _ _ | refine Tends.cond ?_ ?_ | refine Tends.bind ?_ (fun _ => ?_) | cases ‹Except _ _› | intro _)
theorem slices_BinarySearchFunc_api_File_api_File_string.tends2 {pa2 : Nat → File → ByteArray → Option Int} {qa2 : File → ByteArray → Option Int} (hpa2 : ∀ z0 z1, Tends (fun j => pa2 j z0 z1) (qa2 z0 z1)) (a0 : List File) (a1 : ByteArray) : Tends (fun k => slices_BinarySearchFunc_api_File_api_File_string.f k a0 a1 (pa2 k) ) (slices_BinarySearchFunc_api_File_api_File_string.v a0 a1 qa2 ) := Tends.diag (f := fun K j => slices_BinarySearchFunc_api_File_api_File_string.f K a0 a1 (pa2 j) ) (fun K => slices_BinarySearchFunc_api_File_api_File_string.tendsP hpa2 a0 a1 K) (fun h j => slices_BinarySearchFunc_api_File_api_File_string.mono h (fun _ _ => Le.refl _) a0 a1 ) (slices_BinarySearchFunc_api_File_api_File_string.tends a0 a1 qa2 )
/-! smithy/disk.place$1 -/

/-! smithy/disk.place -/
set_option maxHeartbeats 4000000 in
set_option maxRecDepth 100000 in
theorem disk_place.mono {k k' : Nat} (hk' : k ≤ k') (a0 : Disk) (a1 : ByteArray) : Le (disk_place.f k a0 a1 ) (disk_place.f k' a0 a1 ) := by
  simp only [disk_place.f]
  repeat' (first | with_reducible exact Le.refl _ | apply slices_BinarySearchFunc_api_File_api_File_string.mono (hk' := hk') | refine Le.cond ?_ ?_ | refine Le.bind ?_ (fun _ => ?_) | cases ‹Except _ _› | intro _)
noncomputable def disk_place.v (a0 : Disk) (a1 : ByteArray) : Option (Int × Bool) := lim (fun k => disk_place.f k a0 a1 )
theorem disk_place.tends (a0 : Disk) (a1 : ByteArray) : Tends (fun k => disk_place.f k a0 a1 ) (disk_place.v a0 a1 ) := tends_lim (fun hk => disk_place.mono hk a0 a1 )
set_option maxHeartbeats 4000000 in
set_option maxRecDepth 100000 in
theorem disk_place.v_eq (a0 : Disk) (a1 : ByteArray) : disk_place.v a0 a1 = (slices_BinarySearchFunc_api_File_api_File_string.v a0.Files a1 (fun (z0 : File) (z1 : ByteArray) => disk_place_1.f z0 z1)).bind fun v1 => some (v1.1, v1.2) := (disk_place.tends a0 a1 ).uniq (by
  simp only [disk_place.f]
  repeat' (first | with_reducible exact Tends.const _ | apply slices_BinarySearchFunc_api_File_api_File_string.tends2 | refine Tends.cond ?_ ?_ | refine Tends.bind ?_ (fun _ => ?_) | cases ‹Except _ _› | intro _))
/-! slices.Clone[[]smithy/api.File,smithy/api.File] -/

/-! smithy/disk.laid -/
set_option maxHeartbeats 4000000 in
set_option maxRecDepth 100000 in
theorem disk_laid.mono {k k' : Nat} (hk' : k ≤ k') (a0 : Disk) (a1 : File) : Le (disk_laid.f k a0 a1 ) (disk_laid.f k' a0 a1 ) := by
  simp only [disk_laid.f]
  repeat' (first | with_reducible exact Le.refl _ | apply disk_place.mono (hk' := hk') | refine Le.cond ?_ ?_ | refine Le.bind ?_ (fun _ => ?_) | cases ‹Except _ _› | intro _)
noncomputable def disk_laid.v (a0 : Disk) (a1 : File) : Option (Disk × Int) := lim (fun k => disk_laid.f k a0 a1 )
theorem disk_laid.tends (a0 : Disk) (a1 : File) : Tends (fun k => disk_laid.f k a0 a1 ) (disk_laid.v a0 a1 ) := tends_lim (fun hk => disk_laid.mono hk a0 a1 )
set_option maxHeartbeats 4000000 in
set_option maxRecDepth 100000 in
theorem disk_laid.v_eq (a0 : Disk) (a1 : File) : disk_laid.v a0 a1 = (disk_place.v a0 a1.Name).bind fun v1 => (slices_Clone_api_File_api_File.f a0.Files).bind fun v3 => (bif v1.2 then ((idx v3 v1.1).bind fun x9 => (idx v3 v1.1).bind fun x11 => some (Except.ok (v3.set v1.1.toNat a1))) else (bif icmp .eql (a0.Files.length : Int) (256 : Int) then (some (Except.error ((⟨(0 : Int), ([] : List File)⟩ : Disk), (22 : Int)))) else ((slices_Insert_api_File_api_File.f v3 v1.1 ([a1])).bind fun v14 => some (Except.ok v14)))).bind fun o7 => match o7 with | .error r' => some r' | .ok s5 => (some ((⟨a0.Clock, s5⟩ : Disk), (0 : Int))) := (disk_laid.tends a0 a1 ).uniq (by
  simp only [disk_laid.f]
  repeat' (first | with_reducible exact Tends.const _ | apply disk_place.tends | refine Tends.cond ?_ ?_ | refine Tends.bind ?_ (fun _ => ?_) | cases ‹Except _ _› | intro _))
/-! smithy/disk.written -/
set_option maxHeartbeats 4000000 in
set_option maxRecDepth 100000 in
theorem disk_written.mono {k k' : Nat} (hk' : k ≤ k') (a0 : Disk) (a1 : ByteArray) (a2 : ByteArray) : Le (disk_written.f k a0 a1 a2 ) (disk_written.f k' a0 a1 a2 ) := by
  simp only [disk_written.f]
  repeat' (first | with_reducible exact Le.refl _ | apply disk_laid.mono (hk' := hk') | refine Le.cond ?_ ?_ | refine Le.bind ?_ (fun _ => ?_) | cases ‹Except _ _› | intro _)
noncomputable def disk_written.v (a0 : Disk) (a1 : ByteArray) (a2 : ByteArray) : Option (Disk × Int) := lim (fun k => disk_written.f k a0 a1 a2 )
theorem disk_written.tends (a0 : Disk) (a1 : ByteArray) (a2 : ByteArray) : Tends (fun k => disk_written.f k a0 a1 a2 ) (disk_written.v a0 a1 a2 ) := tends_lim (fun hk => disk_written.mono hk a0 a1 a2 )
set_option maxHeartbeats 4000000 in
set_option maxRecDepth 100000 in
theorem disk_written.v_eq (a0 : Disk) (a1 : ByteArray) (a2 : ByteArray) : disk_written.v a0 a1 a2 = (disk_laid.v a0 (⟨a1, a2, IntKind.i64.wrap (a0.Clock + (1 : Int))⟩ : File)).bind fun v1 => bif icmp .neq v1.2 (0 : Int) then (some ((⟨(0 : Int), ([] : List File)⟩ : Disk), v1.2)) else (bif icmp .eql a0.Clock (1099511627776 : Int) then (some ((⟨(0 : Int), ([] : List File)⟩ : Disk), (23 : Int))) else (some ({ v1.1 with Clock := IntKind.i64.wrap (v1.1.Clock + (1 : Int)) }, (0 : Int)))) := (disk_written.tends a0 a1 a2 ).uniq (by
  simp only [disk_written.f]
  repeat' (first | with_reducible exact Tends.const _ | apply disk_laid.tends | refine Tends.cond ?_ ?_ | refine Tends.bind ?_ (fun _ => ?_) | cases ‹Except _ _› | intro _))
/-! smithy/disk.Write -/
set_option maxHeartbeats 4000000 in
set_option maxRecDepth 100000 in
theorem disk_Write.mono {k k' : Nat} (hk' : k ≤ k') (a0 : Disk) (a1 : ByteArray) (a2 : ByteArray) : Le (disk_Write.f k a0 a1 a2 ) (disk_Write.f k' a0 a1 a2 ) := by
  simp only [disk_Write.f]
  repeat' (first | with_reducible exact Le.refl _ | apply disk_asked.mono (hk' := hk') | apply disk_written.mono (hk' := hk') | refine Le.cond ?_ ?_ | refine Le.bind ?_ (fun _ => ?_) | cases ‹Except _ _› | intro _)
noncomputable def disk_Write.v (a0 : Disk) (a1 : ByteArray) (a2 : ByteArray) : Option (Disk × Int) := lim (fun k => disk_Write.f k a0 a1 a2 )
theorem disk_Write.tends (a0 : Disk) (a1 : ByteArray) (a2 : ByteArray) : Tends (fun k => disk_Write.f k a0 a1 a2 ) (disk_Write.v a0 a1 a2 ) := tends_lim (fun hk => disk_Write.mono hk a0 a1 a2 )
set_option maxHeartbeats 4000000 in
set_option maxRecDepth 100000 in
theorem disk_Write.v_eq (a0 : Disk) (a1 : ByteArray) (a2 : ByteArray) : disk_Write.v a0 a1 a2 = (disk_asked.v a0 a1).bind fun v1 => bif icmp .neq v1 (0 : Int) then (some ((⟨(0 : Int), ([] : List File)⟩ : Disk), v1)) else (bif icmp .gtr (a2.size : Int) (4096 : Int) then (some ((⟨(0 : Int), ([] : List File)⟩ : Disk), (20 : Int))) else ((disk_written.v a0 a1 a2).bind fun v5 => some (v5.1, v5.2))) := (disk_Write.tends a0 a1 a2 ).uniq (by
  simp only [disk_Write.f]
  repeat' (first | with_reducible exact Tends.const _ | apply disk_asked.tends | apply disk_written.tends | refine Tends.cond ?_ ?_ | refine Tends.bind ?_ (fun _ => ?_) | cases ‹Except _ _› | intro _))
/-! smithy/disk.Find -/
set_option maxHeartbeats 4000000 in
set_option maxRecDepth 100000 in
theorem disk_Find.mono {k k' : Nat} (hk' : k ≤ k') (a0 : Disk) (a1 : ByteArray) : Le (disk_Find.f k a0 a1 ) (disk_Find.f k' a0 a1 ) := by
  simp only [disk_Find.f]
  repeat' (first | with_reducible exact Le.refl _ | apply disk_asked.mono (hk' := hk') | apply disk_place.mono (hk' := hk') | refine Le.cond ?_ ?_ | refine Le.bind ?_ (fun _ => ?_) | cases ‹Except _ _› | intro _)
noncomputable def disk_Find.v (a0 : Disk) (a1 : ByteArray) : Option (File × Int) := lim (fun k => disk_Find.f k a0 a1 )
theorem disk_Find.tends (a0 : Disk) (a1 : ByteArray) : Tends (fun k => disk_Find.f k a0 a1 ) (disk_Find.v a0 a1 ) := tends_lim (fun hk => disk_Find.mono hk a0 a1 )
set_option maxHeartbeats 4000000 in
set_option maxRecDepth 100000 in
theorem disk_Find.v_eq (a0 : Disk) (a1 : ByteArray) : disk_Find.v a0 a1 = (disk_asked.v a0 a1).bind fun v1 => bif icmp .neq v1 (0 : Int) then (some ((⟨ByteArray.empty, ByteArray.empty, (0 : Int)⟩ : File), v1)) else ((disk_place.v a0 a1).bind fun v4 => bif !v4.2 then (some ((⟨ByteArray.empty, ByteArray.empty, (0 : Int)⟩ : File), (21 : Int))) else ((idx a0.Files v4.1).bind fun x7 => some (x7, (0 : Int)))) := (disk_Find.tends a0 a1 ).uniq (by
  simp only [disk_Find.f]
  repeat' (first | with_reducible exact Tends.const _ | apply disk_asked.tends | apply disk_place.tends | refine Tends.cond ?_ ?_ | refine Tends.bind ?_ (fun _ => ?_) | cases ‹Except _ _› | intro _))
/-! smithy/smithylaw02.speaks -/
set_option maxHeartbeats 4000000 in
set_option maxRecDepth 100000 in
theorem smithylaw02_speaks.mono {k k' : Nat} (hk' : k ≤ k') : Le (smithylaw02_speaks.f k ) (smithylaw02_speaks.f k' ) := by
  simp only [smithylaw02_speaks.f]
  repeat' (first | with_reducible exact Le.refl _ | apply disk_Write.mono (hk' := hk') | apply disk_Find.mono (hk' := hk') | refine Le.cond ?_ ?_ | refine Le.bind ?_ (fun _ => ?_) | cases ‹Except _ _› | intro _)
noncomputable def smithylaw02_speaks.v : Option Bool := lim (fun k => smithylaw02_speaks.f k )
theorem smithylaw02_speaks.tends : Tends (fun k => smithylaw02_speaks.f k ) (smithylaw02_speaks.v ) := tends_lim (fun hk => smithylaw02_speaks.mono hk )
set_option maxHeartbeats 4000000 in
set_option maxRecDepth 100000 in
theorem smithylaw02_speaks.v_eq : smithylaw02_speaks.v = (disk_Write.v (⟨(5 : Int), ([] : List File)⟩ : Disk) (⟨#[97]⟩ : ByteArray) (⟨#[120]⟩ : ByteArray)).bind fun v1 => (disk_Find.v v1.1 (⟨#[97]⟩ : ByteArray)).bind fun v3 => (disk_Find.v v1.1 (⟨#[98]⟩ : ByteArray)).bind fun v5 => (bif icmp .eql v1.2 (0 : Int) then (bif icmp .eql v3.2 (0 : Int) then (bif eqFile v3.1 (⟨(⟨#[97]⟩ : ByteArray), (⟨#[120]⟩ : ByteArray), (6 : Int)⟩ : File) then (bif icmp .eql v1.1.Clock (6 : Int) then (some (icmp .eql v5.2 (21 : Int))) else (some false)) else (some false)) else (some false)) else (some false)).bind fun s7 => some s7 := (smithylaw02_speaks.tends ).uniq (by
  simp only [smithylaw02_speaks.f]
  repeat' (first | with_reducible exact Tends.const _ | apply disk_Write.tends | apply disk_Find.tends | refine Tends.cond ?_ ?_ | refine Tends.bind ?_ (fun _ => ?_) | cases ‹Except _ _› | intro _))
/-! smithy/disk.Changed$1 -/
set_option maxHeartbeats 4000000 in
set_option maxRecDepth 100000 in
theorem disk_Changed_1.l0.mono (a0 : Disk) (a1 : Disk) : ∀ {k k' : Nat}, k ≤ k' → ∀ s, Le (disk_Changed_1.l0 a0 a1 k s) (disk_Changed_1.l0 a0 a1 k' s) := by
  intro k
  induction k with
  | zero => exact fun _ s => Le.none _
  | succ k ih =>
    intro k' hk s
    cases k' with
    | zero => exact absurd hk (by omega)
    | succ k' =>
      have hk' := Nat.le_of_succ_le_succ hk
      simp only [disk_Changed_1.l0]
      repeat' (first | with_reducible exact Le.refl _ | exact ih hk' _ | apply disk_place.mono (hk' := hk') | refine Le.cond ?_ ?_ | refine Le.bind ?_ (fun _ => ?_) | cases ‹Except _ _› | intro _)
noncomputable def disk_Changed_1.l0.v (a0 : Disk) (a1 : Disk) (s : (List ByteArray) × Int) : Option (List ByteArray) := lim (fun k => disk_Changed_1.l0 a0 a1 k s)
theorem disk_Changed_1.l0.tends (a0 : Disk) (a1 : Disk) (s : (List ByteArray) × Int) : Tends (fun k => disk_Changed_1.l0 a0 a1 k s) (disk_Changed_1.l0.v a0 a1 s) := tends_lim (fun hk => disk_Changed_1.l0.mono a0 a1 hk s)
set_option maxHeartbeats 4000000 in
set_option maxRecDepth 100000 in
theorem disk_Changed_1.l0.v_eq (a0 : Disk) (a1 : Disk) (s1 : (List ByteArray) × Int) : disk_Changed_1.l0.v a0 a1 s1 = bif icmp .lss s1.2 (a0.Files.length : Int) then (((idx a0.Files s1.2).bind fun x7 => (disk_place.v a1 x7.Name).bind fun v9 => (bif !v9.2 then (some true) else ((idx a1.Files v9.1).bind fun x14 => some (scmp .neq x14.Text x7.Text))).bind fun s11 => bif s11 then ((app 16 s1.1 ([x7.Name])).bind fun x17 => some x17) else (some s1.1)).bind fun s5 => disk_Changed_1.l0.v a0 a1 (s5, IntKind.i64.wrap (s1.2 + (1 : Int)))) else (some s1.1) := (disk_Changed_1.l0.tends a0 a1 s1).shift.uniq (by
  simp only [disk_Changed_1.l0]
  repeat' (first | with_reducible exact Tends.const _ | apply disk_place.tends | apply disk_Changed_1.l0.tends | refine Tends.cond ?_ ?_ | refine Tends.bind ?_ (fun _ => ?_) | cases ‹Except _ _› | intro _))
set_option maxHeartbeats 4000000 in
set_option maxRecDepth 100000 in
theorem disk_Changed_1.mono {k k' : Nat} (hk' : k ≤ k') (a0 : Disk) (a1 : Disk) (c0 : List ByteArray) : Le (disk_Changed_1.f k a0 a1 c0 ) (disk_Changed_1.f k' a0 a1 c0 ) := by
  simp only [disk_Changed_1.f]
  repeat' (first | with_reducible exact Le.refl _ | refine disk_Changed_1.l0.mono _ _ hk' _ | refine Le.cond ?_ ?_ | refine Le.bind ?_ (fun _ => ?_) | cases ‹Except _ _› | intro _)
noncomputable def disk_Changed_1.v (a0 : Disk) (a1 : Disk) (c0 : List ByteArray) : Option (List ByteArray) := lim (fun k => disk_Changed_1.f k a0 a1 c0 )
theorem disk_Changed_1.tends (a0 : Disk) (a1 : Disk) (c0 : List ByteArray) : Tends (fun k => disk_Changed_1.f k a0 a1 c0 ) (disk_Changed_1.v a0 a1 c0 ) := tends_lim (fun hk => disk_Changed_1.mono hk a0 a1 c0 )
set_option maxHeartbeats 4000000 in
set_option maxRecDepth 100000 in
theorem disk_Changed_1.v_eq (a0 : Disk) (a1 : Disk) (c0 : List ByteArray) : disk_Changed_1.v a0 a1 c0 = (disk_Changed_1.l0.v a0 a1 (c0, (0 : Int))).bind fun s2 => some s2 := (disk_Changed_1.tends a0 a1 c0 ).uniq (by
  simp only [disk_Changed_1.f]
  repeat' (first | with_reducible exact Tends.const _ | apply disk_Changed_1.l0.tends | refine Tends.cond ?_ ?_ | refine Tends.bind ?_ (fun _ => ?_) | cases ‹Except _ _› | intro _))
/-! smithy/disk.Changed -/
set_option maxHeartbeats 4000000 in
set_option maxRecDepth 100000 in
theorem disk_Changed.l0.mono (a0 : Disk) (a1 : Disk) : ∀ {k k' : Nat}, k ≤ k' → ∀ s, Le (disk_Changed.l0 a0 a1 k s) (disk_Changed.l0 a0 a1 k' s) := by
  intro k
  induction k with
  | zero => exact fun _ s => Le.none _
  | succ k ih =>
    intro k' hk s
    cases k' with
    | zero => exact absurd hk (by omega)
    | succ k' =>
      have hk' := Nat.le_of_succ_le_succ hk
      simp only [disk_Changed.l0]
      repeat' (first | with_reducible exact Le.refl _ | exact ih hk' _ | apply disk_Check.mono (hk' := hk') | refine Le.cond ?_ ?_ | refine Le.bind ?_ (fun _ => ?_) | cases ‹Except _ _› | intro _)
noncomputable def disk_Changed.l0.v (a0 : Disk) (a1 : Disk) (s : Int) : Option (Except ((List ByteArray) × Int) Unit) := lim (fun k => disk_Changed.l0 a0 a1 k s)
theorem disk_Changed.l0.tends (a0 : Disk) (a1 : Disk) (s : Int) : Tends (fun k => disk_Changed.l0 a0 a1 k s) (disk_Changed.l0.v a0 a1 s) := tends_lim (fun hk => disk_Changed.l0.mono a0 a1 hk s)
set_option maxHeartbeats 4000000 in
set_option maxRecDepth 100000 in
theorem disk_Changed.l0.v_eq (a0 : Disk) (a1 : Disk) (s1 : Int) : disk_Changed.l0.v a0 a1 s1 = bif icmp .lss s1 (([a0, a1]).length : Int) then ((idx ([a0, a1]) s1).bind fun x6 => (disk_Check.v x6).bind fun v8 => bif icmp .neq v8 (0 : Int) then (some (Except.error (([] : List ByteArray), v8))) else (disk_Changed.l0.v a0 a1 (IntKind.i64.wrap (s1 + (1 : Int))))) else (some (Except.ok ())) := (disk_Changed.l0.tends a0 a1 s1).shift.uniq (by
  simp only [disk_Changed.l0]
  repeat' (first | with_reducible exact Tends.const _ | apply disk_Check.tends | apply disk_Changed.l0.tends | refine Tends.cond ?_ ?_ | refine Tends.bind ?_ (fun _ => ?_) | cases ‹Except _ _› | intro _))
set_option maxHeartbeats 4000000 in
set_option maxRecDepth 100000 in
theorem disk_Changed.mono {k k' : Nat} (hk' : k ≤ k') (a0 : Disk) (a1 : Disk) : Le (disk_Changed.f k a0 a1 ) (disk_Changed.f k' a0 a1 ) := by
  simp only [disk_Changed.f]
  repeat' (first | with_reducible exact Le.refl _ | apply disk_Changed_1.mono (hk' := hk') | refine disk_Changed.l0.mono _ _ hk' _ | refine Le.cond ?_ ?_ | refine Le.bind ?_ (fun _ => ?_) | cases ‹Except _ _› | intro _)
noncomputable def disk_Changed.v (a0 : Disk) (a1 : Disk) : Option ((List ByteArray) × Int) := lim (fun k => disk_Changed.f k a0 a1 )
theorem disk_Changed.tends (a0 : Disk) (a1 : Disk) : Tends (fun k => disk_Changed.f k a0 a1 ) (disk_Changed.v a0 a1 ) := tends_lim (fun hk => disk_Changed.mono hk a0 a1 )
set_option maxHeartbeats 4000000 in
set_option maxRecDepth 100000 in
theorem disk_Changed.v_eq (a0 : Disk) (a1 : Disk) : disk_Changed.v a0 a1 = (disk_Changed.l0.v a0 a1 (0 : Int)).bind fun o4 => match o4 with | .error r' => some r' | .ok s2 => ((disk_Changed_1.v a0 a1 ([] : List ByteArray)).bind fun v11 => (disk_Changed_1.v a1 a0 v11).bind fun v13 => (slices_Sort_string_string.f v13).bind fun v15 => (slices_Compact_string_string.f v15).bind fun v17 => some (v17, (0 : Int))) := (disk_Changed.tends a0 a1 ).uniq (by
  simp only [disk_Changed.f]
  repeat' (first | with_reducible exact Tends.const _ | apply disk_Changed_1.tends | apply disk_Changed.l0.tends | refine Tends.cond ?_ ?_ | refine Tends.bind ?_ (fun _ => ?_) | cases ‹Except _ _› | intro _))
/-! smithy/smithylaw02.DiskTwo -/
set_option maxHeartbeats 4000000 in
set_option maxRecDepth 100000 in
theorem smithylaw02_DiskTwo.mono {k k' : Nat} (hk' : k ≤ k') (a0 : Disk) (a1 : File) (a2 : File) : Le (smithylaw02_DiskTwo.f k a0 a1 a2 ) (smithylaw02_DiskTwo.f k' a0 a1 a2 ) := by
  simp only [smithylaw02_DiskTwo.f]
  repeat' (first | with_reducible exact Le.refl _ | apply smithylaw02_speaks.mono (hk' := hk') | apply disk_Write.mono (hk' := hk') | apply disk_Changed.mono (hk' := hk') | refine Le.cond ?_ ?_ | refine Le.bind ?_ (fun _ => ?_) | cases ‹Except _ _› | intro _)
noncomputable def smithylaw02_DiskTwo.v (a0 : Disk) (a1 : File) (a2 : File) : Option Bool := lim (fun k => smithylaw02_DiskTwo.f k a0 a1 a2 )
theorem smithylaw02_DiskTwo.tends (a0 : Disk) (a1 : File) (a2 : File) : Tends (fun k => smithylaw02_DiskTwo.f k a0 a1 a2 ) (smithylaw02_DiskTwo.v a0 a1 a2 ) := tends_lim (fun hk => smithylaw02_DiskTwo.mono hk a0 a1 a2 )
set_option maxHeartbeats 4000000 in
set_option maxRecDepth 100000 in
theorem smithylaw02_DiskTwo.v_eq (a0 : Disk) (a1 : File) (a2 : File) : smithylaw02_DiskTwo.v a0 a1 a2 = bif scmp .eql a1.Name a2.Name then ((smithylaw02_speaks.v).bind fun v2 => some v2) else ((disk_Write.v a0 a1.Name a1.Text).bind fun v4 => (disk_Write.v a0 a2.Name a2.Text).bind fun v6 => (bif icmp .neq v4.2 (0 : Int) then (some true) else (some (icmp .neq v6.2 (0 : Int)))).bind fun s8 => bif s8 then ((smithylaw02_speaks.v).bind fun v12 => some v12) else ((disk_Write.v v4.1 a2.Name a2.Text).bind fun v14 => (disk_Write.v v6.1 a1.Name a1.Text).bind fun v16 => (bif icmp .neq v14.2 (0 : Int) then (some true) else (some (icmp .neq v16.2 (0 : Int)))).bind fun s18 => bif s18 then ((bif icmp .eql v14.2 v16.2 then ((smithylaw02_speaks.v).bind fun v25 => some v25) else (some false)).bind fun s22 => some s22) else ((disk_Changed.v v14.1 v16.1).bind fun v27 => (bif icmp .eql v27.2 (0 : Int) then (bif icmp .eql (v27.1.length : Int) (0 : Int) then (bif icmp .eql v14.1.Clock v16.1.Clock then ((smithylaw02_speaks.v).bind fun v34 => some v34) else (some false)) else (some false)) else (some false)).bind fun s29 => some s29))) := (smithylaw02_DiskTwo.tends a0 a1 a2 ).uniq (by
  simp only [smithylaw02_DiskTwo.f]
  repeat' (first | with_reducible exact Tends.const _ | apply smithylaw02_speaks.tends | apply disk_Write.tends | apply disk_Changed.tends | refine Tends.cond ?_ ?_ | refine Tends.bind ?_ (fun _ => ?_) | cases ‹Except _ _› | intro _))
/-! smithy/smithyref02.Name -/
set_option maxHeartbeats 4000000 in
set_option maxRecDepth 100000 in
theorem smithyref02_Name.l0.mono (a0 : ByteArray) : ∀ {k k' : Nat}, k ≤ k' → ∀ s, Le (smithyref02_Name.l0 a0 k s) (smithyref02_Name.l0 a0 k' s) := by
  intro k
  induction k with
  | zero => exact fun _ s => Le.none _
  | succ k ih =>
    intro k' hk s
    cases k' with
    | zero => exact absurd hk (by omega)
    | succ k' =>
      have hk' := Nat.le_of_succ_le_succ hk
      simp only [smithyref02_Name.l0]
      repeat' (first | with_reducible exact Le.refl _ | exact ih hk' _ | refine Le.cond ?_ ?_ | refine Le.bind ?_ (fun _ => ?_) | cases ‹Except _ _› | intro _)
noncomputable def smithyref02_Name.l0.v (a0 : ByteArray) (s : Int) : Option (Except Bool Unit) := lim (fun k => smithyref02_Name.l0 a0 k s)
theorem smithyref02_Name.l0.tends (a0 : ByteArray) (s : Int) : Tends (fun k => smithyref02_Name.l0 a0 k s) (smithyref02_Name.l0.v a0 s) := tends_lim (fun hk => smithyref02_Name.l0.mono a0 hk s)
set_option maxHeartbeats 4000000 in
set_option maxRecDepth 100000 in
theorem smithyref02_Name.l0.v_eq (a0 : ByteArray) (s1 : Int) : smithyref02_Name.l0.v a0 s1 = bif icmp .lss s1 (a0.size : Int) then ((bidx a0 s1).bind fun x6 => (bif icmp .geq x6 (97 : Int) then (bif icmp .leq x6 (122 : Int) then (some true) else (bif icmp .geq x6 (65 : Int) then (bif icmp .leq x6 (90 : Int) then (some true) else (bif icmp .geq x6 (48 : Int) then (some (icmp .leq x6 (57 : Int))) else (some false))) else (bif icmp .geq x6 (48 : Int) then (some (icmp .leq x6 (57 : Int))) else (some false)))) else (bif icmp .geq x6 (65 : Int) then (bif icmp .leq x6 (90 : Int) then (some true) else (bif icmp .geq x6 (48 : Int) then (some (icmp .leq x6 (57 : Int))) else (some false))) else (bif icmp .geq x6 (48 : Int) then (some (icmp .leq x6 (57 : Int))) else (some false)))).bind fun s8 => (bif !s8 then (bif icmp .neq x6 (95 : Int) then (bif icmp .neq x6 (45 : Int) then (bif icmp .neq x6 (46 : Int) then (bif icmp .neq x6 (47 : Int) then (some (icmp .neq x6 (43 : Int))) else (some false)) else (some false)) else (some false)) else (some false)) else (some false)).bind fun s20 => bif s20 then (some (Except.error false)) else (smithyref02_Name.l0.v a0 (IntKind.i64.wrap (s1 + (1 : Int))))) else (some (Except.ok ())) := (smithyref02_Name.l0.tends a0 s1).shift.uniq (by
  simp only [smithyref02_Name.l0]
  repeat' (first | with_reducible exact Tends.const _ | apply smithyref02_Name.l0.tends | refine Tends.cond ?_ ?_ | refine Tends.bind ?_ (fun _ => ?_) | cases ‹Except _ _› | intro _))
set_option maxHeartbeats 4000000 in
set_option maxRecDepth 100000 in
theorem smithyref02_Name.mono {k k' : Nat} (hk' : k ≤ k') (a0 : ByteArray) : Le (smithyref02_Name.f k a0 ) (smithyref02_Name.f k' a0 ) := by
  simp only [smithyref02_Name.f]
  repeat' (first | with_reducible exact Le.refl _ | refine smithyref02_Name.l0.mono _ hk' _ | refine Le.cond ?_ ?_ | refine Le.bind ?_ (fun _ => ?_) | cases ‹Except _ _› | intro _)
noncomputable def smithyref02_Name.v (a0 : ByteArray) : Option Bool := lim (fun k => smithyref02_Name.f k a0 )
theorem smithyref02_Name.tends (a0 : ByteArray) : Tends (fun k => smithyref02_Name.f k a0 ) (smithyref02_Name.v a0 ) := tends_lim (fun hk => smithyref02_Name.mono hk a0 )
set_option maxHeartbeats 4000000 in
set_option maxRecDepth 100000 in
theorem smithyref02_Name.v_eq (a0 : ByteArray) : smithyref02_Name.v a0 = (smithyref02_Name.l0.v a0 (0 : Int)).bind fun o4 => match o4 with | .error r' => some r' | .ok s2 => ((bif icmp .gtr (a0.size : Int) (0 : Int) then (some (icmp .leq (a0.size : Int) (64 : Int))) else (some false)).bind fun s28 => some s28) := (smithyref02_Name.tends a0 ).uniq (by
  simp only [smithyref02_Name.f]
  repeat' (first | with_reducible exact Tends.const _ | apply smithyref02_Name.l0.tends | refine Tends.cond ?_ ?_ | refine Tends.bind ?_ (fun _ => ?_) | cases ‹Except _ _› | intro _))
/-! smithy/smithyref02.Check -/
set_option maxHeartbeats 4000000 in
set_option maxRecDepth 100000 in
theorem smithyref02_Check.l0.mono (a0 : Disk) : ∀ {k k' : Nat}, k ≤ k' → ∀ s, Le (smithyref02_Check.l0 a0 k s) (smithyref02_Check.l0 a0 k' s) := by
  intro k
  induction k with
  | zero => exact fun _ s => Le.none _
  | succ k ih =>
    intro k' hk s
    cases k' with
    | zero => exact absurd hk (by omega)
    | succ k' =>
      have hk' := Nat.le_of_succ_le_succ hk
      simp only [smithyref02_Check.l0]
      repeat' (first | with_reducible exact Le.refl _ | exact ih hk' _ | apply smithyref02_Name.mono (hk' := hk') | refine Le.cond ?_ ?_ | refine Le.bind ?_ (fun _ => ?_) | cases ‹Except _ _› | intro _)
noncomputable def smithyref02_Check.l0.v (a0 : Disk) (s : Int) : Option (Except Int Unit) := lim (fun k => smithyref02_Check.l0 a0 k s)
theorem smithyref02_Check.l0.tends (a0 : Disk) (s : Int) : Tends (fun k => smithyref02_Check.l0 a0 k s) (smithyref02_Check.l0.v a0 s) := tends_lim (fun hk => smithyref02_Check.l0.mono a0 hk s)
set_option maxHeartbeats 4000000 in
set_option maxRecDepth 100000 in
theorem smithyref02_Check.l0.v_eq (a0 : Disk) (s6 : Int) : smithyref02_Check.l0.v a0 s6 = bif icmp .lss s6 (a0.Files.length : Int) then ((idx a0.Files s6).bind fun x11 => ((smithyref02_Name.v x11.Name).bind fun v15 => bif !v15 then (some true) else (bif icmp .gtr (x11.Text.size : Int) (4096 : Int) then (some true) else (bif icmp .lss x11.Stamp (0 : Int) then (some true) else (some (icmp .gtr x11.Stamp a0.Clock))))).bind fun s13 => bif s13 then (some (Except.error (4 : Int))) else ((bif icmp .gtr s6 (0 : Int) then ((idx a0.Files (IntKind.i64.wrap (s6 - (1 : Int)))).bind fun x24 => some (scmp .geq x24.Name x11.Name)) else (some false)).bind fun s21 => bif s21 then (some (Except.error (4 : Int))) else (smithyref02_Check.l0.v a0 (IntKind.i64.wrap (s6 + (1 : Int)))))) else (some (Except.ok ())) := (smithyref02_Check.l0.tends a0 s6).shift.uniq (by
  simp only [smithyref02_Check.l0]
  repeat' (first | with_reducible exact Tends.const _ | apply smithyref02_Name.tends | apply smithyref02_Check.l0.tends | refine Tends.cond ?_ ?_ | refine Tends.bind ?_ (fun _ => ?_) | cases ‹Except _ _› | intro _))
set_option maxHeartbeats 4000000 in
set_option maxRecDepth 100000 in
theorem smithyref02_Check.mono {k k' : Nat} (hk' : k ≤ k') (a0 : Disk) : Le (smithyref02_Check.f k a0 ) (smithyref02_Check.f k' a0 ) := by
  simp only [smithyref02_Check.f]
  repeat' (first | with_reducible exact Le.refl _ | refine smithyref02_Check.l0.mono _ hk' _ | refine Le.cond ?_ ?_ | refine Le.bind ?_ (fun _ => ?_) | cases ‹Except _ _› | intro _)
noncomputable def smithyref02_Check.v (a0 : Disk) : Option Int := lim (fun k => smithyref02_Check.f k a0 )
theorem smithyref02_Check.tends (a0 : Disk) : Tends (fun k => smithyref02_Check.f k a0 ) (smithyref02_Check.v a0 ) := tends_lim (fun hk => smithyref02_Check.mono hk a0 )
set_option maxHeartbeats 4000000 in
set_option maxRecDepth 100000 in
theorem smithyref02_Check.v_eq (a0 : Disk) : smithyref02_Check.v a0 = (bif icmp .lss a0.Clock (0 : Int) then (some true) else (bif icmp .gtr a0.Clock (1099511627776 : Int) then (some true) else (some (icmp .gtr (a0.Files.length : Int) (256 : Int))))).bind fun s1 => bif s1 then (some (4 : Int)) else ((smithyref02_Check.l0.v a0 (0 : Int)).bind fun o9 => match o9 with | .error r' => some r' | .ok s7 => (some (0 : Int))) := (smithyref02_Check.tends a0 ).uniq (by
  simp only [smithyref02_Check.f]
  repeat' (first | with_reducible exact Tends.const _ | apply smithyref02_Check.l0.tends | refine Tends.cond ?_ ?_ | refine Tends.bind ?_ (fun _ => ?_) | cases ‹Except _ _› | intro _))
/-! smithy/smithyref02.Changed -/
set_option maxHeartbeats 4000000 in
set_option maxRecDepth 100000 in
theorem smithyref02_Changed.l0.mono (a0 : Disk) (a1 : Disk) : ∀ {k k' : Nat}, k ≤ k' → ∀ s, Le (smithyref02_Changed.l0 a0 a1 k s) (smithyref02_Changed.l0 a0 a1 k' s) := by
  intro k
  induction k with
  | zero => exact fun _ s => Le.none _
  | succ k ih =>
    intro k' hk s
    cases k' with
    | zero => exact absurd hk (by omega)
    | succ k' =>
      have hk' := Nat.le_of_succ_le_succ hk
      simp only [smithyref02_Changed.l0]
      repeat' (first | with_reducible exact Le.refl _ | exact ih hk' _ | refine Le.cond ?_ ?_ | refine Le.bind ?_ (fun _ => ?_) | cases ‹Except _ _› | intro _)
noncomputable def smithyref02_Changed.l0.v (a0 : Disk) (a1 : Disk) (s : (List ByteArray) × Int × Int) : Option (List ByteArray) := lim (fun k => smithyref02_Changed.l0 a0 a1 k s)
theorem smithyref02_Changed.l0.tends (a0 : Disk) (a1 : Disk) (s : (List ByteArray) × Int × Int) : Tends (fun k => smithyref02_Changed.l0 a0 a1 k s) (smithyref02_Changed.l0.v a0 a1 s) := tends_lim (fun hk => smithyref02_Changed.l0.mono a0 a1 hk s)
set_option maxHeartbeats 4000000 in
set_option maxRecDepth 100000 in
theorem smithyref02_Changed.l0.v_eq (a0 : Disk) (a1 : Disk) (s9 : (List ByteArray) × Int × Int) : smithyref02_Changed.l0.v a0 a1 s9 = (bif icmp .lss s9.2.1 (a0.Files.length : Int) then (some true) else (some (icmp .lss s9.2.2 (a1.Files.length : Int)))).bind fun s12 => bif s12 then ((bif icmp .eql s9.2.2 (a1.Files.length : Int) then (some true) else (bif icmp .lss s9.2.1 (a0.Files.length : Int) then ((idx a0.Files s9.2.1).bind fun x20 => (idx a1.Files s9.2.2).bind fun x22 => some (scmp .lss x20.Name x22.Name)) else (some false))).bind fun s16 => bif s16 then ((idx a0.Files s9.2.1).bind fun x25 => (app 16 s9.1 ([x25.Name])).bind fun x27 => smithyref02_Changed.l0.v a0 a1 (x27, IntKind.i64.wrap (s9.2.1 + (1 : Int)), s9.2.2)) else ((bif icmp .eql s9.2.1 (a0.Files.length : Int) then (some true) else ((idx a1.Files s9.2.2).bind fun x32 => (idx a0.Files s9.2.1).bind fun x34 => some (scmp .lss x32.Name x34.Name))).bind fun s29 => bif s29 then ((idx a1.Files s9.2.2).bind fun x37 => (app 16 s9.1 ([x37.Name])).bind fun x39 => smithyref02_Changed.l0.v a0 a1 (x39, s9.2.1, IntKind.i64.wrap (s9.2.2 + (1 : Int)))) else ((idx a0.Files s9.2.1).bind fun x41 => (idx a1.Files s9.2.2).bind fun x43 => (bif scmp .neq x41.Text x43.Text then ((idx a0.Files s9.2.1).bind fun x48 => (app 16 s9.1 ([x48.Name])).bind fun x50 => some x50) else (some s9.1)).bind fun s45 => smithyref02_Changed.l0.v a0 a1 (s45, IntKind.i64.wrap (s9.2.1 + (1 : Int)), IntKind.i64.wrap (s9.2.2 + (1 : Int)))))) else (some s9.1) := (smithyref02_Changed.l0.tends a0 a1 s9).shift.uniq (by
  simp only [smithyref02_Changed.l0]
  repeat' (first | with_reducible exact Tends.const _ | apply smithyref02_Changed.l0.tends | refine Tends.cond ?_ ?_ | refine Tends.bind ?_ (fun _ => ?_) | cases ‹Except _ _› | intro _))
set_option maxHeartbeats 4000000 in
set_option maxRecDepth 100000 in
theorem smithyref02_Changed.mono {k k' : Nat} (hk' : k ≤ k') (a0 : Disk) (a1 : Disk) : Le (smithyref02_Changed.f k a0 a1 ) (smithyref02_Changed.f k' a0 a1 ) := by
  simp only [smithyref02_Changed.f]
  repeat' (first | with_reducible exact Le.refl _ | apply smithyref02_Check.mono (hk' := hk') | refine smithyref02_Changed.l0.mono _ _ hk' _ | refine Le.cond ?_ ?_ | refine Le.bind ?_ (fun _ => ?_) | cases ‹Except _ _› | intro _)
noncomputable def smithyref02_Changed.v (a0 : Disk) (a1 : Disk) : Option ((List ByteArray) × Int) := lim (fun k => smithyref02_Changed.f k a0 a1 )
theorem smithyref02_Changed.tends (a0 : Disk) (a1 : Disk) : Tends (fun k => smithyref02_Changed.f k a0 a1 ) (smithyref02_Changed.v a0 a1 ) := tends_lim (fun hk => smithyref02_Changed.mono hk a0 a1 )
set_option maxHeartbeats 4000000 in
set_option maxRecDepth 100000 in
theorem smithyref02_Changed.v_eq (a0 : Disk) (a1 : Disk) : smithyref02_Changed.v a0 a1 = ((smithyref02_Check.v a0).bind fun v3 => bif icmp .neq v3 (0 : Int) then (some true) else ((smithyref02_Check.v a1).bind fun v6 => some (icmp .neq v6 (0 : Int)))).bind fun s1 => bif s1 then (some (([] : List ByteArray), (4 : Int))) else ((smithyref02_Changed.l0.v a0 a1 (([] : List ByteArray), (0 : Int), (0 : Int))).bind fun s10 => some (s10, (0 : Int))) := (smithyref02_Changed.tends a0 a1 ).uniq (by
  simp only [smithyref02_Changed.f]
  repeat' (first | with_reducible exact Tends.const _ | apply smithyref02_Check.tends | apply smithyref02_Changed.l0.tends | refine Tends.cond ?_ ?_ | refine Tends.bind ?_ (fun _ => ?_) | cases ‹Except _ _› | intro _))
/-! smithy/smithyplain.Texts -/
set_option maxHeartbeats 4000000 in
set_option maxRecDepth 100000 in
theorem smithyplain_Texts.l0.mono (a0 : List ByteArray) (a1 : List ByteArray) : ∀ {k k' : Nat}, k ≤ k' → ∀ s, Le (smithyplain_Texts.l0 a0 a1 k s) (smithyplain_Texts.l0 a0 a1 k' s) := by
  intro k
  induction k with
  | zero => exact fun _ s => Le.none _
  | succ k ih =>
    intro k' hk s
    cases k' with
    | zero => exact absurd hk (by omega)
    | succ k' =>
      have hk' := Nat.le_of_succ_le_succ hk
      simp only [smithyplain_Texts.l0]
      repeat' (first | with_reducible exact Le.refl _ | exact ih hk' _ | refine Le.cond ?_ ?_ | refine Le.bind ?_ (fun _ => ?_) | cases ‹Except _ _› | intro _)
noncomputable def smithyplain_Texts.l0.v (a0 : List ByteArray) (a1 : List ByteArray) (s : Int) : Option (Except Bool Unit) := lim (fun k => smithyplain_Texts.l0 a0 a1 k s)
theorem smithyplain_Texts.l0.tends (a0 : List ByteArray) (a1 : List ByteArray) (s : Int) : Tends (fun k => smithyplain_Texts.l0 a0 a1 k s) (smithyplain_Texts.l0.v a0 a1 s) := tends_lim (fun hk => smithyplain_Texts.l0.mono a0 a1 hk s)
set_option maxHeartbeats 4000000 in
set_option maxRecDepth 100000 in
theorem smithyplain_Texts.l0.v_eq (a0 : List ByteArray) (a1 : List ByteArray) (s2 : Int) : smithyplain_Texts.l0.v a0 a1 s2 = bif icmp .lss s2 (a0.length : Int) then ((idx a0 s2).bind fun x7 => (idx a1 s2).bind fun x9 => bif scmp .neq x7 x9 then (some (Except.error false)) else (smithyplain_Texts.l0.v a0 a1 (IntKind.i64.wrap (s2 + (1 : Int))))) else (some (Except.ok ())) := (smithyplain_Texts.l0.tends a0 a1 s2).shift.uniq (by
  simp only [smithyplain_Texts.l0]
  repeat' (first | with_reducible exact Tends.const _ | apply smithyplain_Texts.l0.tends | refine Tends.cond ?_ ?_ | refine Tends.bind ?_ (fun _ => ?_) | cases ‹Except _ _› | intro _))
set_option maxHeartbeats 4000000 in
set_option maxRecDepth 100000 in
theorem smithyplain_Texts.mono {k k' : Nat} (hk' : k ≤ k') (a0 : List ByteArray) (a1 : List ByteArray) : Le (smithyplain_Texts.f k a0 a1 ) (smithyplain_Texts.f k' a0 a1 ) := by
  simp only [smithyplain_Texts.f]
  repeat' (first | with_reducible exact Le.refl _ | refine smithyplain_Texts.l0.mono _ _ hk' _ | refine Le.cond ?_ ?_ | refine Le.bind ?_ (fun _ => ?_) | cases ‹Except _ _› | intro _)
noncomputable def smithyplain_Texts.v (a0 : List ByteArray) (a1 : List ByteArray) : Option Bool := lim (fun k => smithyplain_Texts.f k a0 a1 )
theorem smithyplain_Texts.tends (a0 : List ByteArray) (a1 : List ByteArray) : Tends (fun k => smithyplain_Texts.f k a0 a1 ) (smithyplain_Texts.v a0 a1 ) := tends_lim (fun hk => smithyplain_Texts.mono hk a0 a1 )
set_option maxHeartbeats 4000000 in
set_option maxRecDepth 100000 in
theorem smithyplain_Texts.v_eq (a0 : List ByteArray) (a1 : List ByteArray) : smithyplain_Texts.v a0 a1 = bif icmp .neq (a0.length : Int) (a1.length : Int) then (some false) else ((smithyplain_Texts.l0.v a0 a1 (0 : Int)).bind fun o5 => match o5 with | .error r' => some r' | .ok s3 => (some true)) := (smithyplain_Texts.tends a0 a1 ).uniq (by
  simp only [smithyplain_Texts.f]
  repeat' (first | with_reducible exact Tends.const _ | apply smithyplain_Texts.l0.tends | refine Tends.cond ?_ ?_ | refine Tends.bind ?_ (fun _ => ?_) | cases ‹Except _ _› | intro _))
/-! slices.Equal[[]smithy/api.File,smithy/api.File] -/
set_option maxHeartbeats 4000000 in
set_option maxRecDepth 100000 in
theorem slices_Equal_api_File_api_File.l0.mono (a0 : List File) (a1 : List File) : ∀ {k k' : Nat}, k ≤ k' → ∀ s, Le (slices_Equal_api_File_api_File.l0 a0 a1 k s) (slices_Equal_api_File_api_File.l0 a0 a1 k' s) := by
  intro k
  induction k with
  | zero => exact fun _ s => Le.none _
  | succ k ih =>
    intro k' hk s
    cases k' with
    | zero => exact absurd hk (by omega)
    | succ k' =>
      have hk' := Nat.le_of_succ_le_succ hk
      simp only [slices_Equal_api_File_api_File.l0]
      repeat' (first | with_reducible exact Le.refl _ | exact ih hk' _ | refine Le.cond ?_ ?_ | refine Le.bind ?_ (fun _ => ?_) | cases ‹Except _ _› | intro _)
noncomputable def slices_Equal_api_File_api_File.l0.v (a0 : List File) (a1 : List File) (s : Int) : Option (Except Bool Unit) := lim (fun k => slices_Equal_api_File_api_File.l0 a0 a1 k s)
theorem slices_Equal_api_File_api_File.l0.tends (a0 : List File) (a1 : List File) (s : Int) : Tends (fun k => slices_Equal_api_File_api_File.l0 a0 a1 k s) (slices_Equal_api_File_api_File.l0.v a0 a1 s) := tends_lim (fun hk => slices_Equal_api_File_api_File.l0.mono a0 a1 hk s)
set_option maxHeartbeats 4000000 in
set_option maxRecDepth 100000 in
theorem slices_Equal_api_File_api_File.l0.v_eq (a0 : List File) (a1 : List File) (s2 : Int) : slices_Equal_api_File_api_File.l0.v a0 a1 s2 = bif icmp .lss s2 (a0.length : Int) then ((idx a0 s2).bind fun x7 => (idx a1 s2).bind fun x9 => bif !(eqFile x7 x9) then (some (Except.error false)) else (slices_Equal_api_File_api_File.l0.v a0 a1 (IntKind.i64.wrap (s2 + (1 : Int))))) else (some (Except.ok ())) := (slices_Equal_api_File_api_File.l0.tends a0 a1 s2).shift.uniq (by
  simp only [slices_Equal_api_File_api_File.l0]
  repeat' (first | with_reducible exact Tends.const _ | apply slices_Equal_api_File_api_File.l0.tends | refine Tends.cond ?_ ?_ | refine Tends.bind ?_ (fun _ => ?_) | cases ‹Except _ _› | intro _))
set_option maxHeartbeats 4000000 in
set_option maxRecDepth 100000 in
theorem slices_Equal_api_File_api_File.mono {k k' : Nat} (hk' : k ≤ k') (a0 : List File) (a1 : List File) : Le (slices_Equal_api_File_api_File.f k a0 a1 ) (slices_Equal_api_File_api_File.f k' a0 a1 ) := by
  simp only [slices_Equal_api_File_api_File.f]
  repeat' (first | with_reducible exact Le.refl _ | refine slices_Equal_api_File_api_File.l0.mono _ _ hk' _ | refine Le.cond ?_ ?_ | refine Le.bind ?_ (fun _ => ?_) | cases ‹Except _ _› | intro _)
noncomputable def slices_Equal_api_File_api_File.v (a0 : List File) (a1 : List File) : Option Bool := lim (fun k => slices_Equal_api_File_api_File.f k a0 a1 )
theorem slices_Equal_api_File_api_File.tends (a0 : List File) (a1 : List File) : Tends (fun k => slices_Equal_api_File_api_File.f k a0 a1 ) (slices_Equal_api_File_api_File.v a0 a1 ) := tends_lim (fun hk => slices_Equal_api_File_api_File.mono hk a0 a1 )
set_option maxHeartbeats 4000000 in
set_option maxRecDepth 100000 in
theorem slices_Equal_api_File_api_File.v_eq (a0 : List File) (a1 : List File) : slices_Equal_api_File_api_File.v a0 a1 = bif icmp .neq (a0.length : Int) (a1.length : Int) then (some false) else ((slices_Equal_api_File_api_File.l0.v a0 a1 (0 : Int)).bind fun o5 => match o5 with | .error r' => some r' | .ok s3 => (some true)) := (slices_Equal_api_File_api_File.tends a0 a1 ).uniq (by
  simp only [slices_Equal_api_File_api_File.f]
  repeat' (first | with_reducible exact Tends.const _ | apply slices_Equal_api_File_api_File.l0.tends | refine Tends.cond ?_ ?_ | refine Tends.bind ?_ (fun _ => ?_) | cases ‹Except _ _› | intro _))
/-! smithy/disk.Same -/
set_option maxHeartbeats 4000000 in
set_option maxRecDepth 100000 in
theorem disk_Same.mono {k k' : Nat} (hk' : k ≤ k') (a0 : Disk) (a1 : Disk) : Le (disk_Same.f k a0 a1 ) (disk_Same.f k' a0 a1 ) := by
  simp only [disk_Same.f]
  repeat' (first | with_reducible exact Le.refl _ | apply slices_Equal_api_File_api_File.mono (hk' := hk') | refine Le.cond ?_ ?_ | refine Le.bind ?_ (fun _ => ?_) | cases ‹Except _ _› | intro _)
noncomputable def disk_Same.v (a0 : Disk) (a1 : Disk) : Option Bool := lim (fun k => disk_Same.f k a0 a1 )
theorem disk_Same.tends (a0 : Disk) (a1 : Disk) : Tends (fun k => disk_Same.f k a0 a1 ) (disk_Same.v a0 a1 ) := tends_lim (fun hk => disk_Same.mono hk a0 a1 )
set_option maxHeartbeats 4000000 in
set_option maxRecDepth 100000 in
theorem disk_Same.v_eq (a0 : Disk) (a1 : Disk) : disk_Same.v a0 a1 = (bif icmp .eql a0.Clock a1.Clock then ((slices_Equal_api_File_api_File.v a0.Files a1.Files).bind fun v4 => some v4) else (some false)).bind fun s1 => some s1 := (disk_Same.tends a0 a1 ).uniq (by
  simp only [disk_Same.f]
  repeat' (first | with_reducible exact Tends.const _ | apply slices_Equal_api_File_api_File.tends | refine Tends.cond ?_ ?_ | refine Tends.bind ?_ (fun _ => ?_) | cases ‹Except _ _› | intro _))
/-! smithy/smithyref02.Same -/
set_option maxHeartbeats 4000000 in
set_option maxRecDepth 100000 in
theorem smithyref02_Same.l0.mono (a0 : Disk) (a1 : Disk) : ∀ {k k' : Nat}, k ≤ k' → ∀ s, Le (smithyref02_Same.l0 a0 a1 k s) (smithyref02_Same.l0 a0 a1 k' s) := by
  intro k
  induction k with
  | zero => exact fun _ s => Le.none _
  | succ k ih =>
    intro k' hk s
    cases k' with
    | zero => exact absurd hk (by omega)
    | succ k' =>
      have hk' := Nat.le_of_succ_le_succ hk
      simp only [smithyref02_Same.l0]
      repeat' (first | with_reducible exact Le.refl _ | exact ih hk' _ | refine Le.cond ?_ ?_ | refine Le.bind ?_ (fun _ => ?_) | cases ‹Except _ _› | intro _)
noncomputable def smithyref02_Same.l0.v (a0 : Disk) (a1 : Disk) (s : Int) : Option (Except Bool Unit) := lim (fun k => smithyref02_Same.l0 a0 a1 k s)
theorem smithyref02_Same.l0.tends (a0 : Disk) (a1 : Disk) (s : Int) : Tends (fun k => smithyref02_Same.l0 a0 a1 k s) (smithyref02_Same.l0.v a0 a1 s) := tends_lim (fun hk => smithyref02_Same.l0.mono a0 a1 hk s)
set_option maxHeartbeats 4000000 in
set_option maxRecDepth 100000 in
theorem smithyref02_Same.l0.v_eq (a0 : Disk) (a1 : Disk) (s5 : Int) : smithyref02_Same.l0.v a0 a1 s5 = bif icmp .lss s5 (a0.Files.length : Int) then ((idx a0.Files s5).bind fun x10 => (idx a1.Files s5).bind fun x12 => bif !(eqFile x10 x12) then (some (Except.error false)) else (smithyref02_Same.l0.v a0 a1 (IntKind.i64.wrap (s5 + (1 : Int))))) else (some (Except.ok ())) := (smithyref02_Same.l0.tends a0 a1 s5).shift.uniq (by
  simp only [smithyref02_Same.l0]
  repeat' (first | with_reducible exact Tends.const _ | apply smithyref02_Same.l0.tends | refine Tends.cond ?_ ?_ | refine Tends.bind ?_ (fun _ => ?_) | cases ‹Except _ _› | intro _))
set_option maxHeartbeats 4000000 in
set_option maxRecDepth 100000 in
theorem smithyref02_Same.mono {k k' : Nat} (hk' : k ≤ k') (a0 : Disk) (a1 : Disk) : Le (smithyref02_Same.f k a0 a1 ) (smithyref02_Same.f k' a0 a1 ) := by
  simp only [smithyref02_Same.f]
  repeat' (first | with_reducible exact Le.refl _ | refine smithyref02_Same.l0.mono _ _ hk' _ | refine Le.cond ?_ ?_ | refine Le.bind ?_ (fun _ => ?_) | cases ‹Except _ _› | intro _)
noncomputable def smithyref02_Same.v (a0 : Disk) (a1 : Disk) : Option Bool := lim (fun k => smithyref02_Same.f k a0 a1 )
theorem smithyref02_Same.tends (a0 : Disk) (a1 : Disk) : Tends (fun k => smithyref02_Same.f k a0 a1 ) (smithyref02_Same.v a0 a1 ) := tends_lim (fun hk => smithyref02_Same.mono hk a0 a1 )
set_option maxHeartbeats 4000000 in
set_option maxRecDepth 100000 in
theorem smithyref02_Same.v_eq (a0 : Disk) (a1 : Disk) : smithyref02_Same.v a0 a1 = (bif icmp .neq a0.Clock a1.Clock then (some true) else (some (icmp .neq (a0.Files.length : Int) (a1.Files.length : Int)))).bind fun s1 => bif s1 then (some false) else ((smithyref02_Same.l0.v a0 a1 (0 : Int)).bind fun o8 => match o8 with | .error r' => some r' | .ok s6 => (some true)) := (smithyref02_Same.tends a0 a1 ).uniq (by
  simp only [smithyref02_Same.f]
  repeat' (first | with_reducible exact Tends.const _ | apply smithyref02_Same.l0.tends | refine Tends.cond ?_ ?_ | refine Tends.bind ?_ (fun _ => ?_) | cases ‹Except _ _› | intro _))
/-! smithy/smithylaw02.DiskChanged -/
set_option maxHeartbeats 4000000 in
set_option maxRecDepth 100000 in
theorem smithylaw02_DiskChanged.mono {k k' : Nat} (hk' : k ≤ k') (a0 : Disk) (a1 : Disk) : Le (smithylaw02_DiskChanged.f k a0 a1 ) (smithylaw02_DiskChanged.f k' a0 a1 ) := by
  simp only [smithylaw02_DiskChanged.f]
  repeat' (first | with_reducible exact Le.refl _ | apply disk_Changed.mono (hk' := hk') | apply smithyref02_Changed.mono (hk' := hk') | apply smithyplain_Texts.mono (hk' := hk') | apply disk_Same.mono (hk' := hk') | apply smithyref02_Same.mono (hk' := hk') | apply smithylaw02_speaks.mono (hk' := hk') | refine Le.cond ?_ ?_ | refine Le.bind ?_ (fun _ => ?_) | cases ‹Except _ _› | intro _)
noncomputable def smithylaw02_DiskChanged.v (a0 : Disk) (a1 : Disk) : Option Bool := lim (fun k => smithylaw02_DiskChanged.f k a0 a1 )
theorem smithylaw02_DiskChanged.tends (a0 : Disk) (a1 : Disk) : Tends (fun k => smithylaw02_DiskChanged.f k a0 a1 ) (smithylaw02_DiskChanged.v a0 a1 ) := tends_lim (fun hk => smithylaw02_DiskChanged.mono hk a0 a1 )
set_option maxHeartbeats 4000000 in
set_option maxRecDepth 100000 in
theorem smithylaw02_DiskChanged.v_eq (a0 : Disk) (a1 : Disk) : smithylaw02_DiskChanged.v a0 a1 = (disk_Changed.v a0 a1).bind fun v1 => (disk_Changed.v a1 a0).bind fun v3 => (smithyref02_Changed.v a0 a1).bind fun v5 => ((smithyplain_Texts.v v1.1 v5.1).bind fun v9 => bif v9 then (bif icmp .eql v1.2 v5.2 then ((smithyplain_Texts.v v3.1 v5.1).bind fun v13 => bif v13 then (bif icmp .eql v3.2 v5.2 then ((disk_Same.v a0 a1).bind fun v17 => (smithyref02_Same.v a0 a1).bind fun v19 => bif (v17 == v19) then ((smithylaw02_speaks.v).bind fun v22 => some v22) else (some false)) else (some false)) else (some false)) else (some false)) else (some false)).bind fun s7 => some s7 := (smithylaw02_DiskChanged.tends a0 a1 ).uniq (by
  simp only [smithylaw02_DiskChanged.f]
  repeat' (first | with_reducible exact Tends.const _ | apply disk_Changed.tends | apply smithyref02_Changed.tends | apply smithyplain_Texts.tends | apply disk_Same.tends | apply smithyref02_Same.tends | apply smithylaw02_speaks.tends | refine Tends.cond ?_ ?_ | refine Tends.bind ?_ (fun _ => ?_) | cases ‹Except _ _› | intro _))
end Go.Proofs.Ytaeapobjhgakiaa.F
