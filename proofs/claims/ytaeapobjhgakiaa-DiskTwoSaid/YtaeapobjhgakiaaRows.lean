/-
  No cell of these rows narrows 'for every input' (looked for: loops, veiled, ifaces, maps, wideKeys, modest, calm, conditions, laid).
  DERIVED. THE GIVEN ROWS OF THIS SEAT. 7 by the template 'for every input the law returns true; each argument reads behind the call as it read before'; 0 by the template 'total and deterministic' (their statements: YtaeapobjhgakiaaTotals.lean).
  GIVEN WITH THE SEED: the statements are not yours to turn. If you find one false, say at which input.
  Laid BY PROGRAM, IN A SANDBOX (cutbox-rows.mjs): the forced cells as the released guide's own fill.sh prints them over the translation c5534820e5ff4de8… (all of the seat's roots in one cut). By AI agents, Wed Nov 11 2026. No macro, syntax, notation, axiom, sorry.
-/
import Derived.Test.YtaeapobjhgakiaaChecked
import GoSem.Claim
import GoSem.ClaimJoined
import GoSem.ClaimMapViews
import Derived.JoinedTies
import Derived.KernelRfl
namespace Go.Proofs.Ytaeapobjhgakiaa
/- THE CELL 'sum', in the pinned program and in every row, IS THE sha256 OF THE DUMP (.gsa) THAT YtaeapobjhgakiaaProg.lean LOADS. Nothing in Lean hashes anything: it is a label: what it is worth is what the hold of that sum in a sandbox is worth. -/
noncomputable def Try.pinned : Pinned := { name := "ytaeapobjhgakiaa", sum := "c5534820e5ff4de8e8e182993073e2b7978c2aeb77d89a47a9f18373f6bb8e16", checked := Try.checked }
namespace Rows
def none {H : Type} : Left H := { results := [], args := [] }

/-- 'smithylaw02.DiskFinds': WHATEVER THE INPUT: true; the input reads as it did. -/
def diskFindsSpec : ChangeSpec := { name := "diskFinds", fn := fun _ => fun
  | [d1, d2] => { results := [.lit (.bool true)], args := [d1, d2] }
  | _ => none }
def diskFindsRow : OpenClaim := { program := "ytaeapobjhgakiaa", sum := "c5534820e5ff4de8e8e182993073e2b7978c2aeb77d89a47a9f18373f6bb8e16", func := "smithy/smithylaw02.DiskFinds", spec := "diskFinds", inPlace := ["internal/bytealg.IndexByteString", "internal/bytealg.abigen_runtime_cmpstring", "slices.overlaps[smithy/api.File]"], unfollowed := true, recurses := true, apart := false }
def DiskFindsSaid : Prop := diskFindsRow.holds Try.pinned (OpenSpec.ofChange diskFindsSpec)

/-- ITS FALSE NEIGHBOUR: 'it returns false'. Refute it at one input. -/
def diskFindsWrong : ChangeSpec := { name := "diskFinds", fn := fun _ => fun
  | [d1, d2] => { results := [.lit (.bool false)], args := [d1, d2] }
  | _ => none }
def DiskFindsWrongFalsely : Prop := diskFindsRow.holds Try.pinned (OpenSpec.ofChange diskFindsWrong)

/-- 'smithylaw02.DiskPuts': WHATEVER THE INPUT: true; the input reads as it did. -/
def diskPutsSpec : ChangeSpec := { name := "diskPuts", fn := fun _ => fun
  | [d1, d2] => { results := [.lit (.bool true)], args := [d1, d2] }
  | _ => none }
def diskPutsRow : OpenClaim := { program := "ytaeapobjhgakiaa", sum := "c5534820e5ff4de8e8e182993073e2b7978c2aeb77d89a47a9f18373f6bb8e16", func := "smithy/smithylaw02.DiskPuts", spec := "diskPuts", inPlace := ["internal/bytealg.IndexByteString", "internal/bytealg.abigen_runtime_cmpstring", "slices.overlaps[smithy/api.File]"], unfollowed := true, recurses := true, apart := false }
def DiskPutsSaid : Prop := diskPutsRow.holds Try.pinned (OpenSpec.ofChange diskPutsSpec)

/-- ITS FALSE NEIGHBOUR: 'it returns false'. Refute it at one input. -/
def diskPutsWrong : ChangeSpec := { name := "diskPuts", fn := fun _ => fun
  | [d1, d2] => { results := [.lit (.bool false)], args := [d1, d2] }
  | _ => none }
def DiskPutsWrongFalsely : Prop := diskPutsRow.holds Try.pinned (OpenSpec.ofChange diskPutsWrong)

/-- 'smithylaw02.DiskWrites': WHATEVER THE INPUT: true; the input reads as it did. -/
def diskWritesSpec : ChangeSpec := { name := "diskWrites", fn := fun _ => fun
  | [d1, d2, d3] => { results := [.lit (.bool true)], args := [d1, d2, d3] }
  | _ => none }
def diskWritesRow : OpenClaim := { program := "ytaeapobjhgakiaa", sum := "c5534820e5ff4de8e8e182993073e2b7978c2aeb77d89a47a9f18373f6bb8e16", func := "smithy/smithylaw02.DiskWrites", spec := "diskWrites", inPlace := ["internal/bytealg.IndexByteString", "internal/bytealg.abigen_runtime_cmpstring", "slices.overlaps[smithy/api.File]"], unfollowed := true, recurses := true, apart := false }
def DiskWritesSaid : Prop := diskWritesRow.holds Try.pinned (OpenSpec.ofChange diskWritesSpec)

/-- ITS FALSE NEIGHBOUR: 'it returns false'. Refute it at one input. -/
def diskWritesWrong : ChangeSpec := { name := "diskWrites", fn := fun _ => fun
  | [d1, d2, d3] => { results := [.lit (.bool false)], args := [d1, d2, d3] }
  | _ => none }
def DiskWritesWrongFalsely : Prop := diskWritesRow.holds Try.pinned (OpenSpec.ofChange diskWritesWrong)

/-- 'smithylaw02.DiskNewest': WHATEVER THE INPUT: true; the input reads as it did. -/
def diskNewestSpec : ChangeSpec := { name := "diskNewest", fn := fun _ => fun
  | [d1, d2] => { results := [.lit (.bool true)], args := [d1, d2] }
  | _ => none }
def diskNewestRow : OpenClaim := { program := "ytaeapobjhgakiaa", sum := "c5534820e5ff4de8e8e182993073e2b7978c2aeb77d89a47a9f18373f6bb8e16", func := "smithy/smithylaw02.DiskNewest", spec := "diskNewest", inPlace := ["internal/bytealg.IndexByteString", "internal/bytealg.abigen_runtime_cmpstring", "slices.overlaps[smithy/api.File]"], unfollowed := true, recurses := true, apart := false }
def DiskNewestSaid : Prop := diskNewestRow.holds Try.pinned (OpenSpec.ofChange diskNewestSpec)

/-- ITS FALSE NEIGHBOUR: 'it returns false'. Refute it at one input. -/
def diskNewestWrong : ChangeSpec := { name := "diskNewest", fn := fun _ => fun
  | [d1, d2] => { results := [.lit (.bool false)], args := [d1, d2] }
  | _ => none }
def DiskNewestWrongFalsely : Prop := diskNewestRow.holds Try.pinned (OpenSpec.ofChange diskNewestWrong)

/-- 'smithylaw02.DiskKeeps': WHATEVER THE INPUT: true; the input reads as it did. -/
def diskKeepsSpec : ChangeSpec := { name := "diskKeeps", fn := fun _ => fun
  | [d1, d2, d3] => { results := [.lit (.bool true)], args := [d1, d2, d3] }
  | _ => none }
def diskKeepsRow : OpenClaim := { program := "ytaeapobjhgakiaa", sum := "c5534820e5ff4de8e8e182993073e2b7978c2aeb77d89a47a9f18373f6bb8e16", func := "smithy/smithylaw02.DiskKeeps", spec := "diskKeeps", inPlace := ["internal/bytealg.IndexByteString", "internal/bytealg.abigen_runtime_cmpstring", "slices.overlaps[smithy/api.File]"], unfollowed := true, recurses := true, apart := false }
def DiskKeepsSaid : Prop := diskKeepsRow.holds Try.pinned (OpenSpec.ofChange diskKeepsSpec)

/-- ITS FALSE NEIGHBOUR: 'it returns false'. Refute it at one input. -/
def diskKeepsWrong : ChangeSpec := { name := "diskKeeps", fn := fun _ => fun
  | [d1, d2, d3] => { results := [.lit (.bool false)], args := [d1, d2, d3] }
  | _ => none }
def DiskKeepsWrongFalsely : Prop := diskKeepsRow.holds Try.pinned (OpenSpec.ofChange diskKeepsWrong)

/-- 'smithylaw02.DiskTwo': WHATEVER THE INPUT: true; the input reads as it did. -/
def diskTwoSpec : ChangeSpec := { name := "diskTwo", fn := fun _ => fun
  | [d1, d2, d3] => { results := [.lit (.bool true)], args := [d1, d2, d3] }
  | _ => none }
def diskTwoRow : OpenClaim := { program := "ytaeapobjhgakiaa", sum := "c5534820e5ff4de8e8e182993073e2b7978c2aeb77d89a47a9f18373f6bb8e16", func := "smithy/smithylaw02.DiskTwo", spec := "diskTwo", inPlace := ["internal/bytealg.IndexByteString", "internal/bytealg.abigen_runtime_cmpstring", "slices.overlaps[smithy/api.File]"], unfollowed := true, recurses := true, apart := false }
def DiskTwoSaid : Prop := diskTwoRow.holds Try.pinned (OpenSpec.ofChange diskTwoSpec)

/-- ITS FALSE NEIGHBOUR: 'it returns false'. Refute it at one input. -/
def diskTwoWrong : ChangeSpec := { name := "diskTwo", fn := fun _ => fun
  | [d1, d2, d3] => { results := [.lit (.bool false)], args := [d1, d2, d3] }
  | _ => none }
def DiskTwoWrongFalsely : Prop := diskTwoRow.holds Try.pinned (OpenSpec.ofChange diskTwoWrong)

/-- 'smithylaw02.DiskChanged': WHATEVER THE INPUT: true; the input reads as it did. -/
def diskChangedSpec : ChangeSpec := { name := "diskChanged", fn := fun _ => fun
  | [d1, d2] => { results := [.lit (.bool true)], args := [d1, d2] }
  | _ => none }
def diskChangedRow : OpenClaim := { program := "ytaeapobjhgakiaa", sum := "c5534820e5ff4de8e8e182993073e2b7978c2aeb77d89a47a9f18373f6bb8e16", func := "smithy/smithylaw02.DiskChanged", spec := "diskChanged", inPlace := ["internal/bytealg.IndexByteString", "internal/bytealg.abigen_runtime_cmpstring", "slices.overlaps[smithy/api.File]"], unfollowed := true, recurses := true, apart := false }
def DiskChangedSaid : Prop := diskChangedRow.holds Try.pinned (OpenSpec.ofChange diskChangedSpec)

/-- ITS FALSE NEIGHBOUR: 'it returns false'. Refute it at one input. -/
def diskChangedWrong : ChangeSpec := { name := "diskChanged", fn := fun _ => fun
  | [d1, d2] => { results := [.lit (.bool false)], args := [d1, d2] }
  | _ => none }
def DiskChangedWrongFalsely : Prop := diskChangedRow.holds Try.pinned (OpenSpec.ofChange diskChangedWrong)

/- THE SECOND FORM. 'bulk': how many values and letters a reading holds, each counted each time it is reached (what is shared counts as often as it is met; a slice's spare places count too). A statement '..UptoSaid' is the law's where the arguments, and the package variables that the reading takes, are together of bulk at most 1048576: NARROWER than '..Said'. Prove '..Said' where nothing that the law and all that it calls make is longer than what came in: it says more and counts as full. Else prove '..UptoSaid'. A law counts once. -/
mutual
def uptoBulk {H : Type} : DataW H → Nat
  | .lit (.string bytes) => bytes.length + 1
  | .lit _ => 1
  | .nil => 1
  | .ptr d => uptoBulk d + 1
  | .slice elems spare => uptoBulkAll elems + uptoBulkAll spare + 1
  | .agg parts => uptoBulkAll parts + 1
  | .iface _ d => uptoBulk d + 1
  | .map entries => uptoBulkEntries entries + 1
  | .held _ => 1
def uptoBulkAll {H : Type} : List (DataW H) → Nat
  | [] => 0
  | d :: r => uptoBulk d + uptoBulkAll r
def uptoBulkEntries {H : Type} : List (Lit × DataW H) → Nat
  | [] => 0
  | x :: r => uptoBulkEntry x + uptoBulkEntries r
def uptoBulkEntry {H : Type} : Lit × DataW H → Nat
  | (.string bytes, d) => bytes.length + uptoBulk d + 1
  | (_, d) => uptoBulk d + 1
 end
def uptoSmall : (H : Type) → List (DataW H) → Bool := fun _ ds => decide (uptoBulkAll ds ≤ 1048576)
def OpenSpec.upto (s : _root_.Go.ChangeSpec) : _root_.Go.OpenSpec := { _root_.Go.OpenSpec.ofChange s with cond := some uptoSmall }

/-- 'smithylaw02.DiskFinds', WHERE WHAT IT READS IS OF BULK AT MOST 1048576: true; the input reads as it did. -/
def diskFindsUptoRow : OpenClaim := { program := "ytaeapobjhgakiaa", sum := "c5534820e5ff4de8e8e182993073e2b7978c2aeb77d89a47a9f18373f6bb8e16", func := "smithy/smithylaw02.DiskFinds", spec := "diskFinds", inPlace := ["internal/bytealg.IndexByteString", "internal/bytealg.abigen_runtime_cmpstring", "slices.overlaps[smithy/api.File]"], unfollowed := true, recurses := true, apart := false, narrowed := true }
def DiskFindsUptoSaid : Prop := diskFindsUptoRow.holds Try.pinned (OpenSpec.upto diskFindsSpec)

/-- 'smithylaw02.DiskPuts', WHERE WHAT IT READS IS OF BULK AT MOST 1048576: true; the input reads as it did. -/
def diskPutsUptoRow : OpenClaim := { program := "ytaeapobjhgakiaa", sum := "c5534820e5ff4de8e8e182993073e2b7978c2aeb77d89a47a9f18373f6bb8e16", func := "smithy/smithylaw02.DiskPuts", spec := "diskPuts", inPlace := ["internal/bytealg.IndexByteString", "internal/bytealg.abigen_runtime_cmpstring", "slices.overlaps[smithy/api.File]"], unfollowed := true, recurses := true, apart := false, narrowed := true }
def DiskPutsUptoSaid : Prop := diskPutsUptoRow.holds Try.pinned (OpenSpec.upto diskPutsSpec)

/-- 'smithylaw02.DiskWrites', WHERE WHAT IT READS IS OF BULK AT MOST 1048576: true; the input reads as it did. -/
def diskWritesUptoRow : OpenClaim := { program := "ytaeapobjhgakiaa", sum := "c5534820e5ff4de8e8e182993073e2b7978c2aeb77d89a47a9f18373f6bb8e16", func := "smithy/smithylaw02.DiskWrites", spec := "diskWrites", inPlace := ["internal/bytealg.IndexByteString", "internal/bytealg.abigen_runtime_cmpstring", "slices.overlaps[smithy/api.File]"], unfollowed := true, recurses := true, apart := false, narrowed := true }
def DiskWritesUptoSaid : Prop := diskWritesUptoRow.holds Try.pinned (OpenSpec.upto diskWritesSpec)

/-- 'smithylaw02.DiskNewest', WHERE WHAT IT READS IS OF BULK AT MOST 1048576: true; the input reads as it did. -/
def diskNewestUptoRow : OpenClaim := { program := "ytaeapobjhgakiaa", sum := "c5534820e5ff4de8e8e182993073e2b7978c2aeb77d89a47a9f18373f6bb8e16", func := "smithy/smithylaw02.DiskNewest", spec := "diskNewest", inPlace := ["internal/bytealg.IndexByteString", "internal/bytealg.abigen_runtime_cmpstring", "slices.overlaps[smithy/api.File]"], unfollowed := true, recurses := true, apart := false, narrowed := true }
def DiskNewestUptoSaid : Prop := diskNewestUptoRow.holds Try.pinned (OpenSpec.upto diskNewestSpec)

/-- 'smithylaw02.DiskKeeps', WHERE WHAT IT READS IS OF BULK AT MOST 1048576: true; the input reads as it did. -/
def diskKeepsUptoRow : OpenClaim := { program := "ytaeapobjhgakiaa", sum := "c5534820e5ff4de8e8e182993073e2b7978c2aeb77d89a47a9f18373f6bb8e16", func := "smithy/smithylaw02.DiskKeeps", spec := "diskKeeps", inPlace := ["internal/bytealg.IndexByteString", "internal/bytealg.abigen_runtime_cmpstring", "slices.overlaps[smithy/api.File]"], unfollowed := true, recurses := true, apart := false, narrowed := true }
def DiskKeepsUptoSaid : Prop := diskKeepsUptoRow.holds Try.pinned (OpenSpec.upto diskKeepsSpec)

/-- 'smithylaw02.DiskTwo', WHERE WHAT IT READS IS OF BULK AT MOST 1048576: true; the input reads as it did. -/
def diskTwoUptoRow : OpenClaim := { program := "ytaeapobjhgakiaa", sum := "c5534820e5ff4de8e8e182993073e2b7978c2aeb77d89a47a9f18373f6bb8e16", func := "smithy/smithylaw02.DiskTwo", spec := "diskTwo", inPlace := ["internal/bytealg.IndexByteString", "internal/bytealg.abigen_runtime_cmpstring", "slices.overlaps[smithy/api.File]"], unfollowed := true, recurses := true, apart := false, narrowed := true }
def DiskTwoUptoSaid : Prop := diskTwoUptoRow.holds Try.pinned (OpenSpec.upto diskTwoSpec)

/-- 'smithylaw02.DiskChanged', WHERE WHAT IT READS IS OF BULK AT MOST 1048576: true; the input reads as it did. -/
def diskChangedUptoRow : OpenClaim := { program := "ytaeapobjhgakiaa", sum := "c5534820e5ff4de8e8e182993073e2b7978c2aeb77d89a47a9f18373f6bb8e16", func := "smithy/smithylaw02.DiskChanged", spec := "diskChanged", inPlace := ["internal/bytealg.IndexByteString", "internal/bytealg.abigen_runtime_cmpstring", "slices.overlaps[smithy/api.File]"], unfollowed := true, recurses := true, apart := false, narrowed := true }
def DiskChangedUptoSaid : Prop := diskChangedUptoRow.holds Try.pinned (OpenSpec.upto diskChangedSpec)

end Rows
end Go.Proofs.Ytaeapobjhgakiaa
