/-
  No cell of these rows narrows 'for every input' (looked for: loops, veiled, ifaces, maps, wideKeys, modest, calm, conditions, laid).
  DERIVED. THE GIVEN ROWS OF THIS SEAT. 5 by the template 'for every input the law returns true; each argument reads behind the call as it read before'; 0 by the template 'total and deterministic' (their statements: YtoemgemfgaooeaaTotals.lean).
  GIVEN WITH THE SEED: the statements are not yours to turn. If you find one false, say at which input.
  Laid BY PROGRAM, IN A SANDBOX (cutbox-rows.mjs): the forced cells as the released guide's own fill.sh prints them over the translation 62b9a64f0d64a7f5… (all of the seat's roots in one cut). By AI agents, Wed Nov 11 2026. No macro, syntax, notation, axiom, sorry.
-/
import Derived.Test.YtoemgemfgaooeaaChecked
import GoSem.Claim
import GoSem.ClaimJoined
import GoSem.ClaimMapViews
import Derived.JoinedTies
import Derived.KernelRfl
namespace Go.Proofs.Ytoemgemfgaooeaa
/- THE CELL 'sum', in the pinned program and in every row, IS THE sha256 OF THE DUMP (.gsa) THAT YtoemgemfgaooeaaProg.lean LOADS. Nothing in Lean hashes anything: it is a label: what it is worth is what the hold of that sum in a sandbox is worth. -/
noncomputable def Try.pinned : Pinned := { name := "ytoemgemfgaooeaa", sum := "62b9a64f0d64a7f5fc26076c3f022193a3c3f9ff91172b1d89d7cde2d789e5d9", checked := Try.checked }
namespace Rows
def none {H : Type} : Left H := { results := [], args := [] }

/-- 'smithylaw13.StaleNewers': WHATEVER THE INPUT: true; the input reads as it did. -/
def staleNewersSpec : ChangeSpec := { name := "staleNewers", fn := fun _ => fun
  | [d] => { results := [.lit (.bool true)], args := [d] }
  | _ => none }
def staleNewersRow : OpenClaim := { program := "ytoemgemfgaooeaa", sum := "62b9a64f0d64a7f5fc26076c3f022193a3c3f9ff91172b1d89d7cde2d789e5d9", func := "smithy/smithylaw13.StaleNewers", spec := "staleNewers", inPlace := ["internal/bytealg.IndexByteString", "internal/bytealg.abigen_runtime_cmpstring"], unfollowed := true, recurses := true, apart := false }
def StaleNewersSaid : Prop := staleNewersRow.holds Try.pinned (OpenSpec.ofChange staleNewersSpec)

/-- ITS FALSE NEIGHBOUR: 'it returns false'. Refute it at one input. -/
def staleNewersWrong : ChangeSpec := { name := "staleNewers", fn := fun _ => fun
  | [d] => { results := [.lit (.bool false)], args := [d] }
  | _ => none }
def StaleNewersWrongFalsely : Prop := staleNewersRow.holds Try.pinned (OpenSpec.ofChange staleNewersWrong)

/-- 'smithylaw13.StaleFresh': WHATEVER THE INPUT: true; the input reads as it did. -/
def staleFreshSpec : ChangeSpec := { name := "staleFresh", fn := fun _ => fun
  | [d] => { results := [.lit (.bool true)], args := [d] }
  | _ => none }
def staleFreshRow : OpenClaim := { program := "ytoemgemfgaooeaa", sum := "62b9a64f0d64a7f5fc26076c3f022193a3c3f9ff91172b1d89d7cde2d789e5d9", func := "smithy/smithylaw13.StaleFresh", spec := "staleFresh", inPlace := ["internal/bytealg.IndexByteString", "internal/bytealg.abigen_runtime_cmpstring"], unfollowed := true, recurses := true, apart := false }
def StaleFreshSaid : Prop := staleFreshRow.holds Try.pinned (OpenSpec.ofChange staleFreshSpec)

/-- ITS FALSE NEIGHBOUR: 'it returns false'. Refute it at one input. -/
def staleFreshWrong : ChangeSpec := { name := "staleFresh", fn := fun _ => fun
  | [d] => { results := [.lit (.bool false)], args := [d] }
  | _ => none }
def StaleFreshWrongFalsely : Prop := staleFreshRow.holds Try.pinned (OpenSpec.ofChange staleFreshWrong)

/-- 'smithylaw13.StaleMore': WHATEVER THE INPUT: true; the input reads as it did. -/
def staleMoreSpec : ChangeSpec := { name := "staleMore", fn := fun _ => fun
  | [d1, d2] => { results := [.lit (.bool true)], args := [d1, d2] }
  | _ => none }
def staleMoreRow : OpenClaim := { program := "ytoemgemfgaooeaa", sum := "62b9a64f0d64a7f5fc26076c3f022193a3c3f9ff91172b1d89d7cde2d789e5d9", func := "smithy/smithylaw13.StaleMore", spec := "staleMore", inPlace := ["internal/bytealg.IndexByteString", "internal/bytealg.abigen_runtime_cmpstring"], unfollowed := true, recurses := true, apart := false }
def StaleMoreSaid : Prop := staleMoreRow.holds Try.pinned (OpenSpec.ofChange staleMoreSpec)

/-- ITS FALSE NEIGHBOUR: 'it returns false'. Refute it at one input. -/
def staleMoreWrong : ChangeSpec := { name := "staleMore", fn := fun _ => fun
  | [d1, d2] => { results := [.lit (.bool false)], args := [d1, d2] }
  | _ => none }
def StaleMoreWrongFalsely : Prop := staleMoreRow.holds Try.pinned (OpenSpec.ofChange staleMoreWrong)

/-- 'smithylaw13.StaleWoulds': WHATEVER THE INPUT: true; the input reads as it did. -/
def staleWouldsSpec : ChangeSpec := { name := "staleWoulds", fn := fun _ => fun
  | [d1, d2] => { results := [.lit (.bool true)], args := [d1, d2] }
  | _ => none }
def staleWouldsRow : OpenClaim := { program := "ytoemgemfgaooeaa", sum := "62b9a64f0d64a7f5fc26076c3f022193a3c3f9ff91172b1d89d7cde2d789e5d9", func := "smithy/smithylaw13.StaleWoulds", spec := "staleWoulds", inPlace := ["internal/bytealg.IndexByteString", "internal/bytealg.abigen_runtime_cmpstring"], unfollowed := true, recurses := true, apart := false }
def StaleWouldsSaid : Prop := staleWouldsRow.holds Try.pinned (OpenSpec.ofChange staleWouldsSpec)

/-- ITS FALSE NEIGHBOUR: 'it returns false'. Refute it at one input. -/
def staleWouldsWrong : ChangeSpec := { name := "staleWoulds", fn := fun _ => fun
  | [d1, d2] => { results := [.lit (.bool false)], args := [d1, d2] }
  | _ => none }
def StaleWouldsWrongFalsely : Prop := staleWouldsRow.holds Try.pinned (OpenSpec.ofChange staleWouldsWrong)

/-- 'smithylaw13.StaleOrder': WHATEVER THE INPUT: true; the input reads as it did. -/
def staleOrderSpec : ChangeSpec := { name := "staleOrder", fn := fun _ => fun
  | [d1, d2] => { results := [.lit (.bool true)], args := [d1, d2] }
  | _ => none }
def staleOrderRow : OpenClaim := { program := "ytoemgemfgaooeaa", sum := "62b9a64f0d64a7f5fc26076c3f022193a3c3f9ff91172b1d89d7cde2d789e5d9", func := "smithy/smithylaw13.StaleOrder", spec := "staleOrder", inPlace := ["internal/bytealg.IndexByteString", "internal/bytealg.abigen_runtime_cmpstring"], unfollowed := true, recurses := true, apart := false }
def StaleOrderSaid : Prop := staleOrderRow.holds Try.pinned (OpenSpec.ofChange staleOrderSpec)

/-- ITS FALSE NEIGHBOUR: 'it returns false'. Refute it at one input. -/
def staleOrderWrong : ChangeSpec := { name := "staleOrder", fn := fun _ => fun
  | [d1, d2] => { results := [.lit (.bool false)], args := [d1, d2] }
  | _ => none }
def StaleOrderWrongFalsely : Prop := staleOrderRow.holds Try.pinned (OpenSpec.ofChange staleOrderWrong)

/- THE SECOND FORM. 'bulk': how many values and letters a reading holds, each counted each time it is reached (what is shared counts as often as it is met; a slice's spare places count too). A statement '..UptoSaid' is the law's where the arguments, and the package variables that the reading takes, are together of bulk at most 1048576: NARROWER than '..Said'. Prove '..Said' where nothing that the law and all that it calls make is longer than what came in: it says more and counts as full. Else prove '..UptoSaid'. A law counts once. -/
mutual
def uptoBulk {H : Type} : DataW H → Nat
  | .lit (.string bytes) => bytes.length + 1
  | .lit _ => 1
  | .nil => 1
  | .ptr d => uptoBulk d + 1
  | .slice elems spare => uptoBulkAll elems + uptoBulkAll spare + 1
  | .agg parts => uptoBulkAll parts + 1
  | .iface _ d => uptoBulk d + 1
  | .map entries => uptoBulkEntries entries + 1
  | .held _ => 1
def uptoBulkAll {H : Type} : List (DataW H) → Nat
  | [] => 0
  | d :: r => uptoBulk d + uptoBulkAll r
def uptoBulkEntries {H : Type} : List (Lit × DataW H) → Nat
  | [] => 0
  | x :: r => uptoBulkEntry x + uptoBulkEntries r
def uptoBulkEntry {H : Type} : Lit × DataW H → Nat
  | (.string bytes, d) => bytes.length + uptoBulk d + 1
  | (_, d) => uptoBulk d + 1
 end
def uptoSmall : (H : Type) → List (DataW H) → Bool := fun _ ds => decide (uptoBulkAll ds ≤ 1048576)
def OpenSpec.upto (s : _root_.Go.ChangeSpec) : _root_.Go.OpenSpec := { _root_.Go.OpenSpec.ofChange s with cond := some uptoSmall }

/-- 'smithylaw13.StaleNewers', WHERE WHAT IT READS IS OF BULK AT MOST 1048576: true; the input reads as it did. -/
def staleNewersUptoRow : OpenClaim := { program := "ytoemgemfgaooeaa", sum := "62b9a64f0d64a7f5fc26076c3f022193a3c3f9ff91172b1d89d7cde2d789e5d9", func := "smithy/smithylaw13.StaleNewers", spec := "staleNewers", inPlace := ["internal/bytealg.IndexByteString", "internal/bytealg.abigen_runtime_cmpstring"], unfollowed := true, recurses := true, apart := false, narrowed := true }
def StaleNewersUptoSaid : Prop := staleNewersUptoRow.holds Try.pinned (OpenSpec.upto staleNewersSpec)

/-- 'smithylaw13.StaleFresh', WHERE WHAT IT READS IS OF BULK AT MOST 1048576: true; the input reads as it did. -/
def staleFreshUptoRow : OpenClaim := { program := "ytoemgemfgaooeaa", sum := "62b9a64f0d64a7f5fc26076c3f022193a3c3f9ff91172b1d89d7cde2d789e5d9", func := "smithy/smithylaw13.StaleFresh", spec := "staleFresh", inPlace := ["internal/bytealg.IndexByteString", "internal/bytealg.abigen_runtime_cmpstring"], unfollowed := true, recurses := true, apart := false, narrowed := true }
def StaleFreshUptoSaid : Prop := staleFreshUptoRow.holds Try.pinned (OpenSpec.upto staleFreshSpec)

/-- 'smithylaw13.StaleMore', WHERE WHAT IT READS IS OF BULK AT MOST 1048576: true; the input reads as it did. -/
def staleMoreUptoRow : OpenClaim := { program := "ytoemgemfgaooeaa", sum := "62b9a64f0d64a7f5fc26076c3f022193a3c3f9ff91172b1d89d7cde2d789e5d9", func := "smithy/smithylaw13.StaleMore", spec := "staleMore", inPlace := ["internal/bytealg.IndexByteString", "internal/bytealg.abigen_runtime_cmpstring"], unfollowed := true, recurses := true, apart := false, narrowed := true }
def StaleMoreUptoSaid : Prop := staleMoreUptoRow.holds Try.pinned (OpenSpec.upto staleMoreSpec)

/-- 'smithylaw13.StaleWoulds', WHERE WHAT IT READS IS OF BULK AT MOST 1048576: true; the input reads as it did. -/
def staleWouldsUptoRow : OpenClaim := { program := "ytoemgemfgaooeaa", sum := "62b9a64f0d64a7f5fc26076c3f022193a3c3f9ff91172b1d89d7cde2d789e5d9", func := "smithy/smithylaw13.StaleWoulds", spec := "staleWoulds", inPlace := ["internal/bytealg.IndexByteString", "internal/bytealg.abigen_runtime_cmpstring"], unfollowed := true, recurses := true, apart := false, narrowed := true }
def StaleWouldsUptoSaid : Prop := staleWouldsUptoRow.holds Try.pinned (OpenSpec.upto staleWouldsSpec)

/-- 'smithylaw13.StaleOrder', WHERE WHAT IT READS IS OF BULK AT MOST 1048576: true; the input reads as it did. -/
def staleOrderUptoRow : OpenClaim := { program := "ytoemgemfgaooeaa", sum := "62b9a64f0d64a7f5fc26076c3f022193a3c3f9ff91172b1d89d7cde2d789e5d9", func := "smithy/smithylaw13.StaleOrder", spec := "staleOrder", inPlace := ["internal/bytealg.IndexByteString", "internal/bytealg.abigen_runtime_cmpstring"], unfollowed := true, recurses := true, apart := false, narrowed := true }
def StaleOrderUptoSaid : Prop := staleOrderUptoRow.holds Try.pinned (OpenSpec.upto staleOrderSpec)

end Rows
end Go.Proofs.Ytoemgemfgaooeaa
