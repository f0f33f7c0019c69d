/-
  No cell of these rows narrows 'for every input' (looked for: loops, veiled, ifaces, maps, wideKeys, modest, calm, conditions, laid).
  DERIVED. THE GIVEN ROWS OF THIS SEAT. 3 by the template 'for every input the law returns true; each argument reads behind the call as it read before'; 0 by the template 'total and deterministic' (their statements: YtmmjbobicnmilaaTotals.lean).
  GIVEN WITH THE SEED: the statements are not yours to turn. If you find one false, say at which input.
  Laid BY PROGRAM, IN A SANDBOX (cutbox-rows.mjs): the forced cells as the released guide's own fill.sh prints them over the translation e1fca4732627c0cf… (all of the seat's roots in one cut). By AI agents, Wed Nov 11 2026. No macro, syntax, notation, axiom, sorry.
-/
import Derived.Test.YtmmjbobicnmilaaChecked
import GoSem.Claim
import GoSem.ClaimJoined
import GoSem.ClaimMapViews
import Derived.JoinedTies
import Derived.KernelRfl
namespace Go.Proofs.Ytmmjbobicnmilaa
/- THE CELL 'sum', in the pinned program and in every row, IS THE sha256 OF THE DUMP (.gsa) THAT YtmmjbobicnmilaaProg.lean LOADS. Nothing in Lean hashes anything: it is a label: what it is worth is what the hold of that sum in a sandbox is worth. -/
noncomputable def Try.pinned : Pinned := { name := "ytmmjbobicnmilaa", sum := "e1fca4732627c0cf97979a67486825856abe48cad78714023f5d6d4ef8659833", checked := Try.checked }
namespace Rows
def none {H : Type} : Left H := { results := [], args := [] }

/-- 'smithylaw19.ModesNothing': WHATEVER THE INPUT: true; the input reads as it did. -/
def modesNothingSpec : ChangeSpec := { name := "modesNothing", fn := fun _ => fun
  | [d1, d2, d3] => { results := [.lit (.bool true)], args := [d1, d2, d3] }
  | _ => none }
def modesNothingRow : OpenClaim := { program := "ytmmjbobicnmilaa", sum := "e1fca4732627c0cf97979a67486825856abe48cad78714023f5d6d4ef8659833", func := "smithy/smithylaw19.ModesNothing", spec := "modesNothing", inPlace := ["internal/bytealg.IndexByteString", "internal/bytealg.abigen_runtime_cmpstring"], unfollowed := true, recurses := true, apart := false }
def ModesNothingSaid : Prop := modesNothingRow.holds Try.pinned (OpenSpec.ofChange modesNothingSpec)

/-- ITS FALSE NEIGHBOUR: 'it returns false'. Refute it at one input. -/
def modesNothingWrong : ChangeSpec := { name := "modesNothing", fn := fun _ => fun
  | [d1, d2, d3] => { results := [.lit (.bool false)], args := [d1, d2, d3] }
  | _ => none }
def ModesNothingWrongFalsely : Prop := modesNothingRow.holds Try.pinned (OpenSpec.ofChange modesNothingWrong)

/-- 'smithylaw19.ModesOf': WHATEVER THE INPUT: true; the input reads as it did. -/
def modesOfSpec : ChangeSpec := { name := "modesOf", fn := fun _ => fun
  | [d1, d2, d3] => { results := [.lit (.bool true)], args := [d1, d2, d3] }
  | _ => none }
def modesOfRow : OpenClaim := { program := "ytmmjbobicnmilaa", sum := "e1fca4732627c0cf97979a67486825856abe48cad78714023f5d6d4ef8659833", func := "smithy/smithylaw19.ModesOf", spec := "modesOf", inPlace := ["internal/bytealg.IndexByteString", "internal/bytealg.abigen_runtime_cmpstring"], unfollowed := true, recurses := true, apart := false }
def ModesOfSaid : Prop := modesOfRow.holds Try.pinned (OpenSpec.ofChange modesOfSpec)

/-- ITS FALSE NEIGHBOUR: 'it returns false'. Refute it at one input. -/
def modesOfWrong : ChangeSpec := { name := "modesOf", fn := fun _ => fun
  | [d1, d2, d3] => { results := [.lit (.bool false)], args := [d1, d2, d3] }
  | _ => none }
def ModesOfWrongFalsely : Prop := modesOfRow.holds Try.pinned (OpenSpec.ofChange modesOfWrong)

/-- 'smithylaw19.ModesChecks': WHATEVER THE INPUT: true; the input reads as it did. -/
def modesChecksSpec : ChangeSpec := { name := "modesChecks", fn := fun _ => fun
  | [d] => { results := [.lit (.bool true)], args := [d] }
  | _ => none }
def modesChecksRow : OpenClaim := { program := "ytmmjbobicnmilaa", sum := "e1fca4732627c0cf97979a67486825856abe48cad78714023f5d6d4ef8659833", func := "smithy/smithylaw19.ModesChecks", spec := "modesChecks", inPlace := ["internal/bytealg.IndexByteString", "internal/bytealg.abigen_runtime_cmpstring"], unfollowed := true, recurses := true, apart := false }
def ModesChecksSaid : Prop := modesChecksRow.holds Try.pinned (OpenSpec.ofChange modesChecksSpec)

/-- ITS FALSE NEIGHBOUR: 'it returns false'. Refute it at one input. -/
def modesChecksWrong : ChangeSpec := { name := "modesChecks", fn := fun _ => fun
  | [d] => { results := [.lit (.bool false)], args := [d] }
  | _ => none }
def ModesChecksWrongFalsely : Prop := modesChecksRow.holds Try.pinned (OpenSpec.ofChange modesChecksWrong)

/- THE SECOND FORM. 'bulk': how many values and letters a reading holds, each counted each time it is reached (what is shared counts as often as it is met; a slice's spare places count too). A statement '..UptoSaid' is the law's where the arguments, and the package variables that the reading takes, are together of bulk at most 1048576: NARROWER than '..Said'. Prove '..Said' where nothing that the law and all that it calls make is longer than what came in: it says more and counts as full. Else prove '..UptoSaid'. A law counts once. -/
mutual
def uptoBulk {H : Type} : DataW H → Nat
  | .lit (.string bytes) => bytes.length + 1
  | .lit _ => 1
  | .nil => 1
  | .ptr d => uptoBulk d + 1
  | .slice elems spare => uptoBulkAll elems + uptoBulkAll spare + 1
  | .agg parts => uptoBulkAll parts + 1
  | .iface _ d => uptoBulk d + 1
  | .map entries => uptoBulkEntries entries + 1
  | .held _ => 1
def uptoBulkAll {H : Type} : List (DataW H) → Nat
  | [] => 0
  | d :: r => uptoBulk d + uptoBulkAll r
def uptoBulkEntries {H : Type} : List (Lit × DataW H) → Nat
  | [] => 0
  | x :: r => uptoBulkEntry x + uptoBulkEntries r
def uptoBulkEntry {H : Type} : Lit × DataW H → Nat
  | (.string bytes, d) => bytes.length + uptoBulk d + 1
  | (_, d) => uptoBulk d + 1
 end
def uptoSmall : (H : Type) → List (DataW H) → Bool := fun _ ds => decide (uptoBulkAll ds ≤ 1048576)
def OpenSpec.upto (s : _root_.Go.ChangeSpec) : _root_.Go.OpenSpec := { _root_.Go.OpenSpec.ofChange s with cond := some uptoSmall }

/-- 'smithylaw19.ModesNothing', WHERE WHAT IT READS IS OF BULK AT MOST 1048576: true; the input reads as it did. -/
def modesNothingUptoRow : OpenClaim := { program := "ytmmjbobicnmilaa", sum := "e1fca4732627c0cf97979a67486825856abe48cad78714023f5d6d4ef8659833", func := "smithy/smithylaw19.ModesNothing", spec := "modesNothing", inPlace := ["internal/bytealg.IndexByteString", "internal/bytealg.abigen_runtime_cmpstring"], unfollowed := true, recurses := true, apart := false, narrowed := true }
def ModesNothingUptoSaid : Prop := modesNothingUptoRow.holds Try.pinned (OpenSpec.upto modesNothingSpec)

/-- 'smithylaw19.ModesOf', WHERE WHAT IT READS IS OF BULK AT MOST 1048576: true; the input reads as it did. -/
def modesOfUptoRow : OpenClaim := { program := "ytmmjbobicnmilaa", sum := "e1fca4732627c0cf97979a67486825856abe48cad78714023f5d6d4ef8659833", func := "smithy/smithylaw19.ModesOf", spec := "modesOf", inPlace := ["internal/bytealg.IndexByteString", "internal/bytealg.abigen_runtime_cmpstring"], unfollowed := true, recurses := true, apart := false, narrowed := true }
def ModesOfUptoSaid : Prop := modesOfUptoRow.holds Try.pinned (OpenSpec.upto modesOfSpec)

/-- 'smithylaw19.ModesChecks', WHERE WHAT IT READS IS OF BULK AT MOST 1048576: true; the input reads as it did. -/
def modesChecksUptoRow : OpenClaim := { program := "ytmmjbobicnmilaa", sum := "e1fca4732627c0cf97979a67486825856abe48cad78714023f5d6d4ef8659833", func := "smithy/smithylaw19.ModesChecks", spec := "modesChecks", inPlace := ["internal/bytealg.IndexByteString", "internal/bytealg.abigen_runtime_cmpstring"], unfollowed := true, recurses := true, apart := false, narrowed := true }
def ModesChecksUptoSaid : Prop := modesChecksUptoRow.holds Try.pinned (OpenSpec.upto modesChecksSpec)

end Rows
end Go.Proofs.Ytmmjbobicnmilaa
