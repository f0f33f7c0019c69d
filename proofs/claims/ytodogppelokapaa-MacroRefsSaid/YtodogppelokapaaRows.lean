/-
  No cell of these rows narrows 'for every input' (looked for: loops, veiled, ifaces, maps, wideKeys, modest, calm, conditions, laid).
  DERIVED. THE GIVEN ROWS OF THIS SEAT. 7 by the template 'for every input the law returns true; each argument reads behind the call as it read before'; 0 by the template 'total and deterministic' (their statements: YtodogppelokapaaTotals.lean).
  GIVEN WITH THE SEED: the statements are not yours to turn. If you find one false, say at which input.
  Laid BY PROGRAM, IN A SANDBOX (cutbox-rows.mjs): the forced cells as the released guide's own fill.sh prints them over the translation 78ecc4a2f26098fe… (all of the seat's roots in one cut). By AI agents, Wed Nov 11 2026. No macro, syntax, notation, axiom, sorry.
-/
import Derived.Test.YtodogppelokapaaChecked
import GoSem.Claim
import GoSem.ClaimJoined
import GoSem.ClaimMapViews
import Derived.JoinedTies
import Derived.KernelRfl
namespace Go.Proofs.Ytodogppelokapaa
/- THE CELL 'sum', in the pinned program and in every row, IS THE sha256 OF THE DUMP (.gsa) THAT YtodogppelokapaaProg.lean LOADS. Nothing in Lean hashes anything: it is a label: what it is worth is what the hold of that sum in a sandbox is worth. -/
noncomputable def Try.pinned : Pinned := { name := "ytodogppelokapaa", sum := "78ecc4a2f26098fe368b055f8de5b76d87e822af57d56535837b6c803711fdc7", checked := Try.checked }
namespace Rows
def none {H : Type} : Left H := { results := [], args := [] }

/-- 'smithylaw05.MacroChecks': WHATEVER THE INPUT: true; the input reads as it did. -/
def macroChecksSpec : ChangeSpec := { name := "macroChecks", fn := fun _ => fun
  | [d1, d2] => { results := [.lit (.bool true)], args := [d1, d2] }
  | _ => none }
def macroChecksRow : OpenClaim := { program := "ytodogppelokapaa", sum := "78ecc4a2f26098fe368b055f8de5b76d87e822af57d56535837b6c803711fdc7", func := "smithy/smithylaw05.MacroChecks", spec := "macroChecks", inPlace := ["internal/bytealg.abigen_runtime_cmpstring", "slices.overlaps[smithy/api.Macro]"], unfollowed := true, recurses := true, apart := false }
def MacroChecksSaid : Prop := macroChecksRow.holds Try.pinned (OpenSpec.ofChange macroChecksSpec)

/-- ITS FALSE NEIGHBOUR: 'it returns false'. Refute it at one input. -/
def macroChecksWrong : ChangeSpec := { name := "macroChecks", fn := fun _ => fun
  | [d1, d2] => { results := [.lit (.bool false)], args := [d1, d2] }
  | _ => none }
def MacroChecksWrongFalsely : Prop := macroChecksRow.holds Try.pinned (OpenSpec.ofChange macroChecksWrong)

/-- 'smithylaw05.MacroDefines': WHATEVER THE INPUT: true; the input reads as it did. -/
def macroDefinesSpec : ChangeSpec := { name := "macroDefines", fn := fun _ => fun
  | [d1, d2] => { results := [.lit (.bool true)], args := [d1, d2] }
  | _ => none }
def macroDefinesRow : OpenClaim := { program := "ytodogppelokapaa", sum := "78ecc4a2f26098fe368b055f8de5b76d87e822af57d56535837b6c803711fdc7", func := "smithy/smithylaw05.MacroDefines", spec := "macroDefines", inPlace := ["internal/bytealg.abigen_runtime_cmpstring", "slices.overlaps[smithy/api.Macro]"], unfollowed := true, recurses := true, apart := false }
def MacroDefinesSaid : Prop := macroDefinesRow.holds Try.pinned (OpenSpec.ofChange macroDefinesSpec)

/-- ITS FALSE NEIGHBOUR: 'it returns false'. Refute it at one input. -/
def macroDefinesWrong : ChangeSpec := { name := "macroDefines", fn := fun _ => fun
  | [d1, d2] => { results := [.lit (.bool false)], args := [d1, d2] }
  | _ => none }
def MacroDefinesWrongFalsely : Prop := macroDefinesRow.holds Try.pinned (OpenSpec.ofChange macroDefinesWrong)

/-- 'smithylaw05.MacroAlls': WHATEVER THE INPUT: true; the input reads as it did. -/
def macroAllsSpec : ChangeSpec := { name := "macroAlls", fn := fun _ => fun
  | [d1, d2] => { results := [.lit (.bool true)], args := [d1, d2] }
  | _ => none }
def macroAllsRow : OpenClaim := { program := "ytodogppelokapaa", sum := "78ecc4a2f26098fe368b055f8de5b76d87e822af57d56535837b6c803711fdc7", func := "smithy/smithylaw05.MacroAlls", spec := "macroAlls", inPlace := ["internal/bytealg.abigen_runtime_cmpstring", "slices.overlaps[smithy/api.Macro]"], unfollowed := true, recurses := true, apart := false }
def MacroAllsSaid : Prop := macroAllsRow.holds Try.pinned (OpenSpec.ofChange macroAllsSpec)

/-- ITS FALSE NEIGHBOUR: 'it returns false'. Refute it at one input. -/
def macroAllsWrong : ChangeSpec := { name := "macroAlls", fn := fun _ => fun
  | [d1, d2] => { results := [.lit (.bool false)], args := [d1, d2] }
  | _ => none }
def MacroAllsWrongFalsely : Prop := macroAllsRow.holds Try.pinned (OpenSpec.ofChange macroAllsWrong)

/-- 'smithylaw05.MacroLevels': WHATEVER THE INPUT: true; the input reads as it did. -/
def macroLevelsSpec : ChangeSpec := { name := "macroLevels", fn := fun _ => fun
  | [d1, d2, d3] => { results := [.lit (.bool true)], args := [d1, d2, d3] }
  | _ => none }
def macroLevelsRow : OpenClaim := { program := "ytodogppelokapaa", sum := "78ecc4a2f26098fe368b055f8de5b76d87e822af57d56535837b6c803711fdc7", func := "smithy/smithylaw05.MacroLevels", spec := "macroLevels", inPlace := ["internal/bytealg.abigen_runtime_cmpstring", "slices.overlaps[smithy/api.Macro]"], unfollowed := true, recurses := true, apart := false }
def MacroLevelsSaid : Prop := macroLevelsRow.holds Try.pinned (OpenSpec.ofChange macroLevelsSpec)

/-- ITS FALSE NEIGHBOUR: 'it returns false'. Refute it at one input. -/
def macroLevelsWrong : ChangeSpec := { name := "macroLevels", fn := fun _ => fun
  | [d1, d2, d3] => { results := [.lit (.bool false)], args := [d1, d2, d3] }
  | _ => none }
def MacroLevelsWrongFalsely : Prop := macroLevelsRow.holds Try.pinned (OpenSpec.ofChange macroLevelsWrong)

/-- 'smithylaw05.MacroLast': WHATEVER THE INPUT: true; the input reads as it did. -/
def macroLastSpec : ChangeSpec := { name := "macroLast", fn := fun _ => fun
  | [d1, d2, d3] => { results := [.lit (.bool true)], args := [d1, d2, d3] }
  | _ => none }
def macroLastRow : OpenClaim := { program := "ytodogppelokapaa", sum := "78ecc4a2f26098fe368b055f8de5b76d87e822af57d56535837b6c803711fdc7", func := "smithy/smithylaw05.MacroLast", spec := "macroLast", inPlace := ["internal/bytealg.abigen_runtime_cmpstring", "slices.overlaps[smithy/api.Macro]"], unfollowed := true, recurses := true, apart := false }
def MacroLastSaid : Prop := macroLastRow.holds Try.pinned (OpenSpec.ofChange macroLastSpec)

/-- ITS FALSE NEIGHBOUR: 'it returns false'. Refute it at one input. -/
def macroLastWrong : ChangeSpec := { name := "macroLast", fn := fun _ => fun
  | [d1, d2, d3] => { results := [.lit (.bool false)], args := [d1, d2, d3] }
  | _ => none }
def MacroLastWrongFalsely : Prop := macroLastRow.holds Try.pinned (OpenSpec.ofChange macroLastWrong)

/-- 'smithylaw05.MacroLooks': WHATEVER THE INPUT: true; the input reads as it did. -/
def macroLooksSpec : ChangeSpec := { name := "macroLooks", fn := fun _ => fun
  | [d1, d2, d3] => { results := [.lit (.bool true)], args := [d1, d2, d3] }
  | _ => none }
def macroLooksRow : OpenClaim := { program := "ytodogppelokapaa", sum := "78ecc4a2f26098fe368b055f8de5b76d87e822af57d56535837b6c803711fdc7", func := "smithy/smithylaw05.MacroLooks", spec := "macroLooks", inPlace := ["internal/bytealg.abigen_runtime_cmpstring", "slices.overlaps[smithy/api.Macro]"], unfollowed := true, recurses := true, apart := false }
def MacroLooksSaid : Prop := macroLooksRow.holds Try.pinned (OpenSpec.ofChange macroLooksSpec)

/-- ITS FALSE NEIGHBOUR: 'it returns false'. Refute it at one input. -/
def macroLooksWrong : ChangeSpec := { name := "macroLooks", fn := fun _ => fun
  | [d1, d2, d3] => { results := [.lit (.bool false)], args := [d1, d2, d3] }
  | _ => none }
def MacroLooksWrongFalsely : Prop := macroLooksRow.holds Try.pinned (OpenSpec.ofChange macroLooksWrong)

/-- 'smithylaw05.MacroRefs': WHATEVER THE INPUT: true; the input reads as it did. -/
def macroRefsSpec : ChangeSpec := { name := "macroRefs", fn := fun _ => fun
  | [d] => { results := [.lit (.bool true)], args := [d] }
  | _ => none }
def macroRefsRow : OpenClaim := { program := "ytodogppelokapaa", sum := "78ecc4a2f26098fe368b055f8de5b76d87e822af57d56535837b6c803711fdc7", func := "smithy/smithylaw05.MacroRefs", spec := "macroRefs", inPlace := ["internal/bytealg.IndexByteString", "internal/bytealg.IndexString", "internal/bytealg.abigen_runtime_cmpstring", "slices.overlaps[smithy/api.Macro]"], unfollowed := true, recurses := true, named := ["internal/bytealg.MaxLen"], apart := false }
def MacroRefsSaid : Prop := macroRefsRow.holds Try.pinned (OpenSpec.ofChange macroRefsSpec)

/-- ITS FALSE NEIGHBOUR: 'it returns false'. Refute it at one input. -/
def macroRefsWrong : ChangeSpec := { name := "macroRefs", fn := fun _ => fun
  | [d] => { results := [.lit (.bool false)], args := [d] }
  | _ => none }
def MacroRefsWrongFalsely : Prop := macroRefsRow.holds Try.pinned (OpenSpec.ofChange macroRefsWrong)

/- THE SECOND FORM. 'bulk': how many values and letters a reading holds, each counted each time it is reached (what is shared counts as often as it is met; a slice's spare places count too). A statement '..UptoSaid' is the law's where the arguments, and the package variables that the reading takes, are together of bulk at most 1048576: NARROWER than '..Said'. Prove '..Said' where nothing that the law and all that it calls make is longer than what came in: it says more and counts as full. Else prove '..UptoSaid'. A law counts once. -/
mutual
def uptoBulk {H : Type} : DataW H → Nat
  | .lit (.string bytes) => bytes.length + 1
  | .lit _ => 1
  | .nil => 1
  | .ptr d => uptoBulk d + 1
  | .slice elems spare => uptoBulkAll elems + uptoBulkAll spare + 1
  | .agg parts => uptoBulkAll parts + 1
  | .iface _ d => uptoBulk d + 1
  | .map entries => uptoBulkEntries entries + 1
  | .held _ => 1
def uptoBulkAll {H : Type} : List (DataW H) → Nat
  | [] => 0
  | d :: r => uptoBulk d + uptoBulkAll r
def uptoBulkEntries {H : Type} : List (Lit × DataW H) → Nat
  | [] => 0
  | x :: r => uptoBulkEntry x + uptoBulkEntries r
def uptoBulkEntry {H : Type} : Lit × DataW H → Nat
  | (.string bytes, d) => bytes.length + uptoBulk d + 1
  | (_, d) => uptoBulk d + 1
 end
def uptoSmall : (H : Type) → List (DataW H) → Bool := fun _ ds => decide (uptoBulkAll ds ≤ 1048576)
def OpenSpec.upto (s : _root_.Go.ChangeSpec) : _root_.Go.OpenSpec := { _root_.Go.OpenSpec.ofChange s with cond := some uptoSmall }

/-- 'smithylaw05.MacroChecks', WHERE WHAT IT READS IS OF BULK AT MOST 1048576: true; the input reads as it did. -/
def macroChecksUptoRow : OpenClaim := { program := "ytodogppelokapaa", sum := "78ecc4a2f26098fe368b055f8de5b76d87e822af57d56535837b6c803711fdc7", func := "smithy/smithylaw05.MacroChecks", spec := "macroChecks", inPlace := ["internal/bytealg.abigen_runtime_cmpstring", "slices.overlaps[smithy/api.Macro]"], unfollowed := true, recurses := true, apart := false, narrowed := true }
def MacroChecksUptoSaid : Prop := macroChecksUptoRow.holds Try.pinned (OpenSpec.upto macroChecksSpec)

/-- 'smithylaw05.MacroDefines', WHERE WHAT IT READS IS OF BULK AT MOST 1048576: true; the input reads as it did. -/
def macroDefinesUptoRow : OpenClaim := { program := "ytodogppelokapaa", sum := "78ecc4a2f26098fe368b055f8de5b76d87e822af57d56535837b6c803711fdc7", func := "smithy/smithylaw05.MacroDefines", spec := "macroDefines", inPlace := ["internal/bytealg.abigen_runtime_cmpstring", "slices.overlaps[smithy/api.Macro]"], unfollowed := true, recurses := true, apart := false, narrowed := true }
def MacroDefinesUptoSaid : Prop := macroDefinesUptoRow.holds Try.pinned (OpenSpec.upto macroDefinesSpec)

/-- 'smithylaw05.MacroAlls', WHERE WHAT IT READS IS OF BULK AT MOST 1048576: true; the input reads as it did. -/
def macroAllsUptoRow : OpenClaim := { program := "ytodogppelokapaa", sum := "78ecc4a2f26098fe368b055f8de5b76d87e822af57d56535837b6c803711fdc7", func := "smithy/smithylaw05.MacroAlls", spec := "macroAlls", inPlace := ["internal/bytealg.abigen_runtime_cmpstring", "slices.overlaps[smithy/api.Macro]"], unfollowed := true, recurses := true, apart := false, narrowed := true }
def MacroAllsUptoSaid : Prop := macroAllsUptoRow.holds Try.pinned (OpenSpec.upto macroAllsSpec)

/-- 'smithylaw05.MacroLevels', WHERE WHAT IT READS IS OF BULK AT MOST 1048576: true; the input reads as it did. -/
def macroLevelsUptoRow : OpenClaim := { program := "ytodogppelokapaa", sum := "78ecc4a2f26098fe368b055f8de5b76d87e822af57d56535837b6c803711fdc7", func := "smithy/smithylaw05.MacroLevels", spec := "macroLevels", inPlace := ["internal/bytealg.abigen_runtime_cmpstring", "slices.overlaps[smithy/api.Macro]"], unfollowed := true, recurses := true, apart := false, narrowed := true }
def MacroLevelsUptoSaid : Prop := macroLevelsUptoRow.holds Try.pinned (OpenSpec.upto macroLevelsSpec)

/-- 'smithylaw05.MacroLast', WHERE WHAT IT READS IS OF BULK AT MOST 1048576: true; the input reads as it did. -/
def macroLastUptoRow : OpenClaim := { program := "ytodogppelokapaa", sum := "78ecc4a2f26098fe368b055f8de5b76d87e822af57d56535837b6c803711fdc7", func := "smithy/smithylaw05.MacroLast", spec := "macroLast", inPlace := ["internal/bytealg.abigen_runtime_cmpstring", "slices.overlaps[smithy/api.Macro]"], unfollowed := true, recurses := true, apart := false, narrowed := true }
def MacroLastUptoSaid : Prop := macroLastUptoRow.holds Try.pinned (OpenSpec.upto macroLastSpec)

/-- 'smithylaw05.MacroLooks', WHERE WHAT IT READS IS OF BULK AT MOST 1048576: true; the input reads as it did. -/
def macroLooksUptoRow : OpenClaim := { program := "ytodogppelokapaa", sum := "78ecc4a2f26098fe368b055f8de5b76d87e822af57d56535837b6c803711fdc7", func := "smithy/smithylaw05.MacroLooks", spec := "macroLooks", inPlace := ["internal/bytealg.abigen_runtime_cmpstring", "slices.overlaps[smithy/api.Macro]"], unfollowed := true, recurses := true, apart := false, narrowed := true }
def MacroLooksUptoSaid : Prop := macroLooksUptoRow.holds Try.pinned (OpenSpec.upto macroLooksSpec)

/-- 'smithylaw05.MacroRefs', WHERE WHAT IT READS IS OF BULK AT MOST 1048576: true; the input reads as it did. -/
def macroRefsUptoRow : OpenClaim := { program := "ytodogppelokapaa", sum := "78ecc4a2f26098fe368b055f8de5b76d87e822af57d56535837b6c803711fdc7", func := "smithy/smithylaw05.MacroRefs", spec := "macroRefs", inPlace := ["internal/bytealg.IndexByteString", "internal/bytealg.IndexString", "internal/bytealg.abigen_runtime_cmpstring", "slices.overlaps[smithy/api.Macro]"], unfollowed := true, recurses := true, named := ["internal/bytealg.MaxLen"], apart := false, narrowed := true }
def MacroRefsUptoSaid : Prop := macroRefsUptoRow.holds Try.pinned (OpenSpec.upto macroRefsSpec)

end Rows
end Go.Proofs.Ytodogppelokapaa
