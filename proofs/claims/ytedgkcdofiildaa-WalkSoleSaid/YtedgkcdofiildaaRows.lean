/-
  No cell of these rows narrows 'for every input' (looked for: loops, veiled, ifaces, maps, wideKeys, modest, calm, conditions, laid).
  DERIVED. THE GIVEN ROWS OF THIS SEAT. 7 by the template 'for every input the law returns true; each argument reads behind the call as it read before'; 0 by the template 'total and deterministic' (their statements: YtedgkcdofiildaaTotals.lean).
  GIVEN WITH THE SEED: the statements are not yours to turn. If you find one false, say at which input.
  Laid BY PROGRAM, IN A SANDBOX (cutbox-rows.mjs): the forced cells as the released guide's own fill.sh prints them over the translation f636670f48de23e3… (all of the seat's roots in one cut). By AI agents, Wed Nov 11 2026. No macro, syntax, notation, axiom, sorry.
-/
import Derived.Test.YtedgkcdofiildaaChecked
import GoSem.Claim
import GoSem.ClaimJoined
import GoSem.ClaimMapViews
import Derived.JoinedTies
import Derived.KernelRfl
namespace Go.Proofs.Ytedgkcdofiildaa
/- THE CELL 'sum', in the pinned program and in every row, IS THE sha256 OF THE DUMP (.gsa) THAT YtedgkcdofiildaaProg.lean LOADS. Nothing in Lean hashes anything: it is a label: what it is worth is what the hold of that sum in a sandbox is worth. -/
noncomputable def Try.pinned : Pinned := { name := "ytedgkcdofiildaa", sum := "f636670f48de23e37ee087c00bc411dd54483b86bc8b2f7fdf7c52571777a600", checked := Try.checked }
namespace Rows
def none {H : Type} : Left H := { results := [], args := [] }

/-- 'smithylaw14.WalkLists': WHATEVER THE INPUT: true; the input reads as it did. -/
def walkListsSpec : ChangeSpec := { name := "walkLists", fn := fun _ => fun
  | [d1, d2] => { results := [.lit (.bool true)], args := [d1, d2] }
  | _ => none }
def walkListsRow : OpenClaim := { program := "ytedgkcdofiildaa", sum := "f636670f48de23e37ee087c00bc411dd54483b86bc8b2f7fdf7c52571777a600", func := "smithy/smithylaw14.WalkLists", spec := "walkLists", inPlace := ["internal/bytealg.IndexByteString"], unfollowed := true, recurses := true, apart := false }
def WalkListsSaid : Prop := walkListsRow.holds Try.pinned (OpenSpec.ofChange walkListsSpec)

/-- ITS FALSE NEIGHBOUR: 'it returns false'. Refute it at one input. -/
def walkListsWrong : ChangeSpec := { name := "walkLists", fn := fun _ => fun
  | [d1, d2] => { results := [.lit (.bool false)], args := [d1, d2] }
  | _ => none }
def WalkListsWrongFalsely : Prop := walkListsRow.holds Try.pinned (OpenSpec.ofChange walkListsWrong)

/-- 'smithylaw14.WalkOrders': WHATEVER THE INPUT: true; the input reads as it did. -/
def walkOrdersSpec : ChangeSpec := { name := "walkOrders", fn := fun _ => fun
  | [d1, d2] => { results := [.lit (.bool true)], args := [d1, d2] }
  | _ => none }
def walkOrdersRow : OpenClaim := { program := "ytedgkcdofiildaa", sum := "f636670f48de23e37ee087c00bc411dd54483b86bc8b2f7fdf7c52571777a600", func := "smithy/smithylaw14.WalkOrders", spec := "walkOrders", inPlace := ["internal/bytealg.IndexByteString"], unfollowed := true, recurses := true, apart := false }
def WalkOrdersSaid : Prop := walkOrdersRow.holds Try.pinned (OpenSpec.ofChange walkOrdersSpec)

/-- ITS FALSE NEIGHBOUR: 'it returns false'. Refute it at one input. -/
def walkOrdersWrong : ChangeSpec := { name := "walkOrders", fn := fun _ => fun
  | [d1, d2] => { results := [.lit (.bool false)], args := [d1, d2] }
  | _ => none }
def WalkOrdersWrongFalsely : Prop := walkOrdersRow.holds Try.pinned (OpenSpec.ofChange walkOrdersWrong)

/-- 'smithylaw14.WalkSole': WHATEVER THE INPUT: true; the input reads as it did. -/
def walkSoleSpec : ChangeSpec := { name := "walkSole", fn := fun _ => fun
  | [d] => { results := [.lit (.bool true)], args := [d] }
  | _ => none }
def walkSoleRow : OpenClaim := { program := "ytedgkcdofiildaa", sum := "f636670f48de23e37ee087c00bc411dd54483b86bc8b2f7fdf7c52571777a600", func := "smithy/smithylaw14.WalkSole", spec := "walkSole", inPlace := ["internal/bytealg.IndexByteString"], unfollowed := true, recurses := true, apart := false }
def WalkSoleSaid : Prop := walkSoleRow.holds Try.pinned (OpenSpec.ofChange walkSoleSpec)

/-- ITS FALSE NEIGHBOUR: 'it returns false'. Refute it at one input. -/
def walkSoleWrong : ChangeSpec := { name := "walkSole", fn := fun _ => fun
  | [d] => { results := [.lit (.bool false)], args := [d] }
  | _ => none }
def WalkSoleWrongFalsely : Prop := walkSoleRow.holds Try.pinned (OpenSpec.ofChange walkSoleWrong)

/-- 'smithylaw14.WalkLevels': WHATEVER THE INPUT: true; the input reads as it did. -/
def walkLevelsSpec : ChangeSpec := { name := "walkLevels", fn := fun _ => fun
  | [d] => { results := [.lit (.bool true)], args := [d] }
  | _ => none }
def walkLevelsRow : OpenClaim := { program := "ytedgkcdofiildaa", sum := "f636670f48de23e37ee087c00bc411dd54483b86bc8b2f7fdf7c52571777a600", func := "smithy/smithylaw14.WalkLevels", spec := "walkLevels", inPlace := ["internal/bytealg.IndexByteString"], unfollowed := true, recurses := true, apart := false }
def WalkLevelsSaid : Prop := walkLevelsRow.holds Try.pinned (OpenSpec.ofChange walkLevelsSpec)

/-- ITS FALSE NEIGHBOUR: 'it returns false'. Refute it at one input. -/
def walkLevelsWrong : ChangeSpec := { name := "walkLevels", fn := fun _ => fun
  | [d] => { results := [.lit (.bool false)], args := [d] }
  | _ => none }
def WalkLevelsWrongFalsely : Prop := walkLevelsRow.holds Try.pinned (OpenSpec.ofChange walkLevelsWrong)

/-- 'smithylaw14.WalkPairs': WHATEVER THE INPUT: true; the input reads as it did. -/
def walkPairsSpec : ChangeSpec := { name := "walkPairs", fn := fun _ => fun
  | [d1, d2, d3] => { results := [.lit (.bool true)], args := [d1, d2, d3] }
  | _ => none }
def walkPairsRow : OpenClaim := { program := "ytedgkcdofiildaa", sum := "f636670f48de23e37ee087c00bc411dd54483b86bc8b2f7fdf7c52571777a600", func := "smithy/smithylaw14.WalkPairs", spec := "walkPairs", inPlace := ["internal/bytealg.IndexByteString"], unfollowed := true, recurses := true, apart := false }
def WalkPairsSaid : Prop := walkPairsRow.holds Try.pinned (OpenSpec.ofChange walkPairsSpec)

/-- ITS FALSE NEIGHBOUR: 'it returns false'. Refute it at one input. -/
def walkPairsWrong : ChangeSpec := { name := "walkPairs", fn := fun _ => fun
  | [d1, d2, d3] => { results := [.lit (.bool false)], args := [d1, d2, d3] }
  | _ => none }
def WalkPairsWrongFalsely : Prop := walkPairsRow.holds Try.pinned (OpenSpec.ofChange walkPairsWrong)

/-- 'smithylaw14.WalkBelow': WHATEVER THE INPUT: true; the input reads as it did. -/
def walkBelowSpec : ChangeSpec := { name := "walkBelow", fn := fun _ => fun
  | [d1, d2, d3] => { results := [.lit (.bool true)], args := [d1, d2, d3] }
  | _ => none }
def walkBelowRow : OpenClaim := { program := "ytedgkcdofiildaa", sum := "f636670f48de23e37ee087c00bc411dd54483b86bc8b2f7fdf7c52571777a600", func := "smithy/smithylaw14.WalkBelow", spec := "walkBelow", inPlace := ["internal/bytealg.IndexByteString"], unfollowed := true, recurses := true, apart := false }
def WalkBelowSaid : Prop := walkBelowRow.holds Try.pinned (OpenSpec.ofChange walkBelowSpec)

/-- ITS FALSE NEIGHBOUR: 'it returns false'. Refute it at one input. -/
def walkBelowWrong : ChangeSpec := { name := "walkBelow", fn := fun _ => fun
  | [d1, d2, d3] => { results := [.lit (.bool false)], args := [d1, d2, d3] }
  | _ => none }
def WalkBelowWrongFalsely : Prop := walkBelowRow.holds Try.pinned (OpenSpec.ofChange walkBelowWrong)

/-- 'smithylaw14.WalkFlat': WHATEVER THE INPUT: true; the input reads as it did. -/
def walkFlatSpec : ChangeSpec := { name := "walkFlat", fn := fun _ => fun
  | [d] => { results := [.lit (.bool true)], args := [d] }
  | _ => none }
def walkFlatRow : OpenClaim := { program := "ytedgkcdofiildaa", sum := "f636670f48de23e37ee087c00bc411dd54483b86bc8b2f7fdf7c52571777a600", func := "smithy/smithylaw14.WalkFlat", spec := "walkFlat", inPlace := ["internal/bytealg.IndexByteString"], unfollowed := true, recurses := true, apart := false }
def WalkFlatSaid : Prop := walkFlatRow.holds Try.pinned (OpenSpec.ofChange walkFlatSpec)

/-- ITS FALSE NEIGHBOUR: 'it returns false'. Refute it at one input. -/
def walkFlatWrong : ChangeSpec := { name := "walkFlat", fn := fun _ => fun
  | [d] => { results := [.lit (.bool false)], args := [d] }
  | _ => none }
def WalkFlatWrongFalsely : Prop := walkFlatRow.holds Try.pinned (OpenSpec.ofChange walkFlatWrong)

/- THE SECOND FORM. 'bulk': how many values and letters a reading holds, each counted each time it is reached (what is shared counts as often as it is met; a slice's spare places count too). A statement '..UptoSaid' is the law's where the arguments, and the package variables that the reading takes, are together of bulk at most 1048576: NARROWER than '..Said'. Prove '..Said' where nothing that the law and all that it calls make is longer than what came in: it says more and counts as full. Else prove '..UptoSaid'. A law counts once. -/
mutual
def uptoBulk {H : Type} : DataW H → Nat
  | .lit (.string bytes) => bytes.length + 1
  | .lit _ => 1
  | .nil => 1
  | .ptr d => uptoBulk d + 1
  | .slice elems spare => uptoBulkAll elems + uptoBulkAll spare + 1
  | .agg parts => uptoBulkAll parts + 1
  | .iface _ d => uptoBulk d + 1
  | .map entries => uptoBulkEntries entries + 1
  | .held _ => 1
def uptoBulkAll {H : Type} : List (DataW H) → Nat
  | [] => 0
  | d :: r => uptoBulk d + uptoBulkAll r
def uptoBulkEntries {H : Type} : List (Lit × DataW H) → Nat
  | [] => 0
  | x :: r => uptoBulkEntry x + uptoBulkEntries r
def uptoBulkEntry {H : Type} : Lit × DataW H → Nat
  | (.string bytes, d) => bytes.length + uptoBulk d + 1
  | (_, d) => uptoBulk d + 1
 end
def uptoSmall : (H : Type) → List (DataW H) → Bool := fun _ ds => decide (uptoBulkAll ds ≤ 1048576)
def OpenSpec.upto (s : _root_.Go.ChangeSpec) : _root_.Go.OpenSpec := { _root_.Go.OpenSpec.ofChange s with cond := some uptoSmall }

/-- 'smithylaw14.WalkLists', WHERE WHAT IT READS IS OF BULK AT MOST 1048576: true; the input reads as it did. -/
def walkListsUptoRow : OpenClaim := { program := "ytedgkcdofiildaa", sum := "f636670f48de23e37ee087c00bc411dd54483b86bc8b2f7fdf7c52571777a600", func := "smithy/smithylaw14.WalkLists", spec := "walkLists", inPlace := ["internal/bytealg.IndexByteString"], unfollowed := true, recurses := true, apart := false, narrowed := true }
def WalkListsUptoSaid : Prop := walkListsUptoRow.holds Try.pinned (OpenSpec.upto walkListsSpec)

/-- 'smithylaw14.WalkOrders', WHERE WHAT IT READS IS OF BULK AT MOST 1048576: true; the input reads as it did. -/
def walkOrdersUptoRow : OpenClaim := { program := "ytedgkcdofiildaa", sum := "f636670f48de23e37ee087c00bc411dd54483b86bc8b2f7fdf7c52571777a600", func := "smithy/smithylaw14.WalkOrders", spec := "walkOrders", inPlace := ["internal/bytealg.IndexByteString"], unfollowed := true, recurses := true, apart := false, narrowed := true }
def WalkOrdersUptoSaid : Prop := walkOrdersUptoRow.holds Try.pinned (OpenSpec.upto walkOrdersSpec)

/-- 'smithylaw14.WalkSole', WHERE WHAT IT READS IS OF BULK AT MOST 1048576: true; the input reads as it did. -/
def walkSoleUptoRow : OpenClaim := { program := "ytedgkcdofiildaa", sum := "f636670f48de23e37ee087c00bc411dd54483b86bc8b2f7fdf7c52571777a600", func := "smithy/smithylaw14.WalkSole", spec := "walkSole", inPlace := ["internal/bytealg.IndexByteString"], unfollowed := true, recurses := true, apart := false, narrowed := true }
def WalkSoleUptoSaid : Prop := walkSoleUptoRow.holds Try.pinned (OpenSpec.upto walkSoleSpec)

/-- 'smithylaw14.WalkLevels', WHERE WHAT IT READS IS OF BULK AT MOST 1048576: true; the input reads as it did. -/
def walkLevelsUptoRow : OpenClaim := { program := "ytedgkcdofiildaa", sum := "f636670f48de23e37ee087c00bc411dd54483b86bc8b2f7fdf7c52571777a600", func := "smithy/smithylaw14.WalkLevels", spec := "walkLevels", inPlace := ["internal/bytealg.IndexByteString"], unfollowed := true, recurses := true, apart := false, narrowed := true }
def WalkLevelsUptoSaid : Prop := walkLevelsUptoRow.holds Try.pinned (OpenSpec.upto walkLevelsSpec)

/-- 'smithylaw14.WalkPairs', WHERE WHAT IT READS IS OF BULK AT MOST 1048576: true; the input reads as it did. -/
def walkPairsUptoRow : OpenClaim := { program := "ytedgkcdofiildaa", sum := "f636670f48de23e37ee087c00bc411dd54483b86bc8b2f7fdf7c52571777a600", func := "smithy/smithylaw14.WalkPairs", spec := "walkPairs", inPlace := ["internal/bytealg.IndexByteString"], unfollowed := true, recurses := true, apart := false, narrowed := true }
def WalkPairsUptoSaid : Prop := walkPairsUptoRow.holds Try.pinned (OpenSpec.upto walkPairsSpec)

/-- 'smithylaw14.WalkBelow', WHERE WHAT IT READS IS OF BULK AT MOST 1048576: true; the input reads as it did. -/
def walkBelowUptoRow : OpenClaim := { program := "ytedgkcdofiildaa", sum := "f636670f48de23e37ee087c00bc411dd54483b86bc8b2f7fdf7c52571777a600", func := "smithy/smithylaw14.WalkBelow", spec := "walkBelow", inPlace := ["internal/bytealg.IndexByteString"], unfollowed := true, recurses := true, apart := false, narrowed := true }
def WalkBelowUptoSaid : Prop := walkBelowUptoRow.holds Try.pinned (OpenSpec.upto walkBelowSpec)

/-- 'smithylaw14.WalkFlat', WHERE WHAT IT READS IS OF BULK AT MOST 1048576: true; the input reads as it did. -/
def walkFlatUptoRow : OpenClaim := { program := "ytedgkcdofiildaa", sum := "f636670f48de23e37ee087c00bc411dd54483b86bc8b2f7fdf7c52571777a600", func := "smithy/smithylaw14.WalkFlat", spec := "walkFlat", inPlace := ["internal/bytealg.IndexByteString"], unfollowed := true, recurses := true, apart := false, narrowed := true }
def WalkFlatUptoSaid : Prop := walkFlatUptoRow.holds Try.pinned (OpenSpec.upto walkFlatSpec)

end Rows
end Go.Proofs.Ytedgkcdofiildaa
