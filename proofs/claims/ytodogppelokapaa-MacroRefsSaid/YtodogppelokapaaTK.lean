import Derived.Test.YtodogppelokapaaShelf
import Derived.Test.YtodogppelokapaaIns30
import Derived.Test.YtodogppelokapaaProg
import Derived.Test.YtodogppelokapaaSm4
set_option linter.unusedVariables false
set_option linter.unusedSimpArgs false
set_option linter.unnecessarySimpa false
set_option linter.deprecated false
namespace Go.Proofs.Ytodogppelokapaa.F
open Go Go.RowKit Go.Proofs.Ytodogppelokapaa.Sl
structure Macro where
  Name : ByteArray
  Value : ByteArray
  Level : Int
noncomputable def kMacro : Kn Macro := kiso (kpair kstr (kpair kstr (kint .i64))) (fun x => (x.Name, x.Value, x.Level))
theorem fldMacro_Name : Fld kMacro 0 kstr (fun x => x.Name) (fun x y => { x with Name := y }) := Fld.iso (Fld.fst kstr (kpair kstr (kint .i64))) _ _ (fun _ => rfl) (fun _ _ => rfl)
theorem fldMacro_Value : Fld kMacro 1 kstr (fun x => x.Value) (fun x y => { x with Value := y }) := Fld.iso (Fld.snd (Fld.fst kstr (kint .i64))) _ _ (fun _ => rfl) (fun _ _ => rfl)
theorem fldMacro_Level : Fld kMacro 2 (kint .i64) (fun x => x.Level) (fun x y => { x with Level := y }) := Fld.iso (Fld.snd (Fld.snd (Fld.whole (kint .i64)))) _ _ (fun _ => rfl) (fun _ _ => rfl)
def zeroMacro : Macro := ⟨ByteArray.empty, ByteArray.empty, (0 : Int)⟩
theorem zrMacro : ZR kMacro zeroMacro [.string ByteArray.empty, .string ByteArray.empty, .int .i64 0] := zr_iso (zr_pair zr_str (zr_pair zr_str (zr_int .i64))) rfl
theorem kfreeMacro : KFree kMacro := KFree.iso _ (KFree.pair KFree.str (KFree.pair KFree.str (KFree.int .i64)))
theorem enters70 : Enters Try.prog 70 := fun _ _ => rfl
theorem mixed : Try.prog.follows .mixedOrders = true := by kernel_rfl
theorem enters54 : Enters Try.prog 54 := fun _ _ => rfl
theorem enters40 : Enters Try.prog 40 := fun _ _ => rfl
theorem enters39 : Enters Try.prog 39 := fun _ _ => rfl
theorem enters41 : Enters Try.prog 41 := fun _ _ => rfl
theorem enters42 : Enters Try.prog 42 := fun _ _ => rfl
theorem enters43 : Enters Try.prog 43 := fun _ _ => rfl
theorem tk9 : TK Try.prog 9 kstr := tk_of' Try.underlying9 rfl (by kernel_rfl) (fun h => by first | rfl | cases h) rfl
theorem enters44 : Enters Try.prog 44 := fun _ _ => rfl
theorem enters56 : Enters Try.prog 56 := fun _ _ => rfl
theorem enters46 : Enters Try.prog 46 := fun _ _ => rfl
theorem enters31 : Enters Try.prog 31 := fun _ _ => rfl
theorem enters32 : Enters Try.prog 32 := fun _ _ => rfl
theorem enters12 : Enters Try.prog 12 := fun _ _ => rfl
theorem tk3 : TK Try.prog 3 (kint .i64) := tk_of' Try.underlying3 rfl (by kernel_rfl) (fun h => by first | rfl | cases h) rfl
theorem enters45 : Enters Try.prog 45 := fun _ _ => rfl
theorem tk30 : TK Try.prog 30 kMacro := tk_of' Try.underlying30 rfl (by kernel_rfl) (fun h => by first | rfl | cases h) rfl
theorem enters28 : Enters Try.prog 28 := fun _ _ => rfl
theorem enters29 : Enters Try.prog 29 := fun _ _ => rfl
theorem enters47 : Enters Try.prog 47 := fun _ _ => rfl
theorem enters10 : Enters Try.prog 10 := fun _ _ => rfl
theorem enters33 : Enters Try.prog 33 := fun _ _ => rfl
theorem enters34 : Enters Try.prog 34 := fun _ _ => rfl
theorem enters35 : Enters Try.prog 35 := fun _ _ => rfl
theorem enters16 : Enters Try.prog 16 := fun _ _ => rfl
theorem enters21 : Enters Try.prog 21 := fun _ _ => rfl
theorem enters25 : Enters Try.prog 25 := fun _ _ => rfl
theorem enters26 : Enters Try.prog 26 := fun _ _ => rfl
theorem enters27 : Enters Try.prog 27 := fun _ _ => rfl
theorem enters14 : Enters Try.prog 14 := fun _ _ => rfl
theorem zk30 : ZK Try.prog 30 kMacro zeroMacro := zk_of (v := .agg #[.string ByteArray.empty, .string ByteArray.empty, .int .i64 0]) (cs := [.string ByteArray.empty, .string ByteArray.empty, .int .i64 0]) (by kernel_rfl) rfl zrMacro
theorem at49 : AT Try.prog 49 9 kstr 16 := at_of Try.underlying49 (by kernel_rfl) rfl rfl
theorem at72 : AT Try.prog 72 5 (kint .u8) 1 := at_of Try.underlying72 (by kernel_rfl) rfl rfl
theorem at22 : AT Try.prog 22 30 kMacro 40 := at_of Try.underlying22 (by kernel_rfl) rfl rfl
end Go.Proofs.Ytodogppelokapaa.F
