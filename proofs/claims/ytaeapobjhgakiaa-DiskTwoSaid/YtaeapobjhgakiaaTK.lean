import Derived.Test.YtaeapobjhgakiaaShelf
import Derived.Test.YtaeapobjhgakiaaIns26
import Derived.Test.YtaeapobjhgakiaaProg
import Derived.Test.YtaeapobjhgakiaaSm4
set_option linter.unusedVariables false
set_option linter.unusedSimpArgs false
set_option linter.unnecessarySimpa false
set_option linter.deprecated false
namespace Go.Proofs.Ytaeapobjhgakiaa.F
open Go Go.RowKit Go.Proofs.Ytaeapobjhgakiaa.Sl
structure File where
  Name : ByteArray
  Text : ByteArray
  Stamp : Int
noncomputable def kFile : Kn File := kiso (kpair kstr (kpair kstr (kint .i64))) (fun x => (x.Name, x.Text, x.Stamp))
theorem fldFile_Name : Fld kFile 0 kstr (fun x => x.Name) (fun x y => { x with Name := y }) := Fld.iso (Fld.fst kstr (kpair kstr (kint .i64))) _ _ (fun _ => rfl) (fun _ _ => rfl)
theorem fldFile_Text : Fld kFile 1 kstr (fun x => x.Text) (fun x y => { x with Text := y }) := Fld.iso (Fld.snd (Fld.fst kstr (kint .i64))) _ _ (fun _ => rfl) (fun _ _ => rfl)
theorem fldFile_Stamp : Fld kFile 2 (kint .i64) (fun x => x.Stamp) (fun x y => { x with Stamp := y }) := Fld.iso (Fld.snd (Fld.snd (Fld.whole (kint .i64)))) _ _ (fun _ => rfl) (fun _ _ => rfl)
def zeroFile : File := ⟨ByteArray.empty, ByteArray.empty, (0 : Int)⟩
theorem zrFile : ZR kFile zeroFile [.string ByteArray.empty, .string ByteArray.empty, .int .i64 0] := zr_iso (zr_pair zr_str (zr_pair zr_str (zr_int .i64))) rfl
theorem kfreeFile : KFree kFile := KFree.iso _ (KFree.pair KFree.str (KFree.pair KFree.str (KFree.int .i64)))
structure Disk where
  Clock : Int
  Files : List File
noncomputable def kDisk : Kn Disk := kiso (kpair (kint .i64) (kslice kFile)) (fun x => (x.Clock, x.Files))
theorem fldDisk_Clock : Fld kDisk 0 (kint .i64) (fun x => x.Clock) (fun x y => { x with Clock := y }) := Fld.iso (Fld.fst (kint .i64) (kslice kFile)) _ _ (fun _ => rfl) (fun _ _ => rfl)
theorem fldDisk_Files : Fld kDisk 1 (kslice kFile) (fun x => x.Files) (fun x y => { x with Files := y }) := Fld.iso (Fld.snd (Fld.whole (kslice kFile))) _ _ (fun _ => rfl) (fun _ _ => rfl)
def zeroDisk : Disk := ⟨(0 : Int), ([] : List File)⟩
theorem zrDisk : ZR kDisk zeroDisk [.int .i64 0, .slice none 0 0] := zr_iso (zr_pair (zr_int .i64) (zr_slice kFile)) rfl
theorem enters58 : Enters Try.prog 58 := fun _ _ => rfl
theorem tk3 : TK Try.prog 3 (kint .i64) := tk_of' Try.underlying3 rfl (by kernel_rfl) (fun h => by first | rfl | cases h) rfl
theorem tk22 : TK Try.prog 22 (kslice kFile) := tk_of' Try.underlying22 rfl (by kernel_rfl) (fun h => by first | rfl | cases h) rfl
theorem tk26 : TK Try.prog 26 kFile := tk_of' Try.underlying26 rfl (by kernel_rfl) (fun h => by first | rfl | cases h) rfl
theorem tk9 : TK Try.prog 9 kstr := tk_of' Try.underlying9 rfl (by kernel_rfl) (fun h => by first | rfl | cases h) rfl
theorem enters39 : Enters Try.prog 39 := fun _ _ => rfl
theorem tk24 : TK Try.prog 24 kDisk := tk_of' Try.underlying24 rfl (by kernel_rfl) (fun h => by first | rfl | cases h) rfl
theorem enters14 : Enters Try.prog 14 := fun _ _ => rfl
theorem enters57 : Enters Try.prog 57 := fun _ _ => rfl
theorem enters56 : Enters Try.prog 56 := fun _ _ => rfl
theorem enters55 : Enters Try.prog 55 := fun _ _ => rfl
theorem enters36 : Enters Try.prog 36 := fun _ _ => rfl
theorem enters47 : Enters Try.prog 47 := fun _ _ => rfl
theorem xzf24_1 : ZF Try.prog 24 2 [FA.k 0 (kint .i64) (0 : Int), FA.v 1 (.slice none 0 0)] := zf_of (K := (kpair (kint .i64) knil)) (x := ((0 : Int), ())) (v := .agg #[.int .i64 0, .slice none 0 0]) (cs := [.int .i64 0, .slice none 0 0]) (by kernel_rfl) rfl (zr_pair (zr_int .i64) zr_nil) (.pair (la := [FA.k 0 (kint .i64) (0 : Int)]) (lb := [FA.v 1 (.slice none 0 0)]) .leaf .nil)
theorem xaz24 : (Try.prog.info? 24).bind (·.zero) = some (.agg #[.int .i64 0, .slice none 0 0]) := by kernel_rfl
theorem mixed : Try.prog.follows .mixedOrders = true := by kernel_rfl
theorem enters59 : Enters Try.prog 59 := fun _ _ => rfl
theorem enters41 : Enters Try.prog 41 := fun _ _ => rfl
theorem enters35 : Enters Try.prog 35 := fun _ _ => rfl
theorem enters44 : Enters Try.prog 44 := fun _ _ => rfl
theorem enters22 : Enters Try.prog 22 := fun _ _ => rfl
theorem enters10 : Enters Try.prog 10 := fun _ _ => rfl
def eqFile (x y : File) : Bool := (x.Name.toList == y.Name.toList) && ((x.Text.toList == y.Text.toList) && (icmp .eql x.Stamp y.Stamp && (true)))
theorem qk26 : QK Try.prog 26 kFile eqFile 2 := by
  have h := qk_struct (P := Try.prog) (K := kFile) (t := 26) Try.underlying26 (by kernel_rfl) rfl (qf_cons rfl rfl fldFile_Name tk9 (qk_str Try.underlying9) (qf_cons rfl rfl fldFile_Text tk9 (qk_str Try.underlying9) (qf_cons rfl rfl fldFile_Stamp tk3 (qk_int Try.underlying3) qf_nil)))
  exact h
theorem tk32 : TK Try.prog 32 (kslice kstr) := tk_of' Try.underlying32 rfl (by kernel_rfl) (fun h => by first | rfl | cases h) rfl
theorem xzf32_0 : ZF Try.prog 32 1 [FA.v 0 (.slice none 0 0)] := zf_of (K := knil) (x := ()) (v := .slice none 0 0) (cs := [.slice none 0 0]) (by kernel_rfl) rfl zr_nil .nil
theorem enters51 : Enters Try.prog 51 := fun _ _ => rfl
theorem enters52 : Enters Try.prog 52 := fun _ _ => rfl
theorem enters53 : Enters Try.prog 53 := fun _ _ => rfl
theorem enters17 : Enters Try.prog 17 := fun _ _ => rfl
theorem enters31 : Enters Try.prog 31 := fun _ _ => rfl
theorem enters40 : Enters Try.prog 40 := fun _ _ => rfl
theorem enters15 : Enters Try.prog 15 := fun _ _ => rfl
theorem enters54 : Enters Try.prog 54 := fun _ _ => rfl
theorem enters32 : Enters Try.prog 32 := fun _ _ => rfl
theorem enters16 : Enters Try.prog 16 := fun _ _ => rfl
theorem enters33 : Enters Try.prog 33 := fun _ _ => rfl
theorem enters34 : Enters Try.prog 34 := fun _ _ => rfl
theorem zk26 : ZK Try.prog 26 kFile zeroFile := zk_of (v := .agg #[.string ByteArray.empty, .string ByteArray.empty, .int .i64 0]) (cs := [.string ByteArray.empty, .string ByteArray.empty, .int .i64 0]) (by kernel_rfl) rfl zrFile
theorem zk24 : ZK Try.prog 24 kDisk zeroDisk := zk_of (v := .agg #[.int .i64 0, .slice none 0 0]) (cs := [.int .i64 0, .slice none 0 0]) (by kernel_rfl) rfl zrDisk
theorem at22 : AT Try.prog 22 26 kFile 40 := at_of Try.underlying22 (by kernel_rfl) rfl rfl
theorem at32 : AT Try.prog 32 9 kstr 16 := at_of Try.underlying32 (by kernel_rfl) rfl rfl
theorem at74 : AT Try.prog 74 24 kDisk 32 := at_of Try.underlying74 (by kernel_rfl) rfl rfl
end Go.Proofs.Ytaeapobjhgakiaa.F
