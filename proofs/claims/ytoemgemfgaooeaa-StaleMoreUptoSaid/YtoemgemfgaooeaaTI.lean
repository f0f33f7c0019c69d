import Derived.Test.YtoemgemfgaooeaaShelf
import Derived.Test.YtoemgemfgaooeaaProg
import Derived.Test.YtoemgemfgaooeaaSm4
set_option linter.unusedVariables false
set_option linter.unusedSimpArgs false
set_option linter.unnecessarySimpa false
set_option linter.deprecated false
namespace Go.Proofs.Ytoemgemfgaooeaa.F
open Go Go.RowKit Go.Proofs.Ytoemgemfgaooeaa.Sl
structure Node where
  Target : ByteArray
  Needs : List ByteArray
  Recipe : List ByteArray
  Has : Bool
  Source : ByteArray
  Stem : ByteArray
  Phony : Bool
  Precious : Bool
  Ignore : Bool
  Silent : Bool
noncomputable def kNode : Kn Node := kiso (kpair kstr (kpair (kslice kstr) (kpair (kslice kstr) (kpair kbool (kpair kstr (kpair kstr (kpair kbool (kpair kbool (kpair kbool kbool))))))))) (fun x => (x.Target, x.Needs, x.Recipe, x.Has, x.Source, x.Stem, x.Phony, x.Precious, x.Ignore, x.Silent))
theorem fldNode_Target : Fld kNode 0 kstr (fun x => x.Target) (fun x y => { x with Target := y }) := Fld.iso (Fld.fst kstr (kpair (kslice kstr) (kpair (kslice kstr) (kpair kbool (kpair kstr (kpair kstr (kpair kbool (kpair kbool (kpair kbool kbool))))))))) _ _ (fun _ => rfl) (fun _ _ => rfl)
theorem fldNode_Needs : Fld kNode 1 (kslice kstr) (fun x => x.Needs) (fun x y => { x with Needs := y }) := Fld.iso (Fld.snd (Fld.fst (kslice kstr) (kpair (kslice kstr) (kpair kbool (kpair kstr (kpair kstr (kpair kbool (kpair kbool (kpair kbool kbool))))))))) _ _ (fun _ => rfl) (fun _ _ => rfl)
theorem fldNode_Recipe : Fld kNode 2 (kslice kstr) (fun x => x.Recipe) (fun x y => { x with Recipe := y }) := Fld.iso (Fld.snd (Fld.snd (Fld.fst (kslice kstr) (kpair kbool (kpair kstr (kpair kstr (kpair kbool (kpair kbool (kpair kbool kbool))))))))) _ _ (fun _ => rfl) (fun _ _ => rfl)
theorem fldNode_Has : Fld kNode 3 kbool (fun x => x.Has) (fun x y => { x with Has := y }) := Fld.iso (Fld.snd (Fld.snd (Fld.snd (Fld.fst kbool (kpair kstr (kpair kstr (kpair kbool (kpair kbool (kpair kbool kbool))))))))) _ _ (fun _ => rfl) (fun _ _ => rfl)
theorem fldNode_Source : Fld kNode 4 kstr (fun x => x.Source) (fun x y => { x with Source := y }) := Fld.iso (Fld.snd (Fld.snd (Fld.snd (Fld.snd (Fld.fst kstr (kpair kstr (kpair kbool (kpair kbool (kpair kbool kbool))))))))) _ _ (fun _ => rfl) (fun _ _ => rfl)
theorem fldNode_Stem : Fld kNode 5 kstr (fun x => x.Stem) (fun x y => { x with Stem := y }) := Fld.iso (Fld.snd (Fld.snd (Fld.snd (Fld.snd (Fld.snd (Fld.fst kstr (kpair kbool (kpair kbool (kpair kbool kbool))))))))) _ _ (fun _ => rfl) (fun _ _ => rfl)
theorem fldNode_Phony : Fld kNode 6 kbool (fun x => x.Phony) (fun x y => { x with Phony := y }) := Fld.iso (Fld.snd (Fld.snd (Fld.snd (Fld.snd (Fld.snd (Fld.snd (Fld.fst kbool (kpair kbool (kpair kbool kbool))))))))) _ _ (fun _ => rfl) (fun _ _ => rfl)
theorem fldNode_Precious : Fld kNode 7 kbool (fun x => x.Precious) (fun x y => { x with Precious := y }) := Fld.iso (Fld.snd (Fld.snd (Fld.snd (Fld.snd (Fld.snd (Fld.snd (Fld.snd (Fld.fst kbool (kpair kbool kbool))))))))) _ _ (fun _ => rfl) (fun _ _ => rfl)
theorem fldNode_Ignore : Fld kNode 8 kbool (fun x => x.Ignore) (fun x y => { x with Ignore := y }) := Fld.iso (Fld.snd (Fld.snd (Fld.snd (Fld.snd (Fld.snd (Fld.snd (Fld.snd (Fld.snd (Fld.fst kbool kbool))))))))) _ _ (fun _ => rfl) (fun _ _ => rfl)
theorem fldNode_Silent : Fld kNode 9 kbool (fun x => x.Silent) (fun x y => { x with Silent := y }) := Fld.iso (Fld.snd (Fld.snd (Fld.snd (Fld.snd (Fld.snd (Fld.snd (Fld.snd (Fld.snd (Fld.snd (Fld.whole kbool)))))))))) _ _ (fun _ => rfl) (fun _ _ => rfl)
def zeroNode : Node := ⟨ByteArray.empty, ([] : List ByteArray), ([] : List ByteArray), false, ByteArray.empty, ByteArray.empty, false, false, false, false⟩
theorem zrNode : ZR kNode zeroNode [.string ByteArray.empty, .slice none 0 0, .slice none 0 0, .bool false, .string ByteArray.empty, .string ByteArray.empty, .bool false, .bool false, .bool false, .bool false] := zr_iso (zr_pair zr_str (zr_pair (zr_slice kstr) (zr_pair (zr_slice kstr) (zr_pair zr_bool (zr_pair zr_str (zr_pair zr_str (zr_pair zr_bool (zr_pair zr_bool (zr_pair zr_bool zr_bool))))))))) rfl
structure Plan where
  Nodes : List Node
  Goals : List ByteArray
noncomputable def kPlan : Kn Plan := kiso (kpair (kslice kNode) (kslice kstr)) (fun x => (x.Nodes, x.Goals))
theorem fldPlan_Nodes : Fld kPlan 0 (kslice kNode) (fun x => x.Nodes) (fun x y => { x with Nodes := y }) := Fld.iso (Fld.fst (kslice kNode) (kslice kstr)) _ _ (fun _ => rfl) (fun _ _ => rfl)
theorem fldPlan_Goals : Fld kPlan 1 (kslice kstr) (fun x => x.Goals) (fun x y => { x with Goals := y }) := Fld.iso (Fld.snd (Fld.whole (kslice kstr))) _ _ (fun _ => rfl) (fun _ _ => rfl)
def zeroPlan : Plan := ⟨([] : List Node), ([] : List ByteArray)⟩
theorem zrPlan : ZR kPlan zeroPlan [.slice none 0 0, .slice none 0 0] := zr_iso (zr_pair (zr_slice kNode) (zr_slice kstr)) rfl
structure File where
  Name : ByteArray
  Text : ByteArray
  Stamp : Int
noncomputable def kFile : Kn File := kiso (kpair kstr (kpair kstr (kint .i64))) (fun x => (x.Name, x.Text, x.Stamp))
theorem fldFile_Name : Fld kFile 0 kstr (fun x => x.Name) (fun x y => { x with Name := y }) := Fld.iso (Fld.fst kstr (kpair kstr (kint .i64))) _ _ (fun _ => rfl) (fun _ _ => rfl)
theorem fldFile_Text : Fld kFile 1 kstr (fun x => x.Text) (fun x y => { x with Text := y }) := Fld.iso (Fld.snd (Fld.fst kstr (kint .i64))) _ _ (fun _ => rfl) (fun _ _ => rfl)
theorem fldFile_Stamp : Fld kFile 2 (kint .i64) (fun x => x.Stamp) (fun x y => { x with Stamp := y }) := Fld.iso (Fld.snd (Fld.snd (Fld.whole (kint .i64)))) _ _ (fun _ => rfl) (fun _ _ => rfl)
def zeroFile : File := ⟨ByteArray.empty, ByteArray.empty, (0 : Int)⟩
theorem zrFile : ZR kFile zeroFile [.string ByteArray.empty, .string ByteArray.empty, .int .i64 0] := zr_iso (zr_pair zr_str (zr_pair zr_str (zr_int .i64))) rfl
theorem kfreeFile : KFree kFile := KFree.iso _ (KFree.pair KFree.str (KFree.pair KFree.str (KFree.int .i64)))
structure Disk where
  Clock : Int
  Files : List File
noncomputable def kDisk : Kn Disk := kiso (kpair (kint .i64) (kslice kFile)) (fun x => (x.Clock, x.Files))
theorem fldDisk_Clock : Fld kDisk 0 (kint .i64) (fun x => x.Clock) (fun x y => { x with Clock := y }) := Fld.iso (Fld.fst (kint .i64) (kslice kFile)) _ _ (fun _ => rfl) (fun _ _ => rfl)
theorem fldDisk_Files : Fld kDisk 1 (kslice kFile) (fun x => x.Files) (fun x y => { x with Files := y }) := Fld.iso (Fld.snd (Fld.whole (kslice kFile))) _ _ (fun _ => rfl) (fun _ _ => rfl)
def zeroDisk : Disk := ⟨(0 : Int), ([] : List File)⟩
theorem zrDisk : ZR kDisk zeroDisk [.int .i64 0, .slice none 0 0] := zr_iso (zr_pair (zr_int .i64) (zr_slice kFile)) rfl
structure Law13Case where
  N : Node
  D : Disk
  Made : List ByteArray
noncomputable def kLaw13Case : Kn Law13Case := kiso (kpair kNode (kpair kDisk (kslice kstr))) (fun x => (x.N, x.D, x.Made))
theorem fldLaw13Case_N : Fld kLaw13Case 0 kNode (fun x => x.N) (fun x y => { x with N := y }) := Fld.iso (Fld.fst kNode (kpair kDisk (kslice kstr))) _ _ (fun _ => rfl) (fun _ _ => rfl)
theorem fldLaw13Case_D : Fld kLaw13Case 10 kDisk (fun x => x.D) (fun x y => { x with D := y }) := Fld.iso (Fld.snd (Fld.fst kDisk (kslice kstr))) _ _ (fun _ => rfl) (fun _ _ => rfl)
theorem fldLaw13Case_Made : Fld kLaw13Case 12 (kslice kstr) (fun x => x.Made) (fun x y => { x with Made := y }) := Fld.iso (Fld.snd (Fld.snd (Fld.whole (kslice kstr)))) _ _ (fun _ => rfl) (fun _ _ => rfl)
def zeroLaw13Case : Law13Case := ⟨zeroNode, zeroDisk, ([] : List ByteArray)⟩
theorem zrLaw13Case : ZR kLaw13Case zeroLaw13Case [.string ByteArray.empty, .slice none 0 0, .slice none 0 0, .bool false, .string ByteArray.empty, .string ByteArray.empty, .bool false, .bool false, .bool false, .bool false, .int .i64 0, .slice none 0 0, .slice none 0 0] := zr_iso (zr_pair zrNode (zr_pair zrDisk (zr_slice kstr))) rfl
theorem enters57 : Enters Try.prog 57 := fun _ _ => rfl
theorem enters62 : Enters Try.prog 62 := fun _ _ => rfl
theorem tk9 : TK Try.prog 9 kstr := tk_of' Try.underlying9 rfl (by kernel_rfl) (fun h => by first | rfl | cases h) rfl
theorem enters52 : Enters Try.prog 52 := fun _ _ => rfl
theorem enters49 : Enters Try.prog 49 := fun _ _ => rfl
theorem enters54 : Enters Try.prog 54 := fun _ _ => rfl
theorem tk3 : TK Try.prog 3 (kint .i64) := tk_of' Try.underlying3 rfl (by kernel_rfl) (fun h => by first | rfl | cases h) rfl
theorem xmt81 : MT Try.prog 81 9 (kint .i64) (0 : Int) := ⟨⟨3, Try.underlying81, tk3, [.int .i64 0], by kernel_rfl, (zr_int .i64)⟩, Try.underlying9⟩
theorem tk22 : TK Try.prog 22 (kslice kstr) := tk_of' Try.underlying22 rfl (by kernel_rfl) (fun h => by first | rfl | cases h) rfl
theorem tk4 : TK Try.prog 4 kbool := tk_of' Try.underlying4 rfl (by kernel_rfl) (fun h => by first | rfl | cases h) rfl
theorem enters42 : Enters Try.prog 42 := fun _ _ => rfl
theorem enters56 : Enters Try.prog 56 := fun _ _ => rfl
theorem enters55 : Enters Try.prog 55 := fun _ _ => rfl
theorem mixed : Try.prog.follows .mixedOrders = true := by kernel_rfl
theorem tk55 : TK Try.prog 55 (kslice kNode) := tk_of' Try.underlying55 rfl (by kernel_rfl) (fun h => by first | rfl | cases h) rfl
theorem tk24 : TK Try.prog 24 kNode := tk_of' Try.underlying24 rfl (by kernel_rfl) (fun h => by first | rfl | cases h) rfl
theorem enters47 : Enters Try.prog 47 := fun _ _ => rfl
theorem xzf57_0 : ZF Try.prog 57 2 [FA.v 0 (.slice none 0 0), FA.k 1 (kslice kstr) ([] : List ByteArray)] := zf_of (K := (kpair knil (kslice kstr))) (x := ((), ([] : List ByteArray))) (v := .agg #[.slice none 0 0, .slice none 0 0]) (cs := [.slice none 0 0, .slice none 0 0]) (by kernel_rfl) rfl (zr_pair zr_nil (zr_slice kstr)) (.pair (la := [FA.v 0 (.slice none 0 0)]) (lb := [FA.k 1 (kslice kstr) ([] : List ByteArray)]) .nil .leaf)
theorem xaz57 : (Try.prog.info? 57).bind (·.zero) = some (.agg #[.slice none 0 0, .slice none 0 0]) := by kernel_rfl
theorem tk57 : TK Try.prog 57 kPlan := tk_of' Try.underlying57 rfl (by kernel_rfl) (fun h => by first | rfl | cases h) rfl
theorem enters31 : Enters Try.prog 31 := fun _ _ => rfl
theorem tk25 : TK Try.prog 25 (kslice kFile) := tk_of' Try.underlying25 rfl (by kernel_rfl) (fun h => by first | rfl | cases h) rfl
theorem tk47 : TK Try.prog 47 kFile := tk_of' Try.underlying47 rfl (by kernel_rfl) (fun h => by first | rfl | cases h) rfl
theorem enters48 : Enters Try.prog 48 := fun _ _ => rfl
theorem enters66 : Enters Try.prog 66 := fun _ _ => rfl
theorem enters65 : Enters Try.prog 65 := fun _ _ => rfl
theorem enters64 : Enters Try.prog 64 := fun _ _ => rfl
theorem tk27 : TK Try.prog 27 kDisk := tk_of' Try.underlying27 rfl (by kernel_rfl) (fun h => by first | rfl | cases h) rfl
theorem enters32 : Enters Try.prog 32 := fun _ _ => rfl
theorem enters58 : Enters Try.prog 58 := fun _ _ => rfl
theorem enters59 : Enters Try.prog 59 := fun _ _ => rfl
theorem enters50 : Enters Try.prog 50 := fun _ _ => rfl
theorem enters38 : Enters Try.prog 38 := fun _ _ => rfl
theorem enters39 : Enters Try.prog 39 := fun _ _ => rfl
theorem enters60 : Enters Try.prog 60 := fun _ _ => rfl
theorem enters51 : Enters Try.prog 51 := fun _ _ => rfl
theorem enters40 : Enters Try.prog 40 := fun _ _ => rfl
theorem enters22 : Enters Try.prog 22 := fun _ _ => rfl
theorem enters27 : Enters Try.prog 27 := fun _ _ => rfl
theorem enters12 : Enters Try.prog 12 := fun _ _ => rfl
theorem enters34 : Enters Try.prog 34 := fun _ _ => rfl
theorem enters41 : Enters Try.prog 41 := fun _ _ => rfl
theorem enters33 : Enters Try.prog 33 := fun _ _ => rfl
theorem enters23 : Enters Try.prog 23 := fun _ _ => rfl
theorem enters8 : Enters Try.prog 8 := fun _ _ => rfl
theorem enters10 : Enters Try.prog 10 := fun _ _ => rfl
theorem enters14 : Enters Try.prog 14 := fun _ _ => rfl
theorem enters15 : Enters Try.prog 15 := fun _ _ => rfl
theorem enters16 : Enters Try.prog 16 := fun _ _ => rfl
theorem enters17 : Enters Try.prog 17 := fun _ _ => rfl
theorem enters28 : Enters Try.prog 28 := fun _ _ => rfl
theorem enters37 : Enters Try.prog 37 := fun _ _ => rfl
theorem xzf27_1 : ZF Try.prog 27 2 [FA.k 0 (kint .i64) (0 : Int), FA.v 1 (.slice none 0 0)] := zf_of (K := (kpair (kint .i64) knil)) (x := ((0 : Int), ())) (v := .agg #[.int .i64 0, .slice none 0 0]) (cs := [.int .i64 0, .slice none 0 0]) (by kernel_rfl) rfl (zr_pair (zr_int .i64) zr_nil) (.pair (la := [FA.k 0 (kint .i64) (0 : Int)]) (lb := [FA.v 1 (.slice none 0 0)]) .leaf .nil)
theorem xaz27 : (Try.prog.info? 27).bind (·.zero) = some (.agg #[.int .i64 0, .slice none 0 0]) := by kernel_rfl
theorem enters45 : Enters Try.prog 45 := fun _ _ => rfl
theorem enters46 : Enters Try.prog 46 := fun _ _ => rfl
theorem enters29 : Enters Try.prog 29 := fun _ _ => rfl
theorem enters30 : Enters Try.prog 30 := fun _ _ => rfl
theorem enters18 : Enters Try.prog 18 := fun _ _ => rfl
theorem enters19 : Enters Try.prog 19 := fun _ _ => rfl
theorem tk71 : TK Try.prog 71 (kmap Try.prog 9 kbool) := tk_of' Try.underlying71 rfl (by kernel_rfl) (fun h => by first | rfl | cases h) rfl
theorem xmt71 : MT Try.prog 71 9 kbool false := ⟨⟨4, Try.underlying71, tk4, [.bool false], by kernel_rfl, zr_bool⟩, Try.underlying9⟩
theorem xaz71 : (Try.prog.info? 71).bind (·.zero) = some (.map none) := by kernel_rfl
theorem xmz71 : MZ Try.prog 71 false := mz_of Try.underlying71 rfl (by kernel_rfl)
theorem enters35 : Enters Try.prog 35 := fun _ _ => rfl
theorem enters44 : Enters Try.prog 44 := fun _ _ => rfl
theorem enters25 : Enters Try.prog 25 := fun _ _ => rfl
theorem enters36 : Enters Try.prog 36 := fun _ _ => rfl
theorem enters26 : Enters Try.prog 26 := fun _ _ => rfl
theorem enters20 : Enters Try.prog 20 := fun _ _ => rfl
theorem enters21 : Enters Try.prog 21 := fun _ _ => rfl
theorem zk24 : ZK Try.prog 24 kNode zeroNode := zk_of (v := .agg #[.string ByteArray.empty, .slice none 0 0, .slice none 0 0, .bool false, .string ByteArray.empty, .string ByteArray.empty, .bool false, .bool false, .bool false, .bool false]) (cs := [.string ByteArray.empty, .slice none 0 0, .slice none 0 0, .bool false, .string ByteArray.empty, .string ByteArray.empty, .bool false, .bool false, .bool false, .bool false]) (by kernel_rfl) rfl zrNode
theorem zk47 : ZK Try.prog 47 kFile zeroFile := zk_of (v := .agg #[.string ByteArray.empty, .string ByteArray.empty, .int .i64 0]) (cs := [.string ByteArray.empty, .string ByteArray.empty, .int .i64 0]) (by kernel_rfl) rfl zrFile
theorem zk27 : ZK Try.prog 27 kDisk zeroDisk := zk_of (v := .agg #[.int .i64 0, .slice none 0 0]) (cs := [.int .i64 0, .slice none 0 0]) (by kernel_rfl) rfl zrDisk
theorem zk9 : ZK Try.prog 9 kstr ByteArray.empty := zk_of (v := .string ByteArray.empty) (cs := [.string ByteArray.empty]) (by kernel_rfl) rfl zr_str
theorem zk4 : ZK Try.prog 4 kbool false := zk_of (v := .bool false) (cs := [.bool false]) (by kernel_rfl) rfl zr_bool
theorem at22 : AT Try.prog 22 9 kstr 16 := at_of Try.underlying22 (by kernel_rfl) rfl rfl
theorem at55 : AT Try.prog 55 24 kNode 112 := at_of Try.underlying55 (by kernel_rfl) rfl rfl
theorem at25 : AT Try.prog 25 47 kFile 40 := at_of Try.underlying25 (by kernel_rfl) rfl rfl
end Go.Proofs.Ytoemgemfgaooeaa.F
