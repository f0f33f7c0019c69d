import Derived.Test.YtmmjbobicnmilaaShelf
import Derived.Test.YtmmjbobicnmilaaProg
import Derived.Test.YtmmjbobicnmilaaSm4
set_option linter.unusedVariables false
set_option linter.unusedSimpArgs false
set_option linter.unnecessarySimpa false
set_option linter.deprecated false
namespace Go.Proofs.Ytmmjbobicnmilaa.F
open Go Go.RowKit Go.Proofs.Ytmmjbobicnmilaa.Sl
structure Macro where
  Name : ByteArray
  Value : ByteArray
  Level : Int
noncomputable def kMacro : Kn Macro := kiso (kpair kstr (kpair kstr (kint .i64))) (fun x => (x.Name, x.Value, x.Level))
theorem fldMacro_Name : Fld kMacro 0 kstr (fun x => x.Name) (fun x y => { x with Name := y }) := Fld.iso (Fld.fst kstr (kpair kstr (kint .i64))) _ _ (fun _ => rfl) (fun _ _ => rfl)
theorem fldMacro_Value : Fld kMacro 1 kstr (fun x => x.Value) (fun x y => { x with Value := y }) := Fld.iso (Fld.snd (Fld.fst kstr (kint .i64))) _ _ (fun _ => rfl) (fun _ _ => rfl)
theorem fldMacro_Level : Fld kMacro 2 (kint .i64) (fun x => x.Level) (fun x y => { x with Level := y }) := Fld.iso (Fld.snd (Fld.snd (Fld.whole (kint .i64)))) _ _ (fun _ => rfl) (fun _ _ => rfl)
def zeroMacro : Macro := ⟨ByteArray.empty, ByteArray.empty, (0 : Int)⟩
theorem zrMacro : ZR kMacro zeroMacro [.string ByteArray.empty, .string ByteArray.empty, .int .i64 0] := zr_iso (zr_pair zr_str (zr_pair zr_str (zr_int .i64))) rfl
theorem kfreeMacro : KFree kMacro := KFree.iso _ (KFree.pair KFree.str (KFree.pair KFree.str (KFree.int .i64)))
structure Options where
  Dry : Bool
  Touch : Bool
  Query : Bool
  Keep : Bool
  Ignore : Bool
  Silent : Bool
  Slots : Int
  Files : List ByteArray
  Macros : List Macro
  Goals : List ByteArray
noncomputable def kOptions : Kn Options := kiso (kpair kbool (kpair kbool (kpair kbool (kpair kbool (kpair kbool (kpair kbool (kpair (kint .i64) (kpair (kslice kstr) (kpair (kslice kMacro) (kslice kstr)))))))))) (fun x => (x.Dry, x.Touch, x.Query, x.Keep, x.Ignore, x.Silent, x.Slots, x.Files, x.Macros, x.Goals))
theorem fldOptions_Dry : Fld kOptions 0 kbool (fun x => x.Dry) (fun x y => { x with Dry := y }) := Fld.iso (Fld.fst kbool (kpair kbool (kpair kbool (kpair kbool (kpair kbool (kpair kbool (kpair (kint .i64) (kpair (kslice kstr) (kpair (kslice kMacro) (kslice kstr)))))))))) _ _ (fun _ => rfl) (fun _ _ => rfl)
theorem fldOptions_Touch : Fld kOptions 1 kbool (fun x => x.Touch) (fun x y => { x with Touch := y }) := Fld.iso (Fld.snd (Fld.fst kbool (kpair kbool (kpair kbool (kpair kbool (kpair kbool (kpair (kint .i64) (kpair (kslice kstr) (kpair (kslice kMacro) (kslice kstr)))))))))) _ _ (fun _ => rfl) (fun _ _ => rfl)
theorem fldOptions_Query : Fld kOptions 2 kbool (fun x => x.Query) (fun x y => { x with Query := y }) := Fld.iso (Fld.snd (Fld.snd (Fld.fst kbool (kpair kbool (kpair kbool (kpair kbool (kpair (kint .i64) (kpair (kslice kstr) (kpair (kslice kMacro) (kslice kstr)))))))))) _ _ (fun _ => rfl) (fun _ _ => rfl)
theorem fldOptions_Keep : Fld kOptions 3 kbool (fun x => x.Keep) (fun x y => { x with Keep := y }) := Fld.iso (Fld.snd (Fld.snd (Fld.snd (Fld.fst kbool (kpair kbool (kpair kbool (kpair (kint .i64) (kpair (kslice kstr) (kpair (kslice kMacro) (kslice kstr)))))))))) _ _ (fun _ => rfl) (fun _ _ => rfl)
theorem fldOptions_Ignore : Fld kOptions 4 kbool (fun x => x.Ignore) (fun x y => { x with Ignore := y }) := Fld.iso (Fld.snd (Fld.snd (Fld.snd (Fld.snd (Fld.fst kbool (kpair kbool (kpair (kint .i64) (kpair (kslice kstr) (kpair (kslice kMacro) (kslice kstr)))))))))) _ _ (fun _ => rfl) (fun _ _ => rfl)
theorem fldOptions_Silent : Fld kOptions 5 kbool (fun x => x.Silent) (fun x y => { x with Silent := y }) := Fld.iso (Fld.snd (Fld.snd (Fld.snd (Fld.snd (Fld.snd (Fld.fst kbool (kpair (kint .i64) (kpair (kslice kstr) (kpair (kslice kMacro) (kslice kstr)))))))))) _ _ (fun _ => rfl) (fun _ _ => rfl)
theorem fldOptions_Slots : Fld kOptions 6 (kint .i64) (fun x => x.Slots) (fun x y => { x with Slots := y }) := Fld.iso (Fld.snd (Fld.snd (Fld.snd (Fld.snd (Fld.snd (Fld.snd (Fld.fst (kint .i64) (kpair (kslice kstr) (kpair (kslice kMacro) (kslice kstr)))))))))) _ _ (fun _ => rfl) (fun _ _ => rfl)
theorem fldOptions_Files : Fld kOptions 7 (kslice kstr) (fun x => x.Files) (fun x y => { x with Files := y }) := Fld.iso (Fld.snd (Fld.snd (Fld.snd (Fld.snd (Fld.snd (Fld.snd (Fld.snd (Fld.fst (kslice kstr) (kpair (kslice kMacro) (kslice kstr)))))))))) _ _ (fun _ => rfl) (fun _ _ => rfl)
theorem fldOptions_Macros : Fld kOptions 8 (kslice kMacro) (fun x => x.Macros) (fun x y => { x with Macros := y }) := Fld.iso (Fld.snd (Fld.snd (Fld.snd (Fld.snd (Fld.snd (Fld.snd (Fld.snd (Fld.snd (Fld.fst (kslice kMacro) (kslice kstr)))))))))) _ _ (fun _ => rfl) (fun _ _ => rfl)
theorem fldOptions_Goals : Fld kOptions 9 (kslice kstr) (fun x => x.Goals) (fun x y => { x with Goals := y }) := Fld.iso (Fld.snd (Fld.snd (Fld.snd (Fld.snd (Fld.snd (Fld.snd (Fld.snd (Fld.snd (Fld.snd (Fld.whole (kslice kstr))))))))))) _ _ (fun _ => rfl) (fun _ _ => rfl)
def zeroOptions : Options := ⟨false, false, false, false, false, false, (0 : Int), ([] : List ByteArray), ([] : List Macro), ([] : List ByteArray)⟩
theorem zrOptions : ZR kOptions zeroOptions [.bool false, .bool false, .bool false, .bool false, .bool false, .bool false, .int .i64 0, .slice none 0 0, .slice none 0 0, .slice none 0 0] := zr_iso (zr_pair zr_bool (zr_pair zr_bool (zr_pair zr_bool (zr_pair zr_bool (zr_pair zr_bool (zr_pair zr_bool (zr_pair (zr_int .i64) (zr_pair (zr_slice kstr) (zr_pair (zr_slice kMacro) (zr_slice kstr)))))))))) rfl
structure Node where
  Target : ByteArray
  Needs : List ByteArray
  Recipe : List ByteArray
  Has : Bool
  Source : ByteArray
  Stem : ByteArray
  Phony : Bool
  Precious : Bool
  Ignore : Bool
  Silent : Bool
noncomputable def kNode : Kn Node := kiso (kpair kstr (kpair (kslice kstr) (kpair (kslice kstr) (kpair kbool (kpair kstr (kpair kstr (kpair kbool (kpair kbool (kpair kbool kbool))))))))) (fun x => (x.Target, x.Needs, x.Recipe, x.Has, x.Source, x.Stem, x.Phony, x.Precious, x.Ignore, x.Silent))
theorem fldNode_Target : Fld kNode 0 kstr (fun x => x.Target) (fun x y => { x with Target := y }) := Fld.iso (Fld.fst kstr (kpair (kslice kstr) (kpair (kslice kstr) (kpair kbool (kpair kstr (kpair kstr (kpair kbool (kpair kbool (kpair kbool kbool))))))))) _ _ (fun _ => rfl) (fun _ _ => rfl)
theorem fldNode_Needs : Fld kNode 1 (kslice kstr) (fun x => x.Needs) (fun x y => { x with Needs := y }) := Fld.iso (Fld.snd (Fld.fst (kslice kstr) (kpair (kslice kstr) (kpair kbool (kpair kstr (kpair kstr (kpair kbool (kpair kbool (kpair kbool kbool))))))))) _ _ (fun _ => rfl) (fun _ _ => rfl)
theorem fldNode_Recipe : Fld kNode 2 (kslice kstr) (fun x => x.Recipe) (fun x y => { x with Recipe := y }) := Fld.iso (Fld.snd (Fld.snd (Fld.fst (kslice kstr) (kpair kbool (kpair kstr (kpair kstr (kpair kbool (kpair kbool (kpair kbool kbool))))))))) _ _ (fun _ => rfl) (fun _ _ => rfl)
theorem fldNode_Has : Fld kNode 3 kbool (fun x => x.Has) (fun x y => { x with Has := y }) := Fld.iso (Fld.snd (Fld.snd (Fld.snd (Fld.fst kbool (kpair kstr (kpair kstr (kpair kbool (kpair kbool (kpair kbool kbool))))))))) _ _ (fun _ => rfl) (fun _ _ => rfl)
theorem fldNode_Source : Fld kNode 4 kstr (fun x => x.Source) (fun x y => { x with Source := y }) := Fld.iso (Fld.snd (Fld.snd (Fld.snd (Fld.snd (Fld.fst kstr (kpair kstr (kpair kbool (kpair kbool (kpair kbool kbool))))))))) _ _ (fun _ => rfl) (fun _ _ => rfl)
theorem fldNode_Stem : Fld kNode 5 kstr (fun x => x.Stem) (fun x y => { x with Stem := y }) := Fld.iso (Fld.snd (Fld.snd (Fld.snd (Fld.snd (Fld.snd (Fld.fst kstr (kpair kbool (kpair kbool (kpair kbool kbool))))))))) _ _ (fun _ => rfl) (fun _ _ => rfl)
theorem fldNode_Phony : Fld kNode 6 kbool (fun x => x.Phony) (fun x y => { x with Phony := y }) := Fld.iso (Fld.snd (Fld.snd (Fld.snd (Fld.snd (Fld.snd (Fld.snd (Fld.fst kbool (kpair kbool (kpair kbool kbool))))))))) _ _ (fun _ => rfl) (fun _ _ => rfl)
theorem fldNode_Precious : Fld kNode 7 kbool (fun x => x.Precious) (fun x y => { x with Precious := y }) := Fld.iso (Fld.snd (Fld.snd (Fld.snd (Fld.snd (Fld.snd (Fld.snd (Fld.snd (Fld.fst kbool (kpair kbool kbool))))))))) _ _ (fun _ => rfl) (fun _ _ => rfl)
theorem fldNode_Ignore : Fld kNode 8 kbool (fun x => x.Ignore) (fun x y => { x with Ignore := y }) := Fld.iso (Fld.snd (Fld.snd (Fld.snd (Fld.snd (Fld.snd (Fld.snd (Fld.snd (Fld.snd (Fld.fst kbool kbool))))))))) _ _ (fun _ => rfl) (fun _ _ => rfl)
theorem fldNode_Silent : Fld kNode 9 kbool (fun x => x.Silent) (fun x y => { x with Silent := y }) := Fld.iso (Fld.snd (Fld.snd (Fld.snd (Fld.snd (Fld.snd (Fld.snd (Fld.snd (Fld.snd (Fld.snd (Fld.whole kbool)))))))))) _ _ (fun _ => rfl) (fun _ _ => rfl)
def zeroNode : Node := ⟨ByteArray.empty, ([] : List ByteArray), ([] : List ByteArray), false, ByteArray.empty, ByteArray.empty, false, false, false, false⟩
theorem zrNode : ZR kNode zeroNode [.string ByteArray.empty, .slice none 0 0, .slice none 0 0, .bool false, .string ByteArray.empty, .string ByteArray.empty, .bool false, .bool false, .bool false, .bool false] := zr_iso (zr_pair zr_str (zr_pair (zr_slice kstr) (zr_pair (zr_slice kstr) (zr_pair zr_bool (zr_pair zr_str (zr_pair zr_str (zr_pair zr_bool (zr_pair zr_bool (zr_pair zr_bool zr_bool))))))))) rfl
structure Plan where
  Nodes : List Node
  Goals : List ByteArray
noncomputable def kPlan : Kn Plan := kiso (kpair (kslice kNode) (kslice kstr)) (fun x => (x.Nodes, x.Goals))
theorem fldPlan_Nodes : Fld kPlan 0 (kslice kNode) (fun x => x.Nodes) (fun x y => { x with Nodes := y }) := Fld.iso (Fld.fst (kslice kNode) (kslice kstr)) _ _ (fun _ => rfl) (fun _ _ => rfl)
theorem fldPlan_Goals : Fld kPlan 1 (kslice kstr) (fun x => x.Goals) (fun x y => { x with Goals := y }) := Fld.iso (Fld.snd (Fld.whole (kslice kstr))) _ _ (fun _ => rfl) (fun _ _ => rfl)
def zeroPlan : Plan := ⟨([] : List Node), ([] : List ByteArray)⟩
theorem zrPlan : ZR kPlan zeroPlan [.slice none 0 0, .slice none 0 0] := zr_iso (zr_pair (zr_slice kNode) (zr_slice kstr)) rfl
structure Flags where
  Ignore : Bool
  Silent : Bool
  Always : Bool
noncomputable def kFlags : Kn Flags := kiso (kpair kbool (kpair kbool kbool)) (fun x => (x.Ignore, x.Silent, x.Always))
theorem fldFlags_Ignore : Fld kFlags 0 kbool (fun x => x.Ignore) (fun x y => { x with Ignore := y }) := Fld.iso (Fld.fst kbool (kpair kbool kbool)) _ _ (fun _ => rfl) (fun _ _ => rfl)
theorem fldFlags_Silent : Fld kFlags 1 kbool (fun x => x.Silent) (fun x y => { x with Silent := y }) := Fld.iso (Fld.snd (Fld.fst kbool kbool)) _ _ (fun _ => rfl) (fun _ _ => rfl)
theorem fldFlags_Always : Fld kFlags 2 kbool (fun x => x.Always) (fun x y => { x with Always := y }) := Fld.iso (Fld.snd (Fld.snd (Fld.whole kbool))) _ _ (fun _ => rfl) (fun _ _ => rfl)
def zeroFlags : Flags := ⟨false, false, false⟩
theorem zrFlags : ZR kFlags zeroFlags [.bool false, .bool false, .bool false] := zr_iso (zr_pair zr_bool (zr_pair zr_bool zr_bool)) rfl
theorem kfreeFlags : KFree kFlags := KFree.iso _ (KFree.pair KFree.bool (KFree.pair KFree.bool KFree.bool))
structure Mode where
  Echo : Bool
  Run : Bool
  Forgive : Bool
noncomputable def kMode : Kn Mode := kiso (kpair kbool (kpair kbool kbool)) (fun x => (x.Echo, x.Run, x.Forgive))
theorem fldMode_Echo : Fld kMode 0 kbool (fun x => x.Echo) (fun x y => { x with Echo := y }) := Fld.iso (Fld.fst kbool (kpair kbool kbool)) _ _ (fun _ => rfl) (fun _ _ => rfl)
theorem fldMode_Run : Fld kMode 1 kbool (fun x => x.Run) (fun x y => { x with Run := y }) := Fld.iso (Fld.snd (Fld.fst kbool kbool)) _ _ (fun _ => rfl) (fun _ _ => rfl)
theorem fldMode_Forgive : Fld kMode 2 kbool (fun x => x.Forgive) (fun x y => { x with Forgive := y }) := Fld.iso (Fld.snd (Fld.snd (Fld.whole kbool))) _ _ (fun _ => rfl) (fun _ _ => rfl)
def zeroMode : Mode := ⟨false, false, false⟩
theorem zrMode : ZR kMode zeroMode [.bool false, .bool false, .bool false] := zr_iso (zr_pair zr_bool (zr_pair zr_bool zr_bool)) rfl
theorem kfreeMode : KFree kMode := KFree.iso _ (KFree.pair KFree.bool (KFree.pair KFree.bool KFree.bool))
theorem tk4 : TK Try.prog 4 kbool := tk_of' Try.underlying4 rfl (by kernel_rfl) (fun h => by first | rfl | cases h) rfl
theorem enters44 : Enters Try.prog 44 := fun _ _ => rfl
theorem enters38 : Enters Try.prog 38 := fun _ _ => rfl
theorem tk9 : TK Try.prog 9 kstr := tk_of' Try.underlying9 rfl (by kernel_rfl) (fun h => by first | rfl | cases h) rfl
theorem enters32 : Enters Try.prog 32 := fun _ _ => rfl
theorem enters53 : Enters Try.prog 53 := fun _ _ => rfl
theorem enters50 : Enters Try.prog 50 := fun _ _ => rfl
theorem enters45 : Enters Try.prog 45 := fun _ _ => rfl
theorem enters46 : Enters Try.prog 46 := fun _ _ => rfl
theorem enters39 : Enters Try.prog 39 := fun _ _ => rfl
theorem tk3 : TK Try.prog 3 (kint .i64) := tk_of' Try.underlying3 rfl (by kernel_rfl) (fun h => by first | rfl | cases h) rfl
theorem enters40 : Enters Try.prog 40 := fun _ _ => rfl
theorem tk58 : TK Try.prog 58 kMacro := tk_of' Try.underlying58 rfl (by kernel_rfl) (fun h => by first | rfl | cases h) rfl
theorem enters33 : Enters Try.prog 33 := fun _ _ => rfl
theorem enters34 : Enters Try.prog 34 := fun _ _ => rfl
theorem mixed : Try.prog.follows .mixedOrders = true := by kernel_rfl
theorem enters19 : Enters Try.prog 19 := fun _ _ => rfl
theorem tk22 : TK Try.prog 22 (kslice kstr) := tk_of' Try.underlying22 rfl (by kernel_rfl) (fun h => by first | rfl | cases h) rfl
theorem enters27 : Enters Try.prog 27 := fun _ _ => rfl
theorem tk23 : TK Try.prog 23 (kslice kMacro) := tk_of' Try.underlying23 rfl (by kernel_rfl) (fun h => by first | rfl | cases h) rfl
theorem enters28 : Enters Try.prog 28 := fun _ _ => rfl
theorem enters43 : Enters Try.prog 43 := fun _ _ => rfl
theorem enters48 : Enters Try.prog 48 := fun _ _ => rfl
theorem xmt74 : MT Try.prog 74 9 (kint .i64) (0 : Int) := ⟨⟨3, Try.underlying74, tk3, [.int .i64 0], by kernel_rfl, (zr_int .i64)⟩, Try.underlying9⟩
theorem enters36 : Enters Try.prog 36 := fun _ _ => rfl
theorem enters42 : Enters Try.prog 42 := fun _ _ => rfl
theorem enters41 : Enters Try.prog 41 := fun _ _ => rfl
theorem tk67 : TK Try.prog 67 (kslice kNode) := tk_of' Try.underlying67 rfl (by kernel_rfl) (fun h => by first | rfl | cases h) rfl
theorem tk27 : TK Try.prog 27 kNode := tk_of' Try.underlying27 rfl (by kernel_rfl) (fun h => by first | rfl | cases h) rfl
theorem enters35 : Enters Try.prog 35 := fun _ _ => rfl
theorem xzf69_0 : ZF Try.prog 69 2 [FA.v 0 (.slice none 0 0), FA.k 1 (kslice kstr) ([] : List ByteArray)] := zf_of (K := (kpair knil (kslice kstr))) (x := ((), ([] : List ByteArray))) (v := .agg #[.slice none 0 0, .slice none 0 0]) (cs := [.slice none 0 0, .slice none 0 0]) (by kernel_rfl) rfl (zr_pair zr_nil (zr_slice kstr)) (.pair (la := [FA.v 0 (.slice none 0 0)]) (lb := [FA.k 1 (kslice kstr) ([] : List ByteArray)]) .nil .leaf)
theorem xaz69 : (Try.prog.info? 69).bind (·.zero) = some (.agg #[.slice none 0 0, .slice none 0 0]) := by kernel_rfl
theorem tk69 : TK Try.prog 69 kPlan := tk_of' Try.underlying69 rfl (by kernel_rfl) (fun h => by first | rfl | cases h) rfl
theorem enters29 : Enters Try.prog 29 := fun _ _ => rfl
theorem tk25 : TK Try.prog 25 kOptions := tk_of' Try.underlying25 rfl (by kernel_rfl) (fun h => by first | rfl | cases h) rfl
theorem enters17 : Enters Try.prog 17 := fun _ _ => rfl
theorem tk31 : TK Try.prog 31 kMode := tk_of' Try.underlying31 rfl (by kernel_rfl) (fun h => by first | rfl | cases h) rfl
theorem enters18 : Enters Try.prog 18 := fun _ _ => rfl
theorem enters37 : Enters Try.prog 37 := fun _ _ => rfl
theorem enters30 : Enters Try.prog 30 := fun _ _ => rfl
theorem enters31 : Enters Try.prog 31 := fun _ _ => rfl
theorem enters20 : Enters Try.prog 20 := fun _ _ => rfl
theorem enters21 : Enters Try.prog 21 := fun _ _ => rfl
theorem enters22 : Enters Try.prog 22 := fun _ _ => rfl
theorem enters23 : Enters Try.prog 23 := fun _ _ => rfl
theorem enters24 : Enters Try.prog 24 := fun _ _ => rfl
theorem enters7 : Enters Try.prog 7 := fun _ _ => rfl
theorem enters8 : Enters Try.prog 8 := fun _ _ => rfl
theorem enters25 : Enters Try.prog 25 := fun _ _ => rfl
theorem tk29 : TK Try.prog 29 kFlags := tk_of' Try.underlying29 rfl (by kernel_rfl) (fun h => by first | rfl | cases h) rfl
theorem enters26 : Enters Try.prog 26 := fun _ _ => rfl
theorem enters6 : Enters Try.prog 6 := fun _ _ => rfl
def eqMode (x y : Mode) : Bool := (x.Echo == y.Echo) && ((x.Run == y.Run) && ((x.Forgive == y.Forgive) && (true)))
theorem qk31 : QK Try.prog 31 kMode eqMode 2 := qk_struct Try.underlying31 (by kernel_rfl) rfl (qf_cons rfl rfl fldMode_Echo tk4 (qk_bool Try.underlying4) (qf_cons rfl rfl fldMode_Run tk4 (qk_bool Try.underlying4) (qf_cons rfl rfl fldMode_Forgive tk4 (qk_bool Try.underlying4) qf_nil)))
theorem enters10 : Enters Try.prog 10 := fun _ _ => rfl
theorem enters11 : Enters Try.prog 11 := fun _ _ => rfl
theorem enters12 : Enters Try.prog 12 := fun _ _ => rfl
theorem enters9 : Enters Try.prog 9 := fun _ _ => rfl
def eqFlags (x y : Flags) : Bool := (x.Ignore == y.Ignore) && ((x.Silent == y.Silent) && ((x.Always == y.Always) && (true)))
theorem qk29 : QK Try.prog 29 kFlags eqFlags 2 := qk_struct Try.underlying29 (by kernel_rfl) rfl (qf_cons rfl rfl fldFlags_Ignore tk4 (qk_bool Try.underlying4) (qf_cons rfl rfl fldFlags_Silent tk4 (qk_bool Try.underlying4) (qf_cons rfl rfl fldFlags_Always tk4 (qk_bool Try.underlying4) qf_nil)))
theorem zk58 : ZK Try.prog 58 kMacro zeroMacro := zk_of (v := .agg #[.string ByteArray.empty, .string ByteArray.empty, .int .i64 0]) (cs := [.string ByteArray.empty, .string ByteArray.empty, .int .i64 0]) (by kernel_rfl) rfl zrMacro
theorem zk27 : ZK Try.prog 27 kNode zeroNode := zk_of (v := .agg #[.string ByteArray.empty, .slice none 0 0, .slice none 0 0, .bool false, .string ByteArray.empty, .string ByteArray.empty, .bool false, .bool false, .bool false, .bool false]) (cs := [.string ByteArray.empty, .slice none 0 0, .slice none 0 0, .bool false, .string ByteArray.empty, .string ByteArray.empty, .bool false, .bool false, .bool false, .bool false]) (by kernel_rfl) rfl zrNode
theorem zk31 : ZK Try.prog 31 kMode zeroMode := zk_of (v := .agg #[.bool false, .bool false, .bool false]) (cs := [.bool false, .bool false, .bool false]) (by kernel_rfl) rfl zrMode
theorem zk25 : ZK Try.prog 25 kOptions zeroOptions := zk_of (v := .agg #[.bool false, .bool false, .bool false, .bool false, .bool false, .bool false, .int .i64 0, .slice none 0 0, .slice none 0 0, .slice none 0 0]) (cs := [.bool false, .bool false, .bool false, .bool false, .bool false, .bool false, .int .i64 0, .slice none 0 0, .slice none 0 0, .slice none 0 0]) (by kernel_rfl) rfl zrOptions
theorem zk29 : ZK Try.prog 29 kFlags zeroFlags := zk_of (v := .agg #[.bool false, .bool false, .bool false]) (cs := [.bool false, .bool false, .bool false]) (by kernel_rfl) rfl zrFlags
theorem at64 : AT Try.prog 64 4 kbool 1 := at_of Try.underlying64 (by kernel_rfl) rfl rfl
theorem at23 : AT Try.prog 23 58 kMacro 40 := at_of Try.underlying23 (by kernel_rfl) rfl rfl
theorem at22 : AT Try.prog 22 9 kstr 16 := at_of Try.underlying22 (by kernel_rfl) rfl rfl
theorem at67 : AT Try.prog 67 27 kNode 112 := at_of Try.underlying67 (by kernel_rfl) rfl rfl
end Go.Proofs.Ytmmjbobicnmilaa.F
