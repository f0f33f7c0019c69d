import Derived.Test.YtedgkcdofiildaaShelf
import Derived.Test.YtedgkcdofiildaaProg
import Derived.Test.YtedgkcdofiildaaSm5
set_option linter.unusedVariables false
set_option linter.unusedSimpArgs false
set_option linter.unnecessarySimpa false
set_option linter.deprecated false
namespace Go.Proofs.Ytedgkcdofiildaa.F
open Go Go.RowKit Go.Proofs.Ytedgkcdofiildaa.Sl
structure Node where
  Target : ByteArray
  Needs : List ByteArray
  Recipe : List ByteArray
  Has : Bool
  Source : ByteArray
  Stem : ByteArray
  Phony : Bool
  Precious : Bool
  Ignore : Bool
  Silent : Bool
noncomputable def kNode : Kn Node := kiso (kpair kstr (kpair (kslice kstr) (kpair (kslice kstr) (kpair kbool (kpair kstr (kpair kstr (kpair kbool (kpair kbool (kpair kbool kbool))))))))) (fun x => (x.Target, x.Needs, x.Recipe, x.Has, x.Source, x.Stem, x.Phony, x.Precious, x.Ignore, x.Silent))
theorem fldNode_Target : Fld kNode 0 kstr (fun x => x.Target) (fun x y => { x with Target := y }) := Fld.iso (Fld.fst kstr (kpair (kslice kstr) (kpair (kslice kstr) (kpair kbool (kpair kstr (kpair kstr (kpair kbool (kpair kbool (kpair kbool kbool))))))))) _ _ (fun _ => rfl) (fun _ _ => rfl)
theorem fldNode_Needs : Fld kNode 1 (kslice kstr) (fun x => x.Needs) (fun x y => { x with Needs := y }) := Fld.iso (Fld.snd (Fld.fst (kslice kstr) (kpair (kslice kstr) (kpair kbool (kpair kstr (kpair kstr (kpair kbool (kpair kbool (kpair kbool kbool))))))))) _ _ (fun _ => rfl) (fun _ _ => rfl)
theorem fldNode_Recipe : Fld kNode 2 (kslice kstr) (fun x => x.Recipe) (fun x y => { x with Recipe := y }) := Fld.iso (Fld.snd (Fld.snd (Fld.fst (kslice kstr) (kpair kbool (kpair kstr (kpair kstr (kpair kbool (kpair kbool (kpair kbool kbool))))))))) _ _ (fun _ => rfl) (fun _ _ => rfl)
theorem fldNode_Has : Fld kNode 3 kbool (fun x => x.Has) (fun x y => { x with Has := y }) := Fld.iso (Fld.snd (Fld.snd (Fld.snd (Fld.fst kbool (kpair kstr (kpair kstr (kpair kbool (kpair kbool (kpair kbool kbool))))))))) _ _ (fun _ => rfl) (fun _ _ => rfl)
theorem fldNode_Source : Fld kNode 4 kstr (fun x => x.Source) (fun x y => { x with Source := y }) := Fld.iso (Fld.snd (Fld.snd (Fld.snd (Fld.snd (Fld.fst kstr (kpair kstr (kpair kbool (kpair kbool (kpair kbool kbool))))))))) _ _ (fun _ => rfl) (fun _ _ => rfl)
theorem fldNode_Stem : Fld kNode 5 kstr (fun x => x.Stem) (fun x y => { x with Stem := y }) := Fld.iso (Fld.snd (Fld.snd (Fld.snd (Fld.snd (Fld.snd (Fld.fst kstr (kpair kbool (kpair kbool (kpair kbool kbool))))))))) _ _ (fun _ => rfl) (fun _ _ => rfl)
def zeroNode : Node := ⟨ByteArray.empty, ([] : List ByteArray), ([] : List ByteArray), false, ByteArray.empty, ByteArray.empty, false, false, false, false⟩
theorem zrNode : ZR kNode zeroNode [.string ByteArray.empty, .slice none 0 0, .slice none 0 0, .bool false, .string ByteArray.empty, .string ByteArray.empty, .bool false, .bool false, .bool false, .bool false] := zr_iso (zr_pair zr_str (zr_pair (zr_slice kstr) (zr_pair (zr_slice kstr) (zr_pair zr_bool (zr_pair zr_str (zr_pair zr_str (zr_pair zr_bool (zr_pair zr_bool (zr_pair zr_bool zr_bool))))))))) rfl
structure Plan where
  Nodes : List Node
  Goals : List ByteArray
noncomputable def kPlan : Kn Plan := kiso (kpair (kslice kNode) (kslice kstr)) (fun x => (x.Nodes, x.Goals))
theorem fldPlan_Nodes : Fld kPlan 0 (kslice kNode) (fun x => x.Nodes) (fun x y => { x with Nodes := y }) := Fld.iso (Fld.fst (kslice kNode) (kslice kstr)) _ _ (fun _ => rfl) (fun _ _ => rfl)
theorem fldPlan_Goals : Fld kPlan 1 (kslice kstr) (fun x => x.Goals) (fun x y => { x with Goals := y }) := Fld.iso (Fld.snd (Fld.whole (kslice kstr))) _ _ (fun _ => rfl) (fun _ _ => rfl)
def zeroPlan : Plan := ⟨([] : List Node), ([] : List ByteArray)⟩
theorem zrPlan : ZR kPlan zeroPlan [.slice none 0 0, .slice none 0 0] := zr_iso (zr_pair (zr_slice kNode) (zr_slice kstr)) rfl
structure WalkSet_string_ where
  l : GM Int
noncomputable def kWalkSet_string_ : Kn WalkSet_string_ := kiso (kmap Try.prog 9 (kint .i64)) (fun x => x.l)
theorem fldWalkSet_string__l : Fld kWalkSet_string_ 0 (kmap Try.prog 9 (kint .i64)) (fun x => x.l) (fun x y => { x with l := y }) := Fld.iso (Fld.whole (kmap Try.prog 9 (kint .i64))) _ _ (fun _ => rfl) (fun _ _ => rfl)
theorem tk9 : TK Try.prog 9 kstr := tk_of' Try.underlying9 rfl (by kernel_rfl) (fun h => by first | rfl | cases h) rfl
set_option maxRecDepth 100000 in
theorem enters29 : Enters Try.prog 29 := fun _ _ => rfl
theorem tk23 : TK Try.prog 23 (kslice kstr) := tk_of' Try.underlying23 rfl (by kernel_rfl) (fun h => by first | rfl | cases h) rfl
theorem tk4 : TK Try.prog 4 kbool := tk_of' Try.underlying4 rfl (by kernel_rfl) (fun h => by first | rfl | cases h) rfl
theorem mixed : Try.prog.follows .mixedOrders = true := by kernel_rfl
set_option maxRecDepth 100000 in
theorem enters33 : Enters Try.prog 33 := fun _ _ => rfl
theorem tk22 : TK Try.prog 22 (kslice kNode) := tk_of' Try.underlying22 rfl (by kernel_rfl) (fun h => by first | rfl | cases h) rfl
theorem tk48 : TK Try.prog 48 kNode := tk_of' Try.underlying48 rfl (by kernel_rfl) (fun h => by first | rfl | cases h) rfl
set_option maxRecDepth 100000 in
theorem enters45 : Enters Try.prog 45 := fun _ _ => rfl
theorem tk25 : TK Try.prog 25 kPlan := tk_of' Try.underlying25 rfl (by kernel_rfl) (fun h => by first | rfl | cases h) rfl
set_option maxRecDepth 100000 in
theorem enters68 : Enters Try.prog 68 := fun _ _ => rfl
set_option maxRecDepth 100000 in
theorem enters64 : Enters Try.prog 64 := fun _ _ => rfl
set_option maxRecDepth 100000 in
theorem enters67 : Enters Try.prog 67 := fun _ _ => rfl
set_option maxRecDepth 100000 in
theorem enters57 : Enters Try.prog 57 := fun _ _ => rfl
set_option maxRecDepth 100000 in
theorem enters55 : Enters Try.prog 55 := fun _ _ => rfl
theorem tk3 : TK Try.prog 3 (kint .i64) := tk_of' Try.underlying3 rfl (by kernel_rfl) (fun h => by first | rfl | cases h) rfl
theorem xmt64 : MT Try.prog 64 9 (kint .i64) (0 : Int) := ⟨⟨3, Try.underlying64, tk3, [.int .i64 0], by kernel_rfl, (zr_int .i64)⟩, Try.underlying9⟩
set_option maxRecDepth 100000 in
theorem enters63 : Enters Try.prog 63 := fun _ _ => rfl
set_option maxRecDepth 100000 in
theorem enters66 : Enters Try.prog 66 := fun _ _ => rfl
set_option maxRecDepth 100000 in
theorem enters37 : Enters Try.prog 37 := fun _ _ => rfl
set_option maxRecDepth 100000 in
theorem enters62 : Enters Try.prog 62 := fun _ _ => rfl
theorem xaz66 : (Try.prog.info? 66).bind (·.zero) = some (.agg #[.map none]) := by kernel_rfl
theorem xbm66 : ∀ b, Try.prog.built 66 [(0, .map (some b))] = some #[.map (some b)] := fun b => by kernel_rfl
theorem xmz66 : MZ Try.prog 66 true := mz_of Try.underlying66 rfl (by kernel_rfl)
theorem xmz64 : MZ Try.prog 64 false := mz_of Try.underlying64 rfl (by kernel_rfl)
theorem tk64 : TK Try.prog 64 (kmap Try.prog 9 (kint .i64)) := tk_of' Try.underlying64 rfl (by kernel_rfl) (fun h => by first | rfl | cases h) rfl
theorem tk66 : TK Try.prog 66 kWalkSet_string_ := tk_of' Try.underlying66 rfl (by kernel_rfl) (fun h => by first | rfl | cases h) rfl
set_option maxRecDepth 100000 in
theorem enters36 : Enters Try.prog 36 := fun _ _ => rfl
set_option maxRecDepth 100000 in
theorem enters54 : Enters Try.prog 54 := fun _ _ => rfl
set_option maxRecDepth 100000 in
theorem enters46 : Enters Try.prog 46 := fun _ _ => rfl
set_option maxRecDepth 100000 in
theorem enters35 : Enters Try.prog 35 := fun _ _ => rfl
set_option maxRecDepth 100000 in
theorem enters56 : Enters Try.prog 56 := fun _ _ => rfl
set_option maxRecDepth 100000 in
theorem enters58 : Enters Try.prog 58 := fun _ _ => rfl
set_option maxRecDepth 100000 in
theorem enters40 : Enters Try.prog 40 := fun _ _ => rfl
set_option maxRecDepth 100000 in
theorem enters39 : Enters Try.prog 39 := fun _ _ => rfl
theorem xmz76 : MZ Try.prog 76 false := mz_of Try.underlying76 rfl (by kernel_rfl)
set_option maxRecDepth 100000 in
theorem enters47 : Enters Try.prog 47 := fun _ _ => rfl
set_option maxRecDepth 100000 in
theorem enters34 : Enters Try.prog 34 := fun _ _ => rfl
theorem xaz76 : (Try.prog.info? 76).bind (·.zero) = some (.nilFunc) := by kernel_rfl
set_option maxRecDepth 100000 in
theorem enters43 : Enters Try.prog 43 := fun _ _ => rfl
set_option maxRecDepth 100000 in
theorem enters20 : Enters Try.prog 20 := fun _ _ => rfl
set_option maxRecDepth 100000 in
theorem enters11 : Enters Try.prog 11 := fun _ _ => rfl
set_option maxRecDepth 100000 in
theorem enters19 : Enters Try.prog 19 := fun _ _ => rfl
set_option maxRecDepth 100000 in
theorem enters15 : Enters Try.prog 15 := fun _ _ => rfl
set_option maxRecDepth 100000 in
theorem enters65 : Enters Try.prog 65 := fun _ _ => rfl
set_option maxRecDepth 100000 in
theorem enters59 : Enters Try.prog 59 := fun _ _ => rfl
set_option maxRecDepth 100000 in
theorem enters48 : Enters Try.prog 48 := fun _ _ => rfl
set_option maxRecDepth 100000 in
theorem enters17 : Enters Try.prog 17 := fun _ _ => rfl
set_option maxRecDepth 100000 in
theorem enters13 : Enters Try.prog 13 := fun _ _ => rfl
set_option maxRecDepth 100000 in
theorem enters21 : Enters Try.prog 21 := fun _ _ => rfl
theorem zk48 : ZK Try.prog 48 kNode zeroNode := zk_of (v := .agg #[.string ByteArray.empty, .slice none 0 0, .slice none 0 0, .bool false, .string ByteArray.empty, .string ByteArray.empty, .bool false, .bool false, .bool false, .bool false]) (cs := [.string ByteArray.empty, .slice none 0 0, .slice none 0 0, .bool false, .string ByteArray.empty, .string ByteArray.empty, .bool false, .bool false, .bool false, .bool false]) (by kernel_rfl) rfl zrNode
theorem zk25 : ZK Try.prog 25 kPlan zeroPlan := zk_of (v := .agg #[.slice none 0 0, .slice none 0 0]) (cs := [.slice none 0 0, .slice none 0 0]) (by kernel_rfl) rfl zrPlan
theorem zk3 : ZK Try.prog 3 (kint .i64) (0 : Int) := zk_of (v := .int .i64 0) (cs := [.int .i64 0]) (by kernel_rfl) rfl (zr_int .i64)
theorem at23 : AT Try.prog 23 9 kstr 16 := at_of Try.underlying23 (by kernel_rfl) rfl rfl
theorem at22 : AT Try.prog 22 48 kNode 112 := at_of Try.underlying22 (by kernel_rfl) rfl rfl
theorem at38 : AT Try.prog 38 3 (kint .i64) 8 := at_of Try.underlying38 (by kernel_rfl) rfl rfl
end Go.Proofs.Ytedgkcdofiildaa.F
