import Derived.Test.YtlpmolohppoofaaShelf
import Derived.Test.YtlpmolohppoofaaProg
import Derived.Test.YtlpmolohppoofaaSm5
set_option linter.unusedVariables false
set_option linter.unusedSimpArgs false
set_option linter.unnecessarySimpa false
set_option linter.deprecated false
namespace Go.Proofs.Ytlpmolohppoofaa.F
open Go Go.RowKit Go.Proofs.Ytlpmolohppoofaa.Sl
structure Macro where
  Name : ByteArray
  Value : ByteArray
  Level : Int
noncomputable def kMacro : Kn Macro := kiso (kpair kstr (kpair kstr (kint .i64))) (fun x => (x.Name, x.Value, x.Level))
theorem fldMacro_Name : Fld kMacro 0 kstr (fun x => x.Name) (fun x y => { x with Name := y }) := Fld.iso (Fld.fst kstr (kpair kstr (kint .i64))) _ _ (fun _ => rfl) (fun _ _ => rfl)
theorem fldMacro_Value : Fld kMacro 1 kstr (fun x => x.Value) (fun x y => { x with Value := y }) := Fld.iso (Fld.snd (Fld.fst kstr (kint .i64))) _ _ (fun _ => rfl) (fun _ _ => rfl)
theorem fldMacro_Level : Fld kMacro 2 (kint .i64) (fun x => x.Level) (fun x y => { x with Level := y }) := Fld.iso (Fld.snd (Fld.snd (Fld.whole (kint .i64)))) _ _ (fun _ => rfl) (fun _ _ => rfl)
def zeroMacro : Macro := ⟨ByteArray.empty, ByteArray.empty, (0 : Int)⟩
theorem zrMacro : ZR kMacro zeroMacro [.string ByteArray.empty, .string ByteArray.empty, .int .i64 0] := zr_iso (zr_pair zr_str (zr_pair zr_str (zr_int .i64))) rfl
structure Rule where
  Target : ByteArray
  Needs : List ByteArray
  Recipe : List ByteArray
  Has : Bool
noncomputable def kRule : Kn Rule := kiso (kpair kstr (kpair (kslice kstr) (kpair (kslice kstr) kbool))) (fun x => (x.Target, x.Needs, x.Recipe, x.Has))
theorem fldRule_Target : Fld kRule 0 kstr (fun x => x.Target) (fun x y => { x with Target := y }) := Fld.iso (Fld.fst kstr (kpair (kslice kstr) (kpair (kslice kstr) kbool))) _ _ (fun _ => rfl) (fun _ _ => rfl)
theorem fldRule_Needs : Fld kRule 1 (kslice kstr) (fun x => x.Needs) (fun x y => { x with Needs := y }) := Fld.iso (Fld.snd (Fld.fst (kslice kstr) (kpair (kslice kstr) kbool))) _ _ (fun _ => rfl) (fun _ _ => rfl)
theorem fldRule_Recipe : Fld kRule 2 (kslice kstr) (fun x => x.Recipe) (fun x y => { x with Recipe := y }) := Fld.iso (Fld.snd (Fld.snd (Fld.fst (kslice kstr) kbool))) _ _ (fun _ => rfl) (fun _ _ => rfl)
theorem fldRule_Has : Fld kRule 3 kbool (fun x => x.Has) (fun x y => { x with Has := y }) := Fld.iso (Fld.snd (Fld.snd (Fld.snd (Fld.whole kbool)))) _ _ (fun _ => rfl) (fun _ _ => rfl)
def zeroRule : Rule := ⟨ByteArray.empty, ([] : List ByteArray), ([] : List ByteArray), false⟩
theorem zrRule : ZR kRule zeroRule [.string ByteArray.empty, .slice none 0 0, .slice none 0 0, .bool false] := zr_iso (zr_pair zr_str (zr_pair (zr_slice kstr) (zr_pair (zr_slice kstr) zr_bool))) rfl
structure Special where
  Suffixes : List ByteArray
  Phony : List ByteArray
  Precious : List ByteArray
  Ignore : List ByteArray
  Silent : List ByteArray
  AllPrecious : Bool
  AllIgnore : Bool
  AllSilent : Bool
  Default : List ByteArray
  HasDefault : Bool
noncomputable def kSpecial : Kn Special := kiso (kpair (kslice kstr) (kpair (kslice kstr) (kpair (kslice kstr) (kpair (kslice kstr) (kpair (kslice kstr) (kpair kbool (kpair kbool (kpair kbool (kpair (kslice kstr) kbool))))))))) (fun x => (x.Suffixes, x.Phony, x.Precious, x.Ignore, x.Silent, x.AllPrecious, x.AllIgnore, x.AllSilent, x.Default, x.HasDefault))
theorem fldSpecial_Suffixes : Fld kSpecial 0 (kslice kstr) (fun x => x.Suffixes) (fun x y => { x with Suffixes := y }) := Fld.iso (Fld.fst (kslice kstr) (kpair (kslice kstr) (kpair (kslice kstr) (kpair (kslice kstr) (kpair (kslice kstr) (kpair kbool (kpair kbool (kpair kbool (kpair (kslice kstr) kbool))))))))) _ _ (fun _ => rfl) (fun _ _ => rfl)
theorem fldSpecial_Phony : Fld kSpecial 1 (kslice kstr) (fun x => x.Phony) (fun x y => { x with Phony := y }) := Fld.iso (Fld.snd (Fld.fst (kslice kstr) (kpair (kslice kstr) (kpair (kslice kstr) (kpair (kslice kstr) (kpair kbool (kpair kbool (kpair kbool (kpair (kslice kstr) kbool))))))))) _ _ (fun _ => rfl) (fun _ _ => rfl)
theorem fldSpecial_Precious : Fld kSpecial 2 (kslice kstr) (fun x => x.Precious) (fun x y => { x with Precious := y }) := Fld.iso (Fld.snd (Fld.snd (Fld.fst (kslice kstr) (kpair (kslice kstr) (kpair (kslice kstr) (kpair kbool (kpair kbool (kpair kbool (kpair (kslice kstr) kbool))))))))) _ _ (fun _ => rfl) (fun _ _ => rfl)
theorem fldSpecial_Ignore : Fld kSpecial 3 (kslice kstr) (fun x => x.Ignore) (fun x y => { x with Ignore := y }) := Fld.iso (Fld.snd (Fld.snd (Fld.snd (Fld.fst (kslice kstr) (kpair (kslice kstr) (kpair kbool (kpair kbool (kpair kbool (kpair (kslice kstr) kbool))))))))) _ _ (fun _ => rfl) (fun _ _ => rfl)
theorem fldSpecial_Silent : Fld kSpecial 4 (kslice kstr) (fun x => x.Silent) (fun x y => { x with Silent := y }) := Fld.iso (Fld.snd (Fld.snd (Fld.snd (Fld.snd (Fld.fst (kslice kstr) (kpair kbool (kpair kbool (kpair kbool (kpair (kslice kstr) kbool))))))))) _ _ (fun _ => rfl) (fun _ _ => rfl)
theorem fldSpecial_Default : Fld kSpecial 8 (kslice kstr) (fun x => x.Default) (fun x y => { x with Default := y }) := Fld.iso (Fld.snd (Fld.snd (Fld.snd (Fld.snd (Fld.snd (Fld.snd (Fld.snd (Fld.snd (Fld.fst (kslice kstr) kbool))))))))) _ _ (fun _ => rfl) (fun _ _ => rfl)
theorem fldSpecial_HasDefault : Fld kSpecial 9 kbool (fun x => x.HasDefault) (fun x y => { x with HasDefault := y }) := Fld.iso (Fld.snd (Fld.snd (Fld.snd (Fld.snd (Fld.snd (Fld.snd (Fld.snd (Fld.snd (Fld.snd (Fld.whole kbool)))))))))) _ _ (fun _ => rfl) (fun _ _ => rfl)
def zeroSpecial : Special := ⟨([] : List ByteArray), ([] : List ByteArray), ([] : List ByteArray), ([] : List ByteArray), ([] : List ByteArray), false, false, false, ([] : List ByteArray), false⟩
theorem zrSpecial : ZR kSpecial zeroSpecial [.slice none 0 0, .slice none 0 0, .slice none 0 0, .slice none 0 0, .slice none 0 0, .bool false, .bool false, .bool false, .slice none 0 0, .bool false] := zr_iso (zr_pair (zr_slice kstr) (zr_pair (zr_slice kstr) (zr_pair (zr_slice kstr) (zr_pair (zr_slice kstr) (zr_pair (zr_slice kstr) (zr_pair zr_bool (zr_pair zr_bool (zr_pair zr_bool (zr_pair (zr_slice kstr) zr_bool))))))))) rfl
structure Infer where
  From : ByteArray
  To : ByteArray
  Recipe : List ByteArray
noncomputable def kInfer : Kn Infer := kiso (kpair kstr (kpair kstr (kslice kstr))) (fun x => (x.From, x.To, x.Recipe))
theorem fldInfer_From : Fld kInfer 0 kstr (fun x => x.From) (fun x y => { x with From := y }) := Fld.iso (Fld.fst kstr (kpair kstr (kslice kstr))) _ _ (fun _ => rfl) (fun _ _ => rfl)
theorem fldInfer_To : Fld kInfer 1 kstr (fun x => x.To) (fun x y => { x with To := y }) := Fld.iso (Fld.snd (Fld.fst kstr (kslice kstr))) _ _ (fun _ => rfl) (fun _ _ => rfl)
theorem fldInfer_Recipe : Fld kInfer 2 (kslice kstr) (fun x => x.Recipe) (fun x y => { x with Recipe := y }) := Fld.iso (Fld.snd (Fld.snd (Fld.whole (kslice kstr)))) _ _ (fun _ => rfl) (fun _ _ => rfl)
def zeroInfer : Infer := ⟨ByteArray.empty, ByteArray.empty, ([] : List ByteArray)⟩
theorem zrInfer : ZR kInfer zeroInfer [.string ByteArray.empty, .string ByteArray.empty, .slice none 0 0] := zr_iso (zr_pair zr_str (zr_pair zr_str (zr_slice kstr))) rfl
structure Make where
  Macros : List Macro
  Rules : List Rule
  Infers : List Infer
  Special : Special
  First : ByteArray
noncomputable def kMake : Kn Make := kiso (kpair (kslice kMacro) (kpair (kslice kRule) (kpair (kslice kInfer) (kpair kSpecial kstr)))) (fun x => (x.Macros, x.Rules, x.Infers, x.Special, x.First))
theorem fldMake_Macros : Fld kMake 0 (kslice kMacro) (fun x => x.Macros) (fun x y => { x with Macros := y }) := Fld.iso (Fld.fst (kslice kMacro) (kpair (kslice kRule) (kpair (kslice kInfer) (kpair kSpecial kstr)))) _ _ (fun _ => rfl) (fun _ _ => rfl)
theorem fldMake_Rules : Fld kMake 1 (kslice kRule) (fun x => x.Rules) (fun x y => { x with Rules := y }) := Fld.iso (Fld.snd (Fld.fst (kslice kRule) (kpair (kslice kInfer) (kpair kSpecial kstr)))) _ _ (fun _ => rfl) (fun _ _ => rfl)
theorem fldMake_Infers : Fld kMake 2 (kslice kInfer) (fun x => x.Infers) (fun x y => { x with Infers := y }) := Fld.iso (Fld.snd (Fld.snd (Fld.fst (kslice kInfer) (kpair kSpecial kstr)))) _ _ (fun _ => rfl) (fun _ _ => rfl)
theorem fldMake_Special : Fld kMake 3 kSpecial (fun x => x.Special) (fun x y => { x with Special := y }) := Fld.iso (Fld.snd (Fld.snd (Fld.snd (Fld.fst kSpecial kstr)))) _ _ (fun _ => rfl) (fun _ _ => rfl)
theorem fldMake_First : Fld kMake 13 kstr (fun x => x.First) (fun x y => { x with First := y }) := Fld.iso (Fld.snd (Fld.snd (Fld.snd (Fld.snd (Fld.whole kstr))))) _ _ (fun _ => rfl) (fun _ _ => rfl)
def zeroMake : Make := ⟨([] : List Macro), ([] : List Rule), ([] : List Infer), zeroSpecial, ByteArray.empty⟩
theorem zrMake : ZR kMake zeroMake [.slice none 0 0, .slice none 0 0, .slice none 0 0, .slice none 0 0, .slice none 0 0, .slice none 0 0, .slice none 0 0, .slice none 0 0, .bool false, .bool false, .bool false, .slice none 0 0, .bool false, .string ByteArray.empty] := zr_iso (zr_pair (zr_slice kMacro) (zr_pair (zr_slice kRule) (zr_pair (zr_slice kInfer) (zr_pair zrSpecial zr_str)))) rfl
structure GraphFrame where
  name : ByteArray
  left : List ByteArray
noncomputable def kGraphFrame : Kn GraphFrame := kiso (kpair kstr (kslice kstr)) (fun x => (x.name, x.left))
theorem fldGraphFrame_name : Fld kGraphFrame 0 kstr (fun x => x.name) (fun x y => { x with name := y }) := Fld.iso (Fld.fst kstr (kslice kstr)) _ _ (fun _ => rfl) (fun _ _ => rfl)
theorem fldGraphFrame_left : Fld kGraphFrame 1 (kslice kstr) (fun x => x.left) (fun x y => { x with left := y }) := Fld.iso (Fld.snd (Fld.whole (kslice kstr))) _ _ (fun _ => rfl) (fun _ _ => rfl)
def zeroGraphFrame : GraphFrame := ⟨ByteArray.empty, ([] : List ByteArray)⟩
theorem zrGraphFrame : ZR kGraphFrame zeroGraphFrame [.string ByteArray.empty, .slice none 0 0] := zr_iso (zr_pair zr_str (zr_slice kstr)) rfl
set_option maxRecDepth 100000 in
theorem enters100 : Enters Try.prog 100 := fun _ _ => rfl
set_option maxRecDepth 100000 in
theorem enters94 : Enters Try.prog 94 := fun _ _ => rfl
set_option maxRecDepth 100000 in
theorem enters88 : Enters Try.prog 88 := fun _ _ => rfl
set_option maxRecDepth 100000 in
theorem enters89 : Enters Try.prog 89 := fun _ _ => rfl
theorem tk9 : TK Try.prog 9 kstr := tk_of' Try.underlying9 rfl (by kernel_rfl) (fun h => by first | rfl | cases h) rfl
set_option maxRecDepth 100000 in
theorem enters78 : Enters Try.prog 78 := fun _ _ => rfl
theorem tk3 : TK Try.prog 3 (kint .i64) := tk_of' Try.underlying3 rfl (by kernel_rfl) (fun h => by first | rfl | cases h) rfl
set_option maxRecDepth 100000 in
theorem enters79 : Enters Try.prog 79 := fun _ _ => rfl
theorem tk73 : TK Try.prog 73 kMacro := tk_of' Try.underlying73 rfl (by kernel_rfl) (fun h => by first | rfl | cases h) rfl
set_option maxRecDepth 100000 in
theorem enters64 : Enters Try.prog 64 := fun _ _ => rfl
set_option maxRecDepth 100000 in
theorem enters65 : Enters Try.prog 65 := fun _ _ => rfl
theorem mixed : Try.prog.follows .mixedOrders = true := by kernel_rfl
set_option maxRecDepth 100000 in
theorem enters72 : Enters Try.prog 72 := fun _ _ => rfl
set_option maxRecDepth 100000 in
theorem enters51 : Enters Try.prog 51 := fun _ _ => rfl
set_option maxRecDepth 100000 in
theorem enters91 : Enters Try.prog 91 := fun _ _ => rfl
set_option maxRecDepth 100000 in
theorem enters35 : Enters Try.prog 35 := fun _ _ => rfl
set_option maxRecDepth 100000 in
theorem enters81 : Enters Try.prog 81 := fun _ _ => rfl
set_option maxRecDepth 100000 in
theorem enters80 : Enters Try.prog 80 := fun _ _ => rfl
set_option maxRecDepth 100000 in
theorem enters33 : Enters Try.prog 33 := fun _ _ => rfl
set_option maxRecDepth 100000 in
theorem enters20 : Enters Try.prog 20 := fun _ _ => rfl
set_option maxRecDepth 100000 in
theorem enters82 : Enters Try.prog 82 := fun _ _ => rfl
set_option maxRecDepth 100000 in
theorem enters83 : Enters Try.prog 83 := fun _ _ => rfl
theorem tk52 : TK Try.prog 52 kRule := tk_of' Try.underlying52 rfl (by kernel_rfl) (fun h => by first | rfl | cases h) rfl
theorem tk4 : TK Try.prog 4 kbool := tk_of' Try.underlying4 rfl (by kernel_rfl) (fun h => by first | rfl | cases h) rfl
theorem xmt100 : MT Try.prog 100 9 kbool false := ⟨⟨4, Try.underlying100, tk4, [.bool false], by kernel_rfl, zr_bool⟩, Try.underlying9⟩
theorem tk25 : TK Try.prog 25 (kslice kstr) := tk_of' Try.underlying25 rfl (by kernel_rfl) (fun h => by first | rfl | cases h) rfl
set_option maxRecDepth 100000 in
theorem enters66 : Enters Try.prog 66 := fun _ _ => rfl
set_option maxRecDepth 100000 in
theorem enters67 : Enters Try.prog 67 := fun _ _ => rfl
set_option maxRecDepth 100000 in
theorem enters68 : Enters Try.prog 68 := fun _ _ => rfl
set_option maxRecDepth 100000 in
theorem enters84 : Enters Try.prog 84 := fun _ _ => rfl
set_option maxRecDepth 100000 in
theorem enters63 : Enters Try.prog 63 := fun _ _ => rfl
set_option maxRecDepth 100000 in
theorem enters42 : Enters Try.prog 42 := fun _ _ => rfl
set_option maxRecDepth 100000 in
theorem enters85 : Enters Try.prog 85 := fun _ _ => rfl
set_option maxRecDepth 100000 in
theorem enters69 : Enters Try.prog 69 := fun _ _ => rfl
set_option maxRecDepth 100000 in
theorem enters70 : Enters Try.prog 70 := fun _ _ => rfl
theorem tk77 : TK Try.prog 77 kInfer := tk_of' Try.underlying77 rfl (by kernel_rfl) (fun h => by first | rfl | cases h) rfl
theorem xba103 : ∀ a b : ByteArray, Try.prog.built 103 [(0, .string a), (1, .string b)] = some #[.string a, .string b] := fun a b => by kernel_rfl
theorem tk103 : TK Try.prog 103 kstr2 := tk_of' Try.underlying103 rfl (by kernel_rfl) (fun h => by first | rfl | cases h) rfl
theorem xlo : laidOutB Try.prog = true := by kernel_rfl
theorem xmtp102 : MTP Try.prog 102 103 kbool false := ⟨⟨4, Try.underlying102, tk4, [.bool false], by kernel_rfl, zr_bool⟩, Go.Maps.Keyed.of_law (deep_law_laid xlo (m := 5) (by decide) (of_decide_eq_true (by kernel_rfl)) (by kernel_rfl) (by kernel_rfl)), keyOf_arr2 (m := 145) Try.underlying103 Try.underlying9 (by kernel_rfl) (by kernel_rfl) (by kernel_rfl) (by kernel_rfl) (fun a b => by kernel_rfl)⟩
set_option maxRecDepth 100000 in
theorem enters71 : Enters Try.prog 71 := fun _ _ => rfl
theorem tk22 : TK Try.prog 22 (kslice kMacro) := tk_of' Try.underlying22 rfl (by kernel_rfl) (fun h => by first | rfl | cases h) rfl
set_option maxRecDepth 100000 in
theorem enters45 : Enters Try.prog 45 := fun _ _ => rfl
theorem tk23 : TK Try.prog 23 (kslice kRule) := tk_of' Try.underlying23 rfl (by kernel_rfl) (fun h => by first | rfl | cases h) rfl
set_option maxRecDepth 100000 in
theorem enters46 : Enters Try.prog 46 := fun _ _ => rfl
theorem tk27 : TK Try.prog 27 kSpecial := tk_of' Try.underlying27 rfl (by kernel_rfl) (fun h => by first | rfl | cases h) rfl
set_option maxRecDepth 100000 in
theorem enters47 : Enters Try.prog 47 := fun _ _ => rfl
theorem tk24 : TK Try.prog 24 (kslice kInfer) := tk_of' Try.underlying24 rfl (by kernel_rfl) (fun h => by first | rfl | cases h) rfl
set_option maxRecDepth 100000 in
theorem enters48 : Enters Try.prog 48 := fun _ _ => rfl
set_option maxRecDepth 100000 in
theorem enters50 : Enters Try.prog 50 := fun _ _ => rfl
set_option maxRecDepth 100000 in
theorem enters49 : Enters Try.prog 49 := fun _ _ => rfl
theorem tk29 : TK Try.prog 29 kMake := tk_of' Try.underlying29 rfl (by kernel_rfl) (fun h => by first | rfl | cases h) rfl
set_option maxRecDepth 100000 in
theorem enters34 : Enters Try.prog 34 := fun _ _ => rfl
theorem xmt48 : MT Try.prog 48 9 (kslice kstr) ([] : List ByteArray) := ⟨⟨25, Try.underlying48, tk25, [.slice none 0 0], by kernel_rfl, (zr_slice kstr)⟩, Try.underlying9⟩
set_option maxRecDepth 100000 in
theorem enters18 : Enters Try.prog 18 := fun _ _ => rfl
theorem tk68 : TK Try.prog 68 kGraphFrame := tk_of' Try.underlying68 rfl (by kernel_rfl) (fun h => by first | rfl | cases h) rfl
theorem xmt50 : MT Try.prog 50 9 (kint .i64) (0 : Int) := ⟨⟨3, Try.underlying50, tk3, [.int .i64 0], by kernel_rfl, (zr_int .i64)⟩, Try.underlying9⟩
set_option maxRecDepth 100000 in
theorem enters32 : Enters Try.prog 32 := fun _ _ => rfl
set_option maxRecDepth 100000 in
theorem enters21 : Enters Try.prog 21 := fun _ _ => rfl
set_option maxRecDepth 100000 in
theorem enters17 : Enters Try.prog 17 := fun _ _ => rfl
set_option maxRecDepth 100000 in
theorem enters52 : Enters Try.prog 52 := fun _ _ => rfl
set_option maxRecDepth 100000 in
theorem enters36 : Enters Try.prog 36 := fun _ _ => rfl
set_option maxRecDepth 100000 in
theorem enters27 : Enters Try.prog 27 := fun _ _ => rfl
set_option maxRecDepth 100000 in
theorem enters39 : Enters Try.prog 39 := fun _ _ => rfl
set_option maxRecDepth 100000 in
theorem enters25 : Enters Try.prog 25 := fun _ _ => rfl
set_option maxRecDepth 100000 in
theorem enters37 : Enters Try.prog 37 := fun _ _ => rfl
set_option maxRecDepth 100000 in
theorem enters10 : Enters Try.prog 10 := fun _ _ => rfl
set_option maxRecDepth 100000 in
theorem enters38 : Enters Try.prog 38 := fun _ _ => rfl
set_option maxRecDepth 100000 in
theorem enters26 : Enters Try.prog 26 := fun _ _ => rfl
set_option maxRecDepth 100000 in
theorem enters22 : Enters Try.prog 22 := fun _ _ => rfl
set_option maxRecDepth 100000 in
theorem enters23 : Enters Try.prog 23 := fun _ _ => rfl
set_option maxRecDepth 100000 in
theorem enters24 : Enters Try.prog 24 := fun _ _ => rfl
set_option maxRecDepth 100000 in
theorem enters29 : Enters Try.prog 29 := fun _ _ => rfl
set_option maxRecDepth 100000 in
theorem enters44 : Enters Try.prog 44 := fun _ _ => rfl
set_option maxRecDepth 100000 in
theorem enters43 : Enters Try.prog 43 := fun _ _ => rfl
set_option maxRecDepth 100000 in
theorem enters31 : Enters Try.prog 31 := fun _ _ => rfl
set_option maxRecDepth 100000 in
theorem enters30 : Enters Try.prog 30 := fun _ _ => rfl
set_option maxRecDepth 100000 in
theorem enters16 : Enters Try.prog 16 := fun _ _ => rfl
set_option maxRecDepth 100000 in
theorem enters11 : Enters Try.prog 11 := fun _ _ => rfl
set_option maxRecDepth 100000 in
theorem enters9 : Enters Try.prog 9 := fun _ _ => rfl
set_option maxRecDepth 100000 in
theorem enters6 : Enters Try.prog 6 := fun _ _ => rfl
set_option maxRecDepth 100000 in
theorem enters19 : Enters Try.prog 19 := fun _ _ => rfl
set_option maxRecDepth 100000 in
theorem enters28 : Enters Try.prog 28 := fun _ _ => rfl
set_option maxRecDepth 100000 in
theorem enters12 : Enters Try.prog 12 := fun _ _ => rfl
set_option maxRecDepth 100000 in
theorem enters13 : Enters Try.prog 13 := fun _ _ => rfl
set_option maxRecDepth 100000 in
theorem enters14 : Enters Try.prog 14 := fun _ _ => rfl
set_option maxRecDepth 100000 in
theorem enters7 : Enters Try.prog 7 := fun _ _ => rfl
set_option maxRecDepth 100000 in
theorem enters15 : Enters Try.prog 15 := fun _ _ => rfl
set_option maxRecDepth 100000 in
theorem enters8 : Enters Try.prog 8 := fun _ _ => rfl
theorem zk73 : ZK Try.prog 73 kMacro zeroMacro := zk_of (v := .agg #[.string ByteArray.empty, .string ByteArray.empty, .int .i64 0]) (cs := [.string ByteArray.empty, .string ByteArray.empty, .int .i64 0]) (by kernel_rfl) rfl zrMacro
theorem zk52 : ZK Try.prog 52 kRule zeroRule := zk_of (v := .agg #[.string ByteArray.empty, .slice none 0 0, .slice none 0 0, .bool false]) (cs := [.string ByteArray.empty, .slice none 0 0, .slice none 0 0, .bool false]) (by kernel_rfl) rfl zrRule
theorem zk77 : ZK Try.prog 77 kInfer zeroInfer := zk_of (v := .agg #[.string ByteArray.empty, .string ByteArray.empty, .slice none 0 0]) (cs := [.string ByteArray.empty, .string ByteArray.empty, .slice none 0 0]) (by kernel_rfl) rfl zrInfer
theorem zk103 : ZK Try.prog 103 kstr2 ((ByteArray.empty, ByteArray.empty) : ByteArray × ByteArray) := zk_of (v := .agg #[.string ByteArray.empty, .string ByteArray.empty]) (cs := [.string ByteArray.empty, .string ByteArray.empty]) (by kernel_rfl) rfl (zr_pair zr_str zr_str)
theorem zk68 : ZK Try.prog 68 kGraphFrame zeroGraphFrame := zk_of (v := .agg #[.string ByteArray.empty, .slice none 0 0]) (cs := [.string ByteArray.empty, .slice none 0 0]) (by kernel_rfl) rfl zrGraphFrame
theorem zk29 : ZK Try.prog 29 kMake zeroMake := zk_of (v := .agg #[.slice none 0 0, .slice none 0 0, .slice none 0 0, .slice none 0 0, .slice none 0 0, .slice none 0 0, .slice none 0 0, .slice none 0 0, .bool false, .bool false, .bool false, .slice none 0 0, .bool false, .string ByteArray.empty]) (cs := [.slice none 0 0, .slice none 0 0, .slice none 0 0, .slice none 0 0, .slice none 0 0, .slice none 0 0, .slice none 0 0, .slice none 0 0, .bool false, .bool false, .bool false, .slice none 0 0, .bool false, .string ByteArray.empty]) (by kernel_rfl) rfl zrMake
theorem at25 : AT Try.prog 25 9 kstr 16 := at_of Try.underlying25 (by kernel_rfl) rfl rfl
theorem at65 : AT Try.prog 65 68 kGraphFrame 40 := at_of Try.underlying65 (by kernel_rfl) rfl rfl
theorem at23 : AT Try.prog 23 52 kRule 72 := at_of Try.underlying23 (by kernel_rfl) rfl rfl
end Go.Proofs.Ytlpmolohppoofaa.F
