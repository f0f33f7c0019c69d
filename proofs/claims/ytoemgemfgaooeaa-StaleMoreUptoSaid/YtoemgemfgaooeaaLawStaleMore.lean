import Derived.Test.YtoemgemfgaooeaaRows
import Derived.Test.YtoemgemfgaooeaaQStaleMore
import Derived.Test.YtoemgemfgaooeaaPureStaleMore
import Derived.WalkKit
import Derived.ProofKit
import Derived.OpenShut
import Derived.ShutString
import Derived.ChangeOld
import Derived.Below
import Derived.SizedLaws
import Derived.Deep.CondSized
import Derived.Test.YtoemgemfgaooeaaBulk
import Derived.Carry
namespace Go.Proofs.Ytoemgemfgaooeaa.staleMore
open Go.ChangeShapes Go.WideShapes Go.ChangeAt Go.RowKit
open Go.ChangeMaps (open_string shut_string)
open Go.Proofs.Ytoemgemfgaooeaa.F Go.Proofs.Ytoemgemfgaooeaa.Sl
set_option linter.unusedVariables false
theorem own : ownKnob Try.prog.godebug = none := by kernel_rfl
theorem laidOut : laidOutB Try.prog = true := by kernel_rfl
set_option maxRecDepth 100000 in
set_option maxHeartbeats 1000000 in
theorem lifted (os : Os) (started : os.Started) (H : Type) (enc : TypeId × Value → H) (F : Stop.Interp) :
    ReturnsInHanded {} Try.checked os 5 .any ((Rows.OpenSpec.upto Rows.staleMoreSpec).pre6 enc Try.prog Try.f5 Rows.staleMoreUptoRow.domain false) (((Rows.OpenSpec.upto Rows.staleMoreSpec).at F).post enc Try.prog Try.f5 false true false false) := by
  refine returnsInHanded_of_cond_sized (C := Try.checked) (s := (Rows.OpenSpec.upto Rows.staleMoreSpec)) (k := Rows.uptoSmall) rfl own started (by kernel_rfl) Try.func5
    (OpenSpec.witness (enc := enc) (C := Try.checked) (s := (Rows.OpenSpec.upto Rows.staleMoreSpec)) (k := Rows.uptoSmall) rfl false ⟨#[], #[.agg #[.string ByteArray.empty, .slice none 0 0, .slice none 0 0, .bool false, .string ByteArray.empty, .string ByteArray.empty, .bool false, .bool false, .bool false, .bool false, .int .i64 0, .slice none 0 0, .slice none 0 0], .string ByteArray.empty], []⟩ 8 (by kernel_rfl) (by kernel_rfl) (by kernel_rfl)
      (x := ([.agg [.agg [.lit (.string []), .nil, .nil, .lit (.bool false), .lit (.string []), .lit (.string []), .lit (.bool false), .lit (.bool false), .lit (.bool false), .lit (.bool false)], .agg [.lit (.int .i64 0), .nil], .nil], .lit (.string [])], [], [])) (by kernel_rfl) rfl (by kernel_rfl)) ?_
  intro W base args ds gs before hval0 hW0 hcnd hk hsz0 _
  show Calls Try.prog 5 args W fun e W' => ∃ v, e = .returned v ∧ Rows.staleMoreSpec.post enc Try.prog Try.f5 false true false false W args v W'
  have hW : DataW.Whole enc Try.prog Try.f5.params.toList Rows.staleMoreSpec.vars false W args.toList ds gs before := hW0
  have hsz : (DataW.weightsEach Try.prog (Try.f5.params.toList ++ Rows.staleMoreSpec.plain.varTypes Try.prog) (ds ++ gs)).all (· ≤ reachBytes) = true := hsz0
  have hval : ∀ (j : Nat) t v, Try.f5.params[j]? = some t → args[j]? = some v → Value.okWide Try.prog W .any base t v := hval0
  have hW' := hW
  obtain ⟨p, q, hA0, hV, rfl, hfz, hnd⟩ := hW
  have hA : DataW.TrodAll enc Try.prog W 0 (fun _ => true) true Try.f5.params.toList args.toList ds p := hA0
  rw [Try.params5] at hA hval hsz
  obtain ⟨v0, vs0, d0, ds0, p0, q0, hargs, rfl, rfl, h0, r0⟩ := trodAll_cons hA
  obtain ⟨v1, vs1, d1, ds1, p1, q1, rfl, rfl, rfl, h1, r1⟩ := trodAll_cons r0
  obtain ⟨rfl, rfl, rfl⟩ := trodAll_nil r1
  obtain rfl : args = #[v0, v1] := by cases args; simp_all
  obtain ⟨rfl, rfl⟩ := trodVars_none hV
  have k0 := h0
  have lt0 : ∀ x ∈ p0, x.block < W.heap.size := by obtain ⟨m, hm⟩ := k0; exact DataW.trod_lt m _ _ _ hm
  have z0 : ∀ n ∈ DataW.weights Try.prog 29 d0, n ≤ 140737488351232 := fun n hn => by
    have h2 : decide (n ≤ reachBytes) = true := List.all_eq_true.1 hsz n (DataW.weights_mem_each (j := 0) rfl rfl n hn)
    exact of_decide_eq_true h2
  obtain ⟨cs0, rfl, _⟩ := okWide_struct Try.underlying29 (hval 0 29 v0 rfl rfl)
  obtain ⟨x0, hk0, o0⟩ : ∃ x, kLaw13Case.R (whole W) W x cs0.toList ∧ okLaw13Case x := by obtain ⟨m, hm⟩ := h0; exact op29 H enc W _ _ m _ _ _ (by simpa [Value.cells] using hm) z0
  obtain ⟨x1, rfl, rfl, rfl, y1⟩ := open_string Try.underlying9 (hval 1 9 v1 rfl rfl) h1
  have w1 : x1.size ≤ 140737488351232 := by
    have z := sized_string hsz (j := 1) (t := 9) rfl rfl
    rw [Array.length_toList] at z
    exact z
  have b0 : x0.N.Needs.length ≤ 1048576 := by
    obtain ⟨m, hm⟩ := k0
    have g0 : DataW.trod enc Try.prog W 0 (fun _ => true) true m 29 cs0.toList = some (d0, p0) := by simpa [Value.cells] using hm
    have r0 := hk0
    obtain ⟨y1, ps1, g1, l1_, r1⟩ := Bulk.struct_fld fldLaw13Case_N Try.underlying29 g0 r0 0 _ rfl (by kernel_rfl) rfl
    have l1 := l1_
    exact Nat.le_trans (Bulk.slice_fld fldNode_Needs Try.underlying24 g1 r1 1 _ rfl Try.underlying22 (by kernel_rfl) rfl) (Nat.le_trans l1 (Bulk.part hk d0 (by simp)))
  clear hA0 hval0 hsz0 hsz
  obtain ⟨k, hpure⟩ := Pure.StaleMore x0 x1 o0 w1 b0
  have hargs2 : argSat (fun _ => 0) (whole W) W [VA.k kLaw13Case x0, VA.k kstr x1] [.agg cs0, .string x1] := ⟨⟨rfl, cs0.toList, hk0, by show Value.agg cs0 = Value.agg cs0.toList.toArray; simp⟩, ⟨rfl, _, rfl, rfl⟩, trivial⟩
  refine ((smithylaw13_StaleMore.con k x0 x1 true hpure).law hargs2).mono fun e W' hpost => ?_
  obtain ⟨he, bel⟩ := hpost
  subst he
  exact ⟨_, rfl, _, _, _, [], _, [], hW', trodAll_mk1 (shut_bool Try.underlying4 _), (trodAll_cons_mk (Below.trod laidOut (by kernel_rfl) (of_decide_eq_true (by kernel_rfl)) k0 bel lt0) (trodAll_cons_mk (shut_string Try.underlying9 y1) trodAll_mk0)), rfl, bel.frame _, fun h => by cases h⟩
theorem over : Rows.staleMoreUptoRow.holds Try.pinned (Rows.OpenSpec.upto Rows.staleMoreSpec) :=
  OpenClaim.holds_of_cond 5 Try.f5 rfl rfl rfl rfl rfl rfl rfl ⟨rfl, rfl, rfl, rfl, rfl⟩ rfl rfl rfl rfl rfl (by kernel_rfl) Try.func5 (by kernel_rfl)
    (of_decide_eq_true (by kernel_rfl)) (by unfold Func.isWrapper; first | (rw [if_pos (by decide +kernel)]; kernel_rfl) | (rw [if_neg (by decide +kernel)]; exact ⟨rfl, rfl⟩))
    (fun os started H enc _ F => lifted os started H enc F)
theorem proved : Rows.StaleMoreUptoSaid := over
#print axioms proved
end Go.Proofs.Ytoemgemfgaooeaa.staleMore
namespace Go.Proofs.Ytoemgemfgaooeaa
/-- The row, under a short name, for the claim. -/
theorem staleMoreUpto_holds : Rows.StaleMoreUptoSaid := staleMore.proved
end Go.Proofs.Ytoemgemfgaooeaa
