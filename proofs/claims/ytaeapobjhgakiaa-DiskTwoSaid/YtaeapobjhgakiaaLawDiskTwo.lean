import Derived.Test.YtaeapobjhgakiaaRows
import Derived.Test.YtaeapobjhgakiaaQDiskTwo
import Derived.Test.YtaeapobjhgakiaaPureDiskTwo
import Derived.WalkKit
import Derived.ProofKit
import Derived.OpenShut
import Derived.ShutString
import Derived.ChangeOld
import Derived.Below
import Derived.SizedLaws
import Derived.Carry
namespace Go.Proofs.Ytaeapobjhgakiaa.diskTwo
open Go.ChangeShapes Go.WideShapes Go.ChangeAt Go.RowKit
open Go.ChangeMaps (open_string shut_string)
open Go.Proofs.Ytaeapobjhgakiaa.F Go.Proofs.Ytaeapobjhgakiaa.Sl
set_option linter.unusedVariables false
theorem own : ownKnob Try.prog.godebug = none := by kernel_rfl
theorem laidOut : laidOutB Try.prog = true := by kernel_rfl
set_option maxRecDepth 100000 in
set_option maxHeartbeats 1000000 in
theorem lifted (os : Os) (started : os.Started) (H : Type) (enc : TypeId × Value → H) :
    ReturnsInHanded {} Try.checked os 8 .any (Rows.diskTwoSpec.pre6 enc Try.prog Try.f8 Rows.diskTwoRow.domain false) (Rows.diskTwoSpec.post enc Try.prog Try.f8 false true false false) := by
  refine returnsInHanded_of_change_sized (C := Try.checked) own started (by kernel_rfl) Try.func8
    (ChangeSpec.witness6 (enc := enc) (C := Try.checked) false ⟨#[], #[.agg #[.int .i64 0, .slice none 0 0], .agg #[.string ByteArray.empty, .string ByteArray.empty, .int .i64 0], .agg #[.string ByteArray.empty, .string ByteArray.empty, .int .i64 0]], []⟩ 8 (by kernel_rfl) (by kernel_rfl) (by kernel_rfl) (by kernel_rfl)) ?_
  intro W base args ds gs before hval0 hW hcnd hsz0 _
  have hsz : (DataW.weightsEach Try.prog (Try.f8.params.toList ++ Rows.diskTwoSpec.plain.varTypes Try.prog) (ds ++ gs)).all (· ≤ reachBytes) = true := hsz0
  have hval : ∀ (j : Nat) t v, Try.f8.params[j]? = some t → args[j]? = some v → Value.okWide Try.prog W .any base t v := hval0
  have hW' := hW
  obtain ⟨p, q, hA0, hV, rfl, hfz, hnd⟩ := hW
  have hA : DataW.TrodAll enc Try.prog W 0 (fun _ => true) true Try.f8.params.toList args.toList ds p := hA0
  rw [Try.params8] at hA hval hsz
  obtain ⟨v0, vs0, d0, ds0, p0, q0, hargs, rfl, rfl, h0, r0⟩ := trodAll_cons hA
  obtain ⟨v1, vs1, d1, ds1, p1, q1, rfl, rfl, rfl, h1, r1⟩ := trodAll_cons r0
  obtain ⟨v2, vs2, d2, ds2, p2, q2, rfl, rfl, rfl, h2, r2⟩ := trodAll_cons r1
  obtain ⟨rfl, rfl, rfl⟩ := trodAll_nil r2
  obtain rfl : args = #[v0, v1, v2] := by cases args; simp_all
  obtain ⟨rfl, rfl⟩ := trodVars_none hV
  have k0 := h0
  have lt0 : ∀ x ∈ p0, x.block < W.heap.size := by obtain ⟨m, hm⟩ := k0; exact DataW.trod_lt m _ _ _ hm
  have z0 : ∀ n ∈ DataW.weights Try.prog 24 d0, n ≤ 140737488351232 := fun n hn => by
    have h2 : decide (n ≤ reachBytes) = true := List.all_eq_true.1 hsz n (DataW.weights_mem_each (j := 0) rfl rfl n hn)
    exact of_decide_eq_true h2
  obtain ⟨cs0, rfl, _⟩ := okWide_struct Try.underlying24 (hval 0 24 v0 rfl rfl)
  obtain ⟨x0, hk0, o0⟩ : ∃ x, kDisk.R (whole W) W x cs0.toList ∧ okDisk x := by obtain ⟨m, hm⟩ := h0; exact op24 H enc W _ _ m _ _ _ (by simpa [Value.cells] using hm) z0
  have k1 := h1
  have lt1 : ∀ x ∈ p1, x.block < W.heap.size := by obtain ⟨m, hm⟩ := k1; exact DataW.trod_lt m _ _ _ hm
  have z1 : ∀ n ∈ DataW.weights Try.prog 26 d1, n ≤ 140737488351232 := fun n hn => by
    have h2 : decide (n ≤ reachBytes) = true := List.all_eq_true.1 hsz n (DataW.weights_mem_each (j := 1) rfl rfl n hn)
    exact of_decide_eq_true h2
  obtain ⟨cs1, rfl, _⟩ := okWide_struct Try.underlying26 (hval 1 26 v1 rfl rfl)
  obtain ⟨x1, hk1, o1⟩ : ∃ x, kFile.R (whole W) W x cs1.toList ∧ okFile x := by obtain ⟨m, hm⟩ := h1; exact op26 H enc W _ _ m _ _ _ (by simpa [Value.cells] using hm) z1
  have k2 := h2
  have lt2 : ∀ x ∈ p2, x.block < W.heap.size := by obtain ⟨m, hm⟩ := k2; exact DataW.trod_lt m _ _ _ hm
  have z2 : ∀ n ∈ DataW.weights Try.prog 26 d2, n ≤ 140737488351232 := fun n hn => by
    have h2 : decide (n ≤ reachBytes) = true := List.all_eq_true.1 hsz n (DataW.weights_mem_each (j := 2) rfl rfl n hn)
    exact of_decide_eq_true h2
  obtain ⟨cs2, rfl, _⟩ := okWide_struct Try.underlying26 (hval 2 26 v2 rfl rfl)
  obtain ⟨x2, hk2, o2⟩ : ∃ x, kFile.R (whole W) W x cs2.toList ∧ okFile x := by obtain ⟨m, hm⟩ := h2; exact op26 H enc W _ _ m _ _ _ (by simpa [Value.cells] using hm) z2
  clear hA0 hval0 hsz0 hsz
  obtain ⟨k, hpure⟩ := Pure.DiskTwo x0 x1 x2 o0 o1 o2
  have hargs2 : argSat (fun _ => 0) (whole W) W [VA.k kDisk x0, VA.k kFile x1, VA.k kFile x2] [.agg cs0, .agg cs1, .agg cs2] := ⟨⟨rfl, cs0.toList, hk0, by show Value.agg cs0 = Value.agg cs0.toList.toArray; simp⟩, ⟨rfl, cs1.toList, hk1, by show Value.agg cs1 = Value.agg cs1.toList.toArray; simp⟩, ⟨rfl, cs2.toList, hk2, by show Value.agg cs2 = Value.agg cs2.toList.toArray; simp⟩, trivial⟩
  refine ((smithylaw02_DiskTwo.con k x0 x1 x2 true hpure).law hargs2).mono fun e W' hpost => ?_
  obtain ⟨he, bel⟩ := hpost
  subst he
  exact ⟨_, rfl, _, _, _, [], _, [], hW', trodAll_mk1 (shut_bool Try.underlying4 _), (trodAll_cons_mk (Below.trod laidOut (by kernel_rfl) (of_decide_eq_true (by kernel_rfl)) k0 bel lt0) (trodAll_cons_mk (Below.trod laidOut (by kernel_rfl) (of_decide_eq_true (by kernel_rfl)) k1 bel lt1) (trodAll_cons_mk (Below.trod laidOut (by kernel_rfl) (of_decide_eq_true (by kernel_rfl)) k2 bel lt2) trodAll_mk0))), rfl, bel.frame _, fun h => by cases h⟩
theorem over : Rows.diskTwoRow.holds Try.pinned (OpenSpec.ofChange Rows.diskTwoSpec) :=
  OpenClaim.holds_of_wide 8 Try.f8 rfl rfl rfl rfl rfl rfl rfl ⟨rfl, rfl, rfl, rfl, rfl⟩ rfl rfl rfl rfl rfl (by kernel_rfl) Try.func8 (by kernel_rfl)
    (of_decide_eq_true (by kernel_rfl)) (by unfold Func.isWrapper; first | (rw [if_pos (by decide +kernel)]; kernel_rfl) | (rw [if_neg (by decide +kernel)]; exact ⟨rfl, rfl⟩))
    (fun os started H enc _ => lifted os started H enc)
theorem proved : Rows.DiskTwoSaid := over
#print axioms proved
end Go.Proofs.Ytaeapobjhgakiaa.diskTwo
namespace Go.Proofs.Ytaeapobjhgakiaa
/-- The row, under a short name, for the claim. -/
theorem diskTwo_holds : Rows.DiskTwoSaid := diskTwo.proved
end Go.Proofs.Ytaeapobjhgakiaa
