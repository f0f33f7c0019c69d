-- written by mp.py (wip/tools), a program of this session, over the kit's print
import Derived.Test.YtmmjbobicnmilaaRows
import Derived.Test.YtmmjbobicnmilaaPModesChecksx14
import Derived.Test.YtmmjbobicnmilaaQModesChecks
import Derived.Test.YtmmjbobicnmilaaPureModesChecks
import Derived.WalkKit
import Derived.ProofKit
import Derived.OpenShut
import Derived.ShutString
import Derived.ChangeOld
import Derived.Below
import Derived.SizedLaws
import Derived.Carry
namespace Go.Proofs.Ytmmjbobicnmilaa.modesChecks
open Go.ChangeShapes Go.WideShapes Go.ChangeAt Go.RowKit
open Go.ChangeMaps (open_string shut_string)
open Go.Proofs.Ytmmjbobicnmilaa.P Go.Proofs.Ytmmjbobicnmilaa.Opens Go.Proofs.YtmmjbobicnmilaaW.PrintWords Go.Proofs.YtmmjbobicnmilaaW.PrintLast Go.Proofs.YtmmjbobicnmilaaW.PrintMore
set_option linter.unusedVariables false
theorem own : ownKnob Try.prog.godebug = none := by kernel_rfl
theorem laidOut : laidOutB Try.prog = true := by kernel_rfl
theorem op58 : Opens Try.prog 58 k58 ok58 := opens_iso (opens_struct Try.underlying58 (opensF_cons 0 (opens_string Try.underlying9) rfl (by kernel_rfl) (opensF_cons 1 (opens_string Try.underlying9) rfl (by kernel_rfl) (opensF_one 2 (opens_int Try.underlying3) rfl (by kernel_rfl)))) (by kernel_rfl)) (fun x : S58 => (x.f0, x.f1, x.f2)) (fun p => ⟨p.1, p.2.1, p.2.2⟩) (fun _ => rfl)
theorem op25 : Opens Try.prog 25 k25 ok25 := opens_iso (opens_struct Try.underlying25 (opensF_cons 0 (opens_bool Try.underlying4) rfl (by kernel_rfl) (opensF_cons 1 (opens_bool Try.underlying4) rfl (by kernel_rfl) (opensF_cons 2 (opens_bool Try.underlying4) rfl (by kernel_rfl) (opensF_cons 3 (opens_bool Try.underlying4) rfl (by kernel_rfl) (opensF_cons 4 (opens_bool Try.underlying4) rfl (by kernel_rfl) (opensF_cons 5 (opens_bool Try.underlying4) rfl (by kernel_rfl) (opensF_cons 6 (opens_int Try.underlying3) rfl (by kernel_rfl) (opensF_cons 7 (opens_slice 16 Try.underlying22 (opens_string Try.underlying9) (by kernel_rfl) (by kernel_rfl)) rfl (by kernel_rfl) (opensF_cons 8 (opens_slice 40 Try.underlying23 op58 (by kernel_rfl) (by kernel_rfl)) rfl (by kernel_rfl) (opensF_one 9 (opens_slice 16 Try.underlying22 (opens_string Try.underlying9) (by kernel_rfl) (by kernel_rfl)) rfl (by kernel_rfl))))))))))) (by kernel_rfl)) (fun x : S25 => (x.f0, x.f1, x.f2, x.f3, x.f4, x.f5, x.f6, x.f7, x.f8, x.f9)) (fun p => ⟨p.1, p.2.1, p.2.2.1, p.2.2.2.1, p.2.2.2.2.1, p.2.2.2.2.2.1, p.2.2.2.2.2.2.1, p.2.2.2.2.2.2.2.1, p.2.2.2.2.2.2.2.2.1, p.2.2.2.2.2.2.2.2.2⟩) (fun _ => rfl)
set_option maxRecDepth 100000 in
set_option maxHeartbeats 1000000 in
theorem lifted (os : Os) (started : os.Started) (H : Type) (enc : TypeId × Value → H) :
    ReturnsInHanded {} Try.checked os 5 .any (Rows.modesChecksSpec.pre6 enc Try.prog Try.f5 Rows.modesChecksRow.domain false) (Rows.modesChecksSpec.post enc Try.prog Try.f5 false true false false) := by
  refine returnsInHanded_of_change_sized (C := Try.checked) own started (by kernel_rfl) Try.func5
    (ChangeSpec.witness6 (enc := enc) (C := Try.checked) false ⟨#[], #[.agg #[.bool false, .bool false, .bool false, .bool false, .bool false, .bool false, .int .i64 0, .slice none 0 0, .slice none 0 0, .slice none 0 0]], []⟩ 8 (by kernel_rfl) (by kernel_rfl) (by kernel_rfl) (by kernel_rfl)) ?_
  intro W base args ds gs before hval0 hW hcnd hsz0 _
  have hsz : (DataW.weightsEach Try.prog (Try.f5.params.toList ++ Rows.modesChecksSpec.plain.varTypes Try.prog) (ds ++ gs)).all (· ≤ reachBytes) = true := hsz0
  have hval : ∀ (j : Nat) t v, Try.f5.params[j]? = some t → args[j]? = some v → Value.okWide Try.prog W .any base t v := hval0
  have hW' := hW
  obtain ⟨p, q, hA0, hV, rfl, hfz, hnd⟩ := hW
  have hA : DataW.TrodAll enc Try.prog W 0 (fun _ => true) true Try.f5.params.toList args.toList ds p := hA0
  rw [Try.params5] at hA hval hsz
  obtain ⟨v0, vs0, d0, ds0, p0, q0, hargs, rfl, rfl, h0, r0⟩ := trodAll_cons hA
  obtain ⟨rfl, rfl, rfl⟩ := trodAll_nil r0
  obtain rfl : args = #[v0] := by cases args; simp_all
  obtain ⟨rfl, rfl⟩ := trodVars_none hV
  have k0 := h0
  have lt0 : ∀ x ∈ p0, x.block < W.heap.size := by obtain ⟨m, hm⟩ := k0; exact DataW.trod_lt m _ _ _ hm
  have z0 : ∀ n ∈ DataW.weights Try.prog 25 d0, n ≤ 140737488351232 := fun n hn => by
    have h2 : decide (n ≤ reachBytes) = true := List.all_eq_true.1 hsz n (DataW.weights_mem_each (j := 0) rfl rfl n hn)
    exact of_decide_eq_true h2
  obtain ⟨cs0, rfl, _⟩ := okWide_struct Try.underlying25 (hval 0 25 v0 rfl rfl)
  obtain ⟨x0, hk0, o0⟩ : ∃ x, k25.K W x cs0.toList ∧ ok25 x := by obtain ⟨m, hm⟩ := h0; exact op25 H enc W _ _ m _ _ _ (by simpa [Value.cells] using hm) z0
  have hopen0 := k25_open hk0
  obtain ⟨A0_0, c0_0, A0_1, c0_1, A0_2, c0_2, hcs0, l0_0, g0_0, l0_1, g0_1, l0_2, g0_2⟩ := hopen0
  obtain rfl : cs0 = #[.bool x0.f0, .bool x0.f1, .bool x0.f2, .bool x0.f3, .bool x0.f4, .bool x0.f5, .int .i64 x0.f6, .slice A0_0 x0.f7.length c0_0, .slice A0_1 x0.f8.length c0_1, .slice A0_2 x0.f9.length c0_2] := Array.toList_inj.1 hcs0
  clear hA0 hval0 hsz0 hsz
  obtain ⟨k, hpure⟩ := (Pure.ModesChecks x0 o0)
  refine (smithylaw19_ModesChecks.calls k x0.f0 x0.f1 x0.f2 x0.f3 x0.f4 x0.f5 x0.f6 A0_0 c0_0 x0.f7 A0_1 c0_1 x0.f8 A0_2 c0_2 x0.f9 true W g0_0 l0_0 g0_1 l0_1 g0_2 l0_2 hpure rfl).mono fun e W' hpost => ?_
  obtain ⟨he, hd⟩ := hpost
  have bel : Below W.heap.size W W' := hd
  subst he
  exact ⟨_, rfl, _, _, _, [], _, [], hW', trodAll_mk1 (shut_bool Try.underlying4 _), (trodAll_cons_mk (Below.trod laidOut (by kernel_rfl) (of_decide_eq_true (by kernel_rfl)) k0 bel lt0) trodAll_mk0), rfl, bel.frame _, fun h => by cases h⟩
theorem over : Rows.modesChecksRow.holds Try.pinned (OpenSpec.ofChange Rows.modesChecksSpec) :=
  OpenClaim.holds_of_wide 5 Try.f5 rfl rfl rfl rfl rfl rfl rfl ⟨rfl, rfl, rfl, rfl, rfl⟩ rfl rfl rfl rfl rfl (by kernel_rfl) Try.func5 (by kernel_rfl)
    (of_decide_eq_true (by kernel_rfl)) (by unfold Func.isWrapper; first | (rw [if_pos (by decide +kernel)]; kernel_rfl) | (rw [if_neg (by decide +kernel)]; exact ⟨rfl, rfl⟩))
    (fun os started H enc _ => lifted os started H enc)
theorem proved : Rows.ModesChecksSaid := over
#print axioms proved
end Go.Proofs.Ytmmjbobicnmilaa.modesChecks
namespace Go.Proofs.Ytmmjbobicnmilaa
/-- The row, under a short name, for the claim. -/
theorem modesChecks_holds : Rows.ModesChecksSaid := modesChecks.proved
end Go.Proofs.Ytmmjbobicnmilaa
