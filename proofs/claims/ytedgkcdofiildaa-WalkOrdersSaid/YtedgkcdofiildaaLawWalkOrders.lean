-- written by mp.py (wip/tools), a program of this session, over the kit's print
import Derived.Test.YtedgkcdofiildaaRows
import Derived.Test.YtedgkcdofiildaaPWalkOrdersx11
import Derived.Test.YtedgkcdofiildaaQWalkOrders
import Derived.Test.YtedgkcdofiildaaPureWalkOrders
import Derived.WalkKit
import Derived.ProofKit
import Derived.OpenShut
import Derived.ShutString
import Derived.ChangeOld
import Derived.Below
import Derived.SizedLaws
import Derived.Carry
namespace Go.Proofs.Ytedgkcdofiildaa.walkOrders
open Go.ChangeShapes Go.WideShapes Go.ChangeAt Go.RowKit
open Go.ChangeMaps (open_string shut_string)
open Go.Proofs.Ytedgkcdofiildaa.P Go.Proofs.Ytedgkcdofiildaa.Opens Go.Proofs.YtedgkcdofiildaaW.PrintWords Go.Proofs.YtedgkcdofiildaaW.PrintLast Go.Proofs.YtedgkcdofiildaaW.PrintMore
set_option linter.unusedVariables false
theorem own : ownKnob Try.prog.godebug = none := by kernel_rfl
theorem laidOut : laidOutB Try.prog = true := by kernel_rfl
theorem op48 : Opens Try.prog 48 k48 ok48 := opens_iso (opens_struct Try.underlying48 (opensF_cons 0 (opens_string Try.underlying9) rfl (by kernel_rfl) (opensF_cons 1 (opens_slice 16 Try.underlying23 (opens_string Try.underlying9) (by kernel_rfl) (by kernel_rfl)) rfl (by kernel_rfl) (opensF_cons 2 (opens_slice 16 Try.underlying23 (opens_string Try.underlying9) (by kernel_rfl) (by kernel_rfl)) rfl (by kernel_rfl) (opensF_cons 3 (opens_bool Try.underlying4) rfl (by kernel_rfl) (opensF_cons 4 (opens_string Try.underlying9) rfl (by kernel_rfl) (opensF_cons 5 (opens_string Try.underlying9) rfl (by kernel_rfl) (opensF_cons 6 (opens_bool Try.underlying4) rfl (by kernel_rfl) (opensF_cons 7 (opens_bool Try.underlying4) rfl (by kernel_rfl) (opensF_cons 8 (opens_bool Try.underlying4) rfl (by kernel_rfl) (opensF_one 9 (opens_bool Try.underlying4) rfl (by kernel_rfl))))))))))) (by kernel_rfl)) (fun x : S48 => (x.f0, x.f1, x.f2, x.f3, x.f4, x.f5, x.f6, x.f7, x.f8, x.f9)) (fun p => ⟨p.1, p.2.1, p.2.2.1, p.2.2.2.1, p.2.2.2.2.1, p.2.2.2.2.2.1, p.2.2.2.2.2.2.1, p.2.2.2.2.2.2.2.1, p.2.2.2.2.2.2.2.2.1, p.2.2.2.2.2.2.2.2.2⟩) (fun _ => rfl)
theorem op25 : Opens Try.prog 25 k25 ok25 := opens_iso (opens_struct Try.underlying25 (opensF_cons 0 (opens_slice 112 Try.underlying22 op48 (by kernel_rfl) (by kernel_rfl)) rfl (by kernel_rfl) (opensF_one 1 (opens_slice 16 Try.underlying23 (opens_string Try.underlying9) (by kernel_rfl) (by kernel_rfl)) rfl (by kernel_rfl))) (by kernel_rfl)) (fun x : S25 => (x.f0, x.f1)) (fun p => ⟨p.1, p.2⟩) (fun _ => rfl)
set_option maxRecDepth 100000 in
set_option maxHeartbeats 1000000 in
theorem lifted (os : Os) (started : os.Started) (H : Type) (enc : TypeId × Value → H) :
    ReturnsInHanded {} Try.checked os 4 .any (Rows.walkOrdersSpec.pre6 enc Try.prog Try.f4 Rows.walkOrdersRow.domain false) (Rows.walkOrdersSpec.post enc Try.prog Try.f4 false true false false) := by
  refine returnsInHanded_of_change_sized (C := Try.checked) own started (by kernel_rfl) Try.func4
    (ChangeSpec.witness6 (enc := enc) (C := Try.checked) false ⟨#[], #[.agg #[.slice none 0 0, .slice none 0 0], .slice none 0 0], []⟩ 8 (by kernel_rfl) (by kernel_rfl) (by kernel_rfl) (by kernel_rfl)) ?_
  intro W base args ds gs before hval0 hW hcnd hsz0 _
  have hsz : (DataW.weightsEach Try.prog (Try.f4.params.toList ++ Rows.walkOrdersSpec.plain.varTypes Try.prog) (ds ++ gs)).all (· ≤ reachBytes) = true := hsz0
  have hval : ∀ (j : Nat) t v, Try.f4.params[j]? = some t → args[j]? = some v → Value.okWide Try.prog W .any base t v := hval0
  have hW' := hW
  obtain ⟨p, q, hA0, hV, rfl, hfz, hnd⟩ := hW
  have hA : DataW.TrodAll enc Try.prog W 0 (fun _ => true) true Try.f4.params.toList args.toList ds p := hA0
  rw [Try.params4] at hA hval hsz
  obtain ⟨v0, vs0, d0, ds0, p0, q0, hargs, rfl, rfl, h0, r0⟩ := trodAll_cons hA
  obtain ⟨v1, vs1, d1, ds1, p1, q1, rfl, rfl, rfl, h1, r1⟩ := trodAll_cons r0
  obtain ⟨rfl, rfl, rfl⟩ := trodAll_nil r1
  obtain rfl : args = #[v0, v1] := by cases args; simp_all
  obtain ⟨rfl, rfl⟩ := trodVars_none hV
  have k0 := h0
  have lt0 : ∀ x ∈ p0, x.block < W.heap.size := by obtain ⟨m, hm⟩ := k0; exact DataW.trod_lt m _ _ _ hm
  have z0 : ∀ n ∈ DataW.weights Try.prog 25 d0, n ≤ 140737488351232 := fun n hn => by
    have h2 : decide (n ≤ reachBytes) = true := List.all_eq_true.1 hsz n (DataW.weights_mem_each (j := 0) rfl rfl n hn)
    exact of_decide_eq_true h2
  obtain ⟨cs0, rfl, _⟩ := okWide_struct Try.underlying25 (hval 0 25 v0 rfl rfl)
  obtain ⟨x0, hk0, o0⟩ : ∃ x, k25.K W x cs0.toList ∧ ok25 x := by obtain ⟨m, hm⟩ := h0; exact op25 H enc W _ _ m _ _ _ (by simpa [Value.cells] using hm) z0
  have hopen0 := k25_open hk0
  obtain ⟨A0_0, c0_0, A0_1, c0_1, hcs0, l0_0, g0_0, l0_1, g0_1⟩ := hopen0
  obtain rfl : cs0 = #[.slice A0_0 x0.f0.length c0_0, .slice A0_1 x0.f1.length c0_1] := Array.toList_inj.1 hcs0
  have k1 := h1
  have lt1 : ∀ x ∈ p1, x.block < W.heap.size := by obtain ⟨m, hm⟩ := k1; exact DataW.trod_lt m _ _ _ hm
  have z1 : ∀ n ∈ DataW.weights Try.prog 38 d1, n ≤ 140737488351232 := fun n hn => by
    have h2 : decide (n ≤ reachBytes) = true := List.all_eq_true.1 hsz n (DataW.weights_mem_each (j := 1) rfl rfl n hn)
    exact of_decide_eq_true h2
  obtain ⟨a1, len1, cap1, rfl⟩ := okWide_slice Try.underlying38 (hval 1 38 v1 rfl rfl)
  obtain ⟨x1, ⟨A1_0, c1_0, hcs1, l1_0, g1_0⟩, o1⟩ : ∃ x, (Kd.slice 3 (Kd.int .i64)).K W x [.slice a1 len1 cap1] ∧ (x.length * 8 ≤ 140737488351232 ∧ ∀ y ∈ x, (Lit.int .i64 y).wf = true) := by obtain ⟨m, hm⟩ := h1; exact (opens_slice 8 Try.underlying38 (opens_int Try.underlying3) (by kernel_rfl) (by kernel_rfl)) H enc W _ _ m _ _ _ (by simpa [Value.cells] using hm) z1
  obtain ⟨rfl, rfl, rfl⟩ : a1 = A1_0 ∧ len1 = x1.length ∧ cap1 = c1_0 := by simpa using hcs1
  clear hA0 hval0 hsz0 hsz
  obtain ⟨k, hpure⟩ := (Pure.WalkOrders x0 x1 o0 o1)
  refine (smithylaw14_WalkOrders.calls k A0_0 c0_0 x0.f0 A0_1 c0_1 x0.f1 a1 cap1 x1 true W g0_0 l0_0 g0_1 l0_1 g1_0 l1_0 hpure rfl).mono fun e W' hpost => ?_
  obtain ⟨he, hd⟩ := hpost
  have bel : Below W.heap.size W W' := hd
  subst he
  exact ⟨_, rfl, _, _, _, [], _, [], hW', trodAll_mk1 (shut_bool Try.underlying4 _), (trodAll_cons_mk (Below.trod laidOut (by kernel_rfl) (of_decide_eq_true (by kernel_rfl)) k0 bel lt0) (trodAll_cons_mk (Below.trod laidOut (by kernel_rfl) (of_decide_eq_true (by kernel_rfl)) k1 bel lt1) trodAll_mk0)), rfl, bel.frame _, fun h => by cases h⟩
theorem over : Rows.walkOrdersRow.holds Try.pinned (OpenSpec.ofChange Rows.walkOrdersSpec) :=
  OpenClaim.holds_of_wide 4 Try.f4 rfl rfl rfl rfl rfl rfl rfl ⟨rfl, rfl, rfl, rfl, rfl⟩ rfl rfl rfl rfl rfl (by kernel_rfl) Try.func4 (by kernel_rfl)
    (of_decide_eq_true (by kernel_rfl)) (by unfold Func.isWrapper; first | (rw [if_pos (by decide +kernel)]; kernel_rfl) | (rw [if_neg (by decide +kernel)]; exact ⟨rfl, rfl⟩))
    (fun os started H enc _ => lifted os started H enc)
theorem proved : Rows.WalkOrdersSaid := over
#print axioms proved
end Go.Proofs.Ytedgkcdofiildaa.walkOrders
namespace Go.Proofs.Ytedgkcdofiildaa
/-- The row, under a short name, for the claim. -/
theorem walkOrders_holds : Rows.WalkOrdersSaid := walkOrders.proved
end Go.Proofs.Ytedgkcdofiildaa
