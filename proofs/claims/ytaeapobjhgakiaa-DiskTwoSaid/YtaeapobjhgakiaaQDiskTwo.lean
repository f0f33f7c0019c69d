import Derived.Test.YtaeapobjhgakiaaFKx2
set_option linter.unusedVariables false
set_option linter.unusedSimpArgs false
set_option linter.unnecessarySimpa false
set_option linter.deprecated false
namespace Go.Proofs.Ytaeapobjhgakiaa.F
open Go Go.RowKit Go.Proofs.Ytaeapobjhgakiaa.Sl
def okFile (x : File) : Prop := (x.Name.size ≤ 140737488351232) ∧ ((x.Text.size ≤ 140737488351232) ∧ (((Lit.int .i64 x.Stamp).wf = true)))
def okDisk (x : Disk) : Prop := ((Lit.int .i64 x.Clock).wf = true) ∧ (((x.Files.length * 40 ≤ 140737488351232 ∧ ∀ y ∈ x.Files, okFile y)))
theorem op26 : Opens Try.prog 26 kFile okFile := opens_iso (opens_struct Try.underlying26 (opensF_cons 0 (opens_string Try.underlying9) rfl (by kernel_rfl) (opensF_cons 1 (opens_string Try.underlying9) rfl (by kernel_rfl) (opensF_one 2 (opens_int Try.underlying3) rfl (by kernel_rfl)))) (by kernel_rfl)) (fun x : File => (x.Name, x.Text, x.Stamp)) (fun p => ⟨p.1, p.2.1, p.2.2⟩) (fun _ => rfl)
theorem op24 : Opens Try.prog 24 kDisk okDisk := opens_iso (opens_struct Try.underlying24 (opensF_cons 0 (opens_int Try.underlying3) rfl (by kernel_rfl) (opensF_one 1 (opens_slice 40 Try.underlying22 op26 (by kernel_rfl) (by kernel_rfl) rfl) rfl (by kernel_rfl))) (by kernel_rfl)) (fun x : Disk => (x.Clock, x.Files)) (fun p => ⟨p.1, p.2⟩) (fun _ => rfl)
/-- The pure statement of smithy/smithylaw02.DiskTwo. -/
def smithylaw02_DiskTwo.Pure : Prop := ∀ (x0 : Disk) (x1 : File) (x2 : File), okDisk x0 → okFile x1 → okFile x2 → ∃ k, smithylaw02_DiskTwo.f k x0 x1 x2 = some true
end Go.Proofs.Ytaeapobjhgakiaa.F
