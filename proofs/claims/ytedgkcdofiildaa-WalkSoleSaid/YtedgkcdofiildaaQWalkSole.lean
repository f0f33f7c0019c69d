import Derived.Test.YtedgkcdofiildaaFSx4
set_option linter.unusedVariables false
set_option linter.unusedSimpArgs false
set_option linter.unnecessarySimpa false
set_option linter.deprecated false
namespace Go.Proofs.Ytedgkcdofiildaa.F
open Go Go.RowKit Go.Proofs.Ytedgkcdofiildaa.Sl
def okNode (x : Node) : Prop := (x.Target.size ≤ 140737488351232) ∧ (((x.Needs.length * 16 ≤ 140737488351232 ∧ ∀ y ∈ x.Needs, y.size ≤ 140737488351232)) ∧ (((x.Recipe.length * 16 ≤ 140737488351232 ∧ ∀ y ∈ x.Recipe, y.size ≤ 140737488351232)) ∧ ((True) ∧ ((x.Source.size ≤ 140737488351232) ∧ ((x.Stem.size ≤ 140737488351232) ∧ ((True) ∧ ((True) ∧ ((True) ∧ ((True))))))))))
def okPlan (x : Plan) : Prop := ((x.Nodes.length * 112 ≤ 140737488351232 ∧ ∀ y ∈ x.Nodes, okNode y)) ∧ (((x.Goals.length * 16 ≤ 140737488351232 ∧ ∀ y ∈ x.Goals, y.size ≤ 140737488351232)))
theorem op48 : Opens Try.prog 48 kNode okNode := opens_iso (opens_struct Try.underlying48 (opensF_cons 0 (opens_string Try.underlying9) rfl (by kernel_rfl) (opensF_cons 1 (opens_slice 16 Try.underlying23 (opens_string Try.underlying9) (by kernel_rfl) (by kernel_rfl) rfl) rfl (by kernel_rfl) (opensF_cons 2 (opens_slice 16 Try.underlying23 (opens_string Try.underlying9) (by kernel_rfl) (by kernel_rfl) rfl) rfl (by kernel_rfl) (opensF_cons 3 (opens_bool Try.underlying4) rfl (by kernel_rfl) (opensF_cons 4 (opens_string Try.underlying9) rfl (by kernel_rfl) (opensF_cons 5 (opens_string Try.underlying9) rfl (by kernel_rfl) (opensF_cons 6 (opens_bool Try.underlying4) rfl (by kernel_rfl) (opensF_cons 7 (opens_bool Try.underlying4) rfl (by kernel_rfl) (opensF_cons 8 (opens_bool Try.underlying4) rfl (by kernel_rfl) (opensF_one 9 (opens_bool Try.underlying4) rfl (by kernel_rfl))))))))))) (by kernel_rfl)) (fun x : Node => (x.Target, x.Needs, x.Recipe, x.Has, x.Source, x.Stem, x.Phony, x.Precious, x.Ignore, x.Silent)) (fun p => ⟨p.1, p.2.1, p.2.2.1, p.2.2.2.1, p.2.2.2.2.1, p.2.2.2.2.2.1, p.2.2.2.2.2.2.1, p.2.2.2.2.2.2.2.1, p.2.2.2.2.2.2.2.2.1, p.2.2.2.2.2.2.2.2.2⟩) (fun _ => rfl)
theorem op25 : Opens Try.prog 25 kPlan okPlan := opens_iso (opens_struct Try.underlying25 (opensF_cons 0 (opens_slice 112 Try.underlying22 op48 (by kernel_rfl) (by kernel_rfl) rfl) rfl (by kernel_rfl) (opensF_one 1 (opens_slice 16 Try.underlying23 (opens_string Try.underlying9) (by kernel_rfl) (by kernel_rfl) rfl) rfl (by kernel_rfl))) (by kernel_rfl)) (fun x : Plan => (x.Nodes, x.Goals)) (fun p => ⟨p.1, p.2⟩) (fun _ => rfl)
/-- The pure statement of smithy/smithylaw14.WalkSole. -/
def smithylaw14_WalkSole.Pure : Prop := ∀ (x0 : Plan), okPlan x0 → ∃ k, smithylaw14_WalkSole.f k x0 = some true
end Go.Proofs.Ytedgkcdofiildaa.F
