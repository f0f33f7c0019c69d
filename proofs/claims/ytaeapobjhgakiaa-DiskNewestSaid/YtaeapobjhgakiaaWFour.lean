-- trimmed by wip/tools/trim.py out of what print.sh lays for a claim
import Derived.Test.YtaeapobjhgakiaaWTab
namespace Go.Proofs.YtaeapobjhgakiaaW.PrintLast
section
variable {P : Program} {ops : Array Oper} {Q : Exit → Act → World → Prop} {md : Region.Mode} {S : World → Prop} {ds : List Nat} {T : Bool × List (List Nat × List Nat)}
end
end Go.Proofs.YtaeapobjhgakiaaW.PrintLast
