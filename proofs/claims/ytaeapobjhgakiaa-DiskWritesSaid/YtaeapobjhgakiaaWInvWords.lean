-- trimmed by wip/tools/trim.py out of what print.sh lays for a claim
import Derived.Test.YtaeapobjhgakiaaWInv
import Derived.Test.YtaeapobjhgakiaaWFootNe
namespace Go.Proofs.YtaeapobjhgakiaaW.PrintWords
open Go.RowKit
end Go.Proofs.YtaeapobjhgakiaaW.PrintWords
namespace Go.Proofs.YtaeapobjhgakiaaW.PrintLast
section
variable {ops : Array Oper} {a : Act} {o og : Oper} {g : Nat} {t : Tmp} {u : Bool}
end
end Go.Proofs.YtaeapobjhgakiaaW.PrintLast
