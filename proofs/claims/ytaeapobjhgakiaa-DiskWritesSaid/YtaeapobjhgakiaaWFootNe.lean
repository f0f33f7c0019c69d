-- trimmed by wip/tools/trim.py out of what print.sh lays for a claim
import Derived.Test.YtaeapobjhgakiaaWN
namespace Go.Proofs.YtaeapobjhgakiaaW.PrintWords
open Go.RowKit
namespace Kd
section
variable {α : Type} {d : Kd α} {W : World} {g n : Nat} {S ok : Nat → Prop} {A : Option Addr} {ad : Addr} {xs : List α}
end
end Kd
end Go.Proofs.YtaeapobjhgakiaaW.PrintWords
