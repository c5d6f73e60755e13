import Derived.Test.YtloocmeckpoflaaYWInv
import Derived.Test.YtloocmeckpoflaaYWFootNe
namespace Go.Proofs.YtloocmeckpoflaaW.PrintWords
open Go.RowKit
end Go.Proofs.YtloocmeckpoflaaW.PrintWords
namespace Go.Proofs.YtloocmeckpoflaaW.PrintLast
section
variable {ops : Array Oper} {a : Act} {o og : Oper} {g : Nat} {t : Tmp} {u : Bool}
end
end Go.Proofs.YtloocmeckpoflaaW.PrintLast
