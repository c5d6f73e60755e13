import Derived.Test.YtkdaeleolomdkaaYWInv
import Derived.Test.YtkdaeleolomdkaaYWFootNe
namespace Go.Proofs.YtkdaeleolomdkaaW.PrintWords
open Go.RowKit
end Go.Proofs.YtkdaeleolomdkaaW.PrintWords
namespace Go.Proofs.YtkdaeleolomdkaaW.PrintLast
section
variable {ops : Array Oper} {a : Act} {o og : Oper} {g : Nat} {t : Tmp} {u : Bool}
end
end Go.Proofs.YtkdaeleolomdkaaW.PrintLast
