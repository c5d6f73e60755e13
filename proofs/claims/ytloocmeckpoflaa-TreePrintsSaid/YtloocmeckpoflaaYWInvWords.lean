import Derived.Test.YtloocmeckpoflaaYWTab
import Derived.Test.YtloocmeckpoflaaYWFootNe
namespace Go.Proofs.YtloocmeckpoflaaW.PrintLast
section
variable {P : Program} {ops : Array Oper} {Q : Exit → Act → World → Prop} {md : Region.Mode} {T : Bool × List (List Nat × List Nat)} {B : List Nat} {O : List Nat} {b : Nat → Bool} {i j n : Nat}
end
end Go.Proofs.YtloocmeckpoflaaW.PrintLast
namespace Go.Proofs.YtloocmeckpoflaaW.PrintWords
open Go.RowKit
end Go.Proofs.YtloocmeckpoflaaW.PrintWords
namespace Go.Proofs.YtloocmeckpoflaaW.PrintLast
section
variable {ops : Array Oper} {a : Act} {o og : Oper} {g : Nat} {t : Tmp} {u : Bool}
end
end Go.Proofs.YtloocmeckpoflaaW.PrintLast
