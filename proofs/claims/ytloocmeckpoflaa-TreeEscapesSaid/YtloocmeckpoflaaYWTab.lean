import Derived.Test.YtloocmeckpoflaaYWLast
import Derived.Test.YtloocmeckpoflaaYWWords
namespace Go.Proofs.YtloocmeckpoflaaW.PrintLast
open Go.Proofs.YtloocmeckpoflaaW.PrintWords (Aside0)
section
variable {md : Region.Mode} {ops : Array Oper} {T : Bool × List (List Nat × List Nat)} {l l' li lj lk : Array Bool} {ds : List Nat} {i j k : Nat}
end
end Go.Proofs.YtloocmeckpoflaaW.PrintLast
