/- What the print's words and the walks are, as far as this claim names them. -/
import Derived.Test.YtkdaeleolomdkaaYWQPut
import Derived.Test.YtkdaeleolomdkaaYWMore
namespace Go.Proofs.YtkdaeleolomdkaaW.PrintWords
open Go.RowKit
namespace Kd
section
variable {α : Type} {d : Kd α} {e base N n cap g m : Nat} {W W1 : World} {v : Value} {xs : List α} {rows : List (List Value)}
end
end Kd
end Go.Proofs.YtkdaeleolomdkaaW.PrintWords
