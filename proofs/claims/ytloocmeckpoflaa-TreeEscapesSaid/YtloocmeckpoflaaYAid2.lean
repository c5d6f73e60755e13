/- What the print's words and the walks are, as far as this claim names them. -/
import Derived.Test.YtloocmeckpoflaaYWNEv
import Derived.Test.YtloocmeckpoflaaYWMore
namespace Go.Proofs.YtloocmeckpoflaaW.PrintWords
open Go.RowKit
namespace Kd
section
variable {α : Type} {d : Kd α} {e base n : Nat} {ok : Nat → Prop} {w0 w W : World} {v : Value} {xs : List α} {A : Option Addr}
end
section
variable {α : Type} {d : Kd α} {e base N n cap g m : Nat} {W W1 : World} {v : Value} {xs : List α} {rows : List (List Value)}
end
end Kd
end Go.Proofs.YtloocmeckpoflaaW.PrintWords
