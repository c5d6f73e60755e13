/- What the print's words and the walks are, as far as this claim names them. -/
import Derived.Test.YtloocmeckpoflaaYAid
import Derived.Test.YtloocmeckpoflaaYAid2
namespace Go
section
variable {P : Program} {ops : Array Oper} {Q : Exit → Act → World → Prop} {l n : Nat} {rest : List Oper} {o : Oper} {a : Act} {W : World}
end
end Go
