/- What the print's words and the walks are, as far as this claim names them. -/
import Derived.Test.YtloocmeckpoflaaGreatYTreeMath
import Derived.Test.YtloocmeckpoflaaGreatYD22
namespace Go.Proofs.YtloocmeckpoflaaGreat.TreeEv
set_option linter.unusedVariables false
set_option linter.unusedSimpArgs false
open Go.RowKit Go.Proofs.YtloocmeckpoflaaGreat.D Go.Proofs.YtloocmeckpoflaaGreatW.PrintWords Go.Proofs.YtloocmeckpoflaaGreatW.PrintLast Go.Proofs.YtloocmeckpoflaaGreatW.PrintMore TreeMath
theorem alive_is : fanlightlaw09_alive.f = some true := by
 first | kernel_rfl | decide +kernel
theorem alive_det (r : Bool) (h : fanlightlaw09_alive.f = some r) : r = true := by
 rw [alive_is] at h
 exact (Option.some.inj h).symm
end Go.Proofs.YtloocmeckpoflaaGreat.TreeEv
