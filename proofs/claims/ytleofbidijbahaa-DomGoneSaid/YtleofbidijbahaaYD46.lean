import Derived.Test.YtleofbidijbahaaYD0
namespace Go.Proofs.Ytleofbidijbahaa.D
open Go.RowKit Go.Proofs.YtleofbidijbahaaW.PrintWords Go.Proofs.YtleofbidijbahaaW.PrintLast Go.Proofs.YtleofbidijbahaaW.PrintMore
attribute [local go_sem] max2_int min2_int max_two min_two max_three min_three max_four min_four   -- for this text's walks alone
set_option linter.unusedVariables false
set_option linter.unusedSimpArgs false
def fanlightlaw10_num.f (a0 : Int) : Option (Int) := some a0
set_option maxHeartbeats 8000000 in
set_option maxRecDepth 100000 in
theorem fanlightlaw10_num.calls (a0 : Int) (r : Int) (w : World) (h : fanlightlaw10_num.f a0 = some r) :
  Calls Try.prog 16 #[.int .i64 a0] w fun e w' => e = .returned (.int .i64 r) ∧ Drawn0 w w' := by
 have H : (some a0) = some r := h
 clear h
 obtain rfl := Option.some.inj H
 go_enter Try.func16, Try.ntmps16
 go_wp2
 go_ret
 exact ⟨by first | rfl | (simp; done) | (simp [*]; done), by repeat (first | exact Drawn0.refl _ | apply Drawn0.step)⟩
end Go.Proofs.Ytleofbidijbahaa.D
