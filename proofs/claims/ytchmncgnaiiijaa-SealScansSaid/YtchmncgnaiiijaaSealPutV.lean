/- What the program's functions of layer 4 come to, said by the plain words. -/
import Derived.Test.YtchmncgnaiiijaaV11
import Derived.Test.YtchmncgnaiiijaaV12
import Derived.Test.YtchmncgnaiiijaaV13
namespace Go.Proofs.Ytchmncgnaiiijaa.SealPutV
set_option linter.unusedVariables false
set_option linter.unusedSimpArgs false
open Go.RowKit Go.Proofs.Ytchmncgnaiiijaa.V Go.Proofs.YtchmncgnaiiijaaW.PrintWords Go.Proofs.YtchmncgnaiiijaaW.PrintLast

theorem wrapI {i : Int} (h0 : -9223372036854775808 ≤ i) (h1 : i ≤ 9223372036854775807) : wrap64 i = i := by unfold wrap64; omega
theorem copy_is {l : List Int} (h : l.length < 140737488355328) : fanlightplain_CopyBytes.f l = some l := by
  unfold fanlightplain_CopyBytes.f
  rw [if_pos (by simpa using h), List.nil_append]
theorem of_is {k : Int} {l : List Int} (h : l.length < 140737488355328) : fanlightlaw04_of.f k l = some (k, l) := by
  unfold fanlightlaw04_of.f
  rw [copy_is h, Option.bind_some]
theorem same_is (k : Int) (l : List Int) : fanlightlaw04_same.f k l k l = some true := by
  unfold fanlightlaw04_same.f fanlightplain_SameBytes.f
  rw [if_pos rfl, Option.bind_some, beq_self_eq_true]

end Go.Proofs.Ytchmncgnaiiijaa.SealPutV
