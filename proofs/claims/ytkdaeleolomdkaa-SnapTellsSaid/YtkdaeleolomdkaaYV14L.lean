import Derived.Test.YtkdaeleolomdkaaYV0
import Derived.Test.YtkdaeleolomdkaaYV1
import Derived.Test.YtkdaeleolomdkaaYV10
import Derived.Test.YtkdaeleolomdkaaYV12
import Derived.Test.YtkdaeleolomdkaaYV13
namespace Go.Proofs.Ytkdaeleolomdkaa.V
open Go.RowKit Go.Proofs.YtkdaeleolomdkaaW.PrintWords Go.Proofs.YtkdaeleolomdkaaW.PrintLast Go.Proofs.YtkdaeleolomdkaaW.PrintMore
attribute [local go_sem] max2_int min2_int max_two min_two max_three min_three max_four min_four   -- for this text's walks alone
set_option linter.unusedVariables false
set_option linter.unusedSimpArgs false
def snap_Decode.f (k : Nat) (l0 : List Int) : Option (Int × Int × List Int × Int) := if (l0.length : Int) = 8160 then ((seal_Get.f l0).bind fun bt186 => (if bt186.2.2.2 = 0 then (if bt186.1 = 3 then (if (bt186.2.1.length : Int) < 16 then (some (0, 0, ([] : List Int), 8)) else ((snap_number.f k bt186.2.1).bind fun t193 => (if 8 ≤ (bt186.2.1.length : Int) then ((snap_number.f k (bt186.2.1.drop 8)).bind fun t198 => (if 16 ≤ (bt186.2.1.length : Int) then ((bytes_Clone.f (bt186.2.1.drop 16)).bind fun t203 => ((snap_Check.f k t193 t198 t203).bind fun t207 => (if t207 = 0 then ((some (([0] : List Int) : List Int)).bind fun y208 => (if 0 ≤ bt186.2.2.1 then (if bt186.2.2.1 ≤ (l0.length : Int) then ((some (l0.drop (bt186.2.2.1 : Int).toNat : List Int)).bind fun y211 => (if y208.length + y211.length < 140737488355328 then ((slices_Max_byte_byte.f k (y208 ++ y211)).bind fun t218 => (if t218 > 0 then (some (0, 0, ([] : List Int), 23)) else (some (t193, t198, t203, 0)))) else (none))) else (none)) else (none))) else (some (0, 0, ([] : List Int), t207))))) else (none))) else (none)))) else (some (0, 0, ([] : List Int), 22))) else (some (0, 0, ([] : List Int), bt186.2.2.2)))) else (some (0, 0, ([] : List Int), 3))
theorem snap_Decode.mono : ∀ a0 k, LeO (snap_Decode.f k a0) (snap_Decode.f (k + 1) a0) := by
  intro a0 k
  unfold snap_Decode.f
  repeat' first
      | (with_reducible exact slices_Max_byte_byte.mono _ _)
      | (with_reducible exact snap_Check.mono _ _ _ _)
      | (with_reducible exact snap_number.mono _ _)
      | (with_reducible exact LeO.refl _)
      | (with_reducible exact LeO.none _)
      | (with_reducible refine LeO.ite ?_ ?_)
      | (with_reducible refine LeO.bind ?_ (fun _ => ?_))
      | exact slices_Max_byte_byte.mono _ _
      | exact snap_Check.mono _ _ _ _
      | exact snap_number.mono _ _
      | exact LeO.none _
      | refine LeO.ite ?_ ?_
      | refine LeO.bind ?_ (fun _ => ?_)
def snap_Decode.T10 : Bool × List (List Nat × List Nat) := (true, [([], []), ([0], [0]), ([1], [1]), ([], []), ([3], [3]), ([4], [4]), ([5, 2], [5]), ([], []), ([7], [7]), ([8], [8]), ([9, 6], [9]), ([2, 6, 10], [2, 6, 10]), ([], []), ([12, 11, 10, 0, 1, 2, 3, 4, 5, 6, 7, 8, 9, 10, 11, 12], [11, 12])])
def snap_Decode.B10 : List Nat := [0, 1, 3, 0, 8, 24, 63, 0, 128, 384, 1023, 2047, 0, 8191]
theorem snap_Decode.tab10 : rtab .any (opsOf Try.f17 10) = snap_Decode.T10 := by kernel_rfl
theorem snap_Decode.bits10 : waitsOk snap_Decode.T10.2 snap_Decode.B10 = true := by kernel_rfl
end Go.Proofs.Ytkdaeleolomdkaa.V
