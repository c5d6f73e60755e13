import Derived.Test.YtkdaeleolomdkaaYV0
import Derived.Test.YtkdaeleolomdkaaYV1
import Derived.Test.YtkdaeleolomdkaaYV7
import Derived.Test.YtkdaeleolomdkaaYV8
import Derived.Test.YtkdaeleolomdkaaYV9
import Derived.Test.YtkdaeleolomdkaaYV14
import Derived.Test.YtkdaeleolomdkaaYV17
import Derived.Test.YtkdaeleolomdkaaYV18
import Derived.Test.YtkdaeleolomdkaaYV19
import Derived.Test.YtkdaeleolomdkaaYV20
namespace Go.Proofs.Ytkdaeleolomdkaa.V
open Go.RowKit Go.Proofs.YtkdaeleolomdkaaW.PrintWords Go.Proofs.YtkdaeleolomdkaaW.PrintLast Go.Proofs.YtkdaeleolomdkaaW.PrintMore
attribute [local go_sem] max2_int min2_int max_two min_two max_three min_three max_four min_four   -- for this text's walks alone
set_option linter.unusedVariables false
set_option linter.unusedSimpArgs false
def fanlightlaw07_SnapTells.f (k : Nat) (a0_0 : Int) (a0_1 : Int) (l0_2 : List Int) (l1 : List Int) (l2 : List Int) : Option (Bool) := (fanlightlaw07_of.f a0_0 a0_1 l0_2).bind fun bt266 => ((fanlightlaw07_slot.f l1).bind fun t271 => ((fanlightlaw07_slot.f l2).bind fun t274 => ((snap_Encode.f bt266.1 bt266.2.1 bt266.2.2).bind fun bt278 => ((fanlightref07_Encode.f k a0_0 a0_1 l0_2).bind fun bt282 => ((snap_Decode.f k t271).bind fun bt286 => ((fanlightlaw07_slot.f l1).bind fun t293 => ((fanlightref07_Decode.f k t293).bind fun bt296 => ((snap_Newest.f k t271 t274).bind fun bt303 => ((fanlightlaw07_slot.f l1).bind fun t311 => ((fanlightlaw07_slot.f l2).bind fun t314 => ((fanlightref07_Newest.f k t311 t314).bind fun bt317 => ((snap_Decode.f k l1).bind fun bt325 => ((fanlightref07_Decode.f k l1).bind fun bt332 => ((fanlightplain_SameBytes.f bt278.1 bt282.1).bind fun t339 => (if t339 = true then ((fanlightlaw07_num.f bt278.2).bind fun t340 => (if t340 = bt282.2 then ((fanlightlaw07_same.f bt286.1 bt286.2.1 bt286.2.2.1 bt296.1 bt296.2.1 bt296.2.2.1).bind fun t341 => (if t341 = true then ((fanlightlaw07_num.f bt286.2.2.2).bind fun t342 => (if t342 = bt296.2.2.2 then ((fanlightlaw07_same.f bt303.1 bt303.2.1 bt303.2.2.1 bt317.1 bt317.2.1 bt317.2.2.1).bind fun t343 => (if t343 = true then (if bt303.2.2.2.1 = bt317.2.2.2.1 then ((fanlightlaw07_num.f bt303.2.2.2.2).bind fun t344 => (if t344 = bt317.2.2.2.2 then ((fanlightlaw07_same.f bt325.1 bt325.2.1 bt325.2.2.1 bt332.1 bt332.2.1 bt332.2.2.1).bind fun t345 => (if t345 = true then ((fanlightlaw07_num.f bt325.2.2.2).bind fun t346 => (if t346 = bt332.2.2.2 then ((snap_Check.f k bt266.1 bt266.2.1 bt266.2.2).bind fun t347 => ((fanlightlaw07_num.f t347).bind fun t348 => ((fanlightref07_Check.f k a0_0 a0_1 l0_2).bind fun t349 => (if t348 = t349 then ((fanlightlaw07_same.f bt266.1 bt266.2.1 bt266.2.2 a0_0 a0_1 l0_2).bind fun t350 => (if t350 = true then ((fanlightlaw07_slot.f l1).bind fun t351 => ((fanlightplain_SameBytes.f t271 t351).bind fun t354 => (if t354 = true then ((fanlightlaw07_alive.f).bind fun t355 => (some t355)) else (some false)))) else (some false))) else (some false))))) else (some false))) else (some false))) else (some false))) else (some false)) else (some false))) else (some false))) else (some false))) else (some false))) else (some false))))))))))))))))
theorem fanlightlaw07_SnapTells.mono : ∀ a0 a1 a2 a3 a4 k, LeO (fanlightlaw07_SnapTells.f k a0 a1 a2 a3 a4) (fanlightlaw07_SnapTells.f (k + 1) a0 a1 a2 a3 a4) := by
  intro a0 a1 a2 a3 a4 k
  unfold fanlightlaw07_SnapTells.f
  repeat' first
      | (with_reducible exact fanlightref07_Check.mono _ _ _ _)
      | (with_reducible exact fanlightref07_Decode.mono _ _)
      | (with_reducible exact fanlightref07_Encode.mono _ _ _ _)
      | (with_reducible exact fanlightref07_Newest.mono _ _ _)
      | (with_reducible exact snap_Check.mono _ _ _ _)
      | (with_reducible exact snap_Decode.mono _ _)
      | (with_reducible exact snap_Newest.mono _ _ _)
      | (with_reducible exact LeO.refl _)
      | (with_reducible exact LeO.none _)
      | (with_reducible refine LeO.ite ?_ ?_)
      | (with_reducible refine LeO.bind ?_ (fun _ => ?_))
      | exact fanlightref07_Check.mono _ _ _ _
      | exact fanlightref07_Decode.mono _ _
      | exact fanlightref07_Encode.mono _ _ _ _
      | exact fanlightref07_Newest.mono _ _ _
      | exact snap_Check.mono _ _ _ _
      | exact snap_Decode.mono _ _
      | exact snap_Newest.mono _ _ _
      | exact LeO.none _
      | refine LeO.ite ?_ ?_
      | refine LeO.bind ?_ (fun _ => ?_)
def fanlightlaw07_SnapTells.T10 : Bool × List (List Nat × List Nat) := (true, [([], []), ([], []), ([0, 1], [0, 1]), ([2, 2], [2]), ([3], [3]), ([4, 3, 3], [3, 4]), ([3], [3]), ([5, 6, 3], [3, 5, 6]), ([3, 7], [3, 7]), ([8, 5], [8]), ([9], [9]), ([9], [9]), ([10, 11, 9, 9], [9, 10, 11]), ([9, 12], [9, 12]), ([13, 12], [13]), ([14], [14]), ([15, 14, 14], [14, 15]), ([14], [14]), ([16, 17, 14], [14, 16, 17]), ([14, 18], [14, 18]), ([19, 16], [19]), ([20], [20]), ([20], [20]), ([21, 22, 20, 20], [20, 21, 22]), ([20, 23], [20, 23]), ([24, 23], [24]), ([25], [25]), ([25], [25]), ([26, 27, 25], [25, 26, 27]), ([25, 28], [25, 28]), ([29, 25], [29]), ([30], [30]), ([31, 30, 30], [30, 31]), ([30], [30]), ([32, 33, 30], [30, 32, 33]), ([30, 34], [30, 34]), ([35, 32], [35]), ([36], [36]), ([36], [36]), ([37, 38, 36, 36], [36, 37, 38]), ([36, 39], [36, 39]), ([40, 39], [40]), ([41], [41]), ([42, 41, 41], [41, 42]), ([41], [41]), ([43, 44, 41], [41, 43, 44]), ([41, 45], [41, 45]), ([46, 43], [46]), ([47], [47]), ([48, 47, 47], [47, 48]), ([49, 49, 47], [47, 49]), ([47], [47]), ([51, 50, 47], [47, 51]), ([50, 52, 47], [47, 50, 52]), ([47, 53], [47, 53]), ([54, 52], [54]), ([55], [55]), ([55], [55]), ([56, 57, 55, 55], [55, 56, 57]), ([55, 58], [55, 58]), ([59, 58], [59]), ([60], [60]), ([60], [60]), ([62, 60, 60], [60, 62]), ([61, 63, 63, 60], [60, 61, 63]), ([60, 64], [60, 64]), ([65, 64], [65]), ([66, 66], [66]), ([66, 67], [66, 67]), ([68, 67, 0, 1, 2, 3, 4, 5, 6, 7, 8, 9, 10, 11, 12, 13, 14, 15, 16, 17, 18, 19, 20, 21, 22, 23, 24, 25, 26, 27, 28, 29, 30, 31, 32, 33, 34, 35, 36, 37, 38, 39, 40, 41, 42, 43, 44, 45, 46, 47, 48, 49, 50, 51, 52, 53, 54, 55, 56, 57, 58, 59, 60, 61, 62, 63, 64, 65, 66, 67, 68], [68])])
def fanlightlaw07_SnapTells.B10 : List Nat := [0, 0, 3, 7, 15, 31, 15, 127, 255, 511, 1023, 1023, 4095, 8191, 16383, 32767, 65535, 32767, 262143, 524287, 1048575, 2097151, 2097151, 8388607, 16777215, 33554431, 67108863, 67108863, 268435455, 536870911, 1073741823, 2147483647, 4294967295, 2147483647, 17179869183, 34359738367, 68719476735, 137438953471, 137438953471, 549755813887, 1099511627775, 2199023255551, 4398046511103, 8796093022207, 4398046511103, 35184372088831, 70368744177663, 140737488355327, 281474976710655, 562949953421311, 1125899906842623, 281474976710655, 4503599627370495, 9007199254740991, 18014398509481983, 36028797018963967, 72057594037927935, 72057594037927935, 288230376151711743, 576460752303423487, 1152921504606846975, 2305843009213693951, 2305843009213693951, 6917529027641081855, 18446744073709551615, 36893488147419103231, 73786976294838206463, 147573952589676412927, 295147905179352825855, 590295810358705651711]
theorem fanlightlaw07_SnapTells.tab10 : rtab .any (opsOf Try.f3 10) = fanlightlaw07_SnapTells.T10 := by kernel_rfl
theorem fanlightlaw07_SnapTells.bits10 : waitsOk fanlightlaw07_SnapTells.T10.2 fanlightlaw07_SnapTells.B10 = true := by kernel_rfl
end Go.Proofs.Ytkdaeleolomdkaa.V
