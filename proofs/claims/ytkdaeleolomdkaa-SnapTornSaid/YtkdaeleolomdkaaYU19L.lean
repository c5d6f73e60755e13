import Derived.Test.YtkdaeleolomdkaaYU0
import Derived.Test.YtkdaeleolomdkaaYU1
import Derived.Test.YtkdaeleolomdkaaYU7
import Derived.Test.YtkdaeleolomdkaaYU10
import Derived.Test.YtkdaeleolomdkaaYU16
import Derived.Test.YtkdaeleolomdkaaYU17
import Derived.Test.YtkdaeleolomdkaaYU18
namespace Go.Proofs.Ytkdaeleolomdkaa.U
open Go.RowKit Go.Proofs.YtkdaeleolomdkaaW.PrintWords Go.Proofs.YtkdaeleolomdkaaW.PrintLast Go.Proofs.YtkdaeleolomdkaaW.PrintMore
attribute [local go_sem] max2_int min2_int max_two min_two max_three min_three max_four min_four   -- for this text's walks alone
set_option linter.unusedVariables false
set_option linter.unusedSimpArgs false
mutual
def fanlightlaw07_SnapTorn.j0 : Nat → Int → List Int → List Int → List Int → Bool → Int → Int → List Int → Int → Int → List Int → Int → Int → List Int → Option (Bool)
  | 0, _, _, _, _, _, _, _, _, _, _, _, _, _, _ => none
  | k + 1, x3, x9, x11, x13, x54, x196000, x196001, x196002, x197000, x197001, x197002, x198000, x198001, x198002 => if x54 = true then (if (x9.length : Int) = 0 then (some true) else (if (x11.length : Int) = 0 then (some true) else (some ((x13.length : Int) == 0)))) else (if (x9.length : Int) = 8160 then (fanlightlaw07_SnapTorn.j1 k x3 x9 x11 x13 ((x11.length : Int) != 8160) x196000 x196001 x196002 x197000 x197001 x197002 x198000 x198001 x198002) else (fanlightlaw07_SnapTorn.j1 k x3 x9 x11 x13 true x196000 x196001 x196002 x197000 x197001 x197002 x198000 x198001 x198002))
def fanlightlaw07_SnapTorn.j1 : Nat → Int → List Int → List Int → List Int → Bool → Int → Int → List Int → Int → Int → List Int → Int → Int → List Int → Option (Bool)
  | 0, _, _, _, _, _, _, _, _, _, _, _, _, _, _ => none
  | k + 1, x3, x9, x11, x13, x75, x196000, x196001, x196002, x197000, x197001, x197002, x198000, x198001, x198002 => if x75 = true then (some false) else (if 0 ≤ (wrap64 (48 * (Int.tmod (wrap64 ((Int.tmod x3 171) + 171)) 171))) then (if (wrap64 (48 * (Int.tmod (wrap64 ((Int.tmod x3 171) + 171)) 171))) ≤ (x11.length : Int) then ((fanlightplain_CopyBytes.f (x11.take ((wrap64 (48 * (Int.tmod (wrap64 ((Int.tmod x3 171) + 171)) 171))) : Int).toNat)).bind fun t233 => (if (wrap64 (48 * (Int.tmod (wrap64 ((Int.tmod x3 171) + 171)) 171))) ≤ (x9.length : Int) then ((some (x9.drop ((wrap64 (48 * (Int.tmod (wrap64 ((Int.tmod x3 171) + 171)) 171))) : Int).toNat : List Int)).bind fun y236 => (if t233.length + y236.length < 140737488355328 then ((some (t233 ++ y236 : List Int)).bind fun y240 => ((fanlightref07_Decode.f k y240).bind fun bt243 => (if bt243.2.2.2 = 0 then ((fanlightlaw07_of.f bt243.1 bt243.2.1 bt243.2.2.1).bind fun bt250 => ((fanlightlaw07_same.f bt250.1 bt250.2.1 bt250.2.2 x196000 x196001 x196002).bind fun t255 => (if t255 = true then (fanlightlaw07_SnapTorn.j2 k x13 y240 bt243.2.2.2 false x198000 x198001 x198002 bt243.1 bt243.2.1 bt243.2.2.1) else ((fanlightlaw07_of.f bt243.1 bt243.2.1 bt243.2.2.1).bind fun bt256 => ((fanlightlaw07_same.f bt256.1 bt256.2.1 bt256.2.2 x197000 x197001 x197002).bind fun t261 => (fanlightlaw07_SnapTorn.j2 k x13 y240 bt243.2.2.2 (!t261) x198000 x198001 x198002 bt243.1 bt243.2.1 bt243.2.2.1)))))) else (fanlightlaw07_SnapTorn.j2 k x13 y240 bt243.2.2.2 false x198000 x198001 x198002 bt243.1 bt243.2.1 bt243.2.2.1)))) else (none))) else (none))) else (none)) else (none))
def fanlightlaw07_SnapTorn.j2 : Nat → List Int → List Int → Int → Bool → Int → Int → List Int → Int → Int → List Int → Option (Bool)
  | 0, _, _, _, _, _, _, _, _, _, _ => none
  | k + 1, x13, x16, x18, x109, x198000, x198001, x198002, x250000, x250001, x250002 => if x109 = true then (some true) else ((snap_Newest.f k x16 x13).bind fun bt262 => ((fanlightlaw07_num.f bt262.2.2.2.2).bind fun t270 => (if t270 = 0 then (if bt262.2.2.2.1 = 1 then ((fanlightlaw07_same.f bt262.1 bt262.2.1 bt262.2.2.1 x198000 x198001 x198002).bind fun t271 => (some t271)) else (if x18 = 0 then ((fanlightlaw07_same.f bt262.1 bt262.2.1 bt262.2.2.1 x250000 x250001 x250002).bind fun t272 => (if t272 = true then (some (decide (bt262.1 ≥ x198000))) else (some false))) else (some false))) else (some false))))
end
def fanlightlaw07_SnapTorn.f (k : Nat) (a0_0 : Int) (a0_1 : Int) (l0_2 : List Int) (a1_0 : Int) (a1_1 : Int) (l1_2 : List Int) (a2_0 : Int) (a2_1 : Int) (l2_2 : List Int) (a3 : Int) : Option (Bool) := (fanlightlaw07_alive.f).bind fun t198 => (if t198 = true then ((fanlightlaw07_of.f a0_0 a0_1 l0_2).bind fun bt199 => ((snap_Encode.f bt199.1 bt199.2.1 bt199.2.2).bind fun bt204 => ((fanlightlaw07_of.f a1_0 a1_1 l1_2).bind fun bt208 => ((snap_Encode.f bt208.1 bt208.2.1 bt208.2.2).bind fun bt213 => ((fanlightlaw07_of.f a2_0 a2_1 l2_2).bind fun bt217 => ((snap_Encode.f bt217.1 bt217.2.1 bt217.2.2).bind fun bt222 => ((fanlightlaw07_num.f bt204.2).bind fun t226 => (if t226 = 0 then ((fanlightlaw07_num.f bt213.2).bind fun t227 => (if t227 = 0 then ((fanlightlaw07_num.f bt222.2).bind fun t228 => (fanlightlaw07_SnapTorn.j0 k a3 bt204.1 bt213.1 bt222.1 (t228 != 0) a0_0 a0_1 l0_2 a1_0 a1_1 l1_2 a2_0 a2_1 l2_2)) else (fanlightlaw07_SnapTorn.j0 k a3 bt204.1 bt213.1 bt222.1 true a0_0 a0_1 l0_2 a1_0 a1_1 l1_2 a2_0 a2_1 l2_2))) else (fanlightlaw07_SnapTorn.j0 k a3 bt204.1 bt213.1 bt222.1 true a0_0 a0_1 l0_2 a1_0 a1_1 l1_2 a2_0 a2_1 l2_2))))))))) else (some false))
theorem fanlightlaw07_SnapTorn.mono_l : ∀ k, (∀ y0 y1 y2 y3 y4 y5 y6 y7 y8 y9 y10 y11 y12 y13, LeO (fanlightlaw07_SnapTorn.j0 k y0 y1 y2 y3 y4 y5 y6 y7 y8 y9 y10 y11 y12 y13) (fanlightlaw07_SnapTorn.j0 (k + 1) y0 y1 y2 y3 y4 y5 y6 y7 y8 y9 y10 y11 y12 y13)) ∧ (∀ y0 y1 y2 y3 y4 y5 y6 y7 y8 y9 y10 y11 y12 y13, LeO (fanlightlaw07_SnapTorn.j1 k y0 y1 y2 y3 y4 y5 y6 y7 y8 y9 y10 y11 y12 y13) (fanlightlaw07_SnapTorn.j1 (k + 1) y0 y1 y2 y3 y4 y5 y6 y7 y8 y9 y10 y11 y12 y13)) ∧ (∀ y0 y1 y2 y3 y4 y5 y6 y7 y8 y9, LeO (fanlightlaw07_SnapTorn.j2 k y0 y1 y2 y3 y4 y5 y6 y7 y8 y9) (fanlightlaw07_SnapTorn.j2 (k + 1) y0 y1 y2 y3 y4 y5 y6 y7 y8 y9))
  | 0 => ⟨fun _ _ _ _ _ _ _ _ _ _ _ _ _ _ r h => by simp [fanlightlaw07_SnapTorn.j0] at h, fun _ _ _ _ _ _ _ _ _ _ _ _ _ _ r h => by simp [fanlightlaw07_SnapTorn.j1] at h, fun _ _ _ _ _ _ _ _ _ _ r h => by simp [fanlightlaw07_SnapTorn.j2] at h⟩
  | k + 1 => by
    obtain ⟨ih0, ih1, ih2⟩ := fanlightlaw07_SnapTorn.mono_l k
    refine ⟨?_, ?_, ?_⟩
    · intro y0 y1 y2 y3 y4 y5 y6 y7 y8 y9 y10 y11 y12 y13
      unfold fanlightlaw07_SnapTorn.j0
      repeat' first
      | (with_reducible exact ih0 _ _ _ _ _ _ _ _ _ _ _ _ _ _)
      | (with_reducible exact ih1 _ _ _ _ _ _ _ _ _ _ _ _ _ _)
      | (with_reducible exact ih2 _ _ _ _ _ _ _ _ _ _)
      | (with_reducible exact fanlightref07_Decode.mono _ _)
      | (with_reducible exact snap_Newest.mono _ _ _)
      | (with_reducible exact LeO.refl _)
      | (with_reducible exact LeO.none _)
      | (with_reducible refine LeO.ite ?_ ?_)
      | (with_reducible refine LeO.bind ?_ (fun _ => ?_))
      | exact ih0 _ _ _ _ _ _ _ _ _ _ _ _ _ _
      | exact ih1 _ _ _ _ _ _ _ _ _ _ _ _ _ _
      | exact ih2 _ _ _ _ _ _ _ _ _ _
      | exact fanlightref07_Decode.mono _ _
      | exact snap_Newest.mono _ _ _
      | exact LeO.none _
      | refine LeO.ite ?_ ?_
      | refine LeO.bind ?_ (fun _ => ?_)
    · intro y0 y1 y2 y3 y4 y5 y6 y7 y8 y9 y10 y11 y12 y13
      unfold fanlightlaw07_SnapTorn.j1
      repeat' first
      | (with_reducible exact ih0 _ _ _ _ _ _ _ _ _ _ _ _ _ _)
      | (with_reducible exact ih1 _ _ _ _ _ _ _ _ _ _ _ _ _ _)
      | (with_reducible exact ih2 _ _ _ _ _ _ _ _ _ _)
      | (with_reducible exact fanlightref07_Decode.mono _ _)
      | (with_reducible exact snap_Newest.mono _ _ _)
      | (with_reducible exact LeO.refl _)
      | (with_reducible exact LeO.none _)
      | (with_reducible refine LeO.ite ?_ ?_)
      | (with_reducible refine LeO.bind ?_ (fun _ => ?_))
      | exact ih0 _ _ _ _ _ _ _ _ _ _ _ _ _ _
      | exact ih1 _ _ _ _ _ _ _ _ _ _ _ _ _ _
      | exact ih2 _ _ _ _ _ _ _ _ _ _
      | exact fanlightref07_Decode.mono _ _
      | exact snap_Newest.mono _ _ _
      | exact LeO.none _
      | refine LeO.ite ?_ ?_
      | refine LeO.bind ?_ (fun _ => ?_)
    · intro y0 y1 y2 y3 y4 y5 y6 y7 y8 y9
      unfold fanlightlaw07_SnapTorn.j2
      repeat' first
      | (with_reducible exact ih0 _ _ _ _ _ _ _ _ _ _ _ _ _ _)
      | (with_reducible exact ih1 _ _ _ _ _ _ _ _ _ _ _ _ _ _)
      | (with_reducible exact ih2 _ _ _ _ _ _ _ _ _ _)
      | (with_reducible exact fanlightref07_Decode.mono _ _)
      | (with_reducible exact snap_Newest.mono _ _ _)
      | (with_reducible exact LeO.refl _)
      | (with_reducible exact LeO.none _)
      | (with_reducible refine LeO.ite ?_ ?_)
      | (with_reducible refine LeO.bind ?_ (fun _ => ?_))
      | exact ih0 _ _ _ _ _ _ _ _ _ _ _ _ _ _
      | exact ih1 _ _ _ _ _ _ _ _ _ _ _ _ _ _
      | exact ih2 _ _ _ _ _ _ _ _ _ _
      | exact fanlightref07_Decode.mono _ _
      | exact snap_Newest.mono _ _ _
      | exact LeO.none _
      | refine LeO.ite ?_ ?_
      | refine LeO.bind ?_ (fun _ => ?_)
theorem fanlightlaw07_SnapTorn.mono : ∀ a0 a1 a2 a3 a4 a5 a6 a7 a8 a9 k, LeO (fanlightlaw07_SnapTorn.f k a0 a1 a2 a3 a4 a5 a6 a7 a8 a9) (fanlightlaw07_SnapTorn.f (k + 1) a0 a1 a2 a3 a4 a5 a6 a7 a8 a9) := by
  intro a0 a1 a2 a3 a4 a5 a6 a7 a8 a9 k
  obtain ⟨ih0, ih1, ih2⟩ := fanlightlaw07_SnapTorn.mono_l k
  unfold fanlightlaw07_SnapTorn.f
  repeat' first
      | (with_reducible exact ih0 _ _ _ _ _ _ _ _ _ _ _ _ _ _)
      | (with_reducible exact ih1 _ _ _ _ _ _ _ _ _ _ _ _ _ _)
      | (with_reducible exact ih2 _ _ _ _ _ _ _ _ _ _)
      | (with_reducible exact fanlightref07_Decode.mono _ _)
      | (with_reducible exact snap_Newest.mono _ _ _)
      | (with_reducible exact LeO.refl _)
      | (with_reducible exact LeO.none _)
      | (with_reducible refine LeO.ite ?_ ?_)
      | (with_reducible refine LeO.bind ?_ (fun _ => ?_))
      | exact ih0 _ _ _ _ _ _ _ _ _ _ _ _ _ _
      | exact ih1 _ _ _ _ _ _ _ _ _ _ _ _ _ _
      | exact ih2 _ _ _ _ _ _ _ _ _ _
      | exact fanlightref07_Decode.mono _ _
      | exact snap_Newest.mono _ _ _
      | exact LeO.none _
      | refine LeO.ite ?_ ?_
      | refine LeO.bind ?_ (fun _ => ?_)
def fanlightlaw07_SnapTorn.T11 : Bool × List (List Nat × List Nat) := (true, [([], []), ([], []), ([0, 1], [0, 1]), ([2], [2]), ([], []), ([], []), ([4, 5], [4, 5]), ([3, 6, 3], [3, 6]), ([7, 7, 0, 1, 2, 3, 4, 5, 6, 7], [7])])
def fanlightlaw07_SnapTorn.B11 : List Nat := [0, 0, 3, 7, 0, 0, 48, 127, 255]
theorem fanlightlaw07_SnapTorn.tab11 : rtab .any (opsOf Try.f5 11) = fanlightlaw07_SnapTorn.T11 := by kernel_rfl
theorem fanlightlaw07_SnapTorn.bits11 : waitsOk fanlightlaw07_SnapTorn.T11.2 fanlightlaw07_SnapTorn.B11 = true := by kernel_rfl
def fanlightlaw07_SnapTorn.T13 : Bool × List (List Nat × List Nat) := (true, [([], []), ([0], [0]), ([1], [1]), ([2], [2]), ([3, 2, 2], [2, 3]), ([2], [2]), ([4, 5, 4, 2], [2, 4, 5]), ([6, 2], [2, 6]), ([2, 7], [2, 7]), ([8, 6], [8]), ([9], [9]), ([10, 9, 9], [9, 10]), ([9], [9]), ([11, 12, 11, 9], [9, 11, 12]), ([13, 9], [9, 13]), ([9, 14], [9, 14])])
def fanlightlaw07_SnapTorn.B13 : List Nat := [0, 1, 3, 7, 15, 7, 63, 127, 255, 511, 1023, 2047, 1023, 8191, 16383, 32767]
theorem fanlightlaw07_SnapTorn.tab13 : rtab .any (opsOf Try.f5 13) = fanlightlaw07_SnapTorn.T13 := by kernel_rfl
theorem fanlightlaw07_SnapTorn.bits13 : waitsOk fanlightlaw07_SnapTorn.T13.2 fanlightlaw07_SnapTorn.B13 = true := by kernel_rfl
end Go.Proofs.Ytkdaeleolomdkaa.U
