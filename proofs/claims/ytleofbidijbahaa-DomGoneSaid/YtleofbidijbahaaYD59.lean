import Derived.Test.YtleofbidijbahaaYD0
import Derived.Test.YtleofbidijbahaaYD2
import Derived.Test.YtleofbidijbahaaYD37
import Derived.Test.YtleofbidijbahaaYD46
import Derived.Test.YtleofbidijbahaaYD50
import Derived.Test.YtleofbidijbahaaYD51
namespace Go.Proofs.Ytleofbidijbahaa.D
open Go.RowKit Go.Proofs.YtleofbidijbahaaW.PrintWords Go.Proofs.YtleofbidijbahaaW.PrintLast Go.Proofs.YtleofbidijbahaaW.PrintMore
attribute [local go_sem] max2_int min2_int max_two min_two max_three min_three max_four min_four   -- for this text's walks alone
set_option linter.unusedVariables false
set_option linter.unusedSimpArgs false
mutual
def fanlightlaw10_DomGone.j1 : Nat → List Int → List (S64) → Int → Int → List (S63) → Int → Int → Option (Bool)
 | 0, _, _, _, _, _, _, _ => none
 | k + 1, x7, x456000, x456001, x456002, x469000, x469001, x469002 => fanlightlaw10_DomGone.l1 k x7 0 0 x456000 x456001 x456002 x469000 x469001 x469002
def fanlightlaw10_DomGone.l1 : Nat → List Int → Int → Int → List (S64) → Int → Int → List (S63) → Int → Int → Option (Bool)
 | 0, _, _, _, _, _, _, _, _, _ => none
 | k + 1, x7, x10, x11, x456000, x456001, x456002, x469000, x469001, x469002 => if x11 < (x456000.length : Int) then (fanlightlaw10_DomGone.l2 k x7 x10 x11 false 0 x456000 x456001 x456002 x469000 x469001 x469002) else (if x10 = (x469000.length : Int) then (some (x469002 == x456002)) else (some false))
def fanlightlaw10_DomGone.l2 : Nat → List Int → Int → Int → Bool → Int → List (S64) → Int → Int → List (S63) → Int → Int → Option (Bool)
 | 0, _, _, _, _, _, _, _, _, _, _, _ => none
 | k + 1, x7, x10, x11, x12, x13, x456000, x456001, x456002, x469000, x469001, x469002 => if x13 < (x7.length : Int) then (if x12 = true then (fanlightlaw10_DomGone.l2 k x7 x10 x11 true (wrap64 (x13 + 1)) x456000 x456001 x456002 x469000 x469001 x469002) else (if 0 ≤ x13 then (if 0 ≤ x11 then (if x11 < (x456000.length : Int) then (fanlightlaw10_DomGone.l2 k x7 x10 x11 ((rd x7 x13) == ((rd_T64 x456000 x11).f0)) (wrap64 (x13 + 1)) x456000 x456001 x456002 x469000 x469001 x469002) else (none)) else (none)) else (none))) else (if x12 = true then (fanlightlaw10_DomGone.l1 k x7 x10 (wrap64 (x11 + 1)) x456000 x456001 x456002 x469000 x469001 x469002) else (if x10 ≥ (x469000.length : Int) then (some false) else (if 0 ≤ x10 then (if x10 < (x469000.length : Int) then (if 0 ≤ x11 then (if x11 < (x456000.length : Int) then (if ((rd_T63 x469000 x10).f0) = ((rd_T64 x456000 x11).f0) then (if ((rd_T63 x469000 x10).f2).toList = ((rd_T64 x456000 x11).f2).toList then (if ((rd_T63 x469000 x10).f4).toList = ((rd_T64 x456000 x11).f4).toList then (if ((rd_T63 x469000 x10).f1) = ((rd_T64 x456000 x11).f1) then (fanlightlaw10_DomGone.l1 k x7 (wrap64 (x10 + 1)) (wrap64 (x11 + 1)) x456000 x456001 x456002 x469000 x469001 x469002) else (some false)) else (some false)) else (some false)) else (some false)) else (none)) else (none)) else (none)) else (none))))
def fanlightlaw10_DomGone.l0 : Nat → List Int → Int → List (S64) → Int → Int → List (S63) → Int → Int → Option (Bool)
 | 0, _, _, _, _, _, _, _, _ => none
 | k + 1, x7, x8, x456000, x456001, x456002, x469000, x469001, x469002 => if x8 < (x7.length : Int) then (if x8 < (x456000.length : Int) then (if 0 ≤ x8 then ((fanlightref10_Place.f k x456000 x456001 x456002 (rd x7 x8)).bind fun t474 => (if 0 ≤ t474 then (if t474 < (x456000.length : Int) then (if x7.length + ((rd_T64 x456000 t474).f6).length < 17592186044416 then (fanlightlaw10_DomGone.l0 k (x7 ++ ((rd_T64 x456000 t474).f6)) (wrap64 (x8 + 1)) x456000 x456001 x456002 x469000 x469001 x469002) else (none)) else (none)) else (none))) else (none)) else (fanlightlaw10_DomGone.j1 k x7 x456000 x456001 x456002 x469000 x469001 x469002)) else (fanlightlaw10_DomGone.j1 k x7 x456000 x456001 x456002 x469000 x469001 x469002)
end
def fanlightlaw10_DomGone.f (k : Nat) (l0_0 : List (S64)) (a0_1 : Int) (a0_2 : Int) (a1 : Int) : Option (Bool) := (fanlightlaw10_alive.f).bind fun t456 => (if t456 = true then ((fanlightlaw10_Of.f k l0_0 a0_1 a0_2).bind fun bt457 => ((dom_Apply.f bt457.1 bt457.2.1 bt457.2.2 3 a1 0 0 (⟨#[]⟩ : ByteArray) (⟨#[]⟩ : ByteArray) (⟨#[]⟩ : ByteArray) (⟨#[]⟩ : ByteArray) (⟨#[]⟩ : ByteArray)).bind fun bt462 => ((fanlightlaw10_num.f bt462.2.2.2).bind fun t469 => (if t469 = 0 then (fanlightlaw10_DomGone.l0 k (([a1] : List Int)) 0 l0_0 a0_1 a0_2 bt462.1 bt462.2.1 bt462.2.2.1) else (some ((bt462.1.length : Int) == 0)))))) else (some false))
theorem fanlightlaw10_DomGone.mono_l : ∀ k, (∀ y0 y1 y2 y3 y4 y5 y6, LeO (fanlightlaw10_DomGone.j1 k y0 y1 y2 y3 y4 y5 y6) (fanlightlaw10_DomGone.j1 (k + 1) y0 y1 y2 y3 y4 y5 y6)) ∧ (∀ y0 y1 y2 y3 y4 y5 y6 y7 y8, LeO (fanlightlaw10_DomGone.l1 k y0 y1 y2 y3 y4 y5 y6 y7 y8) (fanlightlaw10_DomGone.l1 (k + 1) y0 y1 y2 y3 y4 y5 y6 y7 y8)) ∧ (∀ y0 y1 y2 y3 y4 y5 y6 y7 y8 y9 y10, LeO (fanlightlaw10_DomGone.l2 k y0 y1 y2 y3 y4 y5 y6 y7 y8 y9 y10) (fanlightlaw10_DomGone.l2 (k + 1) y0 y1 y2 y3 y4 y5 y6 y7 y8 y9 y10)) ∧ (∀ y0 y1 y2 y3 y4 y5 y6 y7, LeO (fanlightlaw10_DomGone.l0 k y0 y1 y2 y3 y4 y5 y6 y7) (fanlightlaw10_DomGone.l0 (k + 1) y0 y1 y2 y3 y4 y5 y6 y7))
 | 0 => ⟨fun _ _ _ _ _ _ _ r h => by simp [fanlightlaw10_DomGone.j1] at h, fun _ _ _ _ _ _ _ _ _ r h => by simp [fanlightlaw10_DomGone.l1] at h, fun _ _ _ _ _ _ _ _ _ _ _ r h => by simp [fanlightlaw10_DomGone.l2] at h, fun _ _ _ _ _ _ _ _ r h => by simp [fanlightlaw10_DomGone.l0] at h⟩
 | k + 1 => by
  obtain ⟨ih0, ih1, ih2, ih3⟩ := fanlightlaw10_DomGone.mono_l k
  refine ⟨?_, ?_, ?_, ?_⟩
  ·
   intro y0 y1 y2 y3 y4 y5 y6
   unfold fanlightlaw10_DomGone.j1
   repeat' first
   | (with_reducible exact ih0 _ _ _ _ _ _ _)
   | (with_reducible exact ih1 _ _ _ _ _ _ _ _ _)
   | (with_reducible exact ih2 _ _ _ _ _ _ _ _ _ _ _)
   | (with_reducible exact ih3 _ _ _ _ _ _ _ _)
   | (with_reducible exact fanlightlaw10_Of.mono _ _ _ _)
   | (with_reducible exact fanlightref10_Place.mono _ _ _ _ _)
   | (with_reducible exact LeO.refl _)
   | (with_reducible exact LeO.none _)
   | (with_reducible refine LeO.ite ?_ ?_)
   | (with_reducible refine LeO.bind ?_ (fun _ => ?_))
   | exact ih0 _ _ _ _ _ _ _
   | exact ih1 _ _ _ _ _ _ _ _ _
   | exact ih2 _ _ _ _ _ _ _ _ _ _ _
   | exact ih3 _ _ _ _ _ _ _ _
   | exact fanlightlaw10_Of.mono _ _ _ _
   | exact fanlightref10_Place.mono _ _ _ _ _
   | exact LeO.none _
   | refine LeO.ite ?_ ?_
   | refine LeO.bind ?_ (fun _ => ?_)
  ·
   intro y0 y1 y2 y3 y4 y5 y6 y7 y8
   unfold fanlightlaw10_DomGone.l1
   repeat' first
   | (with_reducible exact ih0 _ _ _ _ _ _ _)
   | (with_reducible exact ih1 _ _ _ _ _ _ _ _ _)
   | (with_reducible exact ih2 _ _ _ _ _ _ _ _ _ _ _)
   | (with_reducible exact ih3 _ _ _ _ _ _ _ _)
   | (with_reducible exact fanlightlaw10_Of.mono _ _ _ _)
   | (with_reducible exact fanlightref10_Place.mono _ _ _ _ _)
   | (with_reducible exact LeO.refl _)
   | (with_reducible exact LeO.none _)
   | (with_reducible refine LeO.ite ?_ ?_)
   | (with_reducible refine LeO.bind ?_ (fun _ => ?_))
   | exact ih0 _ _ _ _ _ _ _
   | exact ih1 _ _ _ _ _ _ _ _ _
   | exact ih2 _ _ _ _ _ _ _ _ _ _ _
   | exact ih3 _ _ _ _ _ _ _ _
   | exact fanlightlaw10_Of.mono _ _ _ _
   | exact fanlightref10_Place.mono _ _ _ _ _
   | exact LeO.none _
   | refine LeO.ite ?_ ?_
   | refine LeO.bind ?_ (fun _ => ?_)
  ·
   intro y0 y1 y2 y3 y4 y5 y6 y7 y8 y9 y10
   unfold fanlightlaw10_DomGone.l2
   repeat' first
   | (with_reducible exact ih0 _ _ _ _ _ _ _)
   | (with_reducible exact ih1 _ _ _ _ _ _ _ _ _)
   | (with_reducible exact ih2 _ _ _ _ _ _ _ _ _ _ _)
   | (with_reducible exact ih3 _ _ _ _ _ _ _ _)
   | (with_reducible exact fanlightlaw10_Of.mono _ _ _ _)
   | (with_reducible exact fanlightref10_Place.mono _ _ _ _ _)
   | (with_reducible exact LeO.refl _)
   | (with_reducible exact LeO.none _)
   | (with_reducible refine LeO.ite ?_ ?_)
   | (with_reducible refine LeO.bind ?_ (fun _ => ?_))
   | exact ih0 _ _ _ _ _ _ _
   | exact ih1 _ _ _ _ _ _ _ _ _
   | exact ih2 _ _ _ _ _ _ _ _ _ _ _
   | exact ih3 _ _ _ _ _ _ _ _
   | exact fanlightlaw10_Of.mono _ _ _ _
   | exact fanlightref10_Place.mono _ _ _ _ _
   | exact LeO.none _
   | refine LeO.ite ?_ ?_
   | refine LeO.bind ?_ (fun _ => ?_)
  ·
   intro y0 y1 y2 y3 y4 y5 y6 y7
   unfold fanlightlaw10_DomGone.l0
   repeat' first
   | (with_reducible exact ih0 _ _ _ _ _ _ _)
   | (with_reducible exact ih1 _ _ _ _ _ _ _ _ _)
   | (with_reducible exact ih2 _ _ _ _ _ _ _ _ _ _ _)
   | (with_reducible exact ih3 _ _ _ _ _ _ _ _)
   | (with_reducible exact fanlightlaw10_Of.mono _ _ _ _)
   | (with_reducible exact fanlightref10_Place.mono _ _ _ _ _)
   | (with_reducible exact LeO.refl _)
   | (with_reducible exact LeO.none _)
   | (with_reducible refine LeO.ite ?_ ?_)
   | (with_reducible refine LeO.bind ?_ (fun _ => ?_))
   | exact ih0 _ _ _ _ _ _ _
   | exact ih1 _ _ _ _ _ _ _ _ _
   | exact ih2 _ _ _ _ _ _ _ _ _ _ _
   | exact ih3 _ _ _ _ _ _ _ _
   | exact fanlightlaw10_Of.mono _ _ _ _
   | exact fanlightref10_Place.mono _ _ _ _ _
   | exact LeO.none _
   | refine LeO.ite ?_ ?_
   | refine LeO.bind ?_ (fun _ => ?_)
theorem fanlightlaw10_DomGone.mono : ∀ a0 a1 a2 a3 k, LeO (fanlightlaw10_DomGone.f k a0 a1 a2 a3) (fanlightlaw10_DomGone.f (k + 1) a0 a1 a2 a3) := by
 intro a0 a1 a2 a3 k
 obtain ⟨ih0, ih1, ih2, ih3⟩ := fanlightlaw10_DomGone.mono_l k
 unfold fanlightlaw10_DomGone.f
 repeat' first
   | (with_reducible exact ih0 _ _ _ _ _ _ _)
   | (with_reducible exact ih1 _ _ _ _ _ _ _ _ _)
   | (with_reducible exact ih2 _ _ _ _ _ _ _ _ _ _ _)
   | (with_reducible exact ih3 _ _ _ _ _ _ _ _)
   | (with_reducible exact fanlightlaw10_Of.mono _ _ _ _)
   | (with_reducible exact fanlightref10_Place.mono _ _ _ _ _)
   | (with_reducible exact LeO.refl _)
   | (with_reducible exact LeO.none _)
   | (with_reducible refine LeO.ite ?_ ?_)
   | (with_reducible refine LeO.bind ?_ (fun _ => ?_))
   | exact ih0 _ _ _ _ _ _ _
   | exact ih1 _ _ _ _ _ _ _ _ _
   | exact ih2 _ _ _ _ _ _ _ _ _ _ _
   | exact ih3 _ _ _ _ _ _ _ _
   | exact fanlightlaw10_Of.mono _ _ _ _
   | exact fanlightref10_Place.mono _ _ _ _ _
   | exact LeO.none _
   | refine LeO.ite ?_ ?_
   | refine LeO.bind ?_ (fun _ => ?_)
def fanlightlaw10_DomGone.T20 : Bool × List (List Nat × List Nat) := (true, [([], []), ([0], [0]), ([1], [1]), ([1], [1]), ([2, 3, 1], [1, 2, 3]), ([4, 1], [1, 4]), ([1], [1]), ([6, 1], [1, 6]), ([1], [1]), ([7, 8, 1], [1, 7, 8]), ([9, 1], [1, 9]), ([10, 1], [1, 10]), ([5, 11, 1], [1, 5, 11]), ([1, 12], [1, 12]), ([13, 1, 0, 1, 2, 3, 4, 5, 6, 7, 8, 9, 10, 11, 12, 13], [0, 13])])
def fanlightlaw10_DomGone.B20 : List Nat := [0, 1, 3, 3, 15, 31, 3, 67, 3, 451, 963, 1987, 4095, 8191, 16383]
theorem fanlightlaw10_DomGone.tab20 : rtab .any (opsOf Try.f7 20) = fanlightlaw10_DomGone.T20 := by kernel_rfl
theorem fanlightlaw10_DomGone.bits20 : waitsOk fanlightlaw10_DomGone.T20.2 fanlightlaw10_DomGone.B20 = true := by kernel_rfl
def fanlightlaw10_DomGone.T22 : Bool × List (List Nat × List Nat) := (true, [([], []), ([], []), ([1], [1]), ([2], [2]), ([0, 3], [0, 3]), ([4], [4]), ([5], [5]), ([6, 5], [5, 6]), ([5], [5]), ([7, 8, 5], [5, 7, 8]), ([9, 5], [5, 9]), ([10, 5], [5, 10]), ([5], [5]), ([12, 5], [5, 12]), ([5], [5]), ([13, 14, 5], [5, 13, 14]), ([15, 5], [5, 15]), ([16, 5], [5, 16]), ([11, 17, 5], [5, 11, 17]), ([5, 18], [5, 18]), ([19, 5], [19]), ([20], [20]), ([21, 20], [20, 21]), ([20], [20]), ([22, 23, 20], [20, 22, 23]), ([24, 20], [20, 24]), ([25, 20], [20, 25]), ([20], [20]), ([27, 20], [20, 27]), ([20], [20]), ([28, 29, 20], [20, 28, 29]), ([30, 20], [20, 30]), ([31, 20], [20, 31]), ([26, 32, 20], [20, 26, 32]), ([20, 33], [20, 33]), ([34, 20], [34]), ([35], [35]), ([36, 35], [35, 36]), ([35], [35]), ([37, 38, 35], [35, 37, 38]), ([39, 35], [35, 39]), ([40, 35], [35, 40]), ([35], [35]), ([42, 35], [35, 42]), ([35], [35]), ([43, 44, 35], [35, 43, 44]), ([45, 35], [35, 45]), ([46, 35], [35, 46]), ([41, 47, 35], [35, 41, 47]), ([35, 48], [35, 48]), ([49, 35], [49]), ([50], [50]), ([51, 50], [50, 51]), ([50], [50]), ([52, 53, 50], [50, 52, 53]), ([54, 50], [50, 54]), ([55, 50], [50, 55]), ([50], [50]), ([57, 50], [50, 57]), ([50], [50]), ([58, 59, 50], [50, 58, 59]), ([60, 50], [50, 60]), ([61, 50], [50, 61]), ([56, 62, 50], [50, 56, 62]), ([50, 63], [50, 63])])
def fanlightlaw10_DomGone.B22 : List Nat := [0, 0, 2, 6, 15, 31, 63, 127, 63, 511, 1023, 2047, 63, 4159, 63, 28735, 61503, 127039, 262143, 524287, 1048575, 2097151, 4194303, 2097151, 16777215, 33554431, 67108863, 2097151, 136314879, 2097151, 941621247, 2015363071, 4162846719, 8589934591, 17179869183, 34359738367, 68719476735, 137438953471, 68719476735, 549755813887, 1099511627775, 2199023255551, 68719476735, 4466765987839, 68719476735, 30855045054463, 66039417143295, 136408161320959, 281474976710655, 562949953421311, 1125899906842623, 2251799813685247, 4503599627370495, 2251799813685247, 18014398509481983, 36028797018963967, 72057594037927935, 2251799813685247, 146366987889541119, 2251799813685247, 1011058116344676351, 2163979620951523327, 4469822630165217279, 9223372036854775807, 18446744073709551615]
theorem fanlightlaw10_DomGone.tab22 : rtab .any (opsOf Try.f7 22) = fanlightlaw10_DomGone.T22 := by kernel_rfl
theorem fanlightlaw10_DomGone.bits22 : waitsOk fanlightlaw10_DomGone.T22.2 fanlightlaw10_DomGone.B22 = true := by kernel_rfl
set_option maxHeartbeats 8000000 in
set_option maxRecDepth 100000 in
theorem fanlightlaw10_DomGone.calls (k : Nat) (A0_0 : Option Addr) (c0_0 : Nat) (l0_0 : List (S64)) (a0_1 : Int) (a0_2 : Int) (a1 : Int) (r : Bool) (w : World) (hr0_0 : Kd.C k64 w A0_0 l0_0.length l0_0) (hc0_0 : l0_0.length ≤ c0_0) (h : fanlightlaw10_DomGone.f k l0_0 a0_1 a0_2 a1 = some r) (hT : r = true) (hA : ∀ (r : Bool), fanlightlaw10_alive.f = some r → r = true) :
  Calls Try.prog 7 #[.agg #[.slice A0_0 l0_0.length c0_0, .int .i64 a0_1, .int .i64 a0_2], .int .i64 a1] w fun e w' => e = .returned (.bool r) ∧ Below w.heap.size w w' := by
 have hu24 := Try.underlying24
 have hu45 := Try.underlying45
 have hu28 := Try.underlying28
 have HR0_0 := Aside0.mk hr0_0
 have HC0_0 := Aside0.mk hc0_0
 clear hr0_0 hc0_0
 have HB := Aside0.mk (Below.refl w.heap.size w)
 have H : ((fanlightlaw10_alive.f).bind fun t456 => (if t456 = true then ((fanlightlaw10_Of.f k l0_0 a0_1 a0_2).bind fun bt457 => ((dom_Apply.f bt457.1 bt457.2.1 bt457.2.2 3 a1 0 0 (⟨#[]⟩ : ByteArray) (⟨#[]⟩ : ByteArray) (⟨#[]⟩ : ByteArray) (⟨#[]⟩ : ByteArray) (⟨#[]⟩ : ByteArray)).bind fun bt462 => ((fanlightlaw10_num.f bt462.2.2.2).bind fun t469 => (if t469 = 0 then (fanlightlaw10_DomGone.l0 k (([a1] : List Int)) 0 l0_0 a0_1 a0_2 bt462.1 bt462.2.1 bt462.2.2.1) else (some ((bt462.1.length : Int) == 0)))))) else (some false))) = some r := h
 clear h
 replace H := Option.bind_eq_some_iff.mp H
 obtain ⟨t456, A30, H⟩ := H
 replace H : (if t456 = true then ((fanlightlaw10_Of.f k l0_0 a0_1 a0_2).bind fun bt457 => ((dom_Apply.f bt457.1 bt457.2.1 bt457.2.2 3 a1 0 0 (⟨#[]⟩ : ByteArray) (⟨#[]⟩ : ByteArray) (⟨#[]⟩ : ByteArray) (⟨#[]⟩ : ByteArray) (⟨#[]⟩ : ByteArray)).bind fun bt462 => ((fanlightlaw10_num.f bt462.2.2.2).bind fun t469 => (if t469 = 0 then (fanlightlaw10_DomGone.l0 k (([a1] : List Int)) 0 l0_0 a0_1 a0_2 bt462.1 bt462.2.1 bt462.2.2.1) else (some ((bt462.1.length : Int) == 0)))))) else (some false)) = some r := H
 have A3 := Aside0.mk A30
 clear A30
 by_cases c4 : t456 = true
 ·
  subst c4
  have H1 : ((fanlightlaw10_Of.f k l0_0 a0_1 a0_2).bind fun bt457 => ((dom_Apply.f bt457.1 bt457.2.1 bt457.2.2 3 a1 0 0 (⟨#[]⟩ : ByteArray) (⟨#[]⟩ : ByteArray) (⟨#[]⟩ : ByteArray) (⟨#[]⟩ : ByteArray) (⟨#[]⟩ : ByteArray)).bind fun bt462 => ((fanlightlaw10_num.f bt462.2.2.2).bind fun t469 => (if t469 = 0 then (fanlightlaw10_DomGone.l0 k (([a1] : List Int)) 0 l0_0 a0_1 a0_2 bt462.1 bt462.2.1 bt462.2.2.1) else (some ((bt462.1.length : Int) == 0)))))) = some r := by rw [if_pos rfl] at H; exact H
  clear H
  have H := H1
  clear H1
  replace H := Option.bind_eq_some_iff.mp H
  obtain ⟨⟨t457, t460, t461⟩, A50, H⟩ := H
  replace H : ((dom_Apply.f t457 t460 t461 3 a1 0 0 (⟨#[]⟩ : ByteArray) (⟨#[]⟩ : ByteArray) (⟨#[]⟩ : ByteArray) (⟨#[]⟩ : ByteArray) (⟨#[]⟩ : ByteArray)).bind fun bt462 => ((fanlightlaw10_num.f bt462.2.2.2).bind fun t469 => (if t469 = 0 then (fanlightlaw10_DomGone.l0 k (([a1] : List Int)) 0 l0_0 a0_1 a0_2 bt462.1 bt462.2.1 bt462.2.2.1) else (some ((bt462.1.length : Int) == 0))))) = some r := H
  have A5 := Aside0.mk A50
  clear A50
  replace H := Option.bind_eq_some_iff.mp H
  obtain ⟨⟨t462, t465, t466, t467⟩, A60, H⟩ := H
  replace H : ((fanlightlaw10_num.f t467).bind fun t469 => (if t469 = 0 then (fanlightlaw10_DomGone.l0 k (([a1] : List Int)) 0 l0_0 a0_1 a0_2 t462 t465 t466) else (some ((t462.length : Int) == 0)))) = some r := H
  have A6 := Aside0.mk A60
  clear A60
  replace H := Option.bind_eq_some_iff.mp H
  obtain ⟨t469, A70, H⟩ := H
  replace H : (if t469 = 0 then (fanlightlaw10_DomGone.l0 k (([a1] : List Int)) 0 l0_0 a0_1 a0_2 t462 t465 t466) else (some ((t462.length : Int) == 0))) = some r := H
  have A7 := Aside0.mk A70
  clear A70
  by_cases c8 : t469 = 0
  ·
   rw [if_pos c8] at H
   have c8b0 : (t469 == 0) = true := beq_iff_eq.mpr c8
   have c8b1 : (t469 != 0) = false := bne_eq_false_iff_eq.mpr c8
   clear c8
   obtain ⟨y470, hy470⟩ : ∃ y_ : List Int, y_ = (([a1] : List Int)) := ⟨_, rfl⟩
   replace H : (fanlightlaw10_DomGone.l0 k y470 0 l0_0 a0_1 a0_2 t462 t465 t466) = some r := by first | (rw [hy470]; with_reducible exact H) | (have H2_ := (Option.bind_some _ _).symm.trans H; rw [hy470]; with_reducible exact H2_) | (have H2_ := (Option.bind_some _ _).symm.trans H; with_reducible exact H2_) | with_reducible exact H | (rw [hy470]; exact H) | exact H
   have Ny470 := Aside0.mk hy470
   clear hy470
   have HC9 := Aside0.mk H
   clear H
   go_enter Try.func7, Try.ntmps7
   go_upto_block 0 with (first | ((with_reducible refine gate_dst (N := 2) rfl ?_); (try (refine gate_guard (by rfl) ?_; dsimp only)); refine box_event ?hg (N := 2) ?hd (cs := #[.slice A0_0 l0_0.length c0_0, .int .i64 a0_1, .int .i64 a0_2]) (t := 24) ?hr ?_; (case hd => rfl); (case hg => rfl); (case hr => first | (go_simp; done) | (go_simp; rfl)); intro gb455 hg w10 hbox hb; have n0_ := Aside0.mk (below_step (by repeat (first | (with_reducible first | exact HB.out | apply below_alloc | apply pw_below_drewN | apply below_drew1) | exact HB.out)) hb); have n1_ := Aside0.mk (hbox); have n2_ := Aside0.mk ((by rw [hg]; exact (below_size (by repeat (first | (with_reducible first | exact HB.out | apply below_alloc | apply pw_below_drewN | apply below_drew1) | exact HB.out))) : w.heap.size ≤ gb455)); have n3_ := Aside0.mk ((by rw [hg]; exact (below_size (by repeat (first | (with_reducible first | exact HB.out | apply below_alloc | apply pw_below_drewN | apply below_drew1) | exact HB.out))) : w.heap.size ≤ gb455)); clear HB; have HB := n0_; have BK455 := n1_; have GW455 := n2_; have GE455 := n3_; clear n0_ n1_ n2_ n3_; clear hb hbox hg) | ((with_reducible refine gate_callee (f := 17) rfl ?_); refine goesL_ (some 14) rfl rfl Try.func17 (by kernel_rfl) rfl #[] rfl (by (try simp only [List.map_toArray, List.map_cons, List.map_nil]); first | done | rfl | (simp only [List.length_drop, List.length_take]; rfl)) ?_; (with_reducible refine (fanlightlaw10_alive.calls  true _ A3.out (hA _ A3.out)).mono ?_); rintro e w11 ⟨rfl, hb⟩; refine ⟨_, rfl, ?_⟩; have n0_ := Aside0.mk (blk_below (g := gb455) (o := .cells #[.slice A0_0 l0_0.length c0_0, .int .i64 a0_1, .int .i64 a0_2] 24 (0, 0)) (by (with_reducible repeat (first | refine blk_drewN ?_ _ | refine blk_drew ?_ | refine blk_alloc ?_ _)); exact BK455.out) hb); have n1_ := Aside0.mk (below_step (by repeat (first | (with_reducible first | exact HB.out | apply below_alloc | apply pw_below_drewN | apply below_drew1 | refine below_set ?_ GE455.out) | exact HB.out)) hb); clear BK455; clear HB; have BK455 := n0_; have HB := n1_; clear n0_ n1_; (try clear hb); (try clear hb2); (try clear hk); (try clear hi); have hcz12_0 : w11.cell? ⟨gb455, 0, none⟩ = some (.slice A0_0 l0_0.length c0_0) := (blk_cell BK455.out 0).trans rfl; have hcz12_1 : w11.cell? ⟨gb455, 1, none⟩ = some (.int .i64 a0_1) := (blk_cell BK455.out 1).trans rfl; have hcz12_2 : w11.cell? ⟨gb455, 2, none⟩ = some (.int .i64 a0_2) := (blk_cell BK455.out 2).trans rfl; have hfz12_0 := blk_frozen BK455.out 0; have hfz12_1 := blk_frozen BK455.out 1; have hfz12_2 := blk_frozen BK455.out 2) | ((with_reducible refine gate_callee (f := 11) rfl ?_); refine goesL_ (some 18) rfl rfl Try.func11 (by kernel_rfl) rfl #[.agg #[.slice A0_0 l0_0.length c0_0, .int .i64 a0_1, .int .i64 a0_2]] rfl (by (try simp only [List.map_toArray, List.map_cons, List.map_nil]); first | done | rfl | (simp only [List.length_drop, List.length_take]; rfl)) ?_; (with_reducible refine (fanlightlaw10_Of.calls k _ _ l0_0 a0_1 a0_2 t457 t460 t461 _ ?side1 ?side2 A5.out).mono ?_); (case side1 => repeat (first | exact (Kd.C_below HR0_0.out HB.out) | (with_reducible refine Kd.C_alloc ?_ _) | (with_reducible refine Kd.C_drewN ?_ _) | (with_reducible refine Kd.C_drew ?_))); (case side2 => exact HC0_0.out); rintro e w13 ⟨v458, rfl, ho0, hb⟩; refine ⟨_, rfl, ?_⟩; have n0_ := Aside0.mk (Kd.S_lower ho0 (below_size (by repeat (first | (with_reducible first | exact HB.out | apply below_alloc | apply pw_below_drewN | apply below_drew1 | refine below_set ?_ GE455.out) | exact HB.out)))); have n1_ := Aside0.mk (blk_below (g := gb455) (o := .cells #[.slice A0_0 l0_0.length c0_0, .int .i64 a0_1, .int .i64 a0_2] 24 (0, 0)) (by (with_reducible repeat (first | refine blk_drewN ?_ _ | refine blk_drew ?_ | refine blk_alloc ?_ _)); exact BK455.out) hb); have n2_ := Aside0.mk (below_step (by repeat (first | (with_reducible first | exact HB.out | apply below_alloc | apply pw_below_drewN | apply below_drew1 | refine below_set ?_ GE455.out) | exact HB.out)) hb); clear BK455; clear HB; have HO459 := n0_; have BK455 := n1_; have HB := n2_; clear n0_ n1_ n2_; (try clear hb); (try clear hb2); (try clear hk); (try clear hi); (try clear ho0); obtain ⟨Ao14, co14, eo14⟩ := Kd.S_slice HO459.out; subst eo14) | ((with_reducible refine gate_callee (f := 18) rfl ?_); refine goesL_ (some 21) rfl rfl Try.func18 (by kernel_rfl) rfl #[.agg #[.slice Ao14 t457.length co14, .int .i64 t460, .int .i64 t461], .agg #[.int .i64 3, .int .i64 a1, .int .i64 0, .int .i64 0, .string (⟨#[]⟩ : ByteArray), .string (⟨#[]⟩ : ByteArray), .string (⟨#[]⟩ : ByteArray), .string (⟨#[]⟩ : ByteArray), .string (⟨#[]⟩ : ByteArray)]] rfl (by (try simp only [List.map_toArray, List.map_cons, List.map_nil]); first | done | rfl | (simp only [List.length_drop, List.length_take]; rfl)) ?_; (with_reducible refine (dom_Apply.calls _ _ t457 t460 t461 3 a1 0 0 (⟨#[]⟩ : ByteArray) (⟨#[]⟩ : ByteArray) (⟨#[]⟩ : ByteArray) (⟨#[]⟩ : ByteArray) (⟨#[]⟩ : ByteArray) t462 t465 t466 t467 _ ?side1 ?side2 A6.out).mono ?_); (case side1 => repeat (first | exact (Kd.S_reads' HO459.out).2.2 | (with_reducible refine Kd.C_alloc ?_ _) | (with_reducible refine Kd.C_drewN ?_ _) | (with_reducible refine Kd.C_drew ?_))); (case side2 => exact (Kd.S_reads' HO459.out).2.1); rintro e w15 ⟨v463, rfl, ho0, hb⟩; refine ⟨_, rfl, ?_⟩; have n0_ := Aside0.mk (Kd.S_elder' (by (with_reducible repeat (first | apply Kd.S_alloc | apply Kd.S_drewN | apply Kd.S_drew)); exact HO459.out) (Kd.S_base ho0) hb); have n1_ := Aside0.mk (Kd.S_lower (Kd.S_new' ho0 (Kd.S_lt (by (with_reducible repeat (first | apply Kd.S_alloc | apply Kd.S_drewN | apply Kd.S_drew)); exact HO459.out))) (below_size (by repeat (first | (with_reducible first | exact HB.out | apply below_alloc | apply pw_below_drewN | apply below_drew1 | refine below_set ?_ GE455.out) | exact HB.out)))); have n2_ := Aside0.mk (blk_below (g := gb455) (o := .cells #[.slice A0_0 l0_0.length c0_0, .int .i64 a0_1, .int .i64 a0_2] 24 (0, 0)) (by (with_reducible repeat (first | refine blk_drewN ?_ _ | refine blk_drew ?_ | refine blk_alloc ?_ _)); exact BK455.out) hb); have n3_ := Aside0.mk (below_step (by repeat (first | (with_reducible first | exact HB.out | apply below_alloc | apply pw_below_drewN | apply below_drew1 | refine below_set ?_ GE455.out) | exact HB.out)) hb); clear HO459; clear BK455; clear HB; have HO459 := n0_; have HO464 := n1_; have BK455 := n2_; have HB := n3_; clear n0_ n1_ n2_ n3_; (try clear hb); (try clear hb2); (try clear hk); (try clear hi); (try clear ho0)) | ((with_reducible refine gate_dst (N := 5) rfl ?_); (try (refine gate_guard (by rfl) ?_; dsimp only)); refine box_event ?hg (N := 5) ?hd (cs := #[.slice none 0 0, .int .i64 0, .int .i64 0]) (t := 28) ?hr ?_; (case hd => rfl); (case hg => rfl); (case hr => first | (go_simp; done) | (go_simp; rfl)); intro gb468 hg w16 hbox hb; have n0_ := Aside0.mk (Kd.S_below (by (with_reducible repeat (first | apply Kd.S_alloc | apply Kd.S_drewN | apply Kd.S_drew)); exact HO459.out) hb); have n1_ := Aside0.mk (Kd.S_below (by (with_reducible repeat (first | apply Kd.S_alloc | apply Kd.S_drewN | apply Kd.S_drew)); exact HO464.out) hb); have n2_ := Aside0.mk (blk_below (g := gb455) (o := .cells #[.slice A0_0 l0_0.length c0_0, .int .i64 a0_1, .int .i64 a0_2] 24 (0, 0)) (by (with_reducible repeat (first | refine blk_drewN ?_ _ | refine blk_drew ?_ | refine blk_alloc ?_ _)); exact BK455.out) hb); have n3_ := Aside0.mk (below_step (by repeat (first | (with_reducible first | exact HB.out | apply below_alloc | apply pw_below_drewN | apply below_drew1 | refine below_set ?_ GE455.out) | exact HB.out)) hb); have n4_ := Aside0.mk (hbox); have n5_ := Aside0.mk ((by rw [hg]; exact (below_size (by repeat (first | (with_reducible first | exact HB.out | apply below_alloc | apply pw_below_drewN | apply below_drew1 | refine below_set ?_ GE455.out) | exact HB.out))) : w.heap.size ≤ gb468)); have n6_ := Aside0.mk ((by rw [hg]; exact (below_size (by repeat (first | (with_reducible first | exact HB.out | apply below_alloc | apply pw_below_drewN | apply below_drew1 | refine below_set ?_ GE455.out) | exact HB.out))) : w.heap.size ≤ gb468)); have n7_ := Aside0.mk ((by rw [hg]; exact Nat.ne_of_lt (blk_lt (g := gb455) (o := .cells #[.slice A0_0 l0_0.length c0_0, .int .i64 a0_1, .int .i64 a0_2] 24 (0, 0)) (by (with_reducible repeat (first | refine blk_drewN ?_ _ | refine blk_drew ?_ | refine blk_alloc ?_ _)); exact BK455.out)) : gb455 ≠ gb468)); have n8_ := Aside0.mk ((by rw [hg]; exact Nat.ne_of_gt (blk_lt (g := gb455) (o := .cells #[.slice A0_0 l0_0.length c0_0, .int .i64 a0_1, .int .i64 a0_2] 24 (0, 0)) (by (with_reducible repeat (first | refine blk_drewN ?_ _ | refine blk_drew ?_ | refine blk_alloc ?_ _)); exact BK455.out)) : gb468 ≠ gb455)); clear HO459; clear HO464; clear BK455; clear HB; have HO459 := n0_; have HO464 := n1_; have BK455 := n2_; have HB := n3_; have BK468 := n4_; have GW468 := n5_; have GE468 := n6_; have NB455_468 := n7_; have NB468_455 := n8_; clear n0_ n1_ n2_ n3_ n4_ n5_ n6_ n7_ n8_; clear hb hbox hg; obtain ⟨Ao17, co17, eo17⟩ := Kd.S_slice HO464.out; subst eo17; have hnb18 := NB468_455.out; have hnc18 := NB455_468.out; have hcz19_0 : w16.cell? ⟨gb468, 0, none⟩ = some (.slice none 0 0) := (blk_cell BK468.out 0).trans rfl; have hcz19_1 : w16.cell? ⟨gb468, 1, none⟩ = some (.int .i64 0) := (blk_cell BK468.out 1).trans rfl; have hcz19_2 : w16.cell? ⟨gb468, 2, none⟩ = some (.int .i64 0) := (blk_cell BK468.out 2).trans rfl; have hfz19_0 := blk_frozen BK468.out 0; have hfz19_1 := blk_frozen BK468.out 1; have hfz19_2 := blk_frozen BK468.out 2) | ((with_reducible refine gate_callee (f := 16) rfl ?_); refine goesL_ (some 25) rfl rfl Try.func16 (by kernel_rfl) rfl #[.int .i64 t467] rfl (by (try simp only [List.map_toArray, List.map_cons, List.map_nil]); first | done | rfl | (simp only [List.length_drop, List.length_take]; rfl)) ?_; (with_reducible refine (fanlightlaw10_num.calls t467 t469 _ A7.out).mono ?_); rintro e w' ⟨rfl, ⟨nd, rfl⟩⟩; refine ⟨_, rfl, ?_⟩) | ((with_reducible refine gate_dst (N := 32) rfl ?_); (try (refine gate_guard (by rfl) ?_; dsimp only)); refine Kd.R_lit (Kd.int .i64) _ 3 ?hg (N := 32) ?hd (xs := ([a1] : List Int)) (inner := [.int .i64 a1]) (ok := fun _ => True) (okp := fun _ => True) ?hr ?hp (fun _ hk => hk) trivial (Below.refl _ _) (Nat.le_refl _) (by simp) ?_; (case hd => rfl); (case hg => rfl); (case hr => first | (go_simp; done) | (go_simp; rfl)); (case hp => exact (Reps.one (show Kd.M (Kd.int .i64) _ _ _ a1 [.int .i64 a1] from rfl) (Reps.none _ _))); intro v471 w20 ho21 hb hg_ hnew_; clear hg_ hnew_; (first | rw [← Ny470.out] at ho21 | (simp only [Int.reduceToNat] at ho21; rw [← Ny470.out] at ho21)); have n0_ := Aside0.mk (Kd.S_elder' (by (with_reducible repeat (first | apply Kd.S_alloc | apply Kd.S_drewN | apply Kd.S_drew)); exact (Kd.S_mono (Kd.S_far (p := ⟨gb468, 2, none⟩) (Kd.S_far (p := ⟨gb468, 1, none⟩) (Kd.S_far (p := ⟨gb468, 0, none⟩) (Kd.S_types HO459.out BK468.out (by decide)) (fun _ hk => hk.2) (.slice Ao17 t462.length co17)) (fun _ hk => hk.2) (.int .i64 t465)) (fun _ hk => hk.2) (.int .i64 t466)) (fun _ h_ => h_.1))) (Kd.R_base ho21) hb); have n1_ := Aside0.mk (Kd.S_elder' (by (with_reducible repeat (first | apply Kd.S_alloc | apply Kd.S_drewN | apply Kd.S_drew)); exact (Kd.S_mono (Kd.S_far (p := ⟨gb468, 2, none⟩) (Kd.S_far (p := ⟨gb468, 1, none⟩) (Kd.S_far (p := ⟨gb468, 0, none⟩) (Kd.S_types HO464.out BK468.out (by decide)) (fun _ hk => hk.2) (.slice Ao17 t462.length co17)) (fun _ hk => hk.2) (.int .i64 t465)) (fun _ hk => hk.2) (.int .i64 t466)) (fun _ h_ => h_.1))) (Kd.R_base ho21) hb); have n2_ := Aside0.mk (Kd.R_lower ho21 (below_size (by repeat (first | (with_reducible first | exact HB.out | apply below_alloc | apply pw_below_drewN | apply below_drew1 | refine below_set ?_ GE455.out | refine below_set ?_ GE468.out) | exact HB.out)))); have n3_ := Aside0.mk (blk_below (g := gb455) (o := .cells #[.slice A0_0 l0_0.length c0_0, .int .i64 a0_1, .int .i64 a0_2] 24 (0, 0)) (by (with_reducible repeat (first | refine blk_drewN ?_ _ | refine blk_drew ?_ | refine blk_alloc ?_ _)); refine blk_far ?_ NB455_468.out _; (with_reducible repeat (first | refine blk_drewN ?_ _ | refine blk_drew ?_ | refine blk_alloc ?_ _)); refine blk_far ?_ NB455_468.out _; (with_reducible repeat (first | refine blk_drewN ?_ _ | refine blk_drew ?_ | refine blk_alloc ?_ _)); refine blk_far ?_ NB455_468.out _; (with_reducible repeat (first | refine blk_drewN ?_ _ | refine blk_drew ?_ | refine blk_alloc ?_ _)); exact BK455.out) hb); have n4_ := Aside0.mk (blk_below (g := gb468) (o := .cells #[.slice Ao17 t462.length co17, .int .i64 t465, .int .i64 t466] 28 (0, 0)) (by (with_reducible repeat (first | refine blk_drewN ?_ _ | refine blk_drew ?_ | refine blk_alloc ?_ _)); refine blk_put (cs := #[.slice Ao17 t462.length co17, .int .i64 t465, .int .i64 0]) ?_ 2 _ rfl; (with_reducible repeat (first | refine blk_drewN ?_ _ | refine blk_drew ?_ | refine blk_alloc ?_ _)); refine blk_put (cs := #[.slice Ao17 t462.length co17, .int .i64 0, .int .i64 0]) ?_ 1 _ rfl; (with_reducible repeat (first | refine blk_drewN ?_ _ | refine blk_drew ?_ | refine blk_alloc ?_ _)); refine blk_put (cs := #[.slice none 0 0, .int .i64 0, .int .i64 0]) ?_ 0 _ rfl; (with_reducible repeat (first | refine blk_drewN ?_ _ | refine blk_drew ?_ | refine blk_alloc ?_ _)); exact BK468.out) hb); have n5_ := Aside0.mk (below_step (by repeat (first | (with_reducible first | exact HB.out | apply below_alloc | apply pw_below_drewN | apply below_drew1 | refine below_set ?_ GE455.out | refine below_set ?_ GE468.out) | exact HB.out)) hb); clear HO459; clear HO464; clear BK455; clear BK468; clear HB; have HO459 := n0_; have HO464 := n1_; have HO472 := n2_; have BK455 := n3_; have BK468 := n4_; have HB := n5_; clear n0_ n1_ n2_ n3_ n4_ n5_; clear hb ho21))
   (try simp only [Act.put, List.setIfInBounds_toArray, List.set_cons_zero, List.set_cons_succ])
   go_cut [7] (fun v7 wc => ∃ (kq : Nat) (x7_8 : List Int), Aside0 (fanlightlaw10_DomGone.j1 kq x7_8 l0_0 a0_1 a0_2 t462 t465 t466 = some r) ∧ Aside0 (kq ≤ k) ∧ Aside0 (Kd.R (Kd.int .i64) 3 wc w.heap.size (fun _ => True) v7 x7_8) ∧ Aside0 (Kd.S k63 63 wc w.heap.size (fun k_ => some k_ ≠ (v7 : Value).ownBlock) (.slice Ao17 t462.length co17) t462) ∧ Aside0 (wc.heap[gb455]? = some (.cells #[(.slice A0_0 l0_0.length c0_0), .int .i64 a0_1, .int .i64 a0_2] 24 (0, 0))) ∧ Aside0 (wc.heap[gb468]? = some (.cells #[(.slice Ao17 t462.length co17), .int .i64 t465, .int .i64 t466] 28 (0, 0))) ∧ Aside0 (Below w.heap.size w wc))
   case first =>
    have H := HC9.out
    clear HC9
    have H' := Aside0.mk H
    clear H
    go_wp2
    go_loopg [7, 8] k (fun kq v7 v8 w' => ∃ (x7_1 : List Int) (x8_1 : Int), v8 = .int .i64 x8_1 ∧ Aside0 (fanlightlaw10_DomGone.l0 kq x7_1 x8_1 l0_0 a0_1 a0_2 t462 t465 t466 = some r) ∧ Aside0 (kq ≤ k) ∧ Aside0 (Kd.R (Kd.int .i64) 3 w' w.heap.size (fun _ => True) v7 x7_1) ∧ Aside0 (Kd.S k63 63 w' w.heap.size (fun k_ => some k_ ≠ (v7 : Value).ownBlock) (.slice Ao17 t462.length co17) t462) ∧ Aside0 (w'.heap[gb455]? = some (.cells #[(.slice A0_0 l0_0.length c0_0), .int .i64 a0_1, .int .i64 a0_2] 24 (0, 0))) ∧ Aside0 (w'.heap[gb468]? = some (.cells #[(.slice Ao17 t462.length co17), .int .i64 t465, .int .i64 t466] 28 (0, 0))) ∧ Aside0 (Below w.heap.size w w'))
    case atStart => exact ⟨(y470), (0), (by first | rfl | (simp; done) | (simp [*]; done)), H', ⟨Nat.le_refl _⟩, ⟨by (with_reducible repeat (first | apply Kd.R_alloc | apply Kd.R_drewN | apply Kd.R_drew)); exact HO472.out⟩, ⟨by (with_reducible repeat (first | apply Kd.S_alloc | apply Kd.S_drewN | apply Kd.S_drew)); exact Kd.S_mono HO464.out (fun _ hk => hk.2)⟩, ⟨by (with_reducible repeat (first | refine blk_drewN ?_ _ | refine blk_drew ?_ | refine blk_alloc ?_ _)); exact BK455.out⟩, ⟨by (with_reducible repeat (first | refine blk_drewN ?_ _ | refine blk_drew ?_ | refine blk_alloc ?_ _)); exact BK468.out⟩, ⟨by repeat (first | (with_reducible first | exact HB.out | apply below_alloc | apply pw_below_drewN | apply below_drew1 | refine below_set ?_ GE455.out | refine below_set ?_ GE468.out) | exact HB.out)⟩⟩
    case round =>
     clear H'
     try clear c1
     try clear p2
     try clear c4
     try clear c7
     try clear c8
     try clear c8b0
     try clear c8b1
     try clear c11
     try clear c16
     try clear c17
     try clear c18
     try clear hcz12_0
     try clear hcz12_1
     try clear hcz12_2
     try clear hcz19_0
     try clear hcz19_1
     try clear hcz19_2
     try clear hfz12_0
     try clear hfz12_1
     try clear hfz12_2
     try clear hfz19_0
     try clear hfz19_1
     try clear hfz19_2
     obtain ⟨x7_1, x8_1, rfl, HA, HK1, HO_7, HO_469000, BK455, BK468, HB⟩ := hrel
     cases gk with
     | zero => exact absurd HA.out (by simp [fanlightlaw10_DomGone.l0])
     | succ k1 =>
      have H := HA.out
      clear HA
      simp only [fanlightlaw10_DomGone.l0] at H
      by_cases c22 : x8_1 < (x7_1.length : Int)
      ·
       rw [if_pos c22] at H
       have c22b0 : decide (x8_1 < (x7_1.length : Int)) = true := decide_eq_true c22
       clear c22
       (first | rw [c22b0] | (simp only [i64_w, i32_w]; rw [c22b0]) | rw [c22b1] | skip)
       by_cases c23 : x8_1 < (l0_0.length : Int)
       ·
        rw [if_pos c23] at H
        have c23b0 : decide (x8_1 < (l0_0.length : Int)) = true := decide_eq_true c23
        clear c23
        by_cases c24 : 0 ≤ x8_1
        ·
         rw [if_pos c24] at H
         have c24b0 : decide (0 ≤ x8_1) = true := decide_eq_true c24
         clear c24
         replace H := Option.bind_eq_some_iff.mp H
         obtain ⟨t474, A250, H⟩ := H
         replace H : (if 0 ≤ t474 then (if t474 < (l0_0.length : Int) then (if x7_1.length + ((rd_T64 l0_0 t474).f6).length < 17592186044416 then (fanlightlaw10_DomGone.l0 k1 (x7_1 ++ ((rd_T64 l0_0 t474).f6)) (wrap64 (x8_1 + 1)) l0_0 a0_1 a0_2 t462 t465 t466) else (none)) else (none)) else (none)) = some r := H
         have A25 := Aside0.mk A250
         clear A250
         by_cases c26 : 0 ≤ t474
         ·
          rw [if_pos c26] at H
          have c26b0 : decide (0 ≤ t474) = true := decide_eq_true c26
          clear c26
          by_cases c27 : t474 < (l0_0.length : Int)
          ·
           rw [if_pos c27] at H
           have c27b0 : decide (t474 < (l0_0.length : Int)) = true := decide_eq_true c27
           clear c27
           by_cases c28 : x7_1.length + ((rd_T64 l0_0 t474).f6).length < 17592186044416
           ·
            rw [if_pos c28] at H
            have LMc28 := Aside0.mk c28
            clear c28
            obtain ⟨y476, hy476⟩ : ∃ y_ : List Int, y_ = (x7_1 ++ ((rd_T64 l0_0 t474).f6)) := ⟨_, rfl⟩
            replace H : (fanlightlaw10_DomGone.l0 k1 y476 (wrap64 (x8_1 + 1)) l0_0 a0_1 a0_2 t462 t465 t466) = some r := by first | (rw [hy476]; with_reducible exact H) | (have H2_ := (Option.bind_some _ _).symm.trans H; rw [hy476]; with_reducible exact H2_) | (have H2_ := (Option.bind_some _ _).symm.trans H; with_reducible exact H2_) | with_reducible exact H | (rw [hy476]; exact H) | exact H
            have Ny476 := Aside0.mk hy476
            clear hy476
            have H' := Aside0.mk H
            clear H
            obtain ⟨Ao29, co29, eo29⟩ := Kd.R_slice HO_7.out
            subst eo29
            have hnb30 := NB455_468.out
            have hnc30 := NB468_455.out
            have hcz31_0 : wr.cell? ⟨gb455, 0, none⟩ = some (.slice A0_0 l0_0.length c0_0) := (blk_cell BK455.out 0).trans rfl
            have hcz31_1 : wr.cell? ⟨gb455, 1, none⟩ = some (.int .i64 a0_1) := (blk_cell BK455.out 1).trans rfl
            have hcz31_2 : wr.cell? ⟨gb455, 2, none⟩ = some (.int .i64 a0_2) := (blk_cell BK455.out 2).trans rfl
            have hfz31_0 := blk_frozen BK455.out 0
            have hfz31_1 := blk_frozen BK455.out 1
            have hfz31_2 := blk_frozen BK455.out 2
            try go_wp2
            have n0_ := Aside0.mk (Kd.R_drew HO_7.out)
            have n1_ := Aside0.mk (Kd.S_drew HO_469000.out)
            have n2_ := Aside0.mk (blk_drew BK455.out)
            have n3_ := Aside0.mk (blk_drew BK468.out)
            have n4_ := Aside0.mk (below_drew1 HB.out)
            clear HO_7
            clear HO_469000
            clear BK455
            clear BK468
            clear HB
            have HO_7 := n0_
            have HO_469000 := n1_
            have BK455 := n2_
            have BK468 := n3_
            have HB := n4_
            clear n0_ n1_ n2_ n3_ n4_
            have p473 : 0 ≤ (x8_1 : Int) := of_decide_eq_true (by first | (with_reducible assumption) | assumption)
            have q473 : x8_1 < (x7_1.length : Int) := of_decide_eq_true (by first | (with_reducible assumption) | assumption)
            obtain ⟨ad473, e473, hx473_0⟩ := Kd.at_int (Kd.R_reads' HO_7.out).2.2 x8_1 p473 q473
            cases e473
            replace p473 := eq_true p473
            replace q473 := eq_true q473
            refine start_ (n := 7) (S := fun w' => w'.cell? ⟨gb455, 0, none⟩ = some (.slice A0_0 l0_0.length c0_0) ∧ w'.cell? ⟨gb455, 1, none⟩ = some (.int .i64 a0_1) ∧ w'.cell? ⟨gb455, 2, none⟩ = some (.int .i64 a0_2) ∧ w'.cell? (ad473.add (x8_1).toNat) = some (.int .i64 (rd x7_1 x8_1))) (ds := []) #[false, false, false, false, false, false, false] (by kernel_rfl) rfl rfl ⟨(blk_cell BK455.out 0).trans rfl, (blk_cell BK455.out 1).trans rfl, (blk_cell BK455.out 2).trans rfl, hx473_0⟩ (fun hHeld => ?_)
            generalize wr.drew = w32 at HO_7 HO_469000 BK455 BK468 HB hx473_0 hHeld ⊢
            refine pure_ (i := 1) (N := some 47) (v := ?_) (a' := ?_) #[false, true, false, false, false, false, false] rfl rfl (by kernel_rfl) (fun _ _ _ h => h) (Or.inl ⟨by rfl, ?_⟩) ?_ ?_
            rotate_left
            ·
             intro w'
             go_simp
             with_reducible rfl
            rotate_left
            ·
             simp only [Act.put, List.setIfInBounds_toArray, List.set_cons_zero, List.set_cons_succ, i64_w, i32_w]
             rfl
            refine pure_ (i := 2) (N := some 48) (v := ?_) (a' := ?_) #[false, true, true, false, false, false, false] rfl rfl (by kernel_rfl) (fun _ _ _ h => h) (Or.inl ⟨by rfl, ?_⟩) ?_ ?_
            rotate_left
            ·
             intro w'
             go_simp
             with_reducible rfl
            rotate_left
            ·
             simp only [Act.put, List.setIfInBounds_toArray, List.set_cons_zero, List.set_cons_succ, i64_w, i32_w]
             rfl
            refine pure_ (i := 3) (N := some 49) (v := ?_) (a' := ?_) #[false, true, true, true, false, false, false] rfl rfl (by kernel_rfl) (fun _ _ _ h => h) (Or.inl ⟨by rfl, ?_⟩) ?_ ?_
            rotate_left
            ·
             intro w'
             go_simp
             with_reducible rfl
            rotate_left
            ·
             simp only [Act.put, List.setIfInBounds_toArray, List.set_cons_zero, List.set_cons_succ, i64_w, i32_w]
             rfl
            refine take_ (i := 0) (N := some 46) (v := ?_) (a' := ?_) #[true, true, true, true, false, false, false] rfl rfl (by kernel_rfl) (fun _ _ _ h => h) (Or.inl ⟨by rfl, ?_⟩) hHeld ?_ ?_
            rotate_left
            ·
             rintro w' ⟨s0, s1, s2, s3⟩
             go_simp
             with_reducible rfl
            rotate_left
            ·
             simp only [Act.put, List.setIfInBounds_toArray, List.set_cons_zero, List.set_cons_succ, i64_w, i32_w]
             rfl
            refine take_ (i := 4) (N := some 50) (v := ?_) (a' := ?_) #[true, true, true, true, true, false, false] rfl rfl (by kernel_rfl) (fun _ _ _ h => h) (Or.inl ⟨by rfl, ?_⟩) hHeld ?_ ?_
            rotate_left
            ·
             rintro w' ⟨s0, s1, s2, s3⟩
             go_simp
             with_reducible rfl
            rotate_left
            ·
             simp only [Act.put, List.setIfInBounds_toArray, List.set_cons_zero, List.set_cons_succ, i64_w, i32_w]
             rfl
            refine one_ (i := 5) (N := some 51) #[true, true, true, true, true, true, false] rfl rfl (by kernel_rfl) (by decide) (fun K hK => ?_)
            refine goes_ Try.func25 (by kernel_rfl) rfl #[.agg #[.slice A0_0 l0_0.length c0_0, .int .i64 a0_1, .int .i64 a0_2], .int .i64 (rd x7_1 x8_1)] (by rfl) rfl rfl (by (try simp only [List.map_toArray, List.map_cons, List.map_nil]); first | done | rfl | (simp only [List.length_drop, List.length_take]; rfl)) ?_
            with_reducible refine (fanlightref10_Place.calls k1 _ _ l0_0 a0_1 a0_2 (rd x7_1 x8_1) t474 _ ?side1 ?side2 A25.out).mono ?_
            (case side1 => repeat (first | exact (Kd.C_below HR0_0.out HB.out) | (with_reducible refine Kd.C_alloc ?_ _) | (with_reducible refine Kd.C_drewN ?_ _) | (with_reducible refine Kd.C_drew ?_)))
            (case side2 => exact HC0_0.out)
            rintro e w33 ⟨rfl, hb⟩
            have HS3_ := (hb.cell (World.block_lt_of_cell? _ _ (hHeld.2.2.2))).trans (hHeld.2.2.2)
            refine ⟨_, rfl, ?_⟩
            have n0_ := Aside0.mk (Kd.R_below (by (with_reducible repeat (first | apply Kd.R_alloc | apply Kd.R_drewN | apply Kd.R_drew)); exact HO_7.out) hb)
            have n1_ := Aside0.mk (Kd.S_below (by (with_reducible repeat (first | apply Kd.S_alloc | apply Kd.S_drewN | apply Kd.S_drew)); exact HO_469000.out) hb)
            have n2_ := Aside0.mk (blk_below (g := gb455) (o := .cells #[.slice A0_0 l0_0.length c0_0, .int .i64 a0_1, .int .i64 a0_2] 24 (0, 0)) (by (with_reducible repeat (first | refine blk_drewN ?_ _ | refine blk_drew ?_ | refine blk_alloc ?_ _)); exact BK455.out) hb)
            have n3_ := Aside0.mk (blk_below (g := gb468) (o := .cells #[.slice Ao17 t462.length co17, .int .i64 t465, .int .i64 t466] 28 (0, 0)) (by (with_reducible repeat (first | refine blk_drewN ?_ _ | refine blk_drew ?_ | refine blk_alloc ?_ _)); exact BK468.out) hb)
            have n4_ := Aside0.mk (below_step (by repeat (first | (with_reducible first | exact HB.out | apply below_alloc | apply pw_below_drewN | apply below_drew1 | refine below_set ?_ GE455.out | refine below_set ?_ GE468.out) | exact HB.out)) hb)
            clear HO_7
            clear HO_469000
            clear BK455
            clear BK468
            clear HB
            have HO_7 := n0_
            have HO_469000 := n1_
            have BK455 := n2_
            have BK468 := n3_
            have HB := n4_
            clear n0_ n1_ n2_ n3_ n4_
            (try clear hb)
            (try clear hb2)
            (try clear hk)
            (try clear hi)
            refine hK.out _ _ ⟨(blk_cell BK455.out 0).trans rfl, (blk_cell BK455.out 1).trans rfl, (blk_cell BK455.out 2).trans rfl, HS3_⟩ (fun hHeld => ?_)
            clear hK K
            refine norm_ (a' := ?_) ?_ ?_
            rotate_left
            ·
             show Act.put _ (some 51) _ = _
             simp only [Act.put, List.setIfInBounds_toArray, List.set_cons_zero, List.set_cons_succ, i64_w, i32_w]
             rfl
            refine pure_ (i := 6) (N := some 9) (v := ?_) (a' := ?_) #[true, true, true, true, true, true, true] rfl rfl (by kernel_rfl) (fun _ _ _ h => h) (Or.inl ⟨by rfl, ?_⟩) ?_ ?_
            rotate_left
            ·
             intro w'
             go_simp
             with_reducible rfl
            rotate_left
            ·
             simp only [Act.put, List.setIfInBounds_toArray, List.set_cons_zero, List.set_cons_succ, i64_w, i32_w]
             rfl
            refine done_ (by kernel_rfl) ?_
            have hcz34_0 : w33.cell? ⟨gb455, 0, none⟩ = some (.slice A0_0 l0_0.length c0_0) := (blk_cell BK455.out 0).trans rfl
            have hcz34_1 : w33.cell? ⟨gb455, 1, none⟩ = some (.int .i64 a0_1) := (blk_cell BK455.out 1).trans rfl
            have hcz34_2 : w33.cell? ⟨gb455, 2, none⟩ = some (.int .i64 a0_2) := (blk_cell BK455.out 2).trans rfl
            have hfz34_0 := blk_frozen BK455.out 0
            have hfz34_1 := blk_frozen BK455.out 1
            have hfz34_2 := blk_frozen BK455.out 2
            have p475 : 0 ≤ (t474 : Int) := of_decide_eq_true (by first | (with_reducible assumption) | assumption)
            have q475 : t474 < (l0_0.length : Int) := of_decide_eq_true (by first | (with_reducible assumption) | assumption)
            obtain ⟨ad475, A475_5, c475_5, A475_6, c475_6, e475, hx475_0, hx475_1, hx475_2, hx475_3, hx475_4, hx475_5, hx475_6, hl475_5, hi475_5, hl475_6, hi475_6⟩ := at_T64 HR0_0.out t474 p475 q475
            cases e475
            replace hx475_0 := (HB.out.cell (World.block_lt_of_cell? w _ hx475_0)).trans hx475_0
            replace hx475_1 := (HB.out.cell (World.block_lt_of_cell? w _ hx475_1)).trans hx475_1
            replace hx475_2 := (HB.out.cell (World.block_lt_of_cell? w _ hx475_2)).trans hx475_2
            replace hx475_3 := (HB.out.cell (World.block_lt_of_cell? w _ hx475_3)).trans hx475_3
            replace hx475_4 := (HB.out.cell (World.block_lt_of_cell? w _ hx475_4)).trans hx475_4
            replace hx475_5 := (HB.out.cell (World.block_lt_of_cell? w _ hx475_5)).trans hx475_5
            replace hx475_6 := (HB.out.cell (World.block_lt_of_cell? w _ hx475_6)).trans hx475_6
            have HR475_5 := Aside0.mk hi475_5
            have HC475_5 := Aside0.mk hl475_5
            clear hi475_5 hl475_5
            have HR475_6 := Aside0.mk hi475_6
            have HC475_6 := Aside0.mk hl475_6
            clear hi475_6 hl475_6
            replace p475 := eq_true p475
            replace q475 := eq_true q475
            try go_wp2_with (first | ((with_reducible refine gate_builtin (b := .append) (xs := #[.tmp 52, .tmp 58]) rfl ?_); (try (refine gate_guard (by rfl) ?_; dsimp only)); at_builtin; refine Kd.R_append_rows (Kd.int .i64) (w0 := w) w.heap.size rfl (.tmp 52) (.tmp 58) 61 3 (.int .i64 0) 8 rfl Try.underlying61 info3 rfl (by decide) (by omega) (.slice (some ad473) x7_1.length co29) x7_1 ((rd_T64 l0_0 t474).f6) _ _ _ (fun _ => True) (fun _ => False) rfl rfl ?aO ?aR (fun _ _ h => h) (fun _ h => h.elim) ?aF ?aB ?aS ?aL ?_; (case aR => repeat (first | exact (Kd.C_below HR475_6.out HB.out) | (with_reducible refine Kd.C_alloc ?_ _) | (with_reducible refine Kd.C_drewN ?_ _) | (with_reducible refine Kd.C_drew ?_))); (case aB => exact (by repeat (first | (with_reducible first | exact HB.out | apply below_alloc | apply pw_below_drewN | apply below_drew1 | refine below_set ?_ GE455.out | refine below_set ?_ GE468.out) | exact HB.out))); (case aF => exact (fun _ _ => trivial)); (case aO => exact (by (with_reducible repeat (first | apply Kd.R_alloc | apply Kd.R_drewN | apply Kd.R_drew)); exact HO_7.out)); (case aS => exact (below_size (by repeat (first | (with_reducible first | exact HB.out | apply below_alloc | apply pw_below_drewN | apply below_drew1 | refine below_set ?_ GE455.out | refine below_set ?_ GE468.out) | exact HB.out)))); (case aL => have := LMc28.out; omega); intro v477 w35 ho hb hg hat; rw [← Ny476.out] at ho; have n0_ := Aside0.mk (Kd.S_after (ok := (fun _ => True)) (by (with_reducible repeat (first | apply Kd.S_alloc | apply Kd.S_drewN | apply Kd.S_drew)); exact Kd.S_mono HO_469000.out (fun _ hk => ⟨trivial, hk⟩)) hg hat); have n1_ := Aside0.mk (blk_grown (g := gb455) (o := .cells #[.slice (some ad475) l0_0.length c0_0, .int .i64 a0_1, .int .i64 a0_2] 24 (0, 0)) (by (with_reducible repeat (first | refine blk_drewN ?_ _ | refine blk_drew ?_ | refine blk_alloc ?_ _)); exact BK455.out) hg (Kd.R_ne HO_7.out BK455.out (by decide))); have n2_ := Aside0.mk (blk_grown (g := gb468) (o := .cells #[.slice Ao17 t462.length co17, .int .i64 t465, .int .i64 t466] 28 (0, 0)) (by (with_reducible repeat (first | refine blk_drewN ?_ _ | refine blk_drew ?_ | refine blk_alloc ?_ _)); exact BK468.out) hg (Kd.R_ne HO_7.out BK468.out (by decide))); have n3_ := Aside0.mk (hb); have n4_ := Aside0.mk (ho); clear HO_469000; clear BK455; clear BK468; clear HB; clear HO_7; have HO_469000 := n0_; have BK455 := n1_; have BK468 := n2_; have HB := n3_; have HO478 := n4_; clear n0_ n1_ n2_ n3_ n4_; clear ho hb hg hat))
            go_roundg k1
            case measure => have := HK1.out; omega
            case rel => exact ⟨(y476), (wrap64 (x8_1 + 1)), (by first | rfl | (simp; done) | (simp [*]; done)), H', ⟨by have := HK1.out; omega⟩, ⟨by (with_reducible repeat (first | apply Kd.R_alloc | apply Kd.R_drewN | apply Kd.R_drew)); exact HO478.out⟩, ⟨by (with_reducible repeat (first | apply Kd.S_alloc | apply Kd.S_drewN | apply Kd.S_drew)); exact Kd.S_mono HO_469000.out (fun _ hk => hk.2)⟩, ⟨by (with_reducible repeat (first | refine blk_drewN ?_ _ | refine blk_drew ?_ | refine blk_alloc ?_ _)); exact BK455.out⟩, ⟨by (with_reducible repeat (first | refine blk_drewN ?_ _ | refine blk_drew ?_ | refine blk_alloc ?_ _)); exact BK468.out⟩, ⟨by repeat (first | (with_reducible first | exact HB.out | apply below_alloc | apply pw_below_drewN | apply below_drew1 | refine below_set ?_ GE455.out | refine below_set ?_ GE468.out) | exact HB.out)⟩⟩
           ·
            rw [if_neg c28] at H
            exact absurd H (by simp)
          ·
           rw [if_neg c27] at H
           exact absurd H (by simp)
         ·
          rw [if_neg c26] at H
          exact absurd H (by simp)
        ·
         rw [if_neg c24] at H
         exact absurd H (by simp)
       ·
        rw [if_neg c23] at H
        have c23b0 : decide (x8_1 < (l0_0.length : Int)) = false := decide_eq_false c23
        clear c23
        have H' := Aside0.mk H
        clear H
        obtain ⟨Ao36, co36, eo36⟩ := Kd.R_slice HO_7.out
        subst eo36
        have hnb37 := NB455_468.out
        have hnc37 := NB468_455.out
        have hcz38_0 : wr.cell? ⟨gb455, 0, none⟩ = some (.slice A0_0 l0_0.length c0_0) := (blk_cell BK455.out 0).trans rfl
        have hcz38_1 : wr.cell? ⟨gb455, 1, none⟩ = some (.int .i64 a0_1) := (blk_cell BK455.out 1).trans rfl
        have hcz38_2 : wr.cell? ⟨gb455, 2, none⟩ = some (.int .i64 a0_2) := (blk_cell BK455.out 2).trans rfl
        have hfz38_0 := blk_frozen BK455.out 0
        have hfz38_1 := blk_frozen BK455.out 1
        have hfz38_2 := blk_frozen BK455.out 2
        go_wp2
        go_meet
        case rel => exact ⟨_, (x7_1), H', ⟨by have := HK1.out; first | omega | exact Nat.le_refl _⟩, ⟨by (with_reducible repeat (first | apply Kd.R_alloc | apply Kd.R_drewN | apply Kd.R_drew)); exact HO_7.out⟩, ⟨by (with_reducible repeat (first | apply Kd.S_alloc | apply Kd.S_drewN | apply Kd.S_drew)); exact HO_469000.out⟩, ⟨by (with_reducible repeat (first | refine blk_drewN ?_ _ | refine blk_drew ?_ | refine blk_alloc ?_ _)); exact BK455.out⟩, ⟨by (with_reducible repeat (first | refine blk_drewN ?_ _ | refine blk_drew ?_ | refine blk_alloc ?_ _)); exact BK468.out⟩, ⟨by repeat (first | (with_reducible first | exact HB.out | apply below_alloc | apply pw_below_drewN | apply below_drew1 | refine below_set ?_ GE455.out | refine below_set ?_ GE468.out) | exact HB.out)⟩⟩
      ·
       rw [if_neg c22] at H
       have c22b0 : decide (x8_1 < (x7_1.length : Int)) = false := decide_eq_false c22
       clear c22
       (first | rw [c22b0] | (simp only [i64_w, i32_w]; rw [c22b0]) | rw [c22b1] | skip)
       have H' := Aside0.mk H
       clear H
       obtain ⟨Ao39, co39, eo39⟩ := Kd.R_slice HO_7.out
       subst eo39
       go_wp2
       go_meet
       case rel => exact ⟨_, (x7_1), H', ⟨by have := HK1.out; first | omega | exact Nat.le_refl _⟩, ⟨by (with_reducible repeat (first | apply Kd.R_alloc | apply Kd.R_drewN | apply Kd.R_drew)); exact HO_7.out⟩, ⟨by (with_reducible repeat (first | apply Kd.S_alloc | apply Kd.S_drewN | apply Kd.S_drew)); exact HO_469000.out⟩, ⟨by (with_reducible repeat (first | refine blk_drewN ?_ _ | refine blk_drew ?_ | refine blk_alloc ?_ _)); exact BK455.out⟩, ⟨by (with_reducible repeat (first | refine blk_drewN ?_ _ | refine blk_drew ?_ | refine blk_alloc ?_ _)); exact BK468.out⟩, ⟨by repeat (first | (with_reducible first | exact HB.out | apply below_alloc | apply pw_below_drewN | apply below_drew1 | refine below_set ?_ GE455.out | refine below_set ?_ GE468.out) | exact HB.out)⟩⟩
   case rest =>
    clear HC9
    try clear c1
    try clear c2
    try clear p2
    try clear c3
    try clear c4
    try clear p4
    try clear q4
    try clear hx4
    try clear p6
    try clear c7
    try clear c8
    try clear c8b0
    try clear c8b1
    try clear c11
    try clear c16
    try clear c17
    try clear c18
    try clear c22
    try clear c22b0
    try clear c23
    try clear c23b0
    try clear c24
    try clear c24b0
    try clear c25
    try clear c26
    try clear c26b0
    try clear c27
    try clear c27b0
    try clear c28
    try clear c30
    try clear c37
    try clear hcz12_0
    try clear hcz12_1
    try clear hcz12_2
    try clear hcz19_0
    try clear hcz19_1
    try clear hcz19_2
    try clear hcz31_0
    try clear hcz31_1
    try clear hcz31_2
    try clear hcz34_0
    try clear hcz34_1
    try clear hcz34_2
    try clear hcz38_0
    try clear hcz38_1
    try clear hcz38_2
    try clear hfz12_0
    try clear hfz12_1
    try clear hfz12_2
    try clear hfz19_0
    try clear hfz19_1
    try clear hfz19_2
    try clear hfz31_0
    try clear hfz31_1
    try clear hfz31_2
    try clear hfz34_0
    try clear hfz34_1
    try clear hfz34_2
    try clear hfz38_0
    try clear hfz38_1
    try clear hfz38_2
    try clear hx473_0
    try clear hx475_0
    try clear hx475_1
    try clear hx475_2
    try clear hx475_3
    try clear hx475_4
    try clear hx475_5
    try clear hx475_6
    try clear p2
    try clear p473
    try clear p475
    try clear q473
    try clear q475
    obtain ⟨kq, x7_8, HA, HJ8, HO_7, HO_469000, BK455, BK468, HB⟩ := hcut
    cases kq with
    | zero => exact absurd HA.out (by simp [fanlightlaw10_DomGone.j1])
    | succ kj8 =>
     have H := HA.out
     clear HA
     simp only [fanlightlaw10_DomGone.j1] at H
     have H' := Aside0.mk H
     clear H
     go_wp2
     go_loopg [10, 11] kj8 (fun kq v10 v11 w' => ∃ (x10_2 : Int) (x11_2 : Int), v10 = .int .i64 x10_2 ∧ v11 = .int .i64 x11_2 ∧ Aside0 (fanlightlaw10_DomGone.l1 kq x7_8 x10_2 x11_2 l0_0 a0_1 a0_2 t462 t465 t466 = some r) ∧ Aside0 (kq ≤ kj8) ∧ Aside0 (Kd.R (Kd.int .i64) 3 w' w.heap.size (fun _ => True) u7 x7_8) ∧ Aside0 (Kd.S k63 63 w' w.heap.size (fun k_ => some k_ ≠ (u7 : Value).ownBlock) (.slice Ao17 t462.length co17) t462) ∧ Aside0 (w'.heap[gb455]? = some (.cells #[(.slice A0_0 l0_0.length c0_0), .int .i64 a0_1, .int .i64 a0_2] 24 (0, 0))) ∧ Aside0 (w'.heap[gb468]? = some (.cells #[(.slice Ao17 t462.length co17), .int .i64 t465, .int .i64 t466] 28 (0, 0))) ∧ Aside0 (Below w.heap.size w w'))
     case atStart => exact ⟨(0), (0), (by first | rfl | (simp; done) | (simp [*]; done)), (by first | rfl | (simp; done) | (simp [*]; done)), H', ⟨Nat.le_refl _⟩, ⟨by (with_reducible repeat (first | apply Kd.R_alloc | apply Kd.R_drewN | apply Kd.R_drew)); exact HO_7.out⟩, ⟨by (with_reducible repeat (first | apply Kd.S_alloc | apply Kd.S_drewN | apply Kd.S_drew)); exact HO_469000.out⟩, ⟨by (with_reducible repeat (first | refine blk_drewN ?_ _ | refine blk_drew ?_ | refine blk_alloc ?_ _)); exact BK455.out⟩, ⟨by (with_reducible repeat (first | refine blk_drewN ?_ _ | refine blk_drew ?_ | refine blk_alloc ?_ _)); exact BK468.out⟩, ⟨by repeat (first | (with_reducible first | exact HB.out | apply below_alloc | apply pw_below_drewN | apply below_drew1 | refine below_set ?_ GE455.out | refine below_set ?_ GE468.out) | exact HB.out)⟩⟩
     case round =>
      clear H'
      try clear c1
      try clear c2
      try clear p2
      try clear c3
      try clear c4
      try clear p4
      try clear q4
      try clear hx4
      try clear p6
      try clear c7
      try clear c8
      try clear c8b0
      try clear c8b1
      try clear c11
      try clear c16
      try clear c17
      try clear c18
      try clear c22
      try clear c22b0
      try clear c23
      try clear c23b0
      try clear c24
      try clear c24b0
      try clear c25
      try clear c26
      try clear c26b0
      try clear c27
      try clear c27b0
      try clear c28
      try clear c30
      try clear c37
      try clear hcz12_0
      try clear hcz12_1
      try clear hcz12_2
      try clear hcz19_0
      try clear hcz19_1
      try clear hcz19_2
      try clear hcz31_0
      try clear hcz31_1
      try clear hcz31_2
      try clear hcz34_0
      try clear hcz34_1
      try clear hcz34_2
      try clear hcz38_0
      try clear hcz38_1
      try clear hcz38_2
      try clear hfz12_0
      try clear hfz12_1
      try clear hfz12_2
      try clear hfz19_0
      try clear hfz19_1
      try clear hfz19_2
      try clear hfz31_0
      try clear hfz31_1
      try clear hfz31_2
      try clear hfz34_0
      try clear hfz34_1
      try clear hfz34_2
      try clear hfz38_0
      try clear hfz38_1
      try clear hfz38_2
      try clear hx473_0
      try clear hx475_0
      try clear hx475_1
      try clear hx475_2
      try clear hx475_3
      try clear hx475_4
      try clear hx475_5
      try clear hx475_6
      try clear p2
      try clear p4
      try clear p473
      try clear p475
      try clear p6
      try clear q4
      try clear q473
      try clear q475
      obtain ⟨x10_2, x11_2, rfl, rfl, HA, HK2, HO_7, HO_469000, BK455, BK468, HB⟩ := hrel
      cases gk with
      | zero => exact absurd HA.out (by simp [fanlightlaw10_DomGone.l1])
      | succ k2 =>
       have H := HA.out
       clear HA
       simp only [fanlightlaw10_DomGone.l1] at H
       by_cases c40 : x11_2 < (l0_0.length : Int)
       ·
        rw [if_pos c40] at H
        have c40b0 : decide (x11_2 < (l0_0.length : Int)) = true := decide_eq_true c40
        clear c40
        have H' := Aside0.mk H
        clear H
        have hnb41 := NB455_468.out
        have hnc41 := NB468_455.out
        have hcz42_0 : wr.cell? ⟨gb455, 0, none⟩ = some (.slice A0_0 l0_0.length c0_0) := (blk_cell BK455.out 0).trans rfl
        have hcz42_1 : wr.cell? ⟨gb455, 1, none⟩ = some (.int .i64 a0_1) := (blk_cell BK455.out 1).trans rfl
        have hcz42_2 : wr.cell? ⟨gb455, 2, none⟩ = some (.int .i64 a0_2) := (blk_cell BK455.out 2).trans rfl
        have hfz42_0 := blk_frozen BK455.out 0
        have hfz42_1 := blk_frozen BK455.out 1
        have hfz42_2 := blk_frozen BK455.out 2
        go_wp2
        go_loopg [12, 13] k2 (fun kq v12 v13 w' => ∃ (x12_3 : Bool) (x13_3 : Int), v12 = .bool x12_3 ∧ v13 = .int .i64 x13_3 ∧ Aside0 (fanlightlaw10_DomGone.l2 kq x7_8 x10_2 x11_2 x12_3 x13_3 l0_0 a0_1 a0_2 t462 t465 t466 = some r) ∧ Aside0 (kq ≤ k2) ∧ Aside0 (Kd.R (Kd.int .i64) 3 w' w.heap.size (fun _ => True) u7 x7_8) ∧ Aside0 (Kd.S k63 63 w' w.heap.size (fun k_ => some k_ ≠ (u7 : Value).ownBlock) (.slice Ao17 t462.length co17) t462) ∧ Aside0 (w'.heap[gb455]? = some (.cells #[(.slice A0_0 l0_0.length c0_0), .int .i64 a0_1, .int .i64 a0_2] 24 (0, 0))) ∧ Aside0 (w'.heap[gb468]? = some (.cells #[(.slice Ao17 t462.length co17), .int .i64 t465, .int .i64 t466] 28 (0, 0))) ∧ Aside0 (Below w.heap.size w w'))
        case atStart => exact ⟨(false), (0), (by first | rfl | (simp; done) | (simp [*]; done)), (by first | rfl | (simp; done) | (simp [*]; done)), H', ⟨Nat.le_refl _⟩, ⟨by (with_reducible repeat (first | apply Kd.R_alloc | apply Kd.R_drewN | apply Kd.R_drew)); exact HO_7.out⟩, ⟨by (with_reducible repeat (first | apply Kd.S_alloc | apply Kd.S_drewN | apply Kd.S_drew)); exact HO_469000.out⟩, ⟨by (with_reducible repeat (first | refine blk_drewN ?_ _ | refine blk_drew ?_ | refine blk_alloc ?_ _)); exact BK455.out⟩, ⟨by (with_reducible repeat (first | refine blk_drewN ?_ _ | refine blk_drew ?_ | refine blk_alloc ?_ _)); exact BK468.out⟩, ⟨by repeat (first | (with_reducible first | exact HB.out | apply below_alloc | apply pw_below_drewN | apply below_drew1 | refine below_set ?_ GE455.out | refine below_set ?_ GE468.out) | exact HB.out)⟩⟩
        case round =>
         clear H'
         try clear c1
         try clear c2
         try clear p2
         try clear c3
         try clear c4
         try clear p4
         try clear q4
         try clear hx4
         try clear p6
         try clear c7
         try clear c8
         try clear c8b0
         try clear c8b1
         try clear c11
         try clear c16
         try clear c17
         try clear c18
         try clear c22
         try clear c22b0
         try clear c23
         try clear c23b0
         try clear c24
         try clear c24b0
         try clear c25
         try clear c26
         try clear c26b0
         try clear c27
         try clear c27b0
         try clear c28
         try clear c30
         try clear c37
         try clear c40
         try clear c40b0
         try clear c41
         try clear hcz12_0
         try clear hcz12_1
         try clear hcz12_2
         try clear hcz19_0
         try clear hcz19_1
         try clear hcz19_2
         try clear hcz31_0
         try clear hcz31_1
         try clear hcz31_2
         try clear hcz34_0
         try clear hcz34_1
         try clear hcz34_2
         try clear hcz38_0
         try clear hcz38_1
         try clear hcz38_2
         try clear hcz42_0
         try clear hcz42_1
         try clear hcz42_2
         try clear hfz12_0
         try clear hfz12_1
         try clear hfz12_2
         try clear hfz19_0
         try clear hfz19_1
         try clear hfz19_2
         try clear hfz31_0
         try clear hfz31_1
         try clear hfz31_2
         try clear hfz34_0
         try clear hfz34_1
         try clear hfz34_2
         try clear hfz38_0
         try clear hfz38_1
         try clear hfz38_2
         try clear hfz42_0
         try clear hfz42_1
         try clear hfz42_2
         try clear hx473_0
         try clear hx475_0
         try clear hx475_1
         try clear hx475_2
         try clear hx475_3
         try clear hx475_4
         try clear hx475_5
         try clear hx475_6
         try clear p2
         try clear p4
         try clear p473
         try clear p475
         try clear p6
         try clear q4
         try clear q473
         try clear q475
         obtain ⟨x12_3, x13_3, rfl, rfl, HA, HK3, HO_7, HO_469000, BK455, BK468, HB⟩ := hrel
         cases gk with
         | zero => exact absurd HA.out (by simp [fanlightlaw10_DomGone.l2])
         | succ k3 =>
          have H := HA.out
          clear HA
          simp only [fanlightlaw10_DomGone.l2] at H
          by_cases c43 : x13_3 < (x7_8.length : Int)
          ·
           rw [if_pos c43] at H
           have c43b0 : decide (x13_3 < (x7_8.length : Int)) = true := decide_eq_true c43
           clear c43
           by_cases c44 : x12_3 = true
           ·
            subst c44
            have H1 : (fanlightlaw10_DomGone.l2 k3 x7_8 x10_2 x11_2 true (wrap64 (x13_3 + 1)) l0_0 a0_1 a0_2 t462 t465 t466) = some r := by rw [if_pos rfl] at H; exact H
            clear H
            have H := H1
            clear H1
            have H' := Aside0.mk H
            clear H
            obtain ⟨Ao45, co45, eo45⟩ := Kd.R_slice HO_7.out
            subst eo45
            try go_wp2
            have n0_ := Aside0.mk (Kd.R_drew HO_7.out)
            have n1_ := Aside0.mk (Kd.S_drew HO_469000.out)
            have n2_ := Aside0.mk (blk_drew BK455.out)
            have n3_ := Aside0.mk (blk_drew BK468.out)
            have n4_ := Aside0.mk (below_drew1 HB.out)
            clear HO_7
            clear HO_469000
            clear BK455
            clear BK468
            clear HB
            have HO_7 := n0_
            have HO_469000 := n1_
            have BK455 := n2_
            have BK468 := n3_
            have HB := n4_
            clear n0_ n1_ n2_ n3_ n4_
            refine start_ (n := 15) (S := fun w' => True) (ds := []) #[false, false, false, false, false, false, false, false, false, false, false, false, false, false, false] (by kernel_rfl) rfl rfl trivial (fun hHeld => ?_); refine with_tabW fanlightlaw10_DomGone.tab20 fanlightlaw10_DomGone.bits20 (fun HT_ HW_ => ?_)
            generalize wr.drew = w46 at HO_7 HO_469000 BK455 BK468 HB hHeld ⊢
            refine pure_ (i := 0) (N := some 73) (v := ?_) (a' := ?_) #[true, false, false, false, false, false, false, false, false, false, false, false, false, false, false] rfl rfl (any_of HT_.out (by kernel_rfl)) (fun _ _ _ h => h) (Or.inl ⟨by rfl, ?_⟩) ?_ ?_
            rotate_left
            ·
             intro w'
             go_simp
             with_reducible rfl
            rotate_left
            ·
             simp only [Act.put, List.setIfInBounds_toArray, List.set_cons_zero, List.set_cons_succ, i64_w, i32_w]
             rfl
            refine pure_ (i := 1) (N := some 74) (v := ?_) (a' := ?_) #[true, true, false, false, false, false, false, false, false, false, false, false, false, false, false] rfl rfl (any_of HT_.out (by kernel_rfl)) (fun _ _ _ h => h) (Or.inl ⟨by rfl, ?_⟩) ?_ ?_
            rotate_left
            ·
             intro w'
             go_simp
             with_reducible rfl
            rotate_left
            ·
             simp only [Act.put, List.setIfInBounds_toArray, List.set_cons_zero, List.set_cons_succ, i64_w, i32_w]
             rfl
            refine pure_ (i := 2) (N := some 75) (v := undef) (a' := ?_) #[true, true, true, false, false, false, false, false, false, false, false, false, false, false, false] rfl rfl (any_of HT_.out (by kernel_rfl)) (fun _ _ _ h => h) (Or.inr ⟨by rfl, rfl⟩) ?_ ?_
            rotate_left
            ·
             simp only [Act.put, List.setIfInBounds_toArray, List.set_cons_zero, List.set_cons_succ, i64_w, i32_w]
             rfl
            refine pure_ (i := 3) (N := some 76) (v := undef) (a' := ?_) #[true, true, true, true, false, false, false, false, false, false, false, false, false, false, false] rfl rfl (any_of HT_.out (by kernel_rfl)) (fun _ _ _ h => h) (Or.inr ⟨by rfl, rfl⟩) ?_ ?_
            rotate_left
            ·
             simp only [Act.put, List.setIfInBounds_toArray, List.set_cons_zero, List.set_cons_succ, i64_w, i32_w]
             rfl
            refine pure_ (i := 4) (N := some 77) (v := undef) (a' := ?_) #[true, true, true, true, true, false, false, false, false, false, false, false, false, false, false] rfl rfl (any_of HT_.out (by kernel_rfl)) (fun _ _ _ h => h) (Or.inr ⟨by rfl, rfl⟩) ?_ ?_
            rotate_left
            ·
             simp only [Act.put, List.setIfInBounds_toArray, List.set_cons_zero, List.set_cons_succ, i64_w, i32_w]
             rfl
            refine pure_ (i := 5) (N := some 78) (v := undef) (a' := ?_) #[true, true, true, true, true, true, false, false, false, false, false, false, false, false, false] rfl rfl (any_of HT_.out (by kernel_rfl)) (fun _ _ _ h => h) (Or.inr ⟨by rfl, rfl⟩) ?_ ?_
            rotate_left
            ·
             simp only [Act.put, List.setIfInBounds_toArray, List.set_cons_zero, List.set_cons_succ, i64_w, i32_w]
             rfl
            refine pure_ (i := 6) (N := some 79) (v := undef) (a' := ?_) #[true, true, true, true, true, true, true, false, false, false, false, false, false, false, false] rfl rfl (any_of HT_.out (by kernel_rfl)) (fun _ _ _ h => h) (Or.inr ⟨by rfl, rfl⟩) ?_ ?_
            rotate_left
            ·
             simp only [Act.put, List.setIfInBounds_toArray, List.set_cons_zero, List.set_cons_succ, i64_w, i32_w]
             rfl
            refine pure_ (i := 7) (N := some 80) (v := undef) (a' := ?_) #[true, true, true, true, true, true, true, true, false, false, false, false, false, false, false] rfl rfl (any_of HT_.out (by kernel_rfl)) (fun _ _ _ h => h) (Or.inr ⟨by rfl, rfl⟩) ?_ ?_
            rotate_left
            ·
             simp only [Act.put, List.setIfInBounds_toArray, List.set_cons_zero, List.set_cons_succ, i64_w, i32_w]
             rfl
            refine pure_ (i := 8) (N := some 81) (v := undef) (a' := ?_) #[true, true, true, true, true, true, true, true, true, false, false, false, false, false, false] rfl rfl (any_of HT_.out (by kernel_rfl)) (fun _ _ _ h => h) (Or.inr ⟨by rfl, rfl⟩) ?_ ?_
            rotate_left
            ·
             simp only [Act.put, List.setIfInBounds_toArray, List.set_cons_zero, List.set_cons_succ, i64_w, i32_w]
             rfl
            refine pure_ (i := 9) (N := some 82) (v := undef) (a' := ?_) #[true, true, true, true, true, true, true, true, true, true, false, false, false, false, false] rfl rfl (any_of HT_.out (by kernel_rfl)) (fun _ _ _ h => h) (Or.inr ⟨by rfl, rfl⟩) ?_ ?_
            rotate_left
            ·
             simp only [Act.put, List.setIfInBounds_toArray, List.set_cons_zero, List.set_cons_succ, i64_w, i32_w]
             rfl
            refine pure_ (i := 10) (N := some 83) (v := undef) (a' := ?_) #[true, true, true, true, true, true, true, true, true, true, true, false, false, false, false] rfl rfl (any_of HT_.out (by kernel_rfl)) (fun _ _ _ h => h) (Or.inr ⟨by rfl, rfl⟩) ?_ ?_
            rotate_left
            ·
             simp only [Act.put, List.setIfInBounds_toArray, List.set_cons_zero, List.set_cons_succ, i64_w, i32_w]
             rfl
            refine pure_ (i := 11) (N := some 84) (v := undef) (a' := ?_) #[true, true, true, true, true, true, true, true, true, true, true, true, false, false, false] rfl rfl (any_of HT_.out (by kernel_rfl)) (fun _ _ _ h => h) (Or.inr ⟨by rfl, rfl⟩) ?_ ?_
            rotate_left
            ·
             simp only [Act.put, List.setIfInBounds_toArray, List.set_cons_zero, List.set_cons_succ, i64_w, i32_w]
             rfl
            refine pure_ (i := 12) (N := some 85) (v := undef) (a' := ?_) #[true, true, true, true, true, true, true, true, true, true, true, true, true, false, false] rfl rfl (any_of HT_.out (by kernel_rfl)) (fun _ _ _ h => h) (Or.inr ⟨by rfl, rfl⟩) ?_ ?_
            rotate_left
            ·
             simp only [Act.put, List.setIfInBounds_toArray, List.set_cons_zero, List.set_cons_succ, i64_w, i32_w]
             rfl
            refine pure_ (i := 13) (N := some 86) (v := ?_) (a' := ?_) #[true, true, true, true, true, true, true, true, true, true, true, true, true, true, false] rfl rfl (any_of HT_.out (by kernel_rfl)) (fun _ _ _ h => h) (Or.inl ⟨by rfl, ?_⟩) ?_ ?_
            rotate_left
            ·
             intro w'
             go_simp
             with_reducible rfl
            rotate_left
            ·
             simp only [Act.put, List.setIfInBounds_toArray, List.set_cons_zero, List.set_cons_succ, i64_w, i32_w]
             rfl
            refine pure_ (i := 14) (N := some 12) (v := ?_) (a' := ?_) #[true, true, true, true, true, true, true, true, true, true, true, true, true, true, true] rfl rfl (any_of HT_.out (by kernel_rfl)) (fun _ _ _ h => h) (Or.inl ⟨by rfl, ?_⟩) ?_ ?_
            rotate_left
            ·
             intro w'
             go_simp
             with_reducible rfl
            rotate_left
            ·
             simp only [Act.put, List.setIfInBounds_toArray, List.set_cons_zero, List.set_cons_succ, i64_w, i32_w]
             rfl
            refine done_ (done_of HT_.out (by kernel_rfl)) ?_
            try go_wp2
            go_roundg k3
            case measure => have := HJ8.out; have := HK2.out; have := HK3.out; omega
            case rel => exact ⟨(true), (wrap64 (x13_3 + 1)), (by first | rfl | (simp; done) | (simp [*]; done)), (by first | rfl | (simp; done) | (simp [*]; done)), H', ⟨by have := HJ8.out; have := HK2.out; have := HK3.out; omega⟩, ⟨by (with_reducible repeat (first | apply Kd.R_alloc | apply Kd.R_drewN | apply Kd.R_drew)); exact HO_7.out⟩, ⟨by (with_reducible repeat (first | apply Kd.S_alloc | apply Kd.S_drewN | apply Kd.S_drew)); exact HO_469000.out⟩, ⟨by (with_reducible repeat (first | refine blk_drewN ?_ _ | refine blk_drew ?_ | refine blk_alloc ?_ _)); exact BK455.out⟩, ⟨by (with_reducible repeat (first | refine blk_drewN ?_ _ | refine blk_drew ?_ | refine blk_alloc ?_ _)); exact BK468.out⟩, ⟨by repeat (first | (with_reducible first | exact HB.out | apply below_alloc | apply pw_below_drewN | apply below_drew1 | refine below_set ?_ GE455.out | refine below_set ?_ GE468.out) | exact HB.out)⟩⟩
           ·
            replace c44 := Bool.eq_false_iff.mpr c44
            subst c44
            have H1 : (if 0 ≤ x13_3 then (if 0 ≤ x11_2 then (if x11_2 < (l0_0.length : Int) then (fanlightlaw10_DomGone.l2 k3 x7_8 x10_2 x11_2 ((rd x7_8 x13_3) == ((rd_T64 l0_0 x11_2).f0)) (wrap64 (x13_3 + 1)) l0_0 a0_1 a0_2 t462 t465 t466) else (none)) else (none)) else (none)) = some r := by rw [if_neg (show ¬ (false = true) by decide)] at H; exact H
            clear H
            have H := H1
            clear H1
            by_cases c47 : 0 ≤ x13_3
            ·
             rw [if_pos c47] at H
             have c47b0 : decide (0 ≤ x13_3) = true := decide_eq_true c47
             clear c47
             by_cases c48 : 0 ≤ x11_2
             ·
              rw [if_pos c48] at H
              have c48b0 : decide (0 ≤ x11_2) = true := decide_eq_true c48
              clear c48
              by_cases c49 : x11_2 < (l0_0.length : Int)
              ·
               rw [if_pos c49] at H
               have c49b0 : decide (x11_2 < (l0_0.length : Int)) = true := decide_eq_true c49
               clear c49
               have H' := Aside0.mk H
               clear H
               obtain ⟨Ao50, co50, eo50⟩ := Kd.R_slice HO_7.out
               subst eo50
               try go_wp2
               have n0_ := Aside0.mk (Kd.R_drew HO_7.out)
               have n1_ := Aside0.mk (Kd.S_drew HO_469000.out)
               have n2_ := Aside0.mk (blk_drew BK455.out)
               have n3_ := Aside0.mk (blk_drew BK468.out)
               have n4_ := Aside0.mk (below_drew1 HB.out)
               clear HO_7
               clear HO_469000
               clear BK455
               clear BK468
               clear HB
               have HO_7 := n0_
               have HO_469000 := n1_
               have BK455 := n2_
               have BK468 := n3_
               have HB := n4_
               clear n0_ n1_ n2_ n3_ n4_
               have p479 : 0 ≤ (x13_3 : Int) := of_decide_eq_true (by first | (with_reducible assumption) | assumption)
               have q479 : x13_3 < (x7_8.length : Int) := of_decide_eq_true (by first | (with_reducible assumption) | assumption)
               obtain ⟨ad479, e479, hx479_0⟩ := Kd.at_int (Kd.R_reads' HO_7.out).2.2 x13_3 p479 q479
               cases e479
               replace p479 := eq_true p479
               replace q479 := eq_true q479
               have p480 : 0 ≤ (x11_2 : Int) := of_decide_eq_true (by first | (with_reducible assumption) | assumption)
               have q480 : x11_2 < (l0_0.length : Int) := of_decide_eq_true (by first | (with_reducible assumption) | assumption)
               obtain ⟨ad480, A480_5, c480_5, A480_6, c480_6, e480, hx480_0, hx480_1, hx480_2, hx480_3, hx480_4, hx480_5, hx480_6, hl480_5, hi480_5, hl480_6, hi480_6⟩ := at_T64 HR0_0.out x11_2 p480 q480
               have hw480_6 := hx480_6
               have hw480_5 := hx480_5
               have hw480_4 := hx480_4
               have hw480_3 := hx480_3
               have hw480_2 := hx480_2
               have hw480_1 := hx480_1
               have hw480_0 := hx480_0
               cases e480
               replace hx480_0 := (HB.out.cell (World.block_lt_of_cell? w _ hx480_0)).trans hx480_0
               replace hx480_1 := (HB.out.cell (World.block_lt_of_cell? w _ hx480_1)).trans hx480_1
               replace hx480_2 := (HB.out.cell (World.block_lt_of_cell? w _ hx480_2)).trans hx480_2
               replace hx480_3 := (HB.out.cell (World.block_lt_of_cell? w _ hx480_3)).trans hx480_3
               replace hx480_4 := (HB.out.cell (World.block_lt_of_cell? w _ hx480_4)).trans hx480_4
               replace hx480_5 := (HB.out.cell (World.block_lt_of_cell? w _ hx480_5)).trans hx480_5
               replace hx480_6 := (HB.out.cell (World.block_lt_of_cell? w _ hx480_6)).trans hx480_6
               have HR480_5 := Aside0.mk hi480_5
               have HC480_5 := Aside0.mk hl480_5
               clear hi480_5 hl480_5
               have HR480_6 := Aside0.mk hi480_6
               have HC480_6 := Aside0.mk hl480_6
               clear hi480_6 hl480_6
               replace p480 := eq_true p480
               replace q480 := eq_true q480
               refine start_ (n := 15) (S := fun w' => w'.cell? ⟨gb455, 0, none⟩ = some (.slice (some ad480) l0_0.length c0_0) ∧ w'.cell? ⟨gb455, 1, none⟩ = some (.int .i64 a0_1) ∧ w'.cell? ⟨gb455, 2, none⟩ = some (.int .i64 a0_2) ∧ w'.cell? (ad479.add (x13_3).toNat) = some (.int .i64 (rd x7_8 x13_3)) ∧ w'.cell? (ad480.add ((x11_2).toNat * 7)) = some (.int .i64 ((rd_T64 l0_0 x11_2).f0)) ∧ w'.cell? ⟨(ad480.add ((x11_2).toNat * 7)).block, (ad480.add ((x11_2).toNat * 7)).off + 1, none⟩ = some (.int .i64 ((rd_T64 l0_0 x11_2).f1)) ∧ w'.cell? ⟨(ad480.add ((x11_2).toNat * 7)).block, (ad480.add ((x11_2).toNat * 7)).off + 2, none⟩ = some (.string ((rd_T64 l0_0 x11_2).f2)) ∧ w'.cell? ⟨(ad480.add ((x11_2).toNat * 7)).block, (ad480.add ((x11_2).toNat * 7)).off + 3, none⟩ = some (.string ((rd_T64 l0_0 x11_2).f3)) ∧ w'.cell? ⟨(ad480.add ((x11_2).toNat * 7)).block, (ad480.add ((x11_2).toNat * 7)).off + 4, none⟩ = some (.string ((rd_T64 l0_0 x11_2).f4)) ∧ w'.cell? ⟨(ad480.add ((x11_2).toNat * 7)).block, (ad480.add ((x11_2).toNat * 7)).off + 5, none⟩ = some (.slice A480_5 ((rd_T64 l0_0 x11_2).f5).length c480_5) ∧ w'.cell? ⟨(ad480.add ((x11_2).toNat * 7)).block, (ad480.add ((x11_2).toNat * 7)).off + 6, none⟩ = some (.slice A480_6 ((rd_T64 l0_0 x11_2).f6).length c480_6)) (ds := []) #[false, false, false, false, false, false, false, false, false, false, false, false, false, false, false] (by kernel_rfl) rfl rfl ⟨(blk_cell BK455.out 0).trans rfl, (blk_cell BK455.out 1).trans rfl, (blk_cell BK455.out 2).trans rfl, hx479_0, ((HB.out.cell (World.block_lt_of_cell? w _ hw480_0)).trans hw480_0), ((HB.out.cell (World.block_lt_of_cell? w _ hw480_1)).trans hw480_1), ((HB.out.cell (World.block_lt_of_cell? w _ hw480_2)).trans hw480_2), ((HB.out.cell (World.block_lt_of_cell? w _ hw480_3)).trans hw480_3), ((HB.out.cell (World.block_lt_of_cell? w _ hw480_4)).trans hw480_4), ((HB.out.cell (World.block_lt_of_cell? w _ hw480_5)).trans hw480_5), ((HB.out.cell (World.block_lt_of_cell? w _ hw480_6)).trans hw480_6)⟩ (fun hHeld => ?_); refine with_tabW fanlightlaw10_DomGone.tab20 fanlightlaw10_DomGone.bits20 (fun HT_ HW_ => ?_)
               generalize wr.drew = w51 at HO_7 HO_469000 BK455 BK468 HB HR480_5 HR480_6 hx479_0 hx480_0 hx480_1 hx480_2 hx480_3 hx480_4 hx480_5 hx480_6 hHeld ⊢
               refine pure_ (i := 0) (N := some 73) (v := ?_) (a' := ?_) #[true, false, false, false, false, false, false, false, false, false, false, false, false, false, false] rfl rfl (any_of HT_.out (by kernel_rfl)) (fun _ _ _ h => h) (Or.inl ⟨by rfl, ?_⟩) ?_ ?_
               rotate_left
               ·
                intro w'
                go_simp
                with_reducible rfl
               rotate_left
               ·
                simp only [Act.put, List.setIfInBounds_toArray, List.set_cons_zero, List.set_cons_succ, i64_w, i32_w]
                rfl
               refine pure_ (i := 1) (N := some 74) (v := ?_) (a' := ?_) #[true, true, false, false, false, false, false, false, false, false, false, false, false, false, false] rfl rfl (any_of HT_.out (by kernel_rfl)) (fun _ _ _ h => h) (Or.inl ⟨by rfl, ?_⟩) ?_ ?_
               rotate_left
               ·
                intro w'
                go_simp
                with_reducible rfl
               rotate_left
               ·
                simp only [Act.put, List.setIfInBounds_toArray, List.set_cons_zero, List.set_cons_succ, i64_w, i32_w]
                rfl
               refine pure_ (i := 2) (N := some 75) (v := ?_) (a' := ?_) #[true, true, true, false, false, false, false, false, false, false, false, false, false, false, false] rfl rfl (any_of HT_.out (by kernel_rfl)) (fun _ _ _ h => h) (Or.inl ⟨by rfl, ?_⟩) ?_ ?_
               rotate_left
               ·
                intro w'
                go_simp
                with_reducible rfl
               rotate_left
               ·
                simp only [Act.put, List.setIfInBounds_toArray, List.set_cons_zero, List.set_cons_succ, i64_w, i32_w]
                rfl
               refine pure_ (i := 3) (N := some 76) (v := ?_) (a' := ?_) #[true, true, true, true, false, false, false, false, false, false, false, false, false, false, false] rfl rfl (any_of HT_.out (by kernel_rfl)) (fun _ _ _ h => h) (Or.inl ⟨by rfl, ?_⟩) ?_ ?_
               rotate_left
               ·
                intro w'
                go_simp
                with_reducible rfl
               rotate_left
               ·
                simp only [Act.put, List.setIfInBounds_toArray, List.set_cons_zero, List.set_cons_succ, i64_w, i32_w]
                rfl
               refine pure_ (i := 4) (N := some 77) (v := ?_) (a' := ?_) #[true, true, true, true, true, false, false, false, false, false, false, false, false, false, false] rfl rfl (any_of HT_.out (by kernel_rfl)) (fun _ _ _ h => h) (Or.inl ⟨by rfl, ?_⟩) ?_ ?_
               rotate_left
               ·
                intro w'
                go_simp
                with_reducible rfl
               rotate_left
               ·
                simp only [Act.put, List.setIfInBounds_toArray, List.set_cons_zero, List.set_cons_succ, i64_w, i32_w]
                rfl
               refine pure_ (i := 6) (N := some 79) (v := ?_) (a' := ?_) #[true, true, true, true, true, false, true, false, false, false, false, false, false, false, false] rfl rfl (any_of HT_.out (by kernel_rfl)) (fun _ _ _ h => h) (Or.inl ⟨by rfl, ?_⟩) ?_ ?_
               rotate_left
               ·
                intro w'
                go_simp
                with_reducible rfl
               rotate_left
               ·
                simp only [Act.put, List.setIfInBounds_toArray, List.set_cons_zero, List.set_cons_succ, i64_w, i32_w]
                rfl
               refine pure_ (i := 8) (N := some 81) (v := ?_) (a' := ?_) #[true, true, true, true, true, false, true, false, true, false, false, false, false, false, false] rfl rfl (any_of HT_.out (by kernel_rfl)) (fun _ _ _ h => h) (Or.inl ⟨by rfl, ?_⟩) ?_ ?_
               rotate_left
               ·
                intro w'
                go_simp
                with_reducible rfl
               rotate_left
               ·
                simp only [Act.put, List.setIfInBounds_toArray, List.set_cons_zero, List.set_cons_succ, i64_w, i32_w]
                rfl
               refine take_ (i := 5) (N := some 78) (v := ?_) (a' := ?_) #[true, true, true, true, true, true, true, false, true, false, false, false, false, false, false] rfl rfl (take_ofW HT_.out HW_.out (by kernel_rfl)) (fun _ _ _ h => h) (Or.inl ⟨by rfl, ?_⟩) hHeld ?_ ?_
               rotate_left
               ·
                rintro w' ⟨s0, s1, s2, s3, s4, s5, s6, s7, s8, s9, s10⟩
                go_simp
                with_reducible rfl
               rotate_left
               ·
                simp only [Act.put, List.setIfInBounds_toArray, List.set_cons_zero, List.set_cons_succ, i64_w, i32_w]
                rfl
               refine take_ (i := 7) (N := some 80) (v := ?_) (a' := ?_) #[true, true, true, true, true, true, true, true, true, false, false, false, false, false, false] rfl rfl (take_ofW HT_.out HW_.out (by kernel_rfl)) (fun _ _ _ h => h) (Or.inl ⟨by rfl, ?_⟩) hHeld ?_ ?_
               rotate_left
               ·
                rintro w' ⟨s0, s1, s2, s3, s4, s5, s6, s7, s8, s9, s10⟩
                go_simp
                with_reducible rfl
               rotate_left
               ·
                simp only [Act.put, List.setIfInBounds_toArray, List.set_cons_zero, List.set_cons_succ, i64_w, i32_w]
                rfl
               refine pure_ (i := 9) (N := some 82) (v := ?_) (a' := ?_) #[true, true, true, true, true, true, true, true, true, true, false, false, false, false, false] rfl rfl (any_of HT_.out (by kernel_rfl)) (fun _ _ _ h => h) (Or.inl ⟨by rfl, ?_⟩) ?_ ?_
               rotate_left
               ·
                intro w'
                go_simp
                with_reducible rfl
               rotate_left
               ·
                simp only [Act.put, List.setIfInBounds_toArray, List.set_cons_zero, List.set_cons_succ, i64_w, i32_w]
                rfl
               refine pure_ (i := 10) (N := some 83) (v := ?_) (a' := ?_) #[true, true, true, true, true, true, true, true, true, true, true, false, false, false, false] rfl rfl (any_of HT_.out (by kernel_rfl)) (fun _ _ _ h => h) (Or.inl ⟨by rfl, ?_⟩) ?_ ?_
               rotate_left
               ·
                intro w'
                go_simp
                with_reducible rfl
               rotate_left
               ·
                simp only [Act.put, List.setIfInBounds_toArray, List.set_cons_zero, List.set_cons_succ, i64_w, i32_w]
                rfl
               refine take_ (i := 11) (N := some 84) (v := ?_) (a' := ?_) #[true, true, true, true, true, true, true, true, true, true, true, true, false, false, false] rfl rfl (take_ofW HT_.out HW_.out (by kernel_rfl)) (fun _ _ _ h => h) (Or.inl ⟨by rfl, ?_⟩) hHeld ?_ ?_
               rotate_left
               ·
                rintro w' ⟨s0, s1, s2, s3, s4, s5, s6, s7, s8, s9, s10⟩
                go_simp
                with_reducible rfl
               rotate_left
               ·
                simp only [Act.put, List.setIfInBounds_toArray, List.set_cons_zero, List.set_cons_succ, i64_w, i32_w]
                rfl
               refine pure_ (i := 12) (N := some 85) (v := ?_) (a' := ?_) #[true, true, true, true, true, true, true, true, true, true, true, true, true, false, false] rfl rfl (any_of HT_.out (by kernel_rfl)) (fun _ _ _ h => h) (Or.inl ⟨by rfl, ?_⟩) ?_ ?_
               rotate_left
               ·
                intro w'
                go_simp
                with_reducible rfl
               rotate_left
               ·
                simp only [Act.put, List.setIfInBounds_toArray, List.set_cons_zero, List.set_cons_succ, i64_w, i32_w]
                rfl
               refine pure_ (i := 13) (N := some 86) (v := ?_) (a' := ?_) #[true, true, true, true, true, true, true, true, true, true, true, true, true, true, false] rfl rfl (any_of HT_.out (by kernel_rfl)) (fun _ _ _ h => h) (Or.inl ⟨by rfl, ?_⟩) ?_ ?_
               rotate_left
               ·
                intro w'
                go_simp
                with_reducible rfl
               rotate_left
               ·
                simp only [Act.put, List.setIfInBounds_toArray, List.set_cons_zero, List.set_cons_succ, i64_w, i32_w]
                rfl
               refine pure_ (i := 14) (N := some 12) (v := ?_) (a' := ?_) #[true, true, true, true, true, true, true, true, true, true, true, true, true, true, true] rfl rfl (any_of HT_.out (by kernel_rfl)) (fun _ _ _ h => h) (Or.inl ⟨by rfl, ?_⟩) ?_ ?_
               rotate_left
               ·
                intro w'
                go_simp
                with_reducible rfl
               rotate_left
               ·
                simp only [Act.put, List.setIfInBounds_toArray, List.set_cons_zero, List.set_cons_succ, i64_w, i32_w]
                rfl
               refine done_ (done_of HT_.out (by kernel_rfl)) ?_
               try go_wp2
               go_roundg k3
               case measure => have := HJ8.out; have := HK2.out; have := HK3.out; omega
               case rel => exact ⟨(((rd x7_8 x13_3) == ((rd_T64 l0_0 x11_2).f0))), (wrap64 (x13_3 + 1)), (by first | rfl | (simp; done) | (simp [*]; done)), (by first | rfl | (simp; done) | (simp [*]; done)), H', ⟨by have := HJ8.out; have := HK2.out; have := HK3.out; omega⟩, ⟨by (with_reducible repeat (first | apply Kd.R_alloc | apply Kd.R_drewN | apply Kd.R_drew)); exact HO_7.out⟩, ⟨by (with_reducible repeat (first | apply Kd.S_alloc | apply Kd.S_drewN | apply Kd.S_drew)); exact HO_469000.out⟩, ⟨by (with_reducible repeat (first | refine blk_drewN ?_ _ | refine blk_drew ?_ | refine blk_alloc ?_ _)); exact BK455.out⟩, ⟨by (with_reducible repeat (first | refine blk_drewN ?_ _ | refine blk_drew ?_ | refine blk_alloc ?_ _)); exact BK468.out⟩, ⟨by repeat (first | (with_reducible first | exact HB.out | apply below_alloc | apply pw_below_drewN | apply below_drew1 | refine below_set ?_ GE455.out | refine below_set ?_ GE468.out) | exact HB.out)⟩⟩
              ·
               rw [if_neg c49] at H
               exact absurd H (by simp)
             ·
              rw [if_neg c48] at H
              exact absurd H (by simp)
            ·
             rw [if_neg c47] at H
             exact absurd H (by simp)
          ·
           rw [if_neg c43] at H
           have c43b0 : decide (x13_3 < (x7_8.length : Int)) = false := decide_eq_false c43
           clear c43
           by_cases c52 : x12_3 = true
           ·
            subst c52
            have H1 : (fanlightlaw10_DomGone.l1 k3 x7_8 x10_2 (wrap64 (x11_2 + 1)) l0_0 a0_1 a0_2 t462 t465 t466) = some r := by rw [if_pos rfl] at H; exact H
            clear H
            have H := H1
            clear H1
            have H' := Aside0.mk H
            clear H
            obtain ⟨Ao53, co53, eo53⟩ := Kd.R_slice HO_7.out
            subst eo53
            go_wp2
            go_roundg k3
            case measure => have := HJ8.out; have := HK2.out; have := HK3.out; omega
            case rel => exact ⟨(x10_2), (wrap64 (x11_2 + 1)), (by first | rfl | (simp; done) | (simp [*]; done)), (by first | rfl | (simp; done) | (simp [*]; done)), H', ⟨by have := HJ8.out; have := HK2.out; have := HK3.out; omega⟩, ⟨by (with_reducible repeat (first | apply Kd.R_alloc | apply Kd.R_drewN | apply Kd.R_drew)); exact HO_7.out⟩, ⟨by (with_reducible repeat (first | apply Kd.S_alloc | apply Kd.S_drewN | apply Kd.S_drew)); exact HO_469000.out⟩, ⟨by (with_reducible repeat (first | refine blk_drewN ?_ _ | refine blk_drew ?_ | refine blk_alloc ?_ _)); exact BK455.out⟩, ⟨by (with_reducible repeat (first | refine blk_drewN ?_ _ | refine blk_drew ?_ | refine blk_alloc ?_ _)); exact BK468.out⟩, ⟨by repeat (first | (with_reducible first | exact HB.out | apply below_alloc | apply pw_below_drewN | apply below_drew1 | refine below_set ?_ GE455.out | refine below_set ?_ GE468.out) | exact HB.out)⟩⟩
           ·
            replace c52 := Bool.eq_false_iff.mpr c52
            subst c52
            have H1 : (if x10_2 ≥ (t462.length : Int) then (some false) else (if 0 ≤ x10_2 then (if x10_2 < (t462.length : Int) then (if 0 ≤ x11_2 then (if x11_2 < (l0_0.length : Int) then (if ((rd_T63 t462 x10_2).f0) = ((rd_T64 l0_0 x11_2).f0) then (if ((rd_T63 t462 x10_2).f2).toList = ((rd_T64 l0_0 x11_2).f2).toList then (if ((rd_T63 t462 x10_2).f4).toList = ((rd_T64 l0_0 x11_2).f4).toList then (if ((rd_T63 t462 x10_2).f1) = ((rd_T64 l0_0 x11_2).f1) then (fanlightlaw10_DomGone.l1 k3 x7_8 (wrap64 (x10_2 + 1)) (wrap64 (x11_2 + 1)) l0_0 a0_1 a0_2 t462 t465 t466) else (some false)) else (some false)) else (some false)) else (some false)) else (none)) else (none)) else (none)) else (none))) = some r := by rw [if_neg (show ¬ (false = true) by decide)] at H; exact H
            clear H
            have H := H1
            clear H1
            by_cases c54 : x10_2 ≥ (t462.length : Int)
            ·
             rw [if_pos c54] at H
             have c54b0 : decide ((t462.length : Int) ≤ x10_2) = true := decide_eq_true c54
             clear c54
             obtain rfl := Option.some.inj H
             cases hT
            ·
             rw [if_neg c54] at H
             have c54b0 : decide ((t462.length : Int) ≤ x10_2) = false := decide_eq_false c54
             clear c54
             by_cases c57 : 0 ≤ x10_2
             ·
              rw [if_pos c57] at H
              have c57b0 : decide (0 ≤ x10_2) = true := decide_eq_true c57
              clear c57
              by_cases c58 : x10_2 < (t462.length : Int)
              ·
               rw [if_pos c58] at H
               have c58b0 : decide (x10_2 < (t462.length : Int)) = true := decide_eq_true c58
               clear c58
               by_cases c59 : 0 ≤ x11_2
               ·
                rw [if_pos c59] at H
                have c59b0 : decide (0 ≤ x11_2) = true := decide_eq_true c59
                clear c59
                by_cases c60 : x11_2 < (l0_0.length : Int)
                ·
                 rw [if_pos c60] at H
                 have c60b0 : decide (x11_2 < (l0_0.length : Int)) = true := decide_eq_true c60
                 clear c60
                 by_cases c61 : ((rd_T63 t462 x10_2).f0) = ((rd_T64 l0_0 x11_2).f0)
                 ·
                  rw [if_pos c61] at H
                  have c61b0 : (((rd_T63 t462 x10_2).f0) == ((rd_T64 l0_0 x11_2).f0)) = true := beq_iff_eq.mpr c61
                  have c61b1 : (((rd_T63 t462 x10_2).f0) != ((rd_T64 l0_0 x11_2).f0)) = false := bne_eq_false_iff_eq.mpr c61
                  clear c61
                  by_cases c62 : ((rd_T63 t462 x10_2).f2).toList = ((rd_T64 l0_0 x11_2).f2).toList
                  ·
                   rw [if_pos c62] at H
                   have c62b0 : (((rd_T63 t462 x10_2).f2).toList == ((rd_T64 l0_0 x11_2).f2).toList) = true := beq_iff_eq.mpr c62
                   have c62b1 : (((rd_T63 t462 x10_2).f2).toList != ((rd_T64 l0_0 x11_2).f2).toList) = false := bne_eq_false_iff_eq.mpr c62
                   clear c62
                   by_cases c63 : ((rd_T63 t462 x10_2).f4).toList = ((rd_T64 l0_0 x11_2).f4).toList
                   ·
                    rw [if_pos c63] at H
                    have c63b0 : (((rd_T63 t462 x10_2).f4).toList == ((rd_T64 l0_0 x11_2).f4).toList) = true := beq_iff_eq.mpr c63
                    have c63b1 : (((rd_T63 t462 x10_2).f4).toList != ((rd_T64 l0_0 x11_2).f4).toList) = false := bne_eq_false_iff_eq.mpr c63
                    clear c63
                    by_cases c64 : ((rd_T63 t462 x10_2).f1) = ((rd_T64 l0_0 x11_2).f1)
                    ·
                     rw [if_pos c64] at H
                     have c64b0 : (((rd_T63 t462 x10_2).f1) == ((rd_T64 l0_0 x11_2).f1)) = true := beq_iff_eq.mpr c64
                     have c64b1 : (((rd_T63 t462 x10_2).f1) != ((rd_T64 l0_0 x11_2).f1)) = false := bne_eq_false_iff_eq.mpr c64
                     clear c64
                     have H' := Aside0.mk H
                     clear H
                     obtain ⟨Ao65, co65, eo65⟩ := Kd.R_slice HO_7.out
                     subst eo65
                     try go_wp2
                     have n0_ := Aside0.mk (Kd.R_drew HO_7.out)
                     have n1_ := Aside0.mk (Kd.S_drew HO_469000.out)
                     have n2_ := Aside0.mk (blk_drew BK455.out)
                     have n3_ := Aside0.mk (blk_drew BK468.out)
                     have n4_ := Aside0.mk (below_drew1 HB.out)
                     clear HO_7
                     clear HO_469000
                     clear BK455
                     clear BK468
                     clear HB
                     have HO_7 := n0_
                     have HO_469000 := n1_
                     have BK455 := n2_
                     have BK468 := n3_
                     have HB := n4_
                     clear n0_ n1_ n2_ n3_ n4_
                     have p481 : 0 ≤ (x10_2 : Int) := of_decide_eq_true (by first | (with_reducible assumption) | assumption)
                     have q481 : x10_2 < (t462.length : Int) := of_decide_eq_true (by first | (with_reducible assumption) | assumption)
                     obtain ⟨ad481, A481_5, c481_5, A481_6, c481_6, e481, hx481_0, hx481_1, hx481_2, hx481_3, hx481_4, hx481_5, hx481_6, hl481_5, hi481_5, hl481_6, hi481_6⟩ := at_T63 (Kd.S_reads' HO_469000.out).2.2 x10_2 p481 q481
                     cases e481
                     obtain ⟨ce481, hce481, hMe481, hcc481⟩ := Kd.S_get HO_469000.out z63 x10_2 p481 (by first | exact q481 | exact of_decide_eq_true (by first | (with_reducible assumption) | assumption) | (have e_ := (Kd.S_reads' HO_469000.out).1; omega))
                     obtain ⟨ve481_5, ve481_6, rfl, ge481_5, ge481_6⟩ := k63_openM hMe481
                     have hv481_5 := hcc481 5 _ rfl
                     rw [add_field _ _ 5 (by omega)] at hv481_5
                     replace hv481_5 := Option.some.inj (hv481_5.symm.trans hx481_5)
                     rw [hv481_5] at ge481_5
                     have HL481_5 := Aside0.mk (show Kd.R k68 68 _ _ _ _ ((rd_T63 t462 x10_2).f5) from ge481_5)
                     clear hv481_5 ge481_5
                     have hv481_6 := hcc481 6 _ rfl
                     rw [add_field _ _ 6 (by omega)] at hv481_6
                     replace hv481_6 := Option.some.inj (hv481_6.symm.trans hx481_6)
                     rw [hv481_6] at ge481_6
                     have HL481_6 := Aside0.mk (show Kd.R (Kd.int .i64) 3 _ _ _ _ ((rd_T63 t462 x10_2).f6) from ge481_6)
                     clear hv481_6 ge481_6
                     clear hcc481 hce481
                     have HR481_5 := Aside0.mk hi481_5
                     have HC481_5 := Aside0.mk hl481_5
                     clear hi481_5 hl481_5
                     have HR481_6 := Aside0.mk hi481_6
                     have HC481_6 := Aside0.mk hl481_6
                     clear hi481_6 hl481_6
                     replace p481 := eq_true p481
                     replace q481 := eq_true q481
                     have p482 : 0 ≤ (x11_2 : Int) := of_decide_eq_true (by first | (with_reducible assumption) | assumption)
                     have q482 : x11_2 < (l0_0.length : Int) := of_decide_eq_true (by first | (with_reducible assumption) | assumption)
                     obtain ⟨ad482, A482_5, c482_5, A482_6, c482_6, e482, hx482_0, hx482_1, hx482_2, hx482_3, hx482_4, hx482_5, hx482_6, hl482_5, hi482_5, hl482_6, hi482_6⟩ := at_T64 HR0_0.out x11_2 p482 q482
                     have hw482_6 := hx482_6
                     have hw482_5 := hx482_5
                     have hw482_4 := hx482_4
                     have hw482_3 := hx482_3
                     have hw482_2 := hx482_2
                     have hw482_1 := hx482_1
                     have hw482_0 := hx482_0
                     cases e482
                     replace hx482_0 := (HB.out.cell (World.block_lt_of_cell? w _ hx482_0)).trans hx482_0
                     replace hx482_1 := (HB.out.cell (World.block_lt_of_cell? w _ hx482_1)).trans hx482_1
                     replace hx482_2 := (HB.out.cell (World.block_lt_of_cell? w _ hx482_2)).trans hx482_2
                     replace hx482_3 := (HB.out.cell (World.block_lt_of_cell? w _ hx482_3)).trans hx482_3
                     replace hx482_4 := (HB.out.cell (World.block_lt_of_cell? w _ hx482_4)).trans hx482_4
                     replace hx482_5 := (HB.out.cell (World.block_lt_of_cell? w _ hx482_5)).trans hx482_5
                     replace hx482_6 := (HB.out.cell (World.block_lt_of_cell? w _ hx482_6)).trans hx482_6
                     have HR482_5 := Aside0.mk hi482_5
                     have HC482_5 := Aside0.mk hl482_5
                     clear hi482_5 hl482_5
                     have HR482_6 := Aside0.mk hi482_6
                     have HC482_6 := Aside0.mk hl482_6
                     clear hi482_6 hl482_6
                     replace p482 := eq_true p482
                     replace q482 := eq_true q482
                     have p483 : 0 ≤ (x10_2 : Int) := of_decide_eq_true (by first | (with_reducible assumption) | assumption)
                     have q483 : x10_2 < (t462.length : Int) := of_decide_eq_true (by first | (with_reducible assumption) | assumption)
                     obtain ⟨ad483, A483_5, c483_5, A483_6, c483_6, e483, hx483_0, hx483_1, hx483_2, hx483_3, hx483_4, hx483_5, hx483_6, hl483_5, hi483_5, hl483_6, hi483_6⟩ := at_T63 (Kd.S_reads' HO_469000.out).2.2 x10_2 p483 q483
                     obtain rfl : ad481 = ad483 := (by injection e483)
                     obtain ⟨ce483, hce483, hMe483, hcc483⟩ := Kd.S_get HO_469000.out z63 x10_2 p483 (by first | exact q483 | exact of_decide_eq_true (by first | (with_reducible assumption) | assumption) | (have e_ := (Kd.S_reads' HO_469000.out).1; omega))
                     obtain ⟨ve483_5, ve483_6, rfl, ge483_5, ge483_6⟩ := k63_openM hMe483
                     have hv483_5 := hcc483 5 _ rfl
                     rw [add_field _ _ 5 (by omega)] at hv483_5
                     replace hv483_5 := Option.some.inj (hv483_5.symm.trans hx483_5)
                     rw [hv483_5] at ge483_5
                     have HL483_5 := Aside0.mk (show Kd.R k68 68 _ _ _ _ ((rd_T63 t462 x10_2).f5) from ge483_5)
                     clear hv483_5 ge483_5
                     have hv483_6 := hcc483 6 _ rfl
                     rw [add_field _ _ 6 (by omega)] at hv483_6
                     replace hv483_6 := Option.some.inj (hv483_6.symm.trans hx483_6)
                     rw [hv483_6] at ge483_6
                     have HL483_6 := Aside0.mk (show Kd.R (Kd.int .i64) 3 _ _ _ _ ((rd_T63 t462 x10_2).f6) from ge483_6)
                     clear hv483_6 ge483_6
                     clear hcc483 hce483
                     have HR483_5 := Aside0.mk hi483_5
                     have HC483_5 := Aside0.mk hl483_5
                     clear hi483_5 hl483_5
                     have HR483_6 := Aside0.mk hi483_6
                     have HC483_6 := Aside0.mk hl483_6
                     clear hi483_6 hl483_6
                     replace p483 := eq_true p483
                     replace q483 := eq_true q483
                     have ea_ := Option.some.inj (hx481_5.symm.trans hx483_5)
                     injection ea_ with ea_ en_ ec_
                     subst ea_
                     subst ec_
                     clear en_
                     have ea_ := Option.some.inj (hx481_6.symm.trans hx483_6)
                     injection ea_ with ea_ en_ ec_
                     subst ea_
                     subst ec_
                     clear en_
                     have p484 : 0 ≤ (x11_2 : Int) := of_decide_eq_true (by first | (with_reducible assumption) | assumption)
                     have q484 : x11_2 < (l0_0.length : Int) := of_decide_eq_true (by first | (with_reducible assumption) | assumption)
                     obtain ⟨ad484, A484_5, c484_5, A484_6, c484_6, e484, hx484_0, hx484_1, hx484_2, hx484_3, hx484_4, hx484_5, hx484_6, hl484_5, hi484_5, hl484_6, hi484_6⟩ := at_T64 HR0_0.out x11_2 p484 q484
                     have hw484_6 := hx484_6
                     have hw484_5 := hx484_5
                     have hw484_4 := hx484_4
                     have hw484_3 := hx484_3
                     have hw484_2 := hx484_2
                     have hw484_1 := hx484_1
                     have hw484_0 := hx484_0
                     obtain rfl : ad482 = ad484 := (by injection e484)
                     replace hx484_0 := (HB.out.cell (World.block_lt_of_cell? w _ hx484_0)).trans hx484_0
                     replace hx484_1 := (HB.out.cell (World.block_lt_of_cell? w _ hx484_1)).trans hx484_1
                     replace hx484_2 := (HB.out.cell (World.block_lt_of_cell? w _ hx484_2)).trans hx484_2
                     replace hx484_3 := (HB.out.cell (World.block_lt_of_cell? w _ hx484_3)).trans hx484_3
                     replace hx484_4 := (HB.out.cell (World.block_lt_of_cell? w _ hx484_4)).trans hx484_4
                     replace hx484_5 := (HB.out.cell (World.block_lt_of_cell? w _ hx484_5)).trans hx484_5
                     replace hx484_6 := (HB.out.cell (World.block_lt_of_cell? w _ hx484_6)).trans hx484_6
                     have HR484_5 := Aside0.mk hi484_5
                     have HC484_5 := Aside0.mk hl484_5
                     clear hi484_5 hl484_5
                     have HR484_6 := Aside0.mk hi484_6
                     have HC484_6 := Aside0.mk hl484_6
                     clear hi484_6 hl484_6
                     replace p484 := eq_true p484
                     replace q484 := eq_true q484
                     have ea_ := Option.some.inj (hx482_5.symm.trans hx484_5)
                     injection ea_ with ea_ en_ ec_
                     subst ea_
                     subst ec_
                     clear en_
                     have ea_ := Option.some.inj (hx482_6.symm.trans hx484_6)
                     injection ea_ with ea_ en_ ec_
                     subst ea_
                     subst ec_
                     clear en_
                     have p485 : 0 ≤ (x10_2 : Int) := of_decide_eq_true (by first | (with_reducible assumption) | assumption)
                     have q485 : x10_2 < (t462.length : Int) := of_decide_eq_true (by first | (with_reducible assumption) | assumption)
                     obtain ⟨ad485, A485_5, c485_5, A485_6, c485_6, e485, hx485_0, hx485_1, hx485_2, hx485_3, hx485_4, hx485_5, hx485_6, hl485_5, hi485_5, hl485_6, hi485_6⟩ := at_T63 (Kd.S_reads' HO_469000.out).2.2 x10_2 p485 q485
                     obtain rfl : ad481 = ad485 := (by injection e485)
                     obtain ⟨ce485, hce485, hMe485, hcc485⟩ := Kd.S_get HO_469000.out z63 x10_2 p485 (by first | exact q485 | exact of_decide_eq_true (by first | (with_reducible assumption) | assumption) | (have e_ := (Kd.S_reads' HO_469000.out).1; omega))
                     obtain ⟨ve485_5, ve485_6, rfl, ge485_5, ge485_6⟩ := k63_openM hMe485
                     have hv485_5 := hcc485 5 _ rfl
                     rw [add_field _ _ 5 (by omega)] at hv485_5
                     replace hv485_5 := Option.some.inj (hv485_5.symm.trans hx485_5)
                     rw [hv485_5] at ge485_5
                     have HL485_5 := Aside0.mk (show Kd.R k68 68 _ _ _ _ ((rd_T63 t462 x10_2).f5) from ge485_5)
                     clear hv485_5 ge485_5
                     have hv485_6 := hcc485 6 _ rfl
                     rw [add_field _ _ 6 (by omega)] at hv485_6
                     replace hv485_6 := Option.some.inj (hv485_6.symm.trans hx485_6)
                     rw [hv485_6] at ge485_6
                     have HL485_6 := Aside0.mk (show Kd.R (Kd.int .i64) 3 _ _ _ _ ((rd_T63 t462 x10_2).f6) from ge485_6)
                     clear hv485_6 ge485_6
                     clear hcc485 hce485
                     have HR485_5 := Aside0.mk hi485_5
                     have HC485_5 := Aside0.mk hl485_5
                     clear hi485_5 hl485_5
                     have HR485_6 := Aside0.mk hi485_6
                     have HC485_6 := Aside0.mk hl485_6
                     clear hi485_6 hl485_6
                     replace p485 := eq_true p485
                     replace q485 := eq_true q485
                     have ea_ := Option.some.inj (hx481_5.symm.trans hx485_5)
                     injection ea_ with ea_ en_ ec_
                     subst ea_
                     subst ec_
                     clear en_
                     have ea_ := Option.some.inj (hx481_6.symm.trans hx485_6)
                     injection ea_ with ea_ en_ ec_
                     subst ea_
                     subst ec_
                     clear en_
                     have p486 : 0 ≤ (x11_2 : Int) := of_decide_eq_true (by first | (with_reducible assumption) | assumption)
                     have q486 : x11_2 < (l0_0.length : Int) := of_decide_eq_true (by first | (with_reducible assumption) | assumption)
                     obtain ⟨ad486, A486_5, c486_5, A486_6, c486_6, e486, hx486_0, hx486_1, hx486_2, hx486_3, hx486_4, hx486_5, hx486_6, hl486_5, hi486_5, hl486_6, hi486_6⟩ := at_T64 HR0_0.out x11_2 p486 q486
                     have hw486_6 := hx486_6
                     have hw486_5 := hx486_5
                     have hw486_4 := hx486_4
                     have hw486_3 := hx486_3
                     have hw486_2 := hx486_2
                     have hw486_1 := hx486_1
                     have hw486_0 := hx486_0
                     obtain rfl : ad482 = ad486 := (by injection e486)
                     replace hx486_0 := (HB.out.cell (World.block_lt_of_cell? w _ hx486_0)).trans hx486_0
                     replace hx486_1 := (HB.out.cell (World.block_lt_of_cell? w _ hx486_1)).trans hx486_1
                     replace hx486_2 := (HB.out.cell (World.block_lt_of_cell? w _ hx486_2)).trans hx486_2
                     replace hx486_3 := (HB.out.cell (World.block_lt_of_cell? w _ hx486_3)).trans hx486_3
                     replace hx486_4 := (HB.out.cell (World.block_lt_of_cell? w _ hx486_4)).trans hx486_4
                     replace hx486_5 := (HB.out.cell (World.block_lt_of_cell? w _ hx486_5)).trans hx486_5
                     replace hx486_6 := (HB.out.cell (World.block_lt_of_cell? w _ hx486_6)).trans hx486_6
                     have HR486_5 := Aside0.mk hi486_5
                     have HC486_5 := Aside0.mk hl486_5
                     clear hi486_5 hl486_5
                     have HR486_6 := Aside0.mk hi486_6
                     have HC486_6 := Aside0.mk hl486_6
                     clear hi486_6 hl486_6
                     replace p486 := eq_true p486
                     replace q486 := eq_true q486
                     have ea_ := Option.some.inj (hx482_5.symm.trans hx486_5)
                     injection ea_ with ea_ en_ ec_
                     subst ea_
                     subst ec_
                     clear en_
                     have ea_ := Option.some.inj (hx482_6.symm.trans hx486_6)
                     injection ea_ with ea_ en_ ec_
                     subst ea_
                     subst ec_
                     clear en_
                     have p487 : 0 ≤ (x10_2 : Int) := of_decide_eq_true (by first | (with_reducible assumption) | assumption)
                     have q487 : x10_2 < (t462.length : Int) := of_decide_eq_true (by first | (with_reducible assumption) | assumption)
                     obtain ⟨ad487, A487_5, c487_5, A487_6, c487_6, e487, hx487_0, hx487_1, hx487_2, hx487_3, hx487_4, hx487_5, hx487_6, hl487_5, hi487_5, hl487_6, hi487_6⟩ := at_T63 (Kd.S_reads' HO_469000.out).2.2 x10_2 p487 q487
                     obtain rfl : ad481 = ad487 := (by injection e487)
                     obtain ⟨ce487, hce487, hMe487, hcc487⟩ := Kd.S_get HO_469000.out z63 x10_2 p487 (by first | exact q487 | exact of_decide_eq_true (by first | (with_reducible assumption) | assumption) | (have e_ := (Kd.S_reads' HO_469000.out).1; omega))
                     obtain ⟨ve487_5, ve487_6, rfl, ge487_5, ge487_6⟩ := k63_openM hMe487
                     have hv487_5 := hcc487 5 _ rfl
                     rw [add_field _ _ 5 (by omega)] at hv487_5
                     replace hv487_5 := Option.some.inj (hv487_5.symm.trans hx487_5)
                     rw [hv487_5] at ge487_5
                     have HL487_5 := Aside0.mk (show Kd.R k68 68 _ _ _ _ ((rd_T63 t462 x10_2).f5) from ge487_5)
                     clear hv487_5 ge487_5
                     have hv487_6 := hcc487 6 _ rfl
                     rw [add_field _ _ 6 (by omega)] at hv487_6
                     replace hv487_6 := Option.some.inj (hv487_6.symm.trans hx487_6)
                     rw [hv487_6] at ge487_6
                     have HL487_6 := Aside0.mk (show Kd.R (Kd.int .i64) 3 _ _ _ _ ((rd_T63 t462 x10_2).f6) from ge487_6)
                     clear hv487_6 ge487_6
                     clear hcc487 hce487
                     have HR487_5 := Aside0.mk hi487_5
                     have HC487_5 := Aside0.mk hl487_5
                     clear hi487_5 hl487_5
                     have HR487_6 := Aside0.mk hi487_6
                     have HC487_6 := Aside0.mk hl487_6
                     clear hi487_6 hl487_6
                     replace p487 := eq_true p487
                     replace q487 := eq_true q487
                     have ea_ := Option.some.inj (hx481_5.symm.trans hx487_5)
                     injection ea_ with ea_ en_ ec_
                     subst ea_
                     subst ec_
                     clear en_
                     have ea_ := Option.some.inj (hx481_6.symm.trans hx487_6)
                     injection ea_ with ea_ en_ ec_
                     subst ea_
                     subst ec_
                     clear en_
                     have p488 : 0 ≤ (x11_2 : Int) := of_decide_eq_true (by first | (with_reducible assumption) | assumption)
                     have q488 : x11_2 < (l0_0.length : Int) := of_decide_eq_true (by first | (with_reducible assumption) | assumption)
                     obtain ⟨ad488, A488_5, c488_5, A488_6, c488_6, e488, hx488_0, hx488_1, hx488_2, hx488_3, hx488_4, hx488_5, hx488_6, hl488_5, hi488_5, hl488_6, hi488_6⟩ := at_T64 HR0_0.out x11_2 p488 q488
                     have hw488_6 := hx488_6
                     have hw488_5 := hx488_5
                     have hw488_4 := hx488_4
                     have hw488_3 := hx488_3
                     have hw488_2 := hx488_2
                     have hw488_1 := hx488_1
                     have hw488_0 := hx488_0
                     obtain rfl : ad482 = ad488 := (by injection e488)
                     replace hx488_0 := (HB.out.cell (World.block_lt_of_cell? w _ hx488_0)).trans hx488_0
                     replace hx488_1 := (HB.out.cell (World.block_lt_of_cell? w _ hx488_1)).trans hx488_1
                     replace hx488_2 := (HB.out.cell (World.block_lt_of_cell? w _ hx488_2)).trans hx488_2
                     replace hx488_3 := (HB.out.cell (World.block_lt_of_cell? w _ hx488_3)).trans hx488_3
                     replace hx488_4 := (HB.out.cell (World.block_lt_of_cell? w _ hx488_4)).trans hx488_4
                     replace hx488_5 := (HB.out.cell (World.block_lt_of_cell? w _ hx488_5)).trans hx488_5
                     replace hx488_6 := (HB.out.cell (World.block_lt_of_cell? w _ hx488_6)).trans hx488_6
                     have HR488_5 := Aside0.mk hi488_5
                     have HC488_5 := Aside0.mk hl488_5
                     clear hi488_5 hl488_5
                     have HR488_6 := Aside0.mk hi488_6
                     have HC488_6 := Aside0.mk hl488_6
                     clear hi488_6 hl488_6
                     replace p488 := eq_true p488
                     replace q488 := eq_true q488
                     have ea_ := Option.some.inj (hx482_5.symm.trans hx488_5)
                     injection ea_ with ea_ en_ ec_
                     subst ea_
                     subst ec_
                     clear en_
                     have ea_ := Option.some.inj (hx482_6.symm.trans hx488_6)
                     injection ea_ with ea_ en_ ec_
                     subst ea_
                     subst ec_
                     clear en_
                     refine start_ (n := 65) (S := fun w' => w'.cell? ⟨gb468, 0, none⟩ = some (.slice (some ad481) t462.length co17) ∧ w'.cell? ⟨gb468, 1, none⟩ = some (.int .i64 t465) ∧ w'.cell? ⟨gb468, 2, none⟩ = some (.int .i64 t466) ∧ w'.cell? ⟨gb455, 0, none⟩ = some (.slice (some ad482) l0_0.length c0_0) ∧ w'.cell? ⟨gb455, 1, none⟩ = some (.int .i64 a0_1) ∧ w'.cell? ⟨gb455, 2, none⟩ = some (.int .i64 a0_2) ∧ w'.cell? (ad481.add ((x10_2).toNat * 7)) = some (.int .i64 ((rd_T63 t462 x10_2).f0)) ∧ w'.cell? ⟨(ad481.add ((x10_2).toNat * 7)).block, (ad481.add ((x10_2).toNat * 7)).off + 1, none⟩ = some (.int .i64 ((rd_T63 t462 x10_2).f1)) ∧ w'.cell? ⟨(ad481.add ((x10_2).toNat * 7)).block, (ad481.add ((x10_2).toNat * 7)).off + 2, none⟩ = some (.string ((rd_T63 t462 x10_2).f2)) ∧ w'.cell? ⟨(ad481.add ((x10_2).toNat * 7)).block, (ad481.add ((x10_2).toNat * 7)).off + 3, none⟩ = some (.string ((rd_T63 t462 x10_2).f3)) ∧ w'.cell? ⟨(ad481.add ((x10_2).toNat * 7)).block, (ad481.add ((x10_2).toNat * 7)).off + 4, none⟩ = some (.string ((rd_T63 t462 x10_2).f4)) ∧ w'.cell? ⟨(ad481.add ((x10_2).toNat * 7)).block, (ad481.add ((x10_2).toNat * 7)).off + 5, none⟩ = some (.slice A481_5 ((rd_T63 t462 x10_2).f5).length c481_5) ∧ w'.cell? ⟨(ad481.add ((x10_2).toNat * 7)).block, (ad481.add ((x10_2).toNat * 7)).off + 6, none⟩ = some (.slice A481_6 ((rd_T63 t462 x10_2).f6).length c481_6) ∧ w'.cell? (ad482.add ((x11_2).toNat * 7)) = some (.int .i64 ((rd_T64 l0_0 x11_2).f0)) ∧ w'.cell? ⟨(ad482.add ((x11_2).toNat * 7)).block, (ad482.add ((x11_2).toNat * 7)).off + 1, none⟩ = some (.int .i64 ((rd_T64 l0_0 x11_2).f1)) ∧ w'.cell? ⟨(ad482.add ((x11_2).toNat * 7)).block, (ad482.add ((x11_2).toNat * 7)).off + 2, none⟩ = some (.string ((rd_T64 l0_0 x11_2).f2)) ∧ w'.cell? ⟨(ad482.add ((x11_2).toNat * 7)).block, (ad482.add ((x11_2).toNat * 7)).off + 3, none⟩ = some (.string ((rd_T64 l0_0 x11_2).f3)) ∧ w'.cell? ⟨(ad482.add ((x11_2).toNat * 7)).block, (ad482.add ((x11_2).toNat * 7)).off + 4, none⟩ = some (.string ((rd_T64 l0_0 x11_2).f4)) ∧ w'.cell? ⟨(ad482.add ((x11_2).toNat * 7)).block, (ad482.add ((x11_2).toNat * 7)).off + 5, none⟩ = some (.slice A482_5 ((rd_T64 l0_0 x11_2).f5).length c482_5) ∧ w'.cell? ⟨(ad482.add ((x11_2).toNat * 7)).block, (ad482.add ((x11_2).toNat * 7)).off + 6, none⟩ = some (.slice A482_6 ((rd_T64 l0_0 x11_2).f6).length c482_6) ∧ w'.cell? (ad481.add ((x10_2).toNat * 7)) = some (.int .i64 ((rd_T63 t462 x10_2).f0)) ∧ w'.cell? ⟨(ad481.add ((x10_2).toNat * 7)).block, (ad481.add ((x10_2).toNat * 7)).off + 1, none⟩ = some (.int .i64 ((rd_T63 t462 x10_2).f1)) ∧ w'.cell? ⟨(ad481.add ((x10_2).toNat * 7)).block, (ad481.add ((x10_2).toNat * 7)).off + 2, none⟩ = some (.string ((rd_T63 t462 x10_2).f2)) ∧ w'.cell? ⟨(ad481.add ((x10_2).toNat * 7)).block, (ad481.add ((x10_2).toNat * 7)).off + 3, none⟩ = some (.string ((rd_T63 t462 x10_2).f3)) ∧ w'.cell? ⟨(ad481.add ((x10_2).toNat * 7)).block, (ad481.add ((x10_2).toNat * 7)).off + 4, none⟩ = some (.string ((rd_T63 t462 x10_2).f4)) ∧ w'.cell? ⟨(ad481.add ((x10_2).toNat * 7)).block, (ad481.add ((x10_2).toNat * 7)).off + 5, none⟩ = some (.slice A481_5 ((rd_T63 t462 x10_2).f5).length c481_5) ∧ w'.cell? ⟨(ad481.add ((x10_2).toNat * 7)).block, (ad481.add ((x10_2).toNat * 7)).off + 6, none⟩ = some (.slice A481_6 ((rd_T63 t462 x10_2).f6).length c481_6) ∧ w'.cell? (ad482.add ((x11_2).toNat * 7)) = some (.int .i64 ((rd_T64 l0_0 x11_2).f0)) ∧ w'.cell? ⟨(ad482.add ((x11_2).toNat * 7)).block, (ad482.add ((x11_2).toNat * 7)).off + 1, none⟩ = some (.int .i64 ((rd_T64 l0_0 x11_2).f1)) ∧ w'.cell? ⟨(ad482.add ((x11_2).toNat * 7)).block, (ad482.add ((x11_2).toNat * 7)).off + 2, none⟩ = some (.string ((rd_T64 l0_0 x11_2).f2)) ∧ w'.cell? ⟨(ad482.add ((x11_2).toNat * 7)).block, (ad482.add ((x11_2).toNat * 7)).off + 3, none⟩ = some (.string ((rd_T64 l0_0 x11_2).f3)) ∧ w'.cell? ⟨(ad482.add ((x11_2).toNat * 7)).block, (ad482.add ((x11_2).toNat * 7)).off + 4, none⟩ = some (.string ((rd_T64 l0_0 x11_2).f4)) ∧ w'.cell? ⟨(ad482.add ((x11_2).toNat * 7)).block, (ad482.add ((x11_2).toNat * 7)).off + 5, none⟩ = some (.slice A482_5 ((rd_T64 l0_0 x11_2).f5).length c482_5) ∧ w'.cell? ⟨(ad482.add ((x11_2).toNat * 7)).block, (ad482.add ((x11_2).toNat * 7)).off + 6, none⟩ = some (.slice A482_6 ((rd_T64 l0_0 x11_2).f6).length c482_6) ∧ w'.cell? (ad481.add ((x10_2).toNat * 7)) = some (.int .i64 ((rd_T63 t462 x10_2).f0)) ∧ w'.cell? ⟨(ad481.add ((x10_2).toNat * 7)).block, (ad481.add ((x10_2).toNat * 7)).off + 1, none⟩ = some (.int .i64 ((rd_T63 t462 x10_2).f1)) ∧ w'.cell? ⟨(ad481.add ((x10_2).toNat * 7)).block, (ad481.add ((x10_2).toNat * 7)).off + 2, none⟩ = some (.string ((rd_T63 t462 x10_2).f2)) ∧ w'.cell? ⟨(ad481.add ((x10_2).toNat * 7)).block, (ad481.add ((x10_2).toNat * 7)).off + 3, none⟩ = some (.string ((rd_T63 t462 x10_2).f3)) ∧ w'.cell? ⟨(ad481.add ((x10_2).toNat * 7)).block, (ad481.add ((x10_2).toNat * 7)).off + 4, none⟩ = some (.string ((rd_T63 t462 x10_2).f4)) ∧ w'.cell? ⟨(ad481.add ((x10_2).toNat * 7)).block, (ad481.add ((x10_2).toNat * 7)).off + 5, none⟩ = some (.slice A481_5 ((rd_T63 t462 x10_2).f5).length c481_5) ∧ w'.cell? ⟨(ad481.add ((x10_2).toNat * 7)).block, (ad481.add ((x10_2).toNat * 7)).off + 6, none⟩ = some (.slice A481_6 ((rd_T63 t462 x10_2).f6).length c481_6) ∧ w'.cell? (ad482.add ((x11_2).toNat * 7)) = some (.int .i64 ((rd_T64 l0_0 x11_2).f0)) ∧ w'.cell? ⟨(ad482.add ((x11_2).toNat * 7)).block, (ad482.add ((x11_2).toNat * 7)).off + 1, none⟩ = some (.int .i64 ((rd_T64 l0_0 x11_2).f1)) ∧ w'.cell? ⟨(ad482.add ((x11_2).toNat * 7)).block, (ad482.add ((x11_2).toNat * 7)).off + 2, none⟩ = some (.string ((rd_T64 l0_0 x11_2).f2)) ∧ w'.cell? ⟨(ad482.add ((x11_2).toNat * 7)).block, (ad482.add ((x11_2).toNat * 7)).off + 3, none⟩ = some (.string ((rd_T64 l0_0 x11_2).f3)) ∧ w'.cell? ⟨(ad482.add ((x11_2).toNat * 7)).block, (ad482.add ((x11_2).toNat * 7)).off + 4, none⟩ = some (.string ((rd_T64 l0_0 x11_2).f4)) ∧ w'.cell? ⟨(ad482.add ((x11_2).toNat * 7)).block, (ad482.add ((x11_2).toNat * 7)).off + 5, none⟩ = some (.slice A482_5 ((rd_T64 l0_0 x11_2).f5).length c482_5) ∧ w'.cell? ⟨(ad482.add ((x11_2).toNat * 7)).block, (ad482.add ((x11_2).toNat * 7)).off + 6, none⟩ = some (.slice A482_6 ((rd_T64 l0_0 x11_2).f6).length c482_6) ∧ w'.cell? (ad481.add ((x10_2).toNat * 7)) = some (.int .i64 ((rd_T63 t462 x10_2).f0)) ∧ w'.cell? ⟨(ad481.add ((x10_2).toNat * 7)).block, (ad481.add ((x10_2).toNat * 7)).off + 1, none⟩ = some (.int .i64 ((rd_T63 t462 x10_2).f1)) ∧ w'.cell? ⟨(ad481.add ((x10_2).toNat * 7)).block, (ad481.add ((x10_2).toNat * 7)).off + 2, none⟩ = some (.string ((rd_T63 t462 x10_2).f2)) ∧ w'.cell? ⟨(ad481.add ((x10_2).toNat * 7)).block, (ad481.add ((x10_2).toNat * 7)).off + 3, none⟩ = some (.string ((rd_T63 t462 x10_2).f3)) ∧ w'.cell? ⟨(ad481.add ((x10_2).toNat * 7)).block, (ad481.add ((x10_2).toNat * 7)).off + 4, none⟩ = some (.string ((rd_T63 t462 x10_2).f4)) ∧ w'.cell? ⟨(ad481.add ((x10_2).toNat * 7)).block, (ad481.add ((x10_2).toNat * 7)).off + 5, none⟩ = some (.slice A481_5 ((rd_T63 t462 x10_2).f5).length c481_5) ∧ w'.cell? ⟨(ad481.add ((x10_2).toNat * 7)).block, (ad481.add ((x10_2).toNat * 7)).off + 6, none⟩ = some (.slice A481_6 ((rd_T63 t462 x10_2).f6).length c481_6) ∧ w'.cell? (ad482.add ((x11_2).toNat * 7)) = some (.int .i64 ((rd_T64 l0_0 x11_2).f0)) ∧ w'.cell? ⟨(ad482.add ((x11_2).toNat * 7)).block, (ad482.add ((x11_2).toNat * 7)).off + 1, none⟩ = some (.int .i64 ((rd_T64 l0_0 x11_2).f1)) ∧ w'.cell? ⟨(ad482.add ((x11_2).toNat * 7)).block, (ad482.add ((x11_2).toNat * 7)).off + 2, none⟩ = some (.string ((rd_T64 l0_0 x11_2).f2)) ∧ w'.cell? ⟨(ad482.add ((x11_2).toNat * 7)).block, (ad482.add ((x11_2).toNat * 7)).off + 3, none⟩ = some (.string ((rd_T64 l0_0 x11_2).f3)) ∧ w'.cell? ⟨(ad482.add ((x11_2).toNat * 7)).block, (ad482.add ((x11_2).toNat * 7)).off + 4, none⟩ = some (.string ((rd_T64 l0_0 x11_2).f4)) ∧ w'.cell? ⟨(ad482.add ((x11_2).toNat * 7)).block, (ad482.add ((x11_2).toNat * 7)).off + 5, none⟩ = some (.slice A482_5 ((rd_T64 l0_0 x11_2).f5).length c482_5) ∧ w'.cell? ⟨(ad482.add ((x11_2).toNat * 7)).block, (ad482.add ((x11_2).toNat * 7)).off + 6, none⟩ = some (.slice A482_6 ((rd_T64 l0_0 x11_2).f6).length c482_6)) (ds := []) #[false, false, false, false, false, false, false, false, false, false, false, false, false, false, false, false, false, false, false, false, false, false, false, false, false, false, false, false, false, false, false, false, false, false, false, false, false, false, false, false, false, false, false, false, false, false, false, false, false, false, false, false, false, false, false, false, false, false, false, false, false, false, false, false, false] (by kernel_rfl) rfl rfl ⟨(blk_cell BK468.out 0).trans rfl, (blk_cell BK468.out 1).trans rfl, (blk_cell BK468.out 2).trans rfl, (blk_cell BK455.out 0).trans rfl, (blk_cell BK455.out 1).trans rfl, (blk_cell BK455.out 2).trans rfl, hx481_0, hx481_1, hx481_2, hx481_3, hx481_4, hx481_5, hx481_6, ((HB.out.cell (World.block_lt_of_cell? w _ hw482_0)).trans hw482_0), ((HB.out.cell (World.block_lt_of_cell? w _ hw482_1)).trans hw482_1), ((HB.out.cell (World.block_lt_of_cell? w _ hw482_2)).trans hw482_2), ((HB.out.cell (World.block_lt_of_cell? w _ hw482_3)).trans hw482_3), ((HB.out.cell (World.block_lt_of_cell? w _ hw482_4)).trans hw482_4), ((HB.out.cell (World.block_lt_of_cell? w _ hw482_5)).trans hw482_5), ((HB.out.cell (World.block_lt_of_cell? w _ hw482_6)).trans hw482_6), hx483_0, hx483_1, hx483_2, hx483_3, hx483_4, hx483_5, hx483_6, ((HB.out.cell (World.block_lt_of_cell? w _ hw484_0)).trans hw484_0), ((HB.out.cell (World.block_lt_of_cell? w _ hw484_1)).trans hw484_1), ((HB.out.cell (World.block_lt_of_cell? w _ hw484_2)).trans hw484_2), ((HB.out.cell (World.block_lt_of_cell? w _ hw484_3)).trans hw484_3), ((HB.out.cell (World.block_lt_of_cell? w _ hw484_4)).trans hw484_4), ((HB.out.cell (World.block_lt_of_cell? w _ hw484_5)).trans hw484_5), ((HB.out.cell (World.block_lt_of_cell? w _ hw484_6)).trans hw484_6), hx485_0, hx485_1, hx485_2, hx485_3, hx485_4, hx485_5, hx485_6, ((HB.out.cell (World.block_lt_of_cell? w _ hw486_0)).trans hw486_0), ((HB.out.cell (World.block_lt_of_cell? w _ hw486_1)).trans hw486_1), ((HB.out.cell (World.block_lt_of_cell? w _ hw486_2)).trans hw486_2), ((HB.out.cell (World.block_lt_of_cell? w _ hw486_3)).trans hw486_3), ((HB.out.cell (World.block_lt_of_cell? w _ hw486_4)).trans hw486_4), ((HB.out.cell (World.block_lt_of_cell? w _ hw486_5)).trans hw486_5), ((HB.out.cell (World.block_lt_of_cell? w _ hw486_6)).trans hw486_6), hx487_0, hx487_1, hx487_2, hx487_3, hx487_4, hx487_5, hx487_6, ((HB.out.cell (World.block_lt_of_cell? w _ hw488_0)).trans hw488_0), ((HB.out.cell (World.block_lt_of_cell? w _ hw488_1)).trans hw488_1), ((HB.out.cell (World.block_lt_of_cell? w _ hw488_2)).trans hw488_2), ((HB.out.cell (World.block_lt_of_cell? w _ hw488_3)).trans hw488_3), ((HB.out.cell (World.block_lt_of_cell? w _ hw488_4)).trans hw488_4), ((HB.out.cell (World.block_lt_of_cell? w _ hw488_5)).trans hw488_5), ((HB.out.cell (World.block_lt_of_cell? w _ hw488_6)).trans hw488_6)⟩ (fun hHeld => ?_); refine with_tabW fanlightlaw10_DomGone.tab22 fanlightlaw10_DomGone.bits22 (fun HT_ HW_ => ?_)
                     generalize wr.drew = w66 at HO_7 HO_469000 BK455 BK468 HB HL481_5 HL481_6 HL483_5 HL483_6 HL485_5 HL485_6 HL487_5 HL487_6 HR481_5 HR481_6 HR482_5 HR482_6 HR483_5 HR483_6 HR484_5 HR484_6 HR485_5 HR485_6 HR486_5 HR486_6 HR487_5 HR487_6 HR488_5 HR488_6 hx481_0 hx481_1 hx481_2 hx481_3 hx481_4 hx481_5 hx481_6 hx482_0 hx482_1 hx482_2 hx482_3 hx482_4 hx482_5 hx482_6 hx483_0 hx483_1 hx483_2 hx483_3 hx483_4 hx483_5 hx483_6 hx484_0 hx484_1 hx484_2 hx484_3 hx484_4 hx484_5 hx484_6 hx485_0 hx485_1 hx485_2 hx485_3 hx485_4 hx485_5 hx485_6 hx486_0 hx486_1 hx486_2 hx486_3 hx486_4 hx486_5 hx486_6 hx487_0 hx487_1 hx487_2 hx487_3 hx487_4 hx487_5 hx487_6 hx488_0 hx488_1 hx488_2 hx488_3 hx488_4 hx488_5 hx488_6 hHeld ⊢
                     refine pure_ (i := 0) (N := some 88) (v := ?_) (a' := ?_) #[true, false, false, false, false, false, false, false, false, false, false, false, false, false, false, false, false, false, false, false, false, false, false, false, false, false, false, false, false, false, false, false, false, false, false, false, false, false, false, false, false, false, false, false, false, false, false, false, false, false, false, false, false, false, false, false, false, false, false, false, false, false, false, false, false] rfl rfl (any_of HT_.out (by kernel_rfl)) (fun _ _ _ h => h) (Or.inl ⟨by rfl, ?_⟩) ?_ ?_
                     rotate_left
                     ·
                      intro w'
                      go_simp
                      with_reducible rfl
                     rotate_left
                     ·
                      simp only [Act.put, List.setIfInBounds_toArray, List.set_cons_zero, List.set_cons_succ, i64_w, i32_w]
                      rfl
                     refine pure_ (i := 1) (N := some 89) (v := ?_) (a' := ?_) #[true, true, false, false, false, false, false, false, false, false, false, false, false, false, false, false, false, false, false, false, false, false, false, false, false, false, false, false, false, false, false, false, false, false, false, false, false, false, false, false, false, false, false, false, false, false, false, false, false, false, false, false, false, false, false, false, false, false, false, false, false, false, false, false, false] rfl rfl (any_of HT_.out (by kernel_rfl)) (fun _ _ _ h => h) (Or.inl ⟨by rfl, ?_⟩) ?_ ?_
                     rotate_left
                     ·
                      intro w'
                      go_simp
                      with_reducible rfl
                     rotate_left
                     ·
                      simp only [Act.put, List.setIfInBounds_toArray, List.set_cons_zero, List.set_cons_succ, i64_w, i32_w]
                      rfl
                     refine take_ (i := 2) (N := some 90) (v := ?_) (a' := ?_) #[true, true, true, false, false, false, false, false, false, false, false, false, false, false, false, false, false, false, false, false, false, false, false, false, false, false, false, false, false, false, false, false, false, false, false, false, false, false, false, false, false, false, false, false, false, false, false, false, false, false, false, false, false, false, false, false, false, false, false, false, false, false, false, false, false] rfl rfl (take_ofW HT_.out HW_.out (by kernel_rfl)) (fun _ _ _ h => h) (Or.inl ⟨by rfl, ?_⟩) hHeld ?_ ?_
                     rotate_left
                     ·
                      rintro w' ⟨s0, s1, s2, s3, s4, s5, s6, s7, s8, s9, s10, s11, s12, s13, s14, s15, s16, s17, s18, s19, s20, s21, s22, s23, s24, s25, s26, s27, s28, s29, s30, s31, s32, s33, s34, s35, s36, s37, s38, s39, s40, s41, s42, s43, s44, s45, s46, s47, s48, s49, s50, s51, s52, s53, s54, s55, s56, s57, s58, s59, s60, s61⟩
                      go_simp
                      with_reducible rfl
                     rotate_left
                     ·
                      simp only [Act.put, List.setIfInBounds_toArray, List.set_cons_zero, List.set_cons_succ, i64_w, i32_w]
                      rfl
                     refine pure_ (i := 3) (N := some 91) (v := ?_) (a' := ?_) #[true, true, true, true, false, false, false, false, false, false, false, false, false, false, false, false, false, false, false, false, false, false, false, false, false, false, false, false, false, false, false, false, false, false, false, false, false, false, false, false, false, false, false, false, false, false, false, false, false, false, false, false, false, false, false, false, false, false, false, false, false, false, false, false, false] rfl rfl (any_of HT_.out (by kernel_rfl)) (fun _ _ _ h => h) (Or.inl ⟨by rfl, ?_⟩) ?_ ?_
                     rotate_left
                     ·
                      intro w'
                      go_simp
                      with_reducible rfl
                     rotate_left
                     ·
                      simp only [Act.put, List.setIfInBounds_toArray, List.set_cons_zero, List.set_cons_succ, i64_w, i32_w]
                      rfl
                     refine pure_ (i := 4) (N := some 92) (v := ?_) (a' := ?_) #[true, true, true, true, true, false, false, false, false, false, false, false, false, false, false, false, false, false, false, false, false, false, false, false, false, false, false, false, false, false, false, false, false, false, false, false, false, false, false, false, false, false, false, false, false, false, false, false, false, false, false, false, false, false, false, false, false, false, false, false, false, false, false, false, false] rfl rfl (any_of HT_.out (by kernel_rfl)) (fun _ _ _ h => h) (Or.inl ⟨by rfl, ?_⟩) ?_ ?_
                     rotate_left
                     ·
                      intro w'
                      go_simp
                      with_reducible rfl
                     rotate_left
                     ·
                      simp only [Act.put, List.setIfInBounds_toArray, List.set_cons_zero, List.set_cons_succ, i64_w, i32_w]
                      rfl
                     refine pure_ (i := 5) (N := some 93) (v := ?_) (a' := ?_) #[true, true, true, true, true, true, false, false, false, false, false, false, false, false, false, false, false, false, false, false, false, false, false, false, false, false, false, false, false, false, false, false, false, false, false, false, false, false, false, false, false, false, false, false, false, false, false, false, false, false, false, false, false, false, false, false, false, false, false, false, false, false, false, false, false] rfl rfl (any_of HT_.out (by kernel_rfl)) (fun _ _ _ h => h) (Or.inl ⟨by rfl, ?_⟩) ?_ ?_
                     rotate_left
                     ·
                      intro w'
                      go_simp
                      with_reducible rfl
                     rotate_left
                     ·
                      simp only [Act.put, List.setIfInBounds_toArray, List.set_cons_zero, List.set_cons_succ, i64_w, i32_w]
                      rfl
                     refine pure_ (i := 6) (N := some 94) (v := ?_) (a' := ?_) #[true, true, true, true, true, true, true, false, false, false, false, false, false, false, false, false, false, false, false, false, false, false, false, false, false, false, false, false, false, false, false, false, false, false, false, false, false, false, false, false, false, false, false, false, false, false, false, false, false, false, false, false, false, false, false, false, false, false, false, false, false, false, false, false, false] rfl rfl (any_of HT_.out (by kernel_rfl)) (fun _ _ _ h => h) (Or.inl ⟨by rfl, ?_⟩) ?_ ?_
                     rotate_left
                     ·
                      intro w'
                      go_simp
                      with_reducible rfl
                     rotate_left
                     ·
                      simp only [Act.put, List.setIfInBounds_toArray, List.set_cons_zero, List.set_cons_succ, i64_w, i32_w]
                      rfl
                     refine pure_ (i := 8) (N := some 96) (v := ?_) (a' := ?_) #[true, true, true, true, true, true, true, false, true, false, false, false, false, false, false, false, false, false, false, false, false, false, false, false, false, false, false, false, false, false, false, false, false, false, false, false, false, false, false, false, false, false, false, false, false, false, false, false, false, false, false, false, false, false, false, false, false, false, false, false, false, false, false, false, false] rfl rfl (any_of HT_.out (by kernel_rfl)) (fun _ _ _ h => h) (Or.inl ⟨by rfl, ?_⟩) ?_ ?_
                     rotate_left
                     ·
                      intro w'
                      go_simp
                      with_reducible rfl
                     rotate_left
                     ·
                      simp only [Act.put, List.setIfInBounds_toArray, List.set_cons_zero, List.set_cons_succ, i64_w, i32_w]
                      rfl
                     refine pure_ (i := 12) (N := some 100) (v := ?_) (a' := ?_) #[true, true, true, true, true, true, true, false, true, false, false, false, true, false, false, false, false, false, false, false, false, false, false, false, false, false, false, false, false, false, false, false, false, false, false, false, false, false, false, false, false, false, false, false, false, false, false, false, false, false, false, false, false, false, false, false, false, false, false, false, false, false, false, false, false] rfl rfl (any_of HT_.out (by kernel_rfl)) (fun _ _ _ h => h) (Or.inl ⟨by rfl, ?_⟩) ?_ ?_
                     rotate_left
                     ·
                      intro w'
                      go_simp
                      with_reducible rfl
                     rotate_left
                     ·
                      simp only [Act.put, List.setIfInBounds_toArray, List.set_cons_zero, List.set_cons_succ, i64_w, i32_w]
                      rfl
                     refine pure_ (i := 14) (N := some 102) (v := ?_) (a' := ?_) #[true, true, true, true, true, true, true, false, true, false, false, false, true, false, true, false, false, false, false, false, false, false, false, false, false, false, false, false, false, false, false, false, false, false, false, false, false, false, false, false, false, false, false, false, false, false, false, false, false, false, false, false, false, false, false, false, false, false, false, false, false, false, false, false, false] rfl rfl (any_of HT_.out (by kernel_rfl)) (fun _ _ _ h => h) (Or.inl ⟨by rfl, ?_⟩) ?_ ?_
                     rotate_left
                     ·
                      intro w'
                      go_simp
                      with_reducible rfl
                     rotate_left
                     ·
                      simp only [Act.put, List.setIfInBounds_toArray, List.set_cons_zero, List.set_cons_succ, i64_w, i32_w]
                      rfl
                     refine take_ (i := 7) (N := some 95) (v := ?_) (a' := ?_) #[true, true, true, true, true, true, true, true, true, false, false, false, true, false, true, false, false, false, false, false, false, false, false, false, false, false, false, false, false, false, false, false, false, false, false, false, false, false, false, false, false, false, false, false, false, false, false, false, false, false, false, false, false, false, false, false, false, false, false, false, false, false, false, false, false] rfl rfl (take_ofW HT_.out HW_.out (by kernel_rfl)) (fun _ _ _ h => h) (Or.inl ⟨by rfl, ?_⟩) hHeld ?_ ?_
                     rotate_left
                     ·
                      rintro w' ⟨s0, s1, s2, s3, s4, s5, s6, s7, s8, s9, s10, s11, s12, s13, s14, s15, s16, s17, s18, s19, s20, s21, s22, s23, s24, s25, s26, s27, s28, s29, s30, s31, s32, s33, s34, s35, s36, s37, s38, s39, s40, s41, s42, s43, s44, s45, s46, s47, s48, s49, s50, s51, s52, s53, s54, s55, s56, s57, s58, s59, s60, s61⟩
                      go_simp
                      with_reducible rfl
                     rotate_left
                     ·
                      simp only [Act.put, List.setIfInBounds_toArray, List.set_cons_zero, List.set_cons_succ, i64_w, i32_w]
                      rfl
                     refine pure_ (i := 9) (N := some 97) (v := ?_) (a' := ?_) #[true, true, true, true, true, true, true, true, true, true, false, false, true, false, true, false, false, false, false, false, false, false, false, false, false, false, false, false, false, false, false, false, false, false, false, false, false, false, false, false, false, false, false, false, false, false, false, false, false, false, false, false, false, false, false, false, false, false, false, false, false, false, false, false, false] rfl rfl (any_of HT_.out (by kernel_rfl)) (fun _ _ _ h => h) (Or.inl ⟨by rfl, ?_⟩) ?_ ?_
                     rotate_left
                     ·
                      intro w'
                      go_simp
                      with_reducible rfl
                     rotate_left
                     ·
                      simp only [Act.put, List.setIfInBounds_toArray, List.set_cons_zero, List.set_cons_succ, i64_w, i32_w]
                      rfl
                     refine pure_ (i := 10) (N := some 98) (v := ?_) (a' := ?_) #[true, true, true, true, true, true, true, true, true, true, true, false, true, false, true, false, false, false, false, false, false, false, false, false, false, false, false, false, false, false, false, false, false, false, false, false, false, false, false, false, false, false, false, false, false, false, false, false, false, false, false, false, false, false, false, false, false, false, false, false, false, false, false, false, false] rfl rfl (any_of HT_.out (by kernel_rfl)) (fun _ _ _ h => h) (Or.inl ⟨by rfl, ?_⟩) ?_ ?_
                     rotate_left
                     ·
                      intro w'
                      go_simp
                      with_reducible rfl
                     rotate_left
                     ·
                      simp only [Act.put, List.setIfInBounds_toArray, List.set_cons_zero, List.set_cons_succ, i64_w, i32_w]
                      rfl
                     refine take_ (i := 11) (N := some 99) (v := ?_) (a' := ?_) #[true, true, true, true, true, true, true, true, true, true, true, true, true, false, true, false, false, false, false, false, false, false, false, false, false, false, false, false, false, false, false, false, false, false, false, false, false, false, false, false, false, false, false, false, false, false, false, false, false, false, false, false, false, false, false, false, false, false, false, false, false, false, false, false, false] rfl rfl (take_ofW HT_.out HW_.out (by kernel_rfl)) (fun _ _ _ h => h) (Or.inl ⟨by rfl, ?_⟩) hHeld ?_ ?_
                     rotate_left
                     ·
                      rintro w' ⟨s0, s1, s2, s3, s4, s5, s6, s7, s8, s9, s10, s11, s12, s13, s14, s15, s16, s17, s18, s19, s20, s21, s22, s23, s24, s25, s26, s27, s28, s29, s30, s31, s32, s33, s34, s35, s36, s37, s38, s39, s40, s41, s42, s43, s44, s45, s46, s47, s48, s49, s50, s51, s52, s53, s54, s55, s56, s57, s58, s59, s60, s61⟩
                      go_simp
                      with_reducible rfl
                     rotate_left
                     ·
                      simp only [Act.put, List.setIfInBounds_toArray, List.set_cons_zero, List.set_cons_succ, i64_w, i32_w]
                      rfl
                     refine take_ (i := 13) (N := some 101) (v := ?_) (a' := ?_) #[true, true, true, true, true, true, true, true, true, true, true, true, true, true, true, false, false, false, false, false, false, false, false, false, false, false, false, false, false, false, false, false, false, false, false, false, false, false, false, false, false, false, false, false, false, false, false, false, false, false, false, false, false, false, false, false, false, false, false, false, false, false, false, false, false] rfl rfl (take_ofW HT_.out HW_.out (by kernel_rfl)) (fun _ _ _ h => h) (Or.inl ⟨by rfl, ?_⟩) hHeld ?_ ?_
                     rotate_left
                     ·
                      rintro w' ⟨s0, s1, s2, s3, s4, s5, s6, s7, s8, s9, s10, s11, s12, s13, s14, s15, s16, s17, s18, s19, s20, s21, s22, s23, s24, s25, s26, s27, s28, s29, s30, s31, s32, s33, s34, s35, s36, s37, s38, s39, s40, s41, s42, s43, s44, s45, s46, s47, s48, s49, s50, s51, s52, s53, s54, s55, s56, s57, s58, s59, s60, s61⟩
                      go_simp
                      with_reducible rfl
                     rotate_left
                     ·
                      simp only [Act.put, List.setIfInBounds_toArray, List.set_cons_zero, List.set_cons_succ, i64_w, i32_w]
                      rfl
                     refine pure_ (i := 15) (N := some 103) (v := ?_) (a' := ?_) #[true, true, true, true, true, true, true, true, true, true, true, true, true, true, true, true, false, false, false, false, false, false, false, false, false, false, false, false, false, false, false, false, false, false, false, false, false, false, false, false, false, false, false, false, false, false, false, false, false, false, false, false, false, false, false, false, false, false, false, false, false, false, false, false, false] rfl rfl (any_of HT_.out (by kernel_rfl)) (fun _ _ _ h => h) (Or.inl ⟨by rfl, ?_⟩) ?_ ?_
                     rotate_left
                     ·
                      intro w'
                      go_simp
                      with_reducible rfl
                     rotate_left
                     ·
                      simp only [Act.put, List.setIfInBounds_toArray, List.set_cons_zero, List.set_cons_succ, i64_w, i32_w]
                      rfl
                     refine pure_ (i := 16) (N := some 104) (v := ?_) (a' := ?_) #[true, true, true, true, true, true, true, true, true, true, true, true, true, true, true, true, true, false, false, false, false, false, false, false, false, false, false, false, false, false, false, false, false, false, false, false, false, false, false, false, false, false, false, false, false, false, false, false, false, false, false, false, false, false, false, false, false, false, false, false, false, false, false, false, false] rfl rfl (any_of HT_.out (by kernel_rfl)) (fun _ _ _ h => h) (Or.inl ⟨by rfl, ?_⟩) ?_ ?_
                     rotate_left
                     ·
                      intro w'
                      go_simp
                      with_reducible rfl
                     rotate_left
                     ·
                      simp only [Act.put, List.setIfInBounds_toArray, List.set_cons_zero, List.set_cons_succ, i64_w, i32_w]
                      rfl
                     refine take_ (i := 17) (N := some 105) (v := ?_) (a' := ?_) #[true, true, true, true, true, true, true, true, true, true, true, true, true, true, true, true, true, true, false, false, false, false, false, false, false, false, false, false, false, false, false, false, false, false, false, false, false, false, false, false, false, false, false, false, false, false, false, false, false, false, false, false, false, false, false, false, false, false, false, false, false, false, false, false, false] rfl rfl (take_ofW HT_.out HW_.out (by kernel_rfl)) (fun _ _ _ h => h) (Or.inl ⟨by rfl, ?_⟩) hHeld ?_ ?_
                     rotate_left
                     ·
                      rintro w' ⟨s0, s1, s2, s3, s4, s5, s6, s7, s8, s9, s10, s11, s12, s13, s14, s15, s16, s17, s18, s19, s20, s21, s22, s23, s24, s25, s26, s27, s28, s29, s30, s31, s32, s33, s34, s35, s36, s37, s38, s39, s40, s41, s42, s43, s44, s45, s46, s47, s48, s49, s50, s51, s52, s53, s54, s55, s56, s57, s58, s59, s60, s61⟩
                      go_simp
                      with_reducible rfl
                     rotate_left
                     ·
                      simp only [Act.put, List.setIfInBounds_toArray, List.set_cons_zero, List.set_cons_succ, i64_w, i32_w]
                      rfl
                     refine pure_ (i := 18) (N := some 106) (v := ?_) (a' := ?_) #[true, true, true, true, true, true, true, true, true, true, true, true, true, true, true, true, true, true, true, false, false, false, false, false, false, false, false, false, false, false, false, false, false, false, false, false, false, false, false, false, false, false, false, false, false, false, false, false, false, false, false, false, false, false, false, false, false, false, false, false, false, false, false, false, false] rfl rfl (any_of HT_.out (by kernel_rfl)) (fun _ _ _ h => h) (Or.inl ⟨by rfl, ?_⟩) ?_ ?_
                     rotate_left
                     ·
                      intro w'
                      go_simp
                      with_reducible rfl
                     rotate_left
                     ·
                      simp only [Act.put, List.setIfInBounds_toArray, List.set_cons_zero, List.set_cons_succ, i64_w, i32_w]
                      rfl
                     refine pure_ (i := 19) (N := some 107) (v := ?_) (a' := ?_) #[true, true, true, true, true, true, true, true, true, true, true, true, true, true, true, true, true, true, true, true, false, false, false, false, false, false, false, false, false, false, false, false, false, false, false, false, false, false, false, false, false, false, false, false, false, false, false, false, false, false, false, false, false, false, false, false, false, false, false, false, false, false, false, false, false] rfl rfl (any_of HT_.out (by kernel_rfl)) (fun _ _ _ h => h) (Or.inl ⟨by rfl, ?_⟩) ?_ ?_
                     rotate_left
                     ·
                      intro w'
                      go_simp
                      with_reducible rfl
                     rotate_left
                     ·
                      simp only [Act.put, List.setIfInBounds_toArray, List.set_cons_zero, List.set_cons_succ, i64_w, i32_w]
                      rfl
                     refine pure_ (i := 20) (N := some 108) (v := ?_) (a' := ?_) #[true, true, true, true, true, true, true, true, true, true, true, true, true, true, true, true, true, true, true, true, true, false, false, false, false, false, false, false, false, false, false, false, false, false, false, false, false, false, false, false, false, false, false, false, false, false, false, false, false, false, false, false, false, false, false, false, false, false, false, false, false, false, false, false, false] rfl rfl (any_of HT_.out (by kernel_rfl)) (fun _ _ _ h => h) (Or.inl ⟨by rfl, ?_⟩) ?_ ?_
                     rotate_left
                     ·
                      intro w'
                      go_simp
                      with_reducible rfl
                     rotate_left
                     ·
                      simp only [Act.put, List.setIfInBounds_toArray, List.set_cons_zero, List.set_cons_succ, i64_w, i32_w]
                      rfl
                     refine pure_ (i := 21) (N := some 109) (v := ?_) (a' := ?_) #[true, true, true, true, true, true, true, true, true, true, true, true, true, true, true, true, true, true, true, true, true, true, false, false, false, false, false, false, false, false, false, false, false, false, false, false, false, false, false, false, false, false, false, false, false, false, false, false, false, false, false, false, false, false, false, false, false, false, false, false, false, false, false, false, false] rfl rfl (any_of HT_.out (by kernel_rfl)) (fun _ _ _ h => h) (Or.inl ⟨by rfl, ?_⟩) ?_ ?_
                     rotate_left
                     ·
                      intro w'
                      go_simp
                      with_reducible rfl
                     rotate_left
                     ·
                      simp only [Act.put, List.setIfInBounds_toArray, List.set_cons_zero, List.set_cons_succ, i64_w, i32_w]
                      rfl
                     refine pure_ (i := 23) (N := some 111) (v := ?_) (a' := ?_) #[true, true, true, true, true, true, true, true, true, true, true, true, true, true, true, true, true, true, true, true, true, true, false, true, false, false, false, false, false, false, false, false, false, false, false, false, false, false, false, false, false, false, false, false, false, false, false, false, false, false, false, false, false, false, false, false, false, false, false, false, false, false, false, false, false] rfl rfl (any_of HT_.out (by kernel_rfl)) (fun _ _ _ h => h) (Or.inl ⟨by rfl, ?_⟩) ?_ ?_
                     rotate_left
                     ·
                      intro w'
                      go_simp
                      with_reducible rfl
                     rotate_left
                     ·
                      simp only [Act.put, List.setIfInBounds_toArray, List.set_cons_zero, List.set_cons_succ, i64_w, i32_w]
                      rfl
                     refine pure_ (i := 27) (N := some 115) (v := ?_) (a' := ?_) #[true, true, true, true, true, true, true, true, true, true, true, true, true, true, true, true, true, true, true, true, true, true, false, true, false, false, false, true, false, false, false, false, false, false, false, false, false, false, false, false, false, false, false, false, false, false, false, false, false, false, false, false, false, false, false, false, false, false, false, false, false, false, false, false, false] rfl rfl (any_of HT_.out (by kernel_rfl)) (fun _ _ _ h => h) (Or.inl ⟨by rfl, ?_⟩) ?_ ?_
                     rotate_left
                     ·
                      intro w'
                      go_simp
                      with_reducible rfl
                     rotate_left
                     ·
                      simp only [Act.put, List.setIfInBounds_toArray, List.set_cons_zero, List.set_cons_succ, i64_w, i32_w]
                      rfl
                     refine pure_ (i := 29) (N := some 117) (v := ?_) (a' := ?_) #[true, true, true, true, true, true, true, true, true, true, true, true, true, true, true, true, true, true, true, true, true, true, false, true, false, false, false, true, false, true, false, false, false, false, false, false, false, false, false, false, false, false, false, false, false, false, false, false, false, false, false, false, false, false, false, false, false, false, false, false, false, false, false, false, false] rfl rfl (any_of HT_.out (by kernel_rfl)) (fun _ _ _ h => h) (Or.inl ⟨by rfl, ?_⟩) ?_ ?_
                     rotate_left
                     ·
                      intro w'
                      go_simp
                      with_reducible rfl
                     rotate_left
                     ·
                      simp only [Act.put, List.setIfInBounds_toArray, List.set_cons_zero, List.set_cons_succ, i64_w, i32_w]
                      rfl
                     refine take_ (i := 22) (N := some 110) (v := ?_) (a' := ?_) #[true, true, true, true, true, true, true, true, true, true, true, true, true, true, true, true, true, true, true, true, true, true, true, true, false, false, false, true, false, true, false, false, false, false, false, false, false, false, false, false, false, false, false, false, false, false, false, false, false, false, false, false, false, false, false, false, false, false, false, false, false, false, false, false, false] rfl rfl (take_ofW HT_.out HW_.out (by kernel_rfl)) (fun _ _ _ h => h) (Or.inl ⟨by rfl, ?_⟩) hHeld ?_ ?_
                     rotate_left
                     ·
                      rintro w' ⟨s0, s1, s2, s3, s4, s5, s6, s7, s8, s9, s10, s11, s12, s13, s14, s15, s16, s17, s18, s19, s20, s21, s22, s23, s24, s25, s26, s27, s28, s29, s30, s31, s32, s33, s34, s35, s36, s37, s38, s39, s40, s41, s42, s43, s44, s45, s46, s47, s48, s49, s50, s51, s52, s53, s54, s55, s56, s57, s58, s59, s60, s61⟩
                      go_simp
                      with_reducible rfl
                     rotate_left
                     ·
                      simp only [Act.put, List.setIfInBounds_toArray, List.set_cons_zero, List.set_cons_succ, i64_w, i32_w]
                      rfl
                     refine pure_ (i := 24) (N := some 112) (v := ?_) (a' := ?_) #[true, true, true, true, true, true, true, true, true, true, true, true, true, true, true, true, true, true, true, true, true, true, true, true, true, false, false, true, false, true, false, false, false, false, false, false, false, false, false, false, false, false, false, false, false, false, false, false, false, false, false, false, false, false, false, false, false, false, false, false, false, false, false, false, false] rfl rfl (any_of HT_.out (by kernel_rfl)) (fun _ _ _ h => h) (Or.inl ⟨by rfl, ?_⟩) ?_ ?_
                     rotate_left
                     ·
                      intro w'
                      go_simp
                      with_reducible rfl
                     rotate_left
                     ·
                      simp only [Act.put, List.setIfInBounds_toArray, List.set_cons_zero, List.set_cons_succ, i64_w, i32_w]
                      rfl
                     refine pure_ (i := 25) (N := some 113) (v := ?_) (a' := ?_) #[true, true, true, true, true, true, true, true, true, true, true, true, true, true, true, true, true, true, true, true, true, true, true, true, true, true, false, true, false, true, false, false, false, false, false, false, false, false, false, false, false, false, false, false, false, false, false, false, false, false, false, false, false, false, false, false, false, false, false, false, false, false, false, false, false] rfl rfl (any_of HT_.out (by kernel_rfl)) (fun _ _ _ h => h) (Or.inl ⟨by rfl, ?_⟩) ?_ ?_
                     rotate_left
                     ·
                      intro w'
                      go_simp
                      with_reducible rfl
                     rotate_left
                     ·
                      simp only [Act.put, List.setIfInBounds_toArray, List.set_cons_zero, List.set_cons_succ, i64_w, i32_w]
                      rfl
                     refine take_ (i := 26) (N := some 114) (v := ?_) (a' := ?_) #[true, true, true, true, true, true, true, true, true, true, true, true, true, true, true, true, true, true, true, true, true, true, true, true, true, true, true, true, false, true, false, false, false, false, false, false, false, false, false, false, false, false, false, false, false, false, false, false, false, false, false, false, false, false, false, false, false, false, false, false, false, false, false, false, false] rfl rfl (take_ofW HT_.out HW_.out (by kernel_rfl)) (fun _ _ _ h => h) (Or.inl ⟨by rfl, ?_⟩) hHeld ?_ ?_
                     rotate_left
                     ·
                      rintro w' ⟨s0, s1, s2, s3, s4, s5, s6, s7, s8, s9, s10, s11, s12, s13, s14, s15, s16, s17, s18, s19, s20, s21, s22, s23, s24, s25, s26, s27, s28, s29, s30, s31, s32, s33, s34, s35, s36, s37, s38, s39, s40, s41, s42, s43, s44, s45, s46, s47, s48, s49, s50, s51, s52, s53, s54, s55, s56, s57, s58, s59, s60, s61⟩
                      go_simp
                      with_reducible rfl
                     rotate_left
                     ·
                      simp only [Act.put, List.setIfInBounds_toArray, List.set_cons_zero, List.set_cons_succ, i64_w, i32_w]
                      rfl
                     refine take_ (i := 28) (N := some 116) (v := ?_) (a' := ?_) #[true, true, true, true, true, true, true, true, true, true, true, true, true, true, true, true, true, true, true, true, true, true, true, true, true, true, true, true, true, true, false, false, false, false, false, false, false, false, false, false, false, false, false, false, false, false, false, false, false, false, false, false, false, false, false, false, false, false, false, false, false, false, false, false, false] rfl rfl (take_ofW HT_.out HW_.out (by kernel_rfl)) (fun _ _ _ h => h) (Or.inl ⟨by rfl, ?_⟩) hHeld ?_ ?_
                     rotate_left
                     ·
                      rintro w' ⟨s0, s1, s2, s3, s4, s5, s6, s7, s8, s9, s10, s11, s12, s13, s14, s15, s16, s17, s18, s19, s20, s21, s22, s23, s24, s25, s26, s27, s28, s29, s30, s31, s32, s33, s34, s35, s36, s37, s38, s39, s40, s41, s42, s43, s44, s45, s46, s47, s48, s49, s50, s51, s52, s53, s54, s55, s56, s57, s58, s59, s60, s61⟩
                      go_simp
                      with_reducible rfl
                     rotate_left
                     ·
                      simp only [Act.put, List.setIfInBounds_toArray, List.set_cons_zero, List.set_cons_succ, i64_w, i32_w]
                      rfl
                     refine pure_ (i := 30) (N := some 118) (v := ?_) (a' := ?_) #[true, true, true, true, true, true, true, true, true, true, true, true, true, true, true, true, true, true, true, true, true, true, true, true, true, true, true, true, true, true, true, false, false, false, false, false, false, false, false, false, false, false, false, false, false, false, false, false, false, false, false, false, false, false, false, false, false, false, false, false, false, false, false, false, false] rfl rfl (any_of HT_.out (by kernel_rfl)) (fun _ _ _ h => h) (Or.inl ⟨by rfl, ?_⟩) ?_ ?_
                     rotate_left
                     ·
                      intro w'
                      go_simp
                      with_reducible rfl
                     rotate_left
                     ·
                      simp only [Act.put, List.setIfInBounds_toArray, List.set_cons_zero, List.set_cons_succ, i64_w, i32_w]
                      rfl
                     refine pure_ (i := 31) (N := some 119) (v := ?_) (a' := ?_) #[true, true, true, true, true, true, true, true, true, true, true, true, true, true, true, true, true, true, true, true, true, true, true, true, true, true, true, true, true, true, true, true, false, false, false, false, false, false, false, false, false, false, false, false, false, false, false, false, false, false, false, false, false, false, false, false, false, false, false, false, false, false, false, false, false] rfl rfl (any_of HT_.out (by kernel_rfl)) (fun _ _ _ h => h) (Or.inl ⟨by rfl, ?_⟩) ?_ ?_
                     rotate_left
                     ·
                      intro w'
                      go_simp
                      with_reducible rfl
                     rotate_left
                     ·
                      simp only [Act.put, List.setIfInBounds_toArray, List.set_cons_zero, List.set_cons_succ, i64_w, i32_w]
                      rfl
                     refine take_ (i := 32) (N := some 120) (v := ?_) (a' := ?_) #[true, true, true, true, true, true, true, true, true, true, true, true, true, true, true, true, true, true, true, true, true, true, true, true, true, true, true, true, true, true, true, true, true, false, false, false, false, false, false, false, false, false, false, false, false, false, false, false, false, false, false, false, false, false, false, false, false, false, false, false, false, false, false, false, false] rfl rfl (take_ofW HT_.out HW_.out (by kernel_rfl)) (fun _ _ _ h => h) (Or.inl ⟨by rfl, ?_⟩) hHeld ?_ ?_
                     rotate_left
                     ·
                      rintro w' ⟨s0, s1, s2, s3, s4, s5, s6, s7, s8, s9, s10, s11, s12, s13, s14, s15, s16, s17, s18, s19, s20, s21, s22, s23, s24, s25, s26, s27, s28, s29, s30, s31, s32, s33, s34, s35, s36, s37, s38, s39, s40, s41, s42, s43, s44, s45, s46, s47, s48, s49, s50, s51, s52, s53, s54, s55, s56, s57, s58, s59, s60, s61⟩
                      go_simp
                      with_reducible rfl
                     rotate_left
                     ·
                      simp only [Act.put, List.setIfInBounds_toArray, List.set_cons_zero, List.set_cons_succ, i64_w, i32_w]
                      rfl
                     refine pure_ (i := 33) (N := some 121) (v := ?_) (a' := ?_) #[true, true, true, true, true, true, true, true, true, true, true, true, true, true, true, true, true, true, true, true, true, true, true, true, true, true, true, true, true, true, true, true, true, true, false, false, false, false, false, false, false, false, false, false, false, false, false, false, false, false, false, false, false, false, false, false, false, false, false, false, false, false, false, false, false] rfl rfl (any_of HT_.out (by kernel_rfl)) (fun _ _ _ h => h) (Or.inl ⟨by rfl, ?_⟩) ?_ ?_
                     rotate_left
                     ·
                      intro w'
                      go_simp
                      with_reducible rfl
                     rotate_left
                     ·
                      simp only [Act.put, List.setIfInBounds_toArray, List.set_cons_zero, List.set_cons_succ, i64_w, i32_w]
                      rfl
                     refine pure_ (i := 34) (N := some 122) (v := ?_) (a' := ?_) #[true, true, true, true, true, true, true, true, true, true, true, true, true, true, true, true, true, true, true, true, true, true, true, true, true, true, true, true, true, true, true, true, true, true, true, false, false, false, false, false, false, false, false, false, false, false, false, false, false, false, false, false, false, false, false, false, false, false, false, false, false, false, false, false, false] rfl rfl (any_of HT_.out (by kernel_rfl)) (fun _ _ _ h => h) (Or.inl ⟨by rfl, ?_⟩) ?_ ?_
                     rotate_left
                     ·
                      intro w'
                      go_simp
                      with_reducible rfl
                     rotate_left
                     ·
                      simp only [Act.put, List.setIfInBounds_toArray, List.set_cons_zero, List.set_cons_succ, i64_w, i32_w]
                      rfl
                     refine pure_ (i := 35) (N := some 123) (v := ?_) (a' := ?_) #[true, true, true, true, true, true, true, true, true, true, true, true, true, true, true, true, true, true, true, true, true, true, true, true, true, true, true, true, true, true, true, true, true, true, true, true, false, false, false, false, false, false, false, false, false, false, false, false, false, false, false, false, false, false, false, false, false, false, false, false, false, false, false, false, false] rfl rfl (any_of HT_.out (by kernel_rfl)) (fun _ _ _ h => h) (Or.inl ⟨by rfl, ?_⟩) ?_ ?_
                     rotate_left
                     ·
                      intro w'
                      go_simp
                      with_reducible rfl
                     rotate_left
                     ·
                      simp only [Act.put, List.setIfInBounds_toArray, List.set_cons_zero, List.set_cons_succ, i64_w, i32_w]
                      rfl
                     refine pure_ (i := 36) (N := some 124) (v := ?_) (a' := ?_) #[true, true, true, true, true, true, true, true, true, true, true, true, true, true, true, true, true, true, true, true, true, true, true, true, true, true, true, true, true, true, true, true, true, true, true, true, true, false, false, false, false, false, false, false, false, false, false, false, false, false, false, false, false, false, false, false, false, false, false, false, false, false, false, false, false] rfl rfl (any_of HT_.out (by kernel_rfl)) (fun _ _ _ h => h) (Or.inl ⟨by rfl, ?_⟩) ?_ ?_
                     rotate_left
                     ·
                      intro w'
                      go_simp
                      with_reducible rfl
                     rotate_left
                     ·
                      simp only [Act.put, List.setIfInBounds_toArray, List.set_cons_zero, List.set_cons_succ, i64_w, i32_w]
                      rfl
                     refine pure_ (i := 38) (N := some 126) (v := ?_) (a' := ?_) #[true, true, true, true, true, true, true, true, true, true, true, true, true, true, true, true, true, true, true, true, true, true, true, true, true, true, true, true, true, true, true, true, true, true, true, true, true, false, true, false, false, false, false, false, false, false, false, false, false, false, false, false, false, false, false, false, false, false, false, false, false, false, false, false, false] rfl rfl (any_of HT_.out (by kernel_rfl)) (fun _ _ _ h => h) (Or.inl ⟨by rfl, ?_⟩) ?_ ?_
                     rotate_left
                     ·
                      intro w'
                      go_simp
                      with_reducible rfl
                     rotate_left
                     ·
                      simp only [Act.put, List.setIfInBounds_toArray, List.set_cons_zero, List.set_cons_succ, i64_w, i32_w]
                      rfl
                     refine pure_ (i := 42) (N := some 130) (v := ?_) (a' := ?_) #[true, true, true, true, true, true, true, true, true, true, true, true, true, true, true, true, true, true, true, true, true, true, true, true, true, true, true, true, true, true, true, true, true, true, true, true, true, false, true, false, false, false, true, false, false, false, false, false, false, false, false, false, false, false, false, false, false, false, false, false, false, false, false, false, false] rfl rfl (any_of HT_.out (by kernel_rfl)) (fun _ _ _ h => h) (Or.inl ⟨by rfl, ?_⟩) ?_ ?_
                     rotate_left
                     ·
                      intro w'
                      go_simp
                      with_reducible rfl
                     rotate_left
                     ·
                      simp only [Act.put, List.setIfInBounds_toArray, List.set_cons_zero, List.set_cons_succ, i64_w, i32_w]
                      rfl
                     refine pure_ (i := 44) (N := some 132) (v := ?_) (a' := ?_) #[true, true, true, true, true, true, true, true, true, true, true, true, true, true, true, true, true, true, true, true, true, true, true, true, true, true, true, true, true, true, true, true, true, true, true, true, true, false, true, false, false, false, true, false, true, false, false, false, false, false, false, false, false, false, false, false, false, false, false, false, false, false, false, false, false] rfl rfl (any_of HT_.out (by kernel_rfl)) (fun _ _ _ h => h) (Or.inl ⟨by rfl, ?_⟩) ?_ ?_
                     rotate_left
                     ·
                      intro w'
                      go_simp
                      with_reducible rfl
                     rotate_left
                     ·
                      simp only [Act.put, List.setIfInBounds_toArray, List.set_cons_zero, List.set_cons_succ, i64_w, i32_w]
                      rfl
                     refine take_ (i := 37) (N := some 125) (v := ?_) (a' := ?_) #[true, true, true, true, true, true, true, true, true, true, true, true, true, true, true, true, true, true, true, true, true, true, true, true, true, true, true, true, true, true, true, true, true, true, true, true, true, true, true, false, false, false, true, false, true, false, false, false, false, false, false, false, false, false, false, false, false, false, false, false, false, false, false, false, false] rfl rfl (take_ofW HT_.out HW_.out (by kernel_rfl)) (fun _ _ _ h => h) (Or.inl ⟨by rfl, ?_⟩) hHeld ?_ ?_
                     rotate_left
                     ·
                      rintro w' ⟨s0, s1, s2, s3, s4, s5, s6, s7, s8, s9, s10, s11, s12, s13, s14, s15, s16, s17, s18, s19, s20, s21, s22, s23, s24, s25, s26, s27, s28, s29, s30, s31, s32, s33, s34, s35, s36, s37, s38, s39, s40, s41, s42, s43, s44, s45, s46, s47, s48, s49, s50, s51, s52, s53, s54, s55, s56, s57, s58, s59, s60, s61⟩
                      go_simp
                      with_reducible rfl
                     rotate_left
                     ·
                      simp only [Act.put, List.setIfInBounds_toArray, List.set_cons_zero, List.set_cons_succ, i64_w, i32_w]
                      rfl
                     refine pure_ (i := 39) (N := some 127) (v := ?_) (a' := ?_) #[true, true, true, true, true, true, true, true, true, true, true, true, true, true, true, true, true, true, true, true, true, true, true, true, true, true, true, true, true, true, true, true, true, true, true, true, true, true, true, true, false, false, true, false, true, false, false, false, false, false, false, false, false, false, false, false, false, false, false, false, false, false, false, false, false] rfl rfl (any_of HT_.out (by kernel_rfl)) (fun _ _ _ h => h) (Or.inl ⟨by rfl, ?_⟩) ?_ ?_
                     rotate_left
                     ·
                      intro w'
                      go_simp
                      with_reducible rfl
                     rotate_left
                     ·
                      simp only [Act.put, List.setIfInBounds_toArray, List.set_cons_zero, List.set_cons_succ, i64_w, i32_w]
                      rfl
                     refine pure_ (i := 40) (N := some 128) (v := ?_) (a' := ?_) #[true, true, true, true, true, true, true, true, true, true, true, true, true, true, true, true, true, true, true, true, true, true, true, true, true, true, true, true, true, true, true, true, true, true, true, true, true, true, true, true, true, false, true, false, true, false, false, false, false, false, false, false, false, false, false, false, false, false, false, false, false, false, false, false, false] rfl rfl (any_of HT_.out (by kernel_rfl)) (fun _ _ _ h => h) (Or.inl ⟨by rfl, ?_⟩) ?_ ?_
                     rotate_left
                     ·
                      intro w'
                      go_simp
                      with_reducible rfl
                     rotate_left
                     ·
                      simp only [Act.put, List.setIfInBounds_toArray, List.set_cons_zero, List.set_cons_succ, i64_w, i32_w]
                      rfl
                     refine take_ (i := 41) (N := some 129) (v := ?_) (a' := ?_) #[true, true, true, true, true, true, true, true, true, true, true, true, true, true, true, true, true, true, true, true, true, true, true, true, true, true, true, true, true, true, true, true, true, true, true, true, true, true, true, true, true, true, true, false, true, false, false, false, false, false, false, false, false, false, false, false, false, false, false, false, false, false, false, false, false] rfl rfl (take_ofW HT_.out HW_.out (by kernel_rfl)) (fun _ _ _ h => h) (Or.inl ⟨by rfl, ?_⟩) hHeld ?_ ?_
                     rotate_left
                     ·
                      rintro w' ⟨s0, s1, s2, s3, s4, s5, s6, s7, s8, s9, s10, s11, s12, s13, s14, s15, s16, s17, s18, s19, s20, s21, s22, s23, s24, s25, s26, s27, s28, s29, s30, s31, s32, s33, s34, s35, s36, s37, s38, s39, s40, s41, s42, s43, s44, s45, s46, s47, s48, s49, s50, s51, s52, s53, s54, s55, s56, s57, s58, s59, s60, s61⟩
                      go_simp
                      with_reducible rfl
                     rotate_left
                     ·
                      simp only [Act.put, List.setIfInBounds_toArray, List.set_cons_zero, List.set_cons_succ, i64_w, i32_w]
                      rfl
                     refine take_ (i := 43) (N := some 131) (v := ?_) (a' := ?_) #[true, true, true, true, true, true, true, true, true, true, true, true, true, true, true, true, true, true, true, true, true, true, true, true, true, true, true, true, true, true, true, true, true, true, true, true, true, true, true, true, true, true, true, true, true, false, false, false, false, false, false, false, false, false, false, false, false, false, false, false, false, false, false, false, false] rfl rfl (take_ofW HT_.out HW_.out (by kernel_rfl)) (fun _ _ _ h => h) (Or.inl ⟨by rfl, ?_⟩) hHeld ?_ ?_
                     rotate_left
                     ·
                      rintro w' ⟨s0, s1, s2, s3, s4, s5, s6, s7, s8, s9, s10, s11, s12, s13, s14, s15, s16, s17, s18, s19, s20, s21, s22, s23, s24, s25, s26, s27, s28, s29, s30, s31, s32, s33, s34, s35, s36, s37, s38, s39, s40, s41, s42, s43, s44, s45, s46, s47, s48, s49, s50, s51, s52, s53, s54, s55, s56, s57, s58, s59, s60, s61⟩
                      go_simp
                      with_reducible rfl
                     rotate_left
                     ·
                      simp only [Act.put, List.setIfInBounds_toArray, List.set_cons_zero, List.set_cons_succ, i64_w, i32_w]
                      rfl
                     refine pure_ (i := 45) (N := some 133) (v := ?_) (a' := ?_) #[true, true, true, true, true, true, true, true, true, true, true, true, true, true, true, true, true, true, true, true, true, true, true, true, true, true, true, true, true, true, true, true, true, true, true, true, true, true, true, true, true, true, true, true, true, true, false, false, false, false, false, false, false, false, false, false, false, false, false, false, false, false, false, false, false] rfl rfl (any_of HT_.out (by kernel_rfl)) (fun _ _ _ h => h) (Or.inl ⟨by rfl, ?_⟩) ?_ ?_
                     rotate_left
                     ·
                      intro w'
                      go_simp
                      with_reducible rfl
                     rotate_left
                     ·
                      simp only [Act.put, List.setIfInBounds_toArray, List.set_cons_zero, List.set_cons_succ, i64_w, i32_w]
                      rfl
                     refine pure_ (i := 46) (N := some 134) (v := ?_) (a' := ?_) #[true, true, true, true, true, true, true, true, true, true, true, true, true, true, true, true, true, true, true, true, true, true, true, true, true, true, true, true, true, true, true, true, true, true, true, true, true, true, true, true, true, true, true, true, true, true, true, false, false, false, false, false, false, false, false, false, false, false, false, false, false, false, false, false, false] rfl rfl (any_of HT_.out (by kernel_rfl)) (fun _ _ _ h => h) (Or.inl ⟨by rfl, ?_⟩) ?_ ?_
                     rotate_left
                     ·
                      intro w'
                      go_simp
                      with_reducible rfl
                     rotate_left
                     ·
                      simp only [Act.put, List.setIfInBounds_toArray, List.set_cons_zero, List.set_cons_succ, i64_w, i32_w]
                      rfl
                     refine take_ (i := 47) (N := some 135) (v := ?_) (a' := ?_) #[true, true, true, true, true, true, true, true, true, true, true, true, true, true, true, true, true, true, true, true, true, true, true, true, true, true, true, true, true, true, true, true, true, true, true, true, true, true, true, true, true, true, true, true, true, true, true, true, false, false, false, false, false, false, false, false, false, false, false, false, false, false, false, false, false] rfl rfl (take_ofW HT_.out HW_.out (by kernel_rfl)) (fun _ _ _ h => h) (Or.inl ⟨by rfl, ?_⟩) hHeld ?_ ?_
                     rotate_left
                     ·
                      rintro w' ⟨s0, s1, s2, s3, s4, s5, s6, s7, s8, s9, s10, s11, s12, s13, s14, s15, s16, s17, s18, s19, s20, s21, s22, s23, s24, s25, s26, s27, s28, s29, s30, s31, s32, s33, s34, s35, s36, s37, s38, s39, s40, s41, s42, s43, s44, s45, s46, s47, s48, s49, s50, s51, s52, s53, s54, s55, s56, s57, s58, s59, s60, s61⟩
                      go_simp
                      with_reducible rfl
                     rotate_left
                     ·
                      simp only [Act.put, List.setIfInBounds_toArray, List.set_cons_zero, List.set_cons_succ, i64_w, i32_w]
                      rfl
                     refine pure_ (i := 48) (N := some 136) (v := ?_) (a' := ?_) #[true, true, true, true, true, true, true, true, true, true, true, true, true, true, true, true, true, true, true, true, true, true, true, true, true, true, true, true, true, true, true, true, true, true, true, true, true, true, true, true, true, true, true, true, true, true, true, true, true, false, false, false, false, false, false, false, false, false, false, false, false, false, false, false, false] rfl rfl (any_of HT_.out (by kernel_rfl)) (fun _ _ _ h => h) (Or.inl ⟨by rfl, ?_⟩) ?_ ?_
                     rotate_left
                     ·
                      intro w'
                      go_simp
                      with_reducible rfl
                     rotate_left
                     ·
                      simp only [Act.put, List.setIfInBounds_toArray, List.set_cons_zero, List.set_cons_succ, i64_w, i32_w]
                      rfl
                     refine pure_ (i := 49) (N := some 137) (v := ?_) (a' := ?_) #[true, true, true, true, true, true, true, true, true, true, true, true, true, true, true, true, true, true, true, true, true, true, true, true, true, true, true, true, true, true, true, true, true, true, true, true, true, true, true, true, true, true, true, true, true, true, true, true, true, true, false, false, false, false, false, false, false, false, false, false, false, false, false, false, false] rfl rfl (any_of HT_.out (by kernel_rfl)) (fun _ _ _ h => h) (Or.inl ⟨by rfl, ?_⟩) ?_ ?_
                     rotate_left
                     ·
                      intro w'
                      go_simp
                      with_reducible rfl
                     rotate_left
                     ·
                      simp only [Act.put, List.setIfInBounds_toArray, List.set_cons_zero, List.set_cons_succ, i64_w, i32_w]
                      rfl
                     refine pure_ (i := 50) (N := some 138) (v := ?_) (a' := ?_) #[true, true, true, true, true, true, true, true, true, true, true, true, true, true, true, true, true, true, true, true, true, true, true, true, true, true, true, true, true, true, true, true, true, true, true, true, true, true, true, true, true, true, true, true, true, true, true, true, true, true, true, false, false, false, false, false, false, false, false, false, false, false, false, false, false] rfl rfl (any_of HT_.out (by kernel_rfl)) (fun _ _ _ h => h) (Or.inl ⟨by rfl, ?_⟩) ?_ ?_
                     rotate_left
                     ·
                      intro w'
                      go_simp
                      with_reducible rfl
                     rotate_left
                     ·
                      simp only [Act.put, List.setIfInBounds_toArray, List.set_cons_zero, List.set_cons_succ, i64_w, i32_w]
                      rfl
                     refine pure_ (i := 51) (N := some 139) (v := ?_) (a' := ?_) #[true, true, true, true, true, true, true, true, true, true, true, true, true, true, true, true, true, true, true, true, true, true, true, true, true, true, true, true, true, true, true, true, true, true, true, true, true, true, true, true, true, true, true, true, true, true, true, true, true, true, true, true, false, false, false, false, false, false, false, false, false, false, false, false, false] rfl rfl (any_of HT_.out (by kernel_rfl)) (fun _ _ _ h => h) (Or.inl ⟨by rfl, ?_⟩) ?_ ?_
                     rotate_left
                     ·
                      intro w'
                      go_simp
                      with_reducible rfl
                     rotate_left
                     ·
                      simp only [Act.put, List.setIfInBounds_toArray, List.set_cons_zero, List.set_cons_succ, i64_w, i32_w]
                      rfl
                     refine pure_ (i := 53) (N := some 141) (v := ?_) (a' := ?_) #[true, true, true, true, true, true, true, true, true, true, true, true, true, true, true, true, true, true, true, true, true, true, true, true, true, true, true, true, true, true, true, true, true, true, true, true, true, true, true, true, true, true, true, true, true, true, true, true, true, true, true, true, false, true, false, false, false, false, false, false, false, false, false, false, false] rfl rfl (any_of HT_.out (by kernel_rfl)) (fun _ _ _ h => h) (Or.inl ⟨by rfl, ?_⟩) ?_ ?_
                     rotate_left
                     ·
                      intro w'
                      go_simp
                      with_reducible rfl
                     rotate_left
                     ·
                      simp only [Act.put, List.setIfInBounds_toArray, List.set_cons_zero, List.set_cons_succ, i64_w, i32_w]
                      rfl
                     refine pure_ (i := 57) (N := some 145) (v := ?_) (a' := ?_) #[true, true, true, true, true, true, true, true, true, true, true, true, true, true, true, true, true, true, true, true, true, true, true, true, true, true, true, true, true, true, true, true, true, true, true, true, true, true, true, true, true, true, true, true, true, true, true, true, true, true, true, true, false, true, false, false, false, true, false, false, false, false, false, false, false] rfl rfl (any_of HT_.out (by kernel_rfl)) (fun _ _ _ h => h) (Or.inl ⟨by rfl, ?_⟩) ?_ ?_
                     rotate_left
                     ·
                      intro w'
                      go_simp
                      with_reducible rfl
                     rotate_left
                     ·
                      simp only [Act.put, List.setIfInBounds_toArray, List.set_cons_zero, List.set_cons_succ, i64_w, i32_w]
                      rfl
                     refine pure_ (i := 59) (N := some 147) (v := ?_) (a' := ?_) #[true, true, true, true, true, true, true, true, true, true, true, true, true, true, true, true, true, true, true, true, true, true, true, true, true, true, true, true, true, true, true, true, true, true, true, true, true, true, true, true, true, true, true, true, true, true, true, true, true, true, true, true, false, true, false, false, false, true, false, true, false, false, false, false, false] rfl rfl (any_of HT_.out (by kernel_rfl)) (fun _ _ _ h => h) (Or.inl ⟨by rfl, ?_⟩) ?_ ?_
                     rotate_left
                     ·
                      intro w'
                      go_simp
                      with_reducible rfl
                     rotate_left
                     ·
                      simp only [Act.put, List.setIfInBounds_toArray, List.set_cons_zero, List.set_cons_succ, i64_w, i32_w]
                      rfl
                     refine take_ (i := 52) (N := some 140) (v := ?_) (a' := ?_) #[true, true, true, true, true, true, true, true, true, true, true, true, true, true, true, true, true, true, true, true, true, true, true, true, true, true, true, true, true, true, true, true, true, true, true, true, true, true, true, true, true, true, true, true, true, true, true, true, true, true, true, true, true, true, false, false, false, true, false, true, false, false, false, false, false] rfl rfl (take_ofW HT_.out HW_.out (by kernel_rfl)) (fun _ _ _ h => h) (Or.inl ⟨by rfl, ?_⟩) hHeld ?_ ?_
                     rotate_left
                     ·
                      rintro w' ⟨s0, s1, s2, s3, s4, s5, s6, s7, s8, s9, s10, s11, s12, s13, s14, s15, s16, s17, s18, s19, s20, s21, s22, s23, s24, s25, s26, s27, s28, s29, s30, s31, s32, s33, s34, s35, s36, s37, s38, s39, s40, s41, s42, s43, s44, s45, s46, s47, s48, s49, s50, s51, s52, s53, s54, s55, s56, s57, s58, s59, s60, s61⟩
                      go_simp
                      with_reducible rfl
                     rotate_left
                     ·
                      simp only [Act.put, List.setIfInBounds_toArray, List.set_cons_zero, List.set_cons_succ, i64_w, i32_w]
                      rfl
                     refine pure_ (i := 54) (N := some 142) (v := ?_) (a' := ?_) #[true, true, true, true, true, true, true, true, true, true, true, true, true, true, true, true, true, true, true, true, true, true, true, true, true, true, true, true, true, true, true, true, true, true, true, true, true, true, true, true, true, true, true, true, true, true, true, true, true, true, true, true, true, true, true, false, false, true, false, true, false, false, false, false, false] rfl rfl (any_of HT_.out (by kernel_rfl)) (fun _ _ _ h => h) (Or.inl ⟨by rfl, ?_⟩) ?_ ?_
                     rotate_left
                     ·
                      intro w'
                      go_simp
                      with_reducible rfl
                     rotate_left
                     ·
                      simp only [Act.put, List.setIfInBounds_toArray, List.set_cons_zero, List.set_cons_succ, i64_w, i32_w]
                      rfl
                     refine pure_ (i := 55) (N := some 143) (v := ?_) (a' := ?_) #[true, true, true, true, true, true, true, true, true, true, true, true, true, true, true, true, true, true, true, true, true, true, true, true, true, true, true, true, true, true, true, true, true, true, true, true, true, true, true, true, true, true, true, true, true, true, true, true, true, true, true, true, true, true, true, true, false, true, false, true, false, false, false, false, false] rfl rfl (any_of HT_.out (by kernel_rfl)) (fun _ _ _ h => h) (Or.inl ⟨by rfl, ?_⟩) ?_ ?_
                     rotate_left
                     ·
                      intro w'
                      go_simp
                      with_reducible rfl
                     rotate_left
                     ·
                      simp only [Act.put, List.setIfInBounds_toArray, List.set_cons_zero, List.set_cons_succ, i64_w, i32_w]
                      rfl
                     refine take_ (i := 56) (N := some 144) (v := ?_) (a' := ?_) #[true, true, true, true, true, true, true, true, true, true, true, true, true, true, true, true, true, true, true, true, true, true, true, true, true, true, true, true, true, true, true, true, true, true, true, true, true, true, true, true, true, true, true, true, true, true, true, true, true, true, true, true, true, true, true, true, true, true, false, true, false, false, false, false, false] rfl rfl (take_ofW HT_.out HW_.out (by kernel_rfl)) (fun _ _ _ h => h) (Or.inl ⟨by rfl, ?_⟩) hHeld ?_ ?_
                     rotate_left
                     ·
                      rintro w' ⟨s0, s1, s2, s3, s4, s5, s6, s7, s8, s9, s10, s11, s12, s13, s14, s15, s16, s17, s18, s19, s20, s21, s22, s23, s24, s25, s26, s27, s28, s29, s30, s31, s32, s33, s34, s35, s36, s37, s38, s39, s40, s41, s42, s43, s44, s45, s46, s47, s48, s49, s50, s51, s52, s53, s54, s55, s56, s57, s58, s59, s60, s61⟩
                      go_simp
                      with_reducible rfl
                     rotate_left
                     ·
                      simp only [Act.put, List.setIfInBounds_toArray, List.set_cons_zero, List.set_cons_succ, i64_w, i32_w]
                      rfl
                     refine take_ (i := 58) (N := some 146) (v := ?_) (a' := ?_) #[true, true, true, true, true, true, true, true, true, true, true, true, true, true, true, true, true, true, true, true, true, true, true, true, true, true, true, true, true, true, true, true, true, true, true, true, true, true, true, true, true, true, true, true, true, true, true, true, true, true, true, true, true, true, true, true, true, true, true, true, false, false, false, false, false] rfl rfl (take_ofW HT_.out HW_.out (by kernel_rfl)) (fun _ _ _ h => h) (Or.inl ⟨by rfl, ?_⟩) hHeld ?_ ?_
                     rotate_left
                     ·
                      rintro w' ⟨s0, s1, s2, s3, s4, s5, s6, s7, s8, s9, s10, s11, s12, s13, s14, s15, s16, s17, s18, s19, s20, s21, s22, s23, s24, s25, s26, s27, s28, s29, s30, s31, s32, s33, s34, s35, s36, s37, s38, s39, s40, s41, s42, s43, s44, s45, s46, s47, s48, s49, s50, s51, s52, s53, s54, s55, s56, s57, s58, s59, s60, s61⟩
                      go_simp
                      with_reducible rfl
                     rotate_left
                     ·
                      simp only [Act.put, List.setIfInBounds_toArray, List.set_cons_zero, List.set_cons_succ, i64_w, i32_w]
                      rfl
                     refine pure_ (i := 60) (N := some 148) (v := ?_) (a' := ?_) #[true, true, true, true, true, true, true, true, true, true, true, true, true, true, true, true, true, true, true, true, true, true, true, true, true, true, true, true, true, true, true, true, true, true, true, true, true, true, true, true, true, true, true, true, true, true, true, true, true, true, true, true, true, true, true, true, true, true, true, true, true, false, false, false, false] rfl rfl (any_of HT_.out (by kernel_rfl)) (fun _ _ _ h => h) (Or.inl ⟨by rfl, ?_⟩) ?_ ?_
                     rotate_left
                     ·
                      intro w'
                      go_simp
                      with_reducible rfl
                     rotate_left
                     ·
                      simp only [Act.put, List.setIfInBounds_toArray, List.set_cons_zero, List.set_cons_succ, i64_w, i32_w]
                      rfl
                     refine pure_ (i := 61) (N := some 149) (v := ?_) (a' := ?_) #[true, true, true, true, true, true, true, true, true, true, true, true, true, true, true, true, true, true, true, true, true, true, true, true, true, true, true, true, true, true, true, true, true, true, true, true, true, true, true, true, true, true, true, true, true, true, true, true, true, true, true, true, true, true, true, true, true, true, true, true, true, true, false, false, false] rfl rfl (any_of HT_.out (by kernel_rfl)) (fun _ _ _ h => h) (Or.inl ⟨by rfl, ?_⟩) ?_ ?_
                     rotate_left
                     ·
                      intro w'
                      go_simp
                      with_reducible rfl
                     rotate_left
                     ·
                      simp only [Act.put, List.setIfInBounds_toArray, List.set_cons_zero, List.set_cons_succ, i64_w, i32_w]
                      rfl
                     refine take_ (i := 62) (N := some 150) (v := ?_) (a' := ?_) #[true, true, true, true, true, true, true, true, true, true, true, true, true, true, true, true, true, true, true, true, true, true, true, true, true, true, true, true, true, true, true, true, true, true, true, true, true, true, true, true, true, true, true, true, true, true, true, true, true, true, true, true, true, true, true, true, true, true, true, true, true, true, true, false, false] rfl rfl (take_ofW HT_.out HW_.out (by kernel_rfl)) (fun _ _ _ h => h) (Or.inl ⟨by rfl, ?_⟩) hHeld ?_ ?_
                     rotate_left
                     ·
                      rintro w' ⟨s0, s1, s2, s3, s4, s5, s6, s7, s8, s9, s10, s11, s12, s13, s14, s15, s16, s17, s18, s19, s20, s21, s22, s23, s24, s25, s26, s27, s28, s29, s30, s31, s32, s33, s34, s35, s36, s37, s38, s39, s40, s41, s42, s43, s44, s45, s46, s47, s48, s49, s50, s51, s52, s53, s54, s55, s56, s57, s58, s59, s60, s61⟩
                      go_simp
                      with_reducible rfl
                     rotate_left
                     ·
                      simp only [Act.put, List.setIfInBounds_toArray, List.set_cons_zero, List.set_cons_succ, i64_w, i32_w]
                      rfl
                     refine pure_ (i := 63) (N := some 151) (v := ?_) (a' := ?_) #[true, true, true, true, true, true, true, true, true, true, true, true, true, true, true, true, true, true, true, true, true, true, true, true, true, true, true, true, true, true, true, true, true, true, true, true, true, true, true, true, true, true, true, true, true, true, true, true, true, true, true, true, true, true, true, true, true, true, true, true, true, true, true, true, false] rfl rfl (any_of HT_.out (by kernel_rfl)) (fun _ _ _ h => h) (Or.inl ⟨by rfl, ?_⟩) ?_ ?_
                     rotate_left
                     ·
                      intro w'
                      go_simp
                      with_reducible rfl
                     rotate_left
                     ·
                      simp only [Act.put, List.setIfInBounds_toArray, List.set_cons_zero, List.set_cons_succ, i64_w, i32_w]
                      rfl
                     refine pure_ (i := 64) (N := some 152) (v := ?_) (a' := ?_) #[true, true, true, true, true, true, true, true, true, true, true, true, true, true, true, true, true, true, true, true, true, true, true, true, true, true, true, true, true, true, true, true, true, true, true, true, true, true, true, true, true, true, true, true, true, true, true, true, true, true, true, true, true, true, true, true, true, true, true, true, true, true, true, true, true] rfl rfl (any_of HT_.out (by kernel_rfl)) (fun _ _ _ h => h) (Or.inl ⟨by rfl, ?_⟩) ?_ ?_
                     rotate_left
                     ·
                      intro w'
                      go_simp
                      with_reducible rfl
                     rotate_left
                     ·
                      simp only [Act.put, List.setIfInBounds_toArray, List.set_cons_zero, List.set_cons_succ, i64_w, i32_w]
                      rfl
                     refine done_ (done_of HT_.out (by kernel_rfl)) ?_
                     try go_wp2
                     go_roundg k3
                     case measure => have := HJ8.out; have := HK2.out; have := HK3.out; omega
                     case rel => exact ⟨(wrap64 (x10_2 + 1)), (wrap64 (x11_2 + 1)), (by first | rfl | (simp; done) | (simp [*]; done)), (by first | rfl | (simp; done) | (simp [*]; done)), H', ⟨by have := HJ8.out; have := HK2.out; have := HK3.out; omega⟩, ⟨by (with_reducible repeat (first | apply Kd.R_alloc | apply Kd.R_drewN | apply Kd.R_drew)); exact HO_7.out⟩, ⟨by (with_reducible repeat (first | apply Kd.S_alloc | apply Kd.S_drewN | apply Kd.S_drew)); exact HO_469000.out⟩, ⟨by (with_reducible repeat (first | refine blk_drewN ?_ _ | refine blk_drew ?_ | refine blk_alloc ?_ _)); exact BK455.out⟩, ⟨by (with_reducible repeat (first | refine blk_drewN ?_ _ | refine blk_drew ?_ | refine blk_alloc ?_ _)); exact BK468.out⟩, ⟨by repeat (first | (with_reducible first | exact HB.out | apply below_alloc | apply pw_below_drewN | apply below_drew1 | refine below_set ?_ GE455.out | refine below_set ?_ GE468.out) | exact HB.out)⟩⟩
                    ·
                     rw [if_neg c64] at H
                     have c64b0 : (((rd_T63 t462 x10_2).f1) == ((rd_T64 l0_0 x11_2).f1)) = false := beq_eq_false_iff_ne.mpr c64
                     have c64b1 : (((rd_T63 t462 x10_2).f1) != ((rd_T64 l0_0 x11_2).f1)) = true := bne_iff_ne.mpr c64
                     obtain rfl := Option.some.inj H
                     cases hT
                   ·
                    rw [if_neg c63] at H
                    have c63b0 : (((rd_T63 t462 x10_2).f4).toList == ((rd_T64 l0_0 x11_2).f4).toList) = false := beq_eq_false_iff_ne.mpr c63
                    have c63b1 : (((rd_T63 t462 x10_2).f4).toList != ((rd_T64 l0_0 x11_2).f4).toList) = true := bne_iff_ne.mpr c63
                    obtain rfl := Option.some.inj H
                    cases hT
                  ·
                   rw [if_neg c62] at H
                   have c62b0 : (((rd_T63 t462 x10_2).f2).toList == ((rd_T64 l0_0 x11_2).f2).toList) = false := beq_eq_false_iff_ne.mpr c62
                   have c62b1 : (((rd_T63 t462 x10_2).f2).toList != ((rd_T64 l0_0 x11_2).f2).toList) = true := bne_iff_ne.mpr c62
                   obtain rfl := Option.some.inj H
                   cases hT
                 ·
                  rw [if_neg c61] at H
                  have c61b0 : (((rd_T63 t462 x10_2).f0) == ((rd_T64 l0_0 x11_2).f0)) = false := beq_eq_false_iff_ne.mpr c61
                  have c61b1 : (((rd_T63 t462 x10_2).f0) != ((rd_T64 l0_0 x11_2).f0)) = true := bne_iff_ne.mpr c61
                  obtain rfl := Option.some.inj H
                  cases hT
                ·
                 rw [if_neg c60] at H
                 exact absurd H (by simp)
               ·
                rw [if_neg c59] at H
                exact absurd H (by simp)
              ·
               rw [if_neg c58] at H
               exact absurd H (by simp)
             ·
              rw [if_neg c57] at H
              exact absurd H (by simp)
       ·
        rw [if_neg c40] at H
        have c40b0 : decide (x11_2 < (l0_0.length : Int)) = false := decide_eq_false c40
        clear c40
        by_cases c75 : x10_2 = (t462.length : Int)
        ·
         rw [if_pos c75] at H
         have c75b0 : (x10_2 == (t462.length : Int)) = true := beq_iff_eq.mpr c75
         have c75b1 : (x10_2 != (t462.length : Int)) = false := bne_eq_false_iff_eq.mpr c75
         clear c75
         obtain rfl := Option.some.inj H
         have hnb76 := NB455_468.out
         have hnc76 := NB468_455.out
         have hcz77_0 : wr.cell? ⟨gb455, 0, none⟩ = some (.slice A0_0 l0_0.length c0_0) := (blk_cell BK455.out 0).trans rfl
         have hcz77_1 : wr.cell? ⟨gb455, 1, none⟩ = some (.int .i64 a0_1) := (blk_cell BK455.out 1).trans rfl
         have hcz77_2 : wr.cell? ⟨gb455, 2, none⟩ = some (.int .i64 a0_2) := (blk_cell BK455.out 2).trans rfl
         have hfz77_0 := blk_frozen BK455.out 0
         have hfz77_1 := blk_frozen BK455.out 1
         have hfz77_2 := blk_frozen BK455.out 2
         have hcz78_0 : wr.cell? ⟨gb468, 0, none⟩ = some (.slice Ao17 t462.length co17) := (blk_cell BK468.out 0).trans rfl
         have hcz78_1 : wr.cell? ⟨gb468, 1, none⟩ = some (.int .i64 t465) := (blk_cell BK468.out 1).trans rfl
         have hcz78_2 : wr.cell? ⟨gb468, 2, none⟩ = some (.int .i64 t466) := (blk_cell BK468.out 2).trans rfl
         have hfz78_0 := blk_frozen BK468.out 0
         have hfz78_1 := blk_frozen BK468.out 1
         have hfz78_2 := blk_frozen BK468.out 2
         go_wp2
         go_ret
         exact ⟨by first | rfl | (simp [errW_none, errW_some] <;> rfl) | (simp [*, errW_none, errW_some] <;> rfl), by repeat (first | (with_reducible first | exact HB.out | apply below_alloc | apply pw_below_drewN | apply below_drew1 | refine below_set ?_ GE455.out | refine below_set ?_ GE468.out) | exact HB.out)⟩
        ·
         rw [if_neg c75] at H
         have c75b0 : (x10_2 == (t462.length : Int)) = false := beq_eq_false_iff_ne.mpr c75
         have c75b1 : (x10_2 != (t462.length : Int)) = true := bne_iff_ne.mpr c75
         obtain rfl := Option.some.inj H
         cases hT
  ·
   rw [if_neg c8] at H
   have c8b0 : (t469 == 0) = false := beq_eq_false_iff_ne.mpr c8
   have c8b1 : (t469 != 0) = true := bne_iff_ne.mpr c8
   obtain rfl := Option.some.inj H
   go_enter Try.func7, Try.ntmps7
   go_wp2_with (first | ((with_reducible refine gate_dst (N := 2) rfl ?_); (try (refine gate_guard (by rfl) ?_; dsimp only)); refine box_event ?hg (N := 2) ?hd (cs := #[.slice A0_0 l0_0.length c0_0, .int .i64 a0_1, .int .i64 a0_2]) (t := 24) ?hr ?_; (case hd => rfl); (case hg => rfl); (case hr => first | (go_simp; done) | (go_simp; rfl)); intro gb455 hg w82 hbox hb; have n0_ := Aside0.mk (below_step (by repeat (first | (with_reducible first | exact HB.out | apply below_alloc | apply pw_below_drewN | apply below_drew1) | exact HB.out)) hb); have n1_ := Aside0.mk (hbox); have n2_ := Aside0.mk ((by rw [hg]; exact (below_size (by repeat (first | (with_reducible first | exact HB.out | apply below_alloc | apply pw_below_drewN | apply below_drew1) | exact HB.out))) : w.heap.size ≤ gb455)); have n3_ := Aside0.mk ((by rw [hg]; exact (below_size (by repeat (first | (with_reducible first | exact HB.out | apply below_alloc | apply pw_below_drewN | apply below_drew1) | exact HB.out))) : w.heap.size ≤ gb455)); clear HB; have HB := n0_; have BK455 := n1_; have GW455 := n2_; have GE455 := n3_; clear n0_ n1_ n2_ n3_; clear hb hbox hg) | ((with_reducible refine gate_callee (f := 17) rfl ?_); refine goesL_ (some 14) rfl rfl Try.func17 (by kernel_rfl) rfl #[] rfl (by (try simp only [List.map_toArray, List.map_cons, List.map_nil]); first | done | rfl | (simp only [List.length_drop, List.length_take]; rfl)) ?_; (with_reducible refine (fanlightlaw10_alive.calls  true _ A3.out (hA _ A3.out)).mono ?_); rintro e w83 ⟨rfl, hb⟩; refine ⟨_, rfl, ?_⟩; have n0_ := Aside0.mk (blk_below (g := gb455) (o := .cells #[.slice A0_0 l0_0.length c0_0, .int .i64 a0_1, .int .i64 a0_2] 24 (0, 0)) (by (with_reducible repeat (first | refine blk_drewN ?_ _ | refine blk_drew ?_ | refine blk_alloc ?_ _)); exact BK455.out) hb); have n1_ := Aside0.mk (below_step (by repeat (first | (with_reducible first | exact HB.out | apply below_alloc | apply pw_below_drewN | apply below_drew1 | refine below_set ?_ GE455.out) | exact HB.out)) hb); clear BK455; clear HB; have BK455 := n0_; have HB := n1_; clear n0_ n1_; (try clear hb); (try clear hb2); (try clear hk); (try clear hi); have hcz84_0 : w83.cell? ⟨gb455, 0, none⟩ = some (.slice A0_0 l0_0.length c0_0) := (blk_cell BK455.out 0).trans rfl; have hcz84_1 : w83.cell? ⟨gb455, 1, none⟩ = some (.int .i64 a0_1) := (blk_cell BK455.out 1).trans rfl; have hcz84_2 : w83.cell? ⟨gb455, 2, none⟩ = some (.int .i64 a0_2) := (blk_cell BK455.out 2).trans rfl; have hfz84_0 := blk_frozen BK455.out 0; have hfz84_1 := blk_frozen BK455.out 1; have hfz84_2 := blk_frozen BK455.out 2) | ((with_reducible refine gate_callee (f := 11) rfl ?_); refine goesL_ (some 18) rfl rfl Try.func11 (by kernel_rfl) rfl #[.agg #[.slice A0_0 l0_0.length c0_0, .int .i64 a0_1, .int .i64 a0_2]] rfl (by (try simp only [List.map_toArray, List.map_cons, List.map_nil]); first | done | rfl | (simp only [List.length_drop, List.length_take]; rfl)) ?_; (with_reducible refine (fanlightlaw10_Of.calls k _ _ l0_0 a0_1 a0_2 t457 t460 t461 _ ?side1 ?side2 A5.out).mono ?_); (case side1 => repeat (first | exact (Kd.C_below HR0_0.out HB.out) | (with_reducible refine Kd.C_alloc ?_ _) | (with_reducible refine Kd.C_drewN ?_ _) | (with_reducible refine Kd.C_drew ?_))); (case side2 => exact HC0_0.out); rintro e w85 ⟨v458, rfl, ho0, hb⟩; refine ⟨_, rfl, ?_⟩; have n0_ := Aside0.mk (Kd.S_lower ho0 (below_size (by repeat (first | (with_reducible first | exact HB.out | apply below_alloc | apply pw_below_drewN | apply below_drew1 | refine below_set ?_ GE455.out) | exact HB.out)))); have n1_ := Aside0.mk (blk_below (g := gb455) (o := .cells #[.slice A0_0 l0_0.length c0_0, .int .i64 a0_1, .int .i64 a0_2] 24 (0, 0)) (by (with_reducible repeat (first | refine blk_drewN ?_ _ | refine blk_drew ?_ | refine blk_alloc ?_ _)); exact BK455.out) hb); have n2_ := Aside0.mk (below_step (by repeat (first | (with_reducible first | exact HB.out | apply below_alloc | apply pw_below_drewN | apply below_drew1 | refine below_set ?_ GE455.out) | exact HB.out)) hb); clear BK455; clear HB; have HO459 := n0_; have BK455 := n1_; have HB := n2_; clear n0_ n1_ n2_; (try clear hb); (try clear hb2); (try clear hk); (try clear hi); (try clear ho0); obtain ⟨Ao86, co86, eo86⟩ := Kd.S_slice HO459.out; subst eo86) | ((with_reducible refine gate_callee (f := 18) rfl ?_); refine goesL_ (some 21) rfl rfl Try.func18 (by kernel_rfl) rfl #[.agg #[.slice Ao86 t457.length co86, .int .i64 t460, .int .i64 t461], .agg #[.int .i64 3, .int .i64 a1, .int .i64 0, .int .i64 0, .string (⟨#[]⟩ : ByteArray), .string (⟨#[]⟩ : ByteArray), .string (⟨#[]⟩ : ByteArray), .string (⟨#[]⟩ : ByteArray), .string (⟨#[]⟩ : ByteArray)]] rfl (by (try simp only [List.map_toArray, List.map_cons, List.map_nil]); first | done | rfl | (simp only [List.length_drop, List.length_take]; rfl)) ?_; (with_reducible refine (dom_Apply.calls _ _ t457 t460 t461 3 a1 0 0 (⟨#[]⟩ : ByteArray) (⟨#[]⟩ : ByteArray) (⟨#[]⟩ : ByteArray) (⟨#[]⟩ : ByteArray) (⟨#[]⟩ : ByteArray) t462 t465 t466 t467 _ ?side1 ?side2 A6.out).mono ?_); (case side1 => repeat (first | exact (Kd.S_reads' HO459.out).2.2 | (with_reducible refine Kd.C_alloc ?_ _) | (with_reducible refine Kd.C_drewN ?_ _) | (with_reducible refine Kd.C_drew ?_))); (case side2 => exact (Kd.S_reads' HO459.out).2.1); rintro e w87 ⟨v463, rfl, ho0, hb⟩; refine ⟨_, rfl, ?_⟩; have n0_ := Aside0.mk (Kd.S_elder' (by (with_reducible repeat (first | apply Kd.S_alloc | apply Kd.S_drewN | apply Kd.S_drew)); exact HO459.out) (Kd.S_base ho0) hb); have n1_ := Aside0.mk (Kd.S_lower (Kd.S_new' ho0 (Kd.S_lt (by (with_reducible repeat (first | apply Kd.S_alloc | apply Kd.S_drewN | apply Kd.S_drew)); exact HO459.out))) (below_size (by repeat (first | (with_reducible first | exact HB.out | apply below_alloc | apply pw_below_drewN | apply below_drew1 | refine below_set ?_ GE455.out) | exact HB.out)))); have n2_ := Aside0.mk (blk_below (g := gb455) (o := .cells #[.slice A0_0 l0_0.length c0_0, .int .i64 a0_1, .int .i64 a0_2] 24 (0, 0)) (by (with_reducible repeat (first | refine blk_drewN ?_ _ | refine blk_drew ?_ | refine blk_alloc ?_ _)); exact BK455.out) hb); have n3_ := Aside0.mk (below_step (by repeat (first | (with_reducible first | exact HB.out | apply below_alloc | apply pw_below_drewN | apply below_drew1 | refine below_set ?_ GE455.out) | exact HB.out)) hb); clear HO459; clear BK455; clear HB; have HO459 := n0_; have HO464 := n1_; have BK455 := n2_; have HB := n3_; clear n0_ n1_ n2_ n3_; (try clear hb); (try clear hb2); (try clear hk); (try clear hi); (try clear ho0)) | ((with_reducible refine gate_dst (N := 5) rfl ?_); (try (refine gate_guard (by rfl) ?_; dsimp only)); refine box_event ?hg (N := 5) ?hd (cs := #[.slice none 0 0, .int .i64 0, .int .i64 0]) (t := 28) ?hr ?_; (case hd => rfl); (case hg => rfl); (case hr => first | (go_simp; done) | (go_simp; rfl)); intro gb468 hg w88 hbox hb; have n0_ := Aside0.mk (Kd.S_below (by (with_reducible repeat (first | apply Kd.S_alloc | apply Kd.S_drewN | apply Kd.S_drew)); exact HO459.out) hb); have n1_ := Aside0.mk (Kd.S_below (by (with_reducible repeat (first | apply Kd.S_alloc | apply Kd.S_drewN | apply Kd.S_drew)); exact HO464.out) hb); have n2_ := Aside0.mk (blk_below (g := gb455) (o := .cells #[.slice A0_0 l0_0.length c0_0, .int .i64 a0_1, .int .i64 a0_2] 24 (0, 0)) (by (with_reducible repeat (first | refine blk_drewN ?_ _ | refine blk_drew ?_ | refine blk_alloc ?_ _)); exact BK455.out) hb); have n3_ := Aside0.mk (below_step (by repeat (first | (with_reducible first | exact HB.out | apply below_alloc | apply pw_below_drewN | apply below_drew1 | refine below_set ?_ GE455.out) | exact HB.out)) hb); have n4_ := Aside0.mk (hbox); have n5_ := Aside0.mk ((by rw [hg]; exact (below_size (by repeat (first | (with_reducible first | exact HB.out | apply below_alloc | apply pw_below_drewN | apply below_drew1 | refine below_set ?_ GE455.out) | exact HB.out))) : w.heap.size ≤ gb468)); have n6_ := Aside0.mk ((by rw [hg]; exact (below_size (by repeat (first | (with_reducible first | exact HB.out | apply below_alloc | apply pw_below_drewN | apply below_drew1 | refine below_set ?_ GE455.out) | exact HB.out))) : w.heap.size ≤ gb468)); have n7_ := Aside0.mk ((by rw [hg]; exact Nat.ne_of_lt (blk_lt (g := gb455) (o := .cells #[.slice A0_0 l0_0.length c0_0, .int .i64 a0_1, .int .i64 a0_2] 24 (0, 0)) (by (with_reducible repeat (first | refine blk_drewN ?_ _ | refine blk_drew ?_ | refine blk_alloc ?_ _)); exact BK455.out)) : gb455 ≠ gb468)); have n8_ := Aside0.mk ((by rw [hg]; exact Nat.ne_of_gt (blk_lt (g := gb455) (o := .cells #[.slice A0_0 l0_0.length c0_0, .int .i64 a0_1, .int .i64 a0_2] 24 (0, 0)) (by (with_reducible repeat (first | refine blk_drewN ?_ _ | refine blk_drew ?_ | refine blk_alloc ?_ _)); exact BK455.out)) : gb468 ≠ gb455)); clear HO459; clear HO464; clear BK455; clear HB; have HO459 := n0_; have HO464 := n1_; have BK455 := n2_; have HB := n3_; have BK468 := n4_; have GW468 := n5_; have GE468 := n6_; have NB455_468 := n7_; have NB468_455 := n8_; clear n0_ n1_ n2_ n3_ n4_ n5_ n6_ n7_ n8_; clear hb hbox hg; obtain ⟨Ao89, co89, eo89⟩ := Kd.S_slice HO464.out; subst eo89; have hnb90 := NB468_455.out; have hnc90 := NB455_468.out; have hcz91_0 : w88.cell? ⟨gb468, 0, none⟩ = some (.slice none 0 0) := (blk_cell BK468.out 0).trans rfl; have hcz91_1 : w88.cell? ⟨gb468, 1, none⟩ = some (.int .i64 0) := (blk_cell BK468.out 1).trans rfl; have hcz91_2 : w88.cell? ⟨gb468, 2, none⟩ = some (.int .i64 0) := (blk_cell BK468.out 2).trans rfl; have hfz91_0 := blk_frozen BK468.out 0; have hfz91_1 := blk_frozen BK468.out 1; have hfz91_2 := blk_frozen BK468.out 2) | ((with_reducible refine gate_callee (f := 16) rfl ?_); refine goesL_ (some 25) rfl rfl Try.func16 (by kernel_rfl) rfl #[.int .i64 t467] rfl (by (try simp only [List.map_toArray, List.map_cons, List.map_nil]); first | done | rfl | (simp only [List.length_drop, List.length_take]; rfl)) ?_; (with_reducible refine (fanlightlaw10_num.calls t467 t469 _ A7.out).mono ?_); rintro e w' ⟨rfl, ⟨nd, rfl⟩⟩; refine ⟨_, rfl, ?_⟩))
   go_ret
   exact ⟨by first | rfl | (simp [errW_none, errW_some] <;> rfl) | (simp [*, errW_none, errW_some] <;> rfl), by repeat (first | (with_reducible first | exact HB.out | apply below_alloc | apply pw_below_drewN | apply below_drew1 | refine below_set ?_ GE455.out | refine below_set ?_ GE468.out) | exact HB.out)⟩
 ·
  replace c4 := Bool.eq_false_iff.mpr c4
  subst c4
  have H1 : (some false) = some r := by rw [if_neg (show ¬ (false = true) by decide)] at H; exact H
  clear H
  have H := H1
  clear H1
  obtain rfl := Option.some.inj H
  cases hT
end Go.Proofs.Ytleofbidijbahaa.D
