import Derived.Test.YtloocmeckpoflaaYD0
import Derived.Test.YtloocmeckpoflaaYD16
import Derived.Test.YtloocmeckpoflaaYD17
namespace Go.Proofs.Ytloocmeckpoflaa.D
open Go.RowKit Go.Proofs.YtloocmeckpoflaaW.PrintWords Go.Proofs.YtloocmeckpoflaaW.PrintLast Go.Proofs.YtloocmeckpoflaaW.PrintMore
attribute [local go_sem] max2_int min2_int max_two min_two max_three min_three max_four min_four   -- for this text's walks alone
set_option linter.unusedVariables false
set_option linter.unusedSimpArgs false
mutual
def fanlightlaw09_TreeEscapes.j0 : Nat → ByteArray → ByteArray → Bool → Option (Bool)
 | 0, _, _, _ => none
 | k + 1, x0, x3, x46 => if x46 = true then (some false) else (if 3 ≤ (wrap64 ((x3.size : Int) - 4)) then (if (wrap64 ((x3.size : Int) - 4)) ≤ (x3.size : Int) then (fanlightlaw09_TreeEscapes.l0 k x0 (x3.extract 3 ((wrap64 ((x3.size : Int) - 4)) : Int).toNat) (([(⟨#[38, 97, 109, 112, 59]⟩ : ByteArray), (⟨#[38, 108, 116, 59]⟩ : ByteArray), (⟨#[38, 103, 116, 59]⟩ : ByteArray), (⟨#[38, 113, 117, 111, 116, 59]⟩ : ByteArray)] : List ByteArray)) (⟨#[]⟩ : ByteArray) 0) else (none)) else (none))
def fanlightlaw09_TreeEscapes.l0 : Nat → ByteArray → ByteArray → List ByteArray → ByteArray → Int → Option (Bool)
 | 0, _, _, _, _, _ => none
 | k + 1, x0, x3, x5, x6, x7 => if x7 < (x3.size : Int) then (if 0 ≤ x7 then (if (bt x3 x7) = 60 then (fanlightlaw09_TreeEscapes.j2 k x0 x3 x5 x6 x7 true) else (if (bt x3 x7) = 62 then (fanlightlaw09_TreeEscapes.j2 k x0 x3 x5 x6 x7 true) else (fanlightlaw09_TreeEscapes.j2 k x0 x3 x5 x6 x7 ((bt x3 x7) == 34)))) else (none)) else (some (x6.toList == x0.toList))
def fanlightlaw09_TreeEscapes.j2 : Nat → ByteArray → ByteArray → List ByteArray → ByteArray → Int → Bool → Option (Bool)
 | 0, _, _, _, _, _, _ => none
 | k + 1, x0, x3, x5, x6, x7, x72 => if x72 = true then (some false) else (if 0 ≤ x7 then (if x7 < (x3.size : Int) then (if (bt x3 x7) = 38 then (fanlightlaw09_TreeEscapes.l1 k x0 x3 x5 x6 x7 false 0) else (if x7 ≤ (wrap64 (x7 + 1)) then (if (wrap64 (x7 + 1)) ≤ (x3.size : Int) then (if x6.size + (x3.extract (x7 : Int).toNat ((wrap64 (x7 + 1)) : Int).toNat).size ≤ 9223372036854775807 then (fanlightlaw09_TreeEscapes.l0 k x0 x3 x5 (x6 ++ (x3.extract (x7 : Int).toNat ((wrap64 (x7 + 1)) : Int).toNat)) (wrap64 (x7 + 1))) else (none)) else (none)) else (none))) else (none)) else (none))
def fanlightlaw09_TreeEscapes.l1 : Nat → ByteArray → ByteArray → List ByteArray → ByteArray → Int → Bool → Int → Option (Bool)
 | 0, _, _, _, _, _, _, _ => none
 | k + 1, x0, x3, x5, x6, x7, x8, x9 => if x9 < 4 then (fanlightlaw09_TreeEscapes.j4 k x0 x3 x5 x6 x7 x8 x9 (!x8)) else (fanlightlaw09_TreeEscapes.j4 k x0 x3 x5 x6 x7 x8 x9 false)
def fanlightlaw09_TreeEscapes.j4 : Nat → ByteArray → ByteArray → List ByteArray → ByteArray → Int → Bool → Int → Bool → Option (Bool)
 | 0, _, _, _, _, _, _, _, _ => none
 | k + 1, x0, x3, x5, x6, x7, x8, x9, x91 => if x91 = true then (if 0 ≤ x9 then (if x9 < (x5.length : Int) then (if (wrap64 ((x3.size : Int) - x7)) ≥ ((rdOf ByteArray.empty x5 x9).size : Int) then (if 0 ≤ x7 then (if x7 ≤ (wrap64 (x7 + ((rdOf ByteArray.empty x5 x9).size : Int))) then (if (wrap64 (x7 + ((rdOf ByteArray.empty x5 x9).size : Int))) ≤ (x3.size : Int) then (if (x3.extract (x7 : Int).toNat ((wrap64 (x7 + ((rdOf ByteArray.empty x5 x9).size : Int))) : Int).toNat).toList = (rdOf ByteArray.empty x5 x9).toList then (if x9 ≤ (wrap64 (x9 + 1)) then (if (wrap64 (x9 + 1)) ≤ 4 then (if x6.size + ((⟨#[38, 60, 62, 34]⟩ : ByteArray).extract (x9 : Int).toNat ((wrap64 (x9 + 1)) : Int).toNat).size ≤ 9223372036854775807 then (fanlightlaw09_TreeEscapes.l1 k x0 x3 x5 (x6 ++ ((⟨#[38, 60, 62, 34]⟩ : ByteArray).extract (x9 : Int).toNat ((wrap64 (x9 + 1)) : Int).toNat)) (wrap64 (x7 + ((rdOf ByteArray.empty x5 x9).size : Int))) true (wrap64 (x9 + 1))) else (none)) else (none)) else (none)) else (fanlightlaw09_TreeEscapes.l1 k x0 x3 x5 x6 x7 x8 (wrap64 (x9 + 1)))) else (none)) else (none)) else (none)) else (fanlightlaw09_TreeEscapes.l1 k x0 x3 x5 x6 x7 x8 (wrap64 (x9 + 1)))) else (none)) else (none)) else (if x8 = true then (fanlightlaw09_TreeEscapes.l0 k x0 x3 x5 x6 x7) else (some false))
end
def fanlightlaw09_TreeEscapes.f (k : Nat) (a0 : ByteArray) : Option (Bool) := (fanlightlaw09_alive.f).bind fun t114 => (if t114 = true then (if 0 ≤ (mn (a0.size : Int) 128) then (if (mn (a0.size : Int) 128) ≤ (a0.size : Int) then ((tree_Print.f (⟨#[112]⟩ : ByteArray) (⟨#[]⟩ : ByteArray) (⟨#[]⟩ : ByteArray) ([] : List (S53)) (([(⟨(⟨#[]⟩ : ByteArray), (⟨#[]⟩ : ByteArray), a0.extract 0 ((mn (a0.size : Int) 128) : Int).toNat, ([] : List (S53)), ([] : List (S25))⟩ : S25)] : List (S25)))).bind fun bt118 => ((fanlightlaw09_num.f bt118.2).bind fun t120 => (if t120 = 0 then (if (bt118.1.size : Int) < 7 then (fanlightlaw09_TreeEscapes.j0 k (a0.extract 0 ((mn (a0.size : Int) 128) : Int).toNat) bt118.1 true) else (if 0 ≤ 3 then (if 3 ≤ (bt118.1.size : Int) then (if (bt118.1.extract 0 3).toList = ([60, 112, 62] : List UInt8) then (if 0 ≤ (wrap64 ((bt118.1.size : Int) - 4)) then (if (wrap64 ((bt118.1.size : Int) - 4)) ≤ (bt118.1.size : Int) then (fanlightlaw09_TreeEscapes.j0 k (a0.extract 0 ((mn (a0.size : Int) 128) : Int).toNat) bt118.1 ((bt118.1.extract ((wrap64 ((bt118.1.size : Int) - 4)) : Int).toNat bt118.1.size).toList != ([60, 47, 112, 62] : List UInt8))) else (none)) else (none)) else (fanlightlaw09_TreeEscapes.j0 k (a0.extract 0 ((mn (a0.size : Int) 128) : Int).toNat) bt118.1 true)) else (none)) else (none))) else (fanlightlaw09_TreeEscapes.j0 k (a0.extract 0 ((mn (a0.size : Int) 128) : Int).toNat) bt118.1 true)))) else (none)) else (none)) else (some false))
theorem fanlightlaw09_TreeEscapes.mono_l : ∀ k, (∀ y0 y1 y2, LeO (fanlightlaw09_TreeEscapes.j0 k y0 y1 y2) (fanlightlaw09_TreeEscapes.j0 (k + 1) y0 y1 y2)) ∧ (∀ y0 y1 y2 y3 y4, LeO (fanlightlaw09_TreeEscapes.l0 k y0 y1 y2 y3 y4) (fanlightlaw09_TreeEscapes.l0 (k + 1) y0 y1 y2 y3 y4)) ∧ (∀ y0 y1 y2 y3 y4 y5, LeO (fanlightlaw09_TreeEscapes.j2 k y0 y1 y2 y3 y4 y5) (fanlightlaw09_TreeEscapes.j2 (k + 1) y0 y1 y2 y3 y4 y5)) ∧ (∀ y0 y1 y2 y3 y4 y5 y6, LeO (fanlightlaw09_TreeEscapes.l1 k y0 y1 y2 y3 y4 y5 y6) (fanlightlaw09_TreeEscapes.l1 (k + 1) y0 y1 y2 y3 y4 y5 y6)) ∧ (∀ y0 y1 y2 y3 y4 y5 y6 y7, LeO (fanlightlaw09_TreeEscapes.j4 k y0 y1 y2 y3 y4 y5 y6 y7) (fanlightlaw09_TreeEscapes.j4 (k + 1) y0 y1 y2 y3 y4 y5 y6 y7))
 | 0 => ⟨fun _ _ _ r h => by simp [fanlightlaw09_TreeEscapes.j0] at h, fun _ _ _ _ _ r h => by simp [fanlightlaw09_TreeEscapes.l0] at h, fun _ _ _ _ _ _ r h => by simp [fanlightlaw09_TreeEscapes.j2] at h, fun _ _ _ _ _ _ _ r h => by simp [fanlightlaw09_TreeEscapes.l1] at h, fun _ _ _ _ _ _ _ _ r h => by simp [fanlightlaw09_TreeEscapes.j4] at h⟩
 | k + 1 => by
  obtain ⟨ih0, ih1, ih2, ih3, ih4⟩ := fanlightlaw09_TreeEscapes.mono_l k
  refine ⟨?_, ?_, ?_, ?_, ?_⟩
  ·
   intro y0 y1 y2
   unfold fanlightlaw09_TreeEscapes.j0
   repeat' first
   | (with_reducible exact ih0 _ _ _)
   | (with_reducible exact ih1 _ _ _ _ _)
   | (with_reducible exact ih2 _ _ _ _ _ _)
   | (with_reducible exact ih3 _ _ _ _ _ _ _)
   | (with_reducible exact ih4 _ _ _ _ _ _ _ _)
   | (with_reducible exact LeO.refl _)
   | (with_reducible exact LeO.none _)
   | (with_reducible refine LeO.ite ?_ ?_)
   | (with_reducible refine LeO.bind ?_ (fun _ => ?_))
   | exact ih0 _ _ _
   | exact ih1 _ _ _ _ _
   | exact ih2 _ _ _ _ _ _
   | exact ih3 _ _ _ _ _ _ _
   | exact ih4 _ _ _ _ _ _ _ _
   | exact LeO.none _
   | refine LeO.ite ?_ ?_
   | refine LeO.bind ?_ (fun _ => ?_)
  ·
   intro y0 y1 y2 y3 y4
   unfold fanlightlaw09_TreeEscapes.l0
   repeat' first
   | (with_reducible exact ih0 _ _ _)
   | (with_reducible exact ih1 _ _ _ _ _)
   | (with_reducible exact ih2 _ _ _ _ _ _)
   | (with_reducible exact ih3 _ _ _ _ _ _ _)
   | (with_reducible exact ih4 _ _ _ _ _ _ _ _)
   | (with_reducible exact LeO.refl _)
   | (with_reducible exact LeO.none _)
   | (with_reducible refine LeO.ite ?_ ?_)
   | (with_reducible refine LeO.bind ?_ (fun _ => ?_))
   | exact ih0 _ _ _
   | exact ih1 _ _ _ _ _
   | exact ih2 _ _ _ _ _ _
   | exact ih3 _ _ _ _ _ _ _
   | exact ih4 _ _ _ _ _ _ _ _
   | exact LeO.none _
   | refine LeO.ite ?_ ?_
   | refine LeO.bind ?_ (fun _ => ?_)
  ·
   intro y0 y1 y2 y3 y4 y5
   unfold fanlightlaw09_TreeEscapes.j2
   repeat' first
   | (with_reducible exact ih0 _ _ _)
   | (with_reducible exact ih1 _ _ _ _ _)
   | (with_reducible exact ih2 _ _ _ _ _ _)
   | (with_reducible exact ih3 _ _ _ _ _ _ _)
   | (with_reducible exact ih4 _ _ _ _ _ _ _ _)
   | (with_reducible exact LeO.refl _)
   | (with_reducible exact LeO.none _)
   | (with_reducible refine LeO.ite ?_ ?_)
   | (with_reducible refine LeO.bind ?_ (fun _ => ?_))
   | exact ih0 _ _ _
   | exact ih1 _ _ _ _ _
   | exact ih2 _ _ _ _ _ _
   | exact ih3 _ _ _ _ _ _ _
   | exact ih4 _ _ _ _ _ _ _ _
   | exact LeO.none _
   | refine LeO.ite ?_ ?_
   | refine LeO.bind ?_ (fun _ => ?_)
  ·
   intro y0 y1 y2 y3 y4 y5 y6
   unfold fanlightlaw09_TreeEscapes.l1
   repeat' first
   | (with_reducible exact ih0 _ _ _)
   | (with_reducible exact ih1 _ _ _ _ _)
   | (with_reducible exact ih2 _ _ _ _ _ _)
   | (with_reducible exact ih3 _ _ _ _ _ _ _)
   | (with_reducible exact ih4 _ _ _ _ _ _ _ _)
   | (with_reducible exact LeO.refl _)
   | (with_reducible exact LeO.none _)
   | (with_reducible refine LeO.ite ?_ ?_)
   | (with_reducible refine LeO.bind ?_ (fun _ => ?_))
   | exact ih0 _ _ _
   | exact ih1 _ _ _ _ _
   | exact ih2 _ _ _ _ _ _
   | exact ih3 _ _ _ _ _ _ _
   | exact ih4 _ _ _ _ _ _ _ _
   | exact LeO.none _
   | refine LeO.ite ?_ ?_
   | refine LeO.bind ?_ (fun _ => ?_)
  ·
   intro y0 y1 y2 y3 y4 y5 y6 y7
   unfold fanlightlaw09_TreeEscapes.j4
   repeat' first
   | (with_reducible exact ih0 _ _ _)
   | (with_reducible exact ih1 _ _ _ _ _)
   | (with_reducible exact ih2 _ _ _ _ _ _)
   | (with_reducible exact ih3 _ _ _ _ _ _ _)
   | (with_reducible exact ih4 _ _ _ _ _ _ _ _)
   | (with_reducible exact LeO.refl _)
   | (with_reducible exact LeO.none _)
   | (with_reducible refine LeO.ite ?_ ?_)
   | (with_reducible refine LeO.bind ?_ (fun _ => ?_))
   | exact ih0 _ _ _
   | exact ih1 _ _ _ _ _
   | exact ih2 _ _ _ _ _ _
   | exact ih3 _ _ _ _ _ _ _
   | exact ih4 _ _ _ _ _ _ _ _
   | exact LeO.none _
   | refine LeO.ite ?_ ?_
   | refine LeO.bind ?_ (fun _ => ?_)
theorem fanlightlaw09_TreeEscapes.mono : ∀ a0 k, LeO (fanlightlaw09_TreeEscapes.f k a0) (fanlightlaw09_TreeEscapes.f (k + 1) a0) := by
 intro a0 k
 obtain ⟨ih0, ih1, ih2, ih3, ih4⟩ := fanlightlaw09_TreeEscapes.mono_l k
 unfold fanlightlaw09_TreeEscapes.f
 repeat' first
   | (with_reducible exact ih0 _ _ _)
   | (with_reducible exact ih1 _ _ _ _ _)
   | (with_reducible exact ih2 _ _ _ _ _ _)
   | (with_reducible exact ih3 _ _ _ _ _ _ _)
   | (with_reducible exact ih4 _ _ _ _ _ _ _ _)
   | (with_reducible exact LeO.refl _)
   | (with_reducible exact LeO.none _)
   | (with_reducible refine LeO.ite ?_ ?_)
   | (with_reducible refine LeO.bind ?_ (fun _ => ?_))
   | exact ih0 _ _ _
   | exact ih1 _ _ _ _ _
   | exact ih2 _ _ _ _ _ _
   | exact ih3 _ _ _ _ _ _ _
   | exact ih4 _ _ _ _ _ _ _ _
   | exact LeO.none _
   | refine LeO.ite ?_ ?_
   | refine LeO.bind ?_ (fun _ => ?_)
set_option maxHeartbeats 8000000 in
set_option maxRecDepth 100000 in
theorem fanlightlaw09_TreeEscapes.calls (k : Nat) (a0 : ByteArray) (r : Bool) (w : World) (h : fanlightlaw09_TreeEscapes.f k a0 = some r) (hT : r = true) (hA : ∀ (r : Bool), fanlightlaw09_alive.f = some r → r = true) :
  Calls Try.prog 5 #[.string a0] w fun e w' => e = .returned (.bool r) ∧ Below w.heap.size w w' := by
 have hu25 := Try.underlying25
 have HB := Aside0.mk (Below.refl w.heap.size w)
 have H : ((fanlightlaw09_alive.f).bind fun t114 => (if t114 = true then (if 0 ≤ (mn (a0.size : Int) 128) then (if (mn (a0.size : Int) 128) ≤ (a0.size : Int) then ((tree_Print.f (⟨#[112]⟩ : ByteArray) (⟨#[]⟩ : ByteArray) (⟨#[]⟩ : ByteArray) ([] : List (S53)) (([(⟨(⟨#[]⟩ : ByteArray), (⟨#[]⟩ : ByteArray), a0.extract 0 ((mn (a0.size : Int) 128) : Int).toNat, ([] : List (S53)), ([] : List (S25))⟩ : S25)] : List (S25)))).bind fun bt118 => ((fanlightlaw09_num.f bt118.2).bind fun t120 => (if t120 = 0 then (if (bt118.1.size : Int) < 7 then (fanlightlaw09_TreeEscapes.j0 k (a0.extract 0 ((mn (a0.size : Int) 128) : Int).toNat) bt118.1 true) else (if 0 ≤ 3 then (if 3 ≤ (bt118.1.size : Int) then (if (bt118.1.extract 0 3).toList = ([60, 112, 62] : List UInt8) then (if 0 ≤ (wrap64 ((bt118.1.size : Int) - 4)) then (if (wrap64 ((bt118.1.size : Int) - 4)) ≤ (bt118.1.size : Int) then (fanlightlaw09_TreeEscapes.j0 k (a0.extract 0 ((mn (a0.size : Int) 128) : Int).toNat) bt118.1 ((bt118.1.extract ((wrap64 ((bt118.1.size : Int) - 4)) : Int).toNat bt118.1.size).toList != ([60, 47, 112, 62] : List UInt8))) else (none)) else (none)) else (fanlightlaw09_TreeEscapes.j0 k (a0.extract 0 ((mn (a0.size : Int) 128) : Int).toNat) bt118.1 true)) else (none)) else (none))) else (fanlightlaw09_TreeEscapes.j0 k (a0.extract 0 ((mn (a0.size : Int) 128) : Int).toNat) bt118.1 true)))) else (none)) else (none)) else (some false))) = some r := h
 clear h
 replace H := Option.bind_eq_some_iff.mp H
 obtain ⟨t114, A20, H⟩ := H
 replace H : (if t114 = true then (if 0 ≤ (mn (a0.size : Int) 128) then (if (mn (a0.size : Int) 128) ≤ (a0.size : Int) then ((tree_Print.f (⟨#[112]⟩ : ByteArray) (⟨#[]⟩ : ByteArray) (⟨#[]⟩ : ByteArray) ([] : List (S53)) (([(⟨(⟨#[]⟩ : ByteArray), (⟨#[]⟩ : ByteArray), a0.extract 0 ((mn (a0.size : Int) 128) : Int).toNat, ([] : List (S53)), ([] : List (S25))⟩ : S25)] : List (S25)))).bind fun bt118 => ((fanlightlaw09_num.f bt118.2).bind fun t120 => (if t120 = 0 then (if (bt118.1.size : Int) < 7 then (fanlightlaw09_TreeEscapes.j0 k (a0.extract 0 ((mn (a0.size : Int) 128) : Int).toNat) bt118.1 true) else (if 0 ≤ 3 then (if 3 ≤ (bt118.1.size : Int) then (if (bt118.1.extract 0 3).toList = ([60, 112, 62] : List UInt8) then (if 0 ≤ (wrap64 ((bt118.1.size : Int) - 4)) then (if (wrap64 ((bt118.1.size : Int) - 4)) ≤ (bt118.1.size : Int) then (fanlightlaw09_TreeEscapes.j0 k (a0.extract 0 ((mn (a0.size : Int) 128) : Int).toNat) bt118.1 ((bt118.1.extract ((wrap64 ((bt118.1.size : Int) - 4)) : Int).toNat bt118.1.size).toList != ([60, 47, 112, 62] : List UInt8))) else (none)) else (none)) else (fanlightlaw09_TreeEscapes.j0 k (a0.extract 0 ((mn (a0.size : Int) 128) : Int).toNat) bt118.1 true)) else (none)) else (none))) else (fanlightlaw09_TreeEscapes.j0 k (a0.extract 0 ((mn (a0.size : Int) 128) : Int).toNat) bt118.1 true)))) else (none)) else (none)) else (some false)) = some r := H
 have A2 := Aside0.mk A20
 clear A20
 by_cases c3 : t114 = true
 ·
  subst c3
  have H1 : (if 0 ≤ (mn (a0.size : Int) 128) then (if (mn (a0.size : Int) 128) ≤ (a0.size : Int) then ((tree_Print.f (⟨#[112]⟩ : ByteArray) (⟨#[]⟩ : ByteArray) (⟨#[]⟩ : ByteArray) ([] : List (S53)) (([(⟨(⟨#[]⟩ : ByteArray), (⟨#[]⟩ : ByteArray), a0.extract 0 ((mn (a0.size : Int) 128) : Int).toNat, ([] : List (S53)), ([] : List (S25))⟩ : S25)] : List (S25)))).bind fun bt118 => ((fanlightlaw09_num.f bt118.2).bind fun t120 => (if t120 = 0 then (if (bt118.1.size : Int) < 7 then (fanlightlaw09_TreeEscapes.j0 k (a0.extract 0 ((mn (a0.size : Int) 128) : Int).toNat) bt118.1 true) else (if 0 ≤ 3 then (if 3 ≤ (bt118.1.size : Int) then (if (bt118.1.extract 0 3).toList = ([60, 112, 62] : List UInt8) then (if 0 ≤ (wrap64 ((bt118.1.size : Int) - 4)) then (if (wrap64 ((bt118.1.size : Int) - 4)) ≤ (bt118.1.size : Int) then (fanlightlaw09_TreeEscapes.j0 k (a0.extract 0 ((mn (a0.size : Int) 128) : Int).toNat) bt118.1 ((bt118.1.extract ((wrap64 ((bt118.1.size : Int) - 4)) : Int).toNat bt118.1.size).toList != ([60, 47, 112, 62] : List UInt8))) else (none)) else (none)) else (fanlightlaw09_TreeEscapes.j0 k (a0.extract 0 ((mn (a0.size : Int) 128) : Int).toNat) bt118.1 true)) else (none)) else (none))) else (fanlightlaw09_TreeEscapes.j0 k (a0.extract 0 ((mn (a0.size : Int) 128) : Int).toNat) bt118.1 true)))) else (none)) else (none)) = some r := by rw [if_pos rfl] at H; exact H
  clear H
  have H := H1
  clear H1
  obtain ⟨ji4, hji4⟩ : ∃ j_ : Int, (mn (a0.size : Int) 128) = j_ := ⟨_, rfl⟩
  replace H : (if 0 ≤ (ji4) then (if (ji4) ≤ (a0.size : Int) then ((tree_Print.f (⟨#[112]⟩ : ByteArray) (⟨#[]⟩ : ByteArray) (⟨#[]⟩ : ByteArray) ([] : List (S53)) (([(⟨(⟨#[]⟩ : ByteArray), (⟨#[]⟩ : ByteArray), a0.extract 0 ((ji4) : Int).toNat, ([] : List (S53)), ([] : List (S25))⟩ : S25)] : List (S25)))).bind fun bt118 => ((fanlightlaw09_num.f bt118.2).bind fun t120 => (if t120 = 0 then (if (bt118.1.size : Int) < 7 then (fanlightlaw09_TreeEscapes.j0 k (a0.extract 0 ((ji4) : Int).toNat) bt118.1 true) else (if 0 ≤ 3 then (if 3 ≤ (bt118.1.size : Int) then (if (bt118.1.extract 0 3).toList = ([60, 112, 62] : List UInt8) then (if 0 ≤ (wrap64 ((bt118.1.size : Int) - 4)) then (if (wrap64 ((bt118.1.size : Int) - 4)) ≤ (bt118.1.size : Int) then (fanlightlaw09_TreeEscapes.j0 k (a0.extract 0 ((ji4) : Int).toNat) bt118.1 ((bt118.1.extract ((wrap64 ((bt118.1.size : Int) - 4)) : Int).toNat bt118.1.size).toList != ([60, 47, 112, 62] : List UInt8))) else (none)) else (none)) else (fanlightlaw09_TreeEscapes.j0 k (a0.extract 0 ((ji4) : Int).toNat) bt118.1 true)) else (none)) else (none))) else (fanlightlaw09_TreeEscapes.j0 k (a0.extract 0 ((ji4) : Int).toNat) bt118.1 true)))) else (none)) else (none)) = some r := by first | (rw [hji4] at H; exact H) | (simp only [hji4] at H ⊢; exact H)
  (try rw [hji4] at A2)
  (try (have hji4h : ji4 ≤ 128 := by (rw [← hji4]; unfold mn; (repeat' split) <;> omega)))
  (try (have hji4g : ji4 ≤ 64 := by omega))
  (try (have hji4l : 0 ≤ ji4 := by (rw [← hji4]; unfold mn; (repeat' split) <;> omega)))
  (try (have hji4m : 0 ≤ ji4 := by omega))
  have hji4_ : (if 128 < (a0.size : Int) then 128 else (a0.size : Int)) = ji4 := hji4
  by_cases c5 : 0 ≤ (ji4)
  ·
   rw [if_pos c5] at H
   have c5b0 := eq_true c5
   have c5b1 : decide (0 ≤ (ji4)) = true := decide_eq_true c5
   clear c5
   by_cases c6 : (ji4) ≤ (a0.size : Int)
   ·
    rw [if_pos c6] at H
    have c6b0 := eq_true c6
    have c6b1 : decide ((ji4) ≤ (a0.size : Int)) = true := decide_eq_true c6
    clear c6
    obtain ⟨y115, hy115⟩ : ∃ y_ : List (S25), y_ = (([(⟨(⟨#[]⟩ : ByteArray), (⟨#[]⟩ : ByteArray), a0.extract 0 ((ji4) : Int).toNat, ([] : List (S53)), ([] : List (S25))⟩ : S25)] : List (S25))) := ⟨_, rfl⟩
    replace H : ((tree_Print.f (⟨#[112]⟩ : ByteArray) (⟨#[]⟩ : ByteArray) (⟨#[]⟩ : ByteArray) ([] : List (S53)) y115).bind fun bt118 => ((fanlightlaw09_num.f bt118.2).bind fun t120 => (if t120 = 0 then (if (bt118.1.size : Int) < 7 then (fanlightlaw09_TreeEscapes.j0 k (a0.extract 0 ((ji4) : Int).toNat) bt118.1 true) else (if 0 ≤ 3 then (if 3 ≤ (bt118.1.size : Int) then (if (bt118.1.extract 0 3).toList = ([60, 112, 62] : List UInt8) then (if 0 ≤ (wrap64 ((bt118.1.size : Int) - 4)) then (if (wrap64 ((bt118.1.size : Int) - 4)) ≤ (bt118.1.size : Int) then (fanlightlaw09_TreeEscapes.j0 k (a0.extract 0 ((ji4) : Int).toNat) bt118.1 ((bt118.1.extract ((wrap64 ((bt118.1.size : Int) - 4)) : Int).toNat bt118.1.size).toList != ([60, 47, 112, 62] : List UInt8))) else (none)) else (none)) else (fanlightlaw09_TreeEscapes.j0 k (a0.extract 0 ((ji4) : Int).toNat) bt118.1 true)) else (none)) else (none))) else (fanlightlaw09_TreeEscapes.j0 k (a0.extract 0 ((ji4) : Int).toNat) bt118.1 true)))) = some r := by first | (rw [hy115]; with_reducible exact H) | (have H2_ := (Option.bind_some _ _).symm.trans H; rw [hy115]; with_reducible exact H2_) | (have H2_ := (Option.bind_some _ _).symm.trans H; with_reducible exact H2_) | with_reducible exact H | (rw [hy115]; exact H) | exact H
    have Ny115 := Aside0.mk hy115
    clear hy115
    replace H := Option.bind_eq_some_iff.mp H
    obtain ⟨⟨t118, t119⟩, A70, H⟩ := H
    replace H : ((fanlightlaw09_num.f t119).bind fun t120 => (if t120 = 0 then (if (t118.size : Int) < 7 then (fanlightlaw09_TreeEscapes.j0 k (a0.extract 0 ((ji4) : Int).toNat) t118 true) else (if 0 ≤ 3 then (if 3 ≤ (t118.size : Int) then (if (t118.extract 0 3).toList = ([60, 112, 62] : List UInt8) then (if 0 ≤ (wrap64 ((t118.size : Int) - 4)) then (if (wrap64 ((t118.size : Int) - 4)) ≤ (t118.size : Int) then (fanlightlaw09_TreeEscapes.j0 k (a0.extract 0 ((ji4) : Int).toNat) t118 ((t118.extract ((wrap64 ((t118.size : Int) - 4)) : Int).toNat t118.size).toList != ([60, 47, 112, 62] : List UInt8))) else (none)) else (none)) else (fanlightlaw09_TreeEscapes.j0 k (a0.extract 0 ((ji4) : Int).toNat) t118 true)) else (none)) else (none))) else (fanlightlaw09_TreeEscapes.j0 k (a0.extract 0 ((ji4) : Int).toNat) t118 true))) = some r := H
    have A7 := Aside0.mk A70
    clear A70
    have HC8 := Aside0.mk H
    clear H
    go_enter Try.func5, Try.ntmps5
    go_upto_region 5 with (first | ((with_reducible refine gate_callee (f := 7) rfl ?_); refine goesL_ (some 11) rfl rfl Try.func7 (by kernel_rfl) rfl #[] rfl (by (try simp only [List.map_toArray, List.map_cons, List.map_nil]); first | done | rfl | (simp only [List.length_drop, List.length_take]; rfl)) ?_; (with_reducible refine (fanlightlaw09_alive.calls  true _ A2.out (hA _ A2.out)).mono ?_); rintro e w9 ⟨rfl, hb⟩; refine ⟨_, rfl, ?_⟩; have n0_ := Aside0.mk (below_step (by repeat (first | (with_reducible first | exact HB.out | apply below_alloc | apply pw_below_drewN | apply below_drew1) | exact HB.out)) hb); clear HB; have HB := n0_; clear n0_; (try clear hb); (try clear hb2); (try clear hk); (try clear hi)) | ((with_reducible refine gate_dst (N := 21) rfl ?_); (try (refine gate_guard (by rfl) ?_; dsimp only)); refine Kd.R_lit k25 _ 25 ?hg (N := 21) ?hd (xs := ([(⟨(⟨#[]⟩ : ByteArray), (⟨#[]⟩ : ByteArray), a0.extract 0 ((ji4) : Int).toNat, ([] : List (S53)), ([] : List (S25))⟩ : S25)] : List (S25))) (inner := [.string (⟨#[]⟩ : ByteArray), .string (⟨#[]⟩ : ByteArray), .string (a0.extract 0 ((ji4) : Int).toNat), .slice none 0 0, .slice none 0 0]) (ok := fun _ => True) (okp := fun _ => True) ?hr ?hp (fun _ hk => hk) trivial (Below.refl _ _) (Nat.le_refl _) (by simp) ?_; (case hd => rfl); (case hg => rfl); (case hr => first | (go_simp; done) | (go_simp; rfl)); (case hp => exact (Reps.c5 (show Kd.M k25 _ _ _ (⟨(⟨#[]⟩ : ByteArray), (⟨#[]⟩ : ByteArray), a0.extract 0 ((ji4) : Int).toNat, ([] : List (S53)), ([] : List (S25))⟩ : S25) [.string (⟨#[]⟩ : ByteArray), .string (⟨#[]⟩ : ByteArray), .string (a0.extract 0 ((ji4) : Int).toNat), .slice none 0 0, .slice none 0 0] from (k25_mkM _ _ _ (⟨(⟨#[]⟩ : ByteArray), (⟨#[]⟩ : ByteArray), a0.extract 0 ((ji4) : Int).toNat, ([] : List (S53)), ([] : List (S25))⟩ : S25) (Kd.R_nil _ _ _ _ _) (Kd.R_nil _ _ _ _ _))) (Reps.none _ _))); intro v116 w10 ho11 hb hg_ hnew_; clear hg_ hnew_; (first | rw [← Ny115.out] at ho11 | (simp only [Int.reduceToNat] at ho11; rw [← Ny115.out] at ho11)); have n0_ := Aside0.mk (Kd.R_lower ho11 (below_size (by repeat (first | (with_reducible first | exact HB.out | apply below_alloc | apply pw_below_drewN | apply below_drew1) | exact HB.out)))); have n1_ := Aside0.mk (below_step (by repeat (first | (with_reducible first | exact HB.out | apply below_alloc | apply pw_below_drewN | apply below_drew1) | exact HB.out)) hb); clear HB; have HO117 := n0_; have HB := n1_; clear n0_ n1_; clear hb ho11; obtain ⟨Ao12, co12, eo12⟩ := Kd.R_slice HO117.out; subst eo12) | ((with_reducible refine gate_callee (f := 8) rfl ?_); refine goesL_ (some 23) rfl rfl Try.func8 (by kernel_rfl) rfl #[.agg #[.string (⟨#[112]⟩ : ByteArray), .string (⟨#[]⟩ : ByteArray), .string (⟨#[]⟩ : ByteArray), .slice none 0 0, .slice Ao12 y115.length co12]] rfl (by (try simp only [List.map_toArray, List.map_cons, List.map_nil]); first | done | rfl | (simp only [List.length_drop, List.length_take]; rfl)) ?_; (refine (tree_Print.calls (⟨#[112]⟩ : ByteArray) (⟨#[]⟩ : ByteArray) (⟨#[]⟩ : ByteArray) _ _ ([] : List (S53)) _ _ y115 t118 t119 _ ?side1 ?side2 ?side3 ?side4 A7.out).mono ?_); (case side1 => exact Kd.C_nil _ _); (case side2 => exact Nat.le_refl _); (case side3 => repeat (first | exact (Kd.R_reads' HO117.out).2.2 | (with_reducible refine Kd.C_alloc ?_ _) | (with_reducible refine Kd.C_drewN ?_ _) | (with_reducible refine Kd.C_drew ?_))); (case side4 => exact (Kd.R_reads' HO117.out).2.1); rintro e w13 ⟨rfl, hb⟩; refine ⟨_, rfl, ?_⟩; have n0_ := Aside0.mk (Kd.R_below (by (with_reducible repeat (first | apply Kd.R_alloc | apply Kd.R_drewN | apply Kd.R_drew)); exact HO117.out) hb); have n1_ := Aside0.mk (below_step (by repeat (first | (with_reducible first | exact HB.out | apply below_alloc | apply pw_below_drewN | apply below_drew1) | exact HB.out)) hb); clear HO117; clear HB; have HO117 := n0_; have HB := n1_; clear n0_ n1_; (try clear hb); (try clear hb2); (try clear hk); (try clear hi)))
    (try simp only [Act.put, List.setIfInBounds_toArray, List.set_cons_zero, List.set_cons_succ])
    go_cut [46] (fun v46 wc => ∃ (kq : Nat) (x46_7 : Bool), v46 = .bool x46_7 ∧ Aside0 (fanlightlaw09_TreeEscapes.j0 kq (a0.extract 0 ((ji4) : Int).toNat) t118 x46_7 = some r) ∧ Aside0 (kq ≤ k) ∧ Aside0 (Below w.heap.size w wc))
    case first =>
     have H := HC8.out
     clear HC8
     replace H := Option.bind_eq_some_iff.mp H
     obtain ⟨t120, A140, H⟩ := H
     replace H : (if t120 = 0 then (if (t118.size : Int) < 7 then (fanlightlaw09_TreeEscapes.j0 k (a0.extract 0 ((ji4) : Int).toNat) t118 true) else (if 0 ≤ 3 then (if 3 ≤ (t118.size : Int) then (if (t118.extract 0 3).toList = ([60, 112, 62] : List UInt8) then (if 0 ≤ (wrap64 ((t118.size : Int) - 4)) then (if (wrap64 ((t118.size : Int) - 4)) ≤ (t118.size : Int) then (fanlightlaw09_TreeEscapes.j0 k (a0.extract 0 ((ji4) : Int).toNat) t118 ((t118.extract ((wrap64 ((t118.size : Int) - 4)) : Int).toNat t118.size).toList != ([60, 47, 112, 62] : List UInt8))) else (none)) else (none)) else (fanlightlaw09_TreeEscapes.j0 k (a0.extract 0 ((ji4) : Int).toNat) t118 true)) else (none)) else (none))) else (fanlightlaw09_TreeEscapes.j0 k (a0.extract 0 ((ji4) : Int).toNat) t118 true)) = some r := H
     have A14 := Aside0.mk A140
     clear A140
     by_cases c15 : t120 = 0
     ·
      rw [if_pos c15] at H
      have c15b0 : (t120 == 0) = true := beq_iff_eq.mpr c15
      have c15b1 : (t120 != 0) = false := bne_eq_false_iff_eq.mpr c15
      clear c15
      (first | rw [c15b0] | (simp only [i64_w, i32_w]; rw [c15b0]) | rw [c15b1] | skip)
      by_cases c16 : (t118.size : Int) < 7
      ·
       rw [if_pos c16] at H
       have c16b0 : decide ((t118.size : Int) < 7) = true := decide_eq_true c16
       have c16b1 : decide (t118.size < 7) = true := decide_eq_true (by omega)
       clear c16
       have H' := Aside0.mk H
       clear H
       go_wp2_with (first | ((with_reducible refine gate_callee (f := 9) rfl ?_); refine goesL_ (some 27) rfl rfl Try.func9 (by kernel_rfl) rfl #[.int .i64 t119] rfl (by (try simp only [List.map_toArray, List.map_cons, List.map_nil]); first | done | rfl | (simp only [List.length_drop, List.length_take]; rfl)) ?_; (with_reducible refine (fanlightlaw09_num.calls t119 t120 _ A14.out).mono ?_); rintro e w' ⟨rfl, ⟨nd, rfl⟩⟩; refine ⟨_, rfl, ?_⟩))
       go_meet
       case rel => exact ⟨_, (true), (by first | rfl | (simp; done) | (simp [*]; done)), H', ⟨by first | omega | exact Nat.le_refl _⟩, ⟨by repeat (first | (with_reducible first | exact HB.out | apply below_alloc | apply pw_below_drewN | apply below_drew1) | exact HB.out)⟩⟩
      ·
       rw [if_neg c16] at H
       have c16b0 : decide ((t118.size : Int) < 7) = false := decide_eq_false c16
       have c16b1 : decide (t118.size < 7) = false := decide_eq_false (by omega)
       clear c16
       by_cases c17 : 0 ≤ 3
       ·
        rw [if_pos c17] at H
        have c17b0 := eq_true c17
        have c17b1 : decide (0 ≤ 3) = true := decide_eq_true c17
        clear c17
        by_cases c18 : 3 ≤ (t118.size : Int)
        ·
         rw [if_pos c18] at H
         have c18b0 := eq_true c18
         have c18b1 : decide (3 ≤ (t118.size : Int)) = true := decide_eq_true c18
         clear c18
         by_cases c19 : (t118.extract 0 3).toList = ([60, 112, 62] : List UInt8)
         ·
          rw [if_pos c19] at H
          have c19b0 : ((t118.extract 0 3).toList == ([60, 112, 62] : List UInt8)) = true := beq_iff_eq.mpr c19
          have c19b1 : ((t118.extract 0 3).toList != ([60, 112, 62] : List UInt8)) = false := bne_eq_false_iff_eq.mpr c19
          clear c19
          obtain ⟨ji20, hji20⟩ : ∃ j_ : Int, (wrap64 ((t118.size : Int) - 4)) = j_ := ⟨_, rfl⟩
          replace H : (if 0 ≤ (ji20) then (if (ji20) ≤ (t118.size : Int) then (fanlightlaw09_TreeEscapes.j0 k (a0.extract 0 ((ji4) : Int).toNat) t118 ((t118.extract ((ji20) : Int).toNat t118.size).toList != ([60, 47, 112, 62] : List UInt8))) else (none)) else (none)) = some r := by first | (rw [hji20] at H; exact H) | (simp only [hji20] at H ⊢; exact H)
          (try rw [hji20] at A14)
          have hji20w : (IntKind.i64.wrap ((t118.size : Int) - 4)) = ji20 := (i64_w _).trans hji20
          by_cases c21 : 0 ≤ (ji20)
          ·
           rw [if_pos c21] at H
           have c21b0 := eq_true c21
           have c21b1 : decide (0 ≤ (ji20)) = true := decide_eq_true c21
           clear c21
           by_cases c22 : (ji20) ≤ (t118.size : Int)
           ·
            rw [if_pos c22] at H
            have c22b0 := eq_true c22
            have c22b1 : decide ((ji20) ≤ (t118.size : Int)) = true := decide_eq_true c22
            clear c22
            have H' := Aside0.mk H
            clear H
            go_wp2_with (first | ((with_reducible refine gate_callee (f := 9) rfl ?_); refine goesL_ (some 27) rfl rfl Try.func9 (by kernel_rfl) rfl #[.int .i64 t119] rfl (by (try simp only [List.map_toArray, List.map_cons, List.map_nil]); first | done | rfl | (simp only [List.length_drop, List.length_take]; rfl)) ?_; (with_reducible refine (fanlightlaw09_num.calls t119 t120 _ A14.out).mono ?_); rintro e w' ⟨rfl, ⟨nd, rfl⟩⟩; refine ⟨_, rfl, ?_⟩))
            go_meet
            case rel => exact ⟨_, (((t118.extract ((ji20) : Int).toNat t118.size).toList != ([60, 47, 112, 62] : List UInt8))), (by first | rfl | (simp; done) | (simp only [← hji20] <;> (first | rfl | simp)) | (simp [*]; done)), (by first | exact H' | (rw [hji20]; exact H')), ⟨by first | omega | exact Nat.le_refl _⟩, ⟨by repeat (first | (with_reducible first | exact HB.out | apply below_alloc | apply pw_below_drewN | apply below_drew1) | exact HB.out)⟩⟩
           ·
            rw [if_neg c22] at H
            exact absurd H (by simp)
          ·
           rw [if_neg c21] at H
           exact absurd H (by simp)
         ·
          rw [if_neg c19] at H
          have c19b0 : ((t118.extract 0 3).toList == ([60, 112, 62] : List UInt8)) = false := beq_eq_false_iff_ne.mpr c19
          have c19b1 : ((t118.extract 0 3).toList != ([60, 112, 62] : List UInt8)) = true := bne_iff_ne.mpr c19
          have H' := Aside0.mk H
          clear H
          go_wp2_with (first | ((with_reducible refine gate_callee (f := 9) rfl ?_); refine goesL_ (some 27) rfl rfl Try.func9 (by kernel_rfl) rfl #[.int .i64 t119] rfl (by (try simp only [List.map_toArray, List.map_cons, List.map_nil]); first | done | rfl | (simp only [List.length_drop, List.length_take]; rfl)) ?_; (with_reducible refine (fanlightlaw09_num.calls t119 t120 _ A14.out).mono ?_); rintro e w' ⟨rfl, ⟨nd, rfl⟩⟩; refine ⟨_, rfl, ?_⟩))
          go_meet
          case rel => exact ⟨_, (true), (by first | rfl | (simp; done) | (simp [*]; done)), H', ⟨by first | omega | exact Nat.le_refl _⟩, ⟨by repeat (first | (with_reducible first | exact HB.out | apply below_alloc | apply pw_below_drewN | apply below_drew1) | exact HB.out)⟩⟩
        ·
         rw [if_neg c18] at H
         exact absurd H (by simp)
       ·
        rw [if_neg c17] at H
        exact absurd H (by simp)
     ·
      rw [if_neg c15] at H
      have c15b0 : (t120 == 0) = false := beq_eq_false_iff_ne.mpr c15
      have c15b1 : (t120 != 0) = true := bne_iff_ne.mpr c15
      (first | rw [c15b0] | (simp only [i64_w, i32_w]; rw [c15b0]) | rw [c15b1] | skip)
      have H' := Aside0.mk H
      clear H
      go_wp2_with (first | ((with_reducible refine gate_callee (f := 9) rfl ?_); refine goesL_ (some 27) rfl rfl Try.func9 (by kernel_rfl) rfl #[.int .i64 t119] rfl (by (try simp only [List.map_toArray, List.map_cons, List.map_nil]); first | done | rfl | (simp only [List.length_drop, List.length_take]; rfl)) ?_; (with_reducible refine (fanlightlaw09_num.calls t119 t120 _ A14.out).mono ?_); rintro e w' ⟨rfl, ⟨nd, rfl⟩⟩; refine ⟨_, rfl, ?_⟩))
      go_meet
      case rel => exact ⟨_, (true), (by first | rfl | (simp; done) | (simp [*]; done)), H', ⟨by first | omega | exact Nat.le_refl _⟩, ⟨by repeat (first | (with_reducible first | exact HB.out | apply below_alloc | apply pw_below_drewN | apply below_drew1) | exact HB.out)⟩⟩
    case rest =>
     clear HC8
     try clear c1
     try clear c2
     try clear p2
     try clear c3
     try clear c5
     try clear c5b0
     try clear c5b1
     try clear c6
     try clear c6b0
     try clear c6b1
     try clear p6
     try clear c7
     try clear c8
     try clear c9
     try clear c15
     try clear c15b0
     try clear c15b1
     try clear c16
     try clear c16b0
     try clear c16b1
     try clear c17
     try clear c17b0
     try clear c17b1
     try clear c18
     try clear c18b0
     try clear c18b1
     try clear c19
     try clear c19b0
     try clear c19b1
     try clear c21
     try clear c21b0
     try clear c21b1
     try clear c22
     try clear c22b0
     try clear c22b1
     obtain ⟨kq, x46_7, rfl, HA, HJ7, HB⟩ := hcut
     cases kq with
     | zero => exact absurd HA.out (by simp [fanlightlaw09_TreeEscapes.j0])
     | succ kj7 =>
      have H := HA.out
      clear HA
      simp only [fanlightlaw09_TreeEscapes.j0] at H
      by_cases c23 : x46_7 = true
      ·
       subst c23
       have H1 : (some false) = some r := by rw [if_pos rfl] at H; exact H
       clear H
       have H := H1
       clear H1
       obtain rfl := Option.some.inj H
       cases hT
      ·
       replace c23 := Bool.eq_false_iff.mpr c23
       subst c23
       have H1 : (if 3 ≤ (wrap64 ((t118.size : Int) - 4)) then (if (wrap64 ((t118.size : Int) - 4)) ≤ (t118.size : Int) then (fanlightlaw09_TreeEscapes.l0 kj7 (a0.extract 0 ((ji4) : Int).toNat) (t118.extract 3 ((wrap64 ((t118.size : Int) - 4)) : Int).toNat) (([(⟨#[38, 97, 109, 112, 59]⟩ : ByteArray), (⟨#[38, 108, 116, 59]⟩ : ByteArray), (⟨#[38, 103, 116, 59]⟩ : ByteArray), (⟨#[38, 113, 117, 111, 116, 59]⟩ : ByteArray)] : List ByteArray)) (⟨#[]⟩ : ByteArray) 0) else (none)) else (none)) = some r := by rw [if_neg (show ¬ (false = true) by decide)] at H; exact H
       clear H
       have H := H1
       clear H1
       by_cases c24 : 3 ≤ (wrap64 ((t118.size : Int) - 4))
       ·
        rw [if_pos c24] at H
        have c24b0 := eq_true c24
        have c24b1 : decide (3 ≤ (wrap64 ((t118.size : Int) - 4))) = true := decide_eq_true c24
        clear c24
        by_cases c25 : (wrap64 ((t118.size : Int) - 4)) ≤ (t118.size : Int)
        ·
         rw [if_pos c25] at H
         have c25b0 := eq_true c25
         have c25b1 : decide ((wrap64 ((t118.size : Int) - 4)) ≤ (t118.size : Int)) = true := decide_eq_true c25
         clear c25
         obtain ⟨y121, hy121⟩ : ∃ y_ : List ByteArray, y_ = (([(⟨#[38, 97, 109, 112, 59]⟩ : ByteArray), (⟨#[38, 108, 116, 59]⟩ : ByteArray), (⟨#[38, 103, 116, 59]⟩ : ByteArray), (⟨#[38, 113, 117, 111, 116, 59]⟩ : ByteArray)] : List ByteArray)) := ⟨_, rfl⟩
         replace H : (fanlightlaw09_TreeEscapes.l0 kj7 (a0.extract 0 ((ji4) : Int).toNat) (t118.extract 3 ((wrap64 ((t118.size : Int) - 4)) : Int).toNat) y121 (⟨#[]⟩ : ByteArray) 0) = some r := by first | (rw [hy121]; with_reducible exact H) | (have H2_ := (Option.bind_some _ _).symm.trans H; rw [hy121]; with_reducible exact H2_) | (have H2_ := (Option.bind_some _ _).symm.trans H; with_reducible exact H2_) | with_reducible exact H | (rw [hy121]; exact H) | exact H
         have Ny121 := Aside0.mk hy121
         clear hy121
         have H' := Aside0.mk H
         clear H
         go_wp2_with (first | ((with_reducible refine gate_dst (N := 52) rfl ?_); (try (refine gate_guard (by rfl) ?_; dsimp only)); refine Kd.R_lit Kd.string _ 9 ?hg (N := 52) ?hd (xs := ([(⟨#[38, 97, 109, 112, 59]⟩ : ByteArray), (⟨#[38, 108, 116, 59]⟩ : ByteArray), (⟨#[38, 103, 116, 59]⟩ : ByteArray), (⟨#[38, 113, 117, 111, 116, 59]⟩ : ByteArray)] : List ByteArray)) (inner := [.string (⟨#[38, 97, 109, 112, 59]⟩ : ByteArray), .string (⟨#[38, 108, 116, 59]⟩ : ByteArray), .string (⟨#[38, 103, 116, 59]⟩ : ByteArray), .string (⟨#[38, 113, 117, 111, 116, 59]⟩ : ByteArray)]) (ok := fun _ => True) (okp := fun _ => True) ?hr ?hp (fun _ hk => hk) trivial (Below.refl _ _) (Nat.le_refl _) (by simp) ?_; (case hd => rfl); (case hg => rfl); (case hr => first | (go_simp; done) | (go_simp; rfl)); (case hp => exact (Reps.one (show Kd.M Kd.string _ _ _ (⟨#[38, 97, 109, 112, 59]⟩ : ByteArray) [.string (⟨#[38, 97, 109, 112, 59]⟩ : ByteArray)] from rfl) (Reps.one (show Kd.M Kd.string _ _ _ (⟨#[38, 108, 116, 59]⟩ : ByteArray) [.string (⟨#[38, 108, 116, 59]⟩ : ByteArray)] from rfl) (Reps.one (show Kd.M Kd.string _ _ _ (⟨#[38, 103, 116, 59]⟩ : ByteArray) [.string (⟨#[38, 103, 116, 59]⟩ : ByteArray)] from rfl) (Reps.one (show Kd.M Kd.string _ _ _ (⟨#[38, 113, 117, 111, 116, 59]⟩ : ByteArray) [.string (⟨#[38, 113, 117, 111, 116, 59]⟩ : ByteArray)] from rfl) (Reps.none _ _)))))); intro v122 w26 ho27 hb hg_ hnew_; clear hg_ hnew_; (first | rw [← Ny121.out] at ho27 | (simp only [Int.reduceToNat] at ho27; rw [← Ny121.out] at ho27)); have n0_ := Aside0.mk (Kd.R_lower ho27 (below_size (by repeat (first | (with_reducible first | exact HB.out | apply below_alloc | apply pw_below_drewN | apply below_drew1) | exact HB.out)))); have n1_ := Aside0.mk (below_step (by repeat (first | (with_reducible first | exact HB.out | apply below_alloc | apply pw_below_drewN | apply below_drew1) | exact HB.out)) hb); clear HB; have HO123 := n0_; have HB := n1_; clear n0_ n1_; clear hb ho27))
         generalize hGEN : t118.extract 3 ((wrap64 ((t118.size : Int) - 4)) : Int).toNat = PP at H' ⊢
         clear hGEN
         go_loopg [6, 7] kj7 (fun kq v6 v7 w' => ∃ (x6_2 : ByteArray) (x7_2 : Int), v6 = .string x6_2 ∧ v7 = .int .i64 x7_2 ∧ Aside0 (fanlightlaw09_TreeEscapes.l0 kq (a0.extract 0 ((ji4) : Int).toNat) PP y121 x6_2 x7_2 = some r) ∧ Aside0 (kq ≤ kj7) ∧ Aside0 (Kd.R Kd.string 9 w' w.heap.size (fun _ => True) v122 y121) ∧ Aside0 (Below w.heap.size w w'))
         case atStart => exact ⟨((⟨#[]⟩ : ByteArray)), (0), (by first | rfl | (simp; done) | (simp [*]; done)), (by first | rfl | (simp; done) | (simp [*]; done)), H', ⟨Nat.le_refl _⟩, ⟨by (with_reducible repeat (first | apply Kd.R_alloc | apply Kd.R_drewN | apply Kd.R_drew)); exact HO123.out⟩, ⟨by repeat (first | (with_reducible first | exact HB.out | apply below_alloc | apply pw_below_drewN | apply below_drew1) | exact HB.out)⟩⟩
         case round =>
          clear H'
          try clear c1
          try clear c2
          try clear p2
          try clear c3
          try clear c5
          try clear c5b0
          try clear c5b1
          try clear c6
          try clear c6b0
          try clear c6b1
          try clear p6
          try clear c7
          try clear c8
          try clear c9
          try clear c15
          try clear c15b0
          try clear c15b1
          try clear c16
          try clear c16b0
          try clear c16b1
          try clear c17
          try clear c17b0
          try clear c17b1
          try clear c18
          try clear c18b0
          try clear c18b1
          try clear c19
          try clear c19b0
          try clear c19b1
          try clear c21
          try clear c21b0
          try clear c21b1
          try clear c22
          try clear c22b0
          try clear c22b1
          try clear c23
          try clear c24
          try clear c24b0
          try clear c24b1
          try clear c25
          try clear c25b0
          try clear c25b1
          try clear p2
          try clear p6
          obtain ⟨x6_2, x7_2, rfl, rfl, HA, HK2, HO_5, HB⟩ := hrel
          cases gk with
          | zero => exact absurd HA.out (by simp [fanlightlaw09_TreeEscapes.l0])
          | succ k2 =>
           have H := HA.out
           clear HA
           simp only [fanlightlaw09_TreeEscapes.l0] at H
           by_cases c28 : x7_2 < (PP.size : Int)
           ·
            rw [if_pos c28] at H
            have c28b0 : decide (x7_2 < (PP.size : Int)) = true := decide_eq_true c28
            clear c28
            have HC29 := Aside0.mk H
            clear H
            go_upto_region 12 with (fail)
            go_cut [72] (fun v72 wc => ∃ (kq : Nat) (x72_28 : Bool), v72 = .bool x72_28 ∧ Aside0 (fanlightlaw09_TreeEscapes.j2 kq (a0.extract 0 ((ji4) : Int).toNat) PP y121 x6_2 x7_2 x72_28 = some r) ∧ Aside0 (kq ≤ k2) ∧ Aside0 (Kd.R Kd.string 9 wc w.heap.size (fun _ => True) v122 y121) ∧ Aside0 (Below w.heap.size w wc))
            case first =>
             have H := HC29.out
             clear HC29
             by_cases c30 : 0 ≤ x7_2
             ·
              rw [if_pos c30] at H
              have c30b0 : decide (0 ≤ x7_2) = true := decide_eq_true c30
              clear c30
              (first | rw [c30b0] | (simp only [i64_w, i32_w]; rw [c30b0]) | rw [c30b1] | skip)
              by_cases c32 : (bt PP x7_2) = 60
              ·
               rw [if_pos c32] at H
               have c32b0 : ((bt PP x7_2) == 60) = true := beq_iff_eq.mpr c32
               have c32b1 : ((bt PP x7_2) != 60) = false := bne_eq_false_iff_eq.mpr c32
               clear c32
               have H' := Aside0.mk H
               clear H
               have p31 : 0 ≤ (x7_2 : Int) := of_decide_eq_true (by first | (with_reducible assumption) | assumption)
               have q31 : x7_2 < (PP.size : Int) := of_decide_eq_true (by first | (with_reducible assumption) | assumption)
               have hx31 := bt_at PP x7_2
               replace p31 := eq_true p31
               replace q31 := eq_true q31
               go_wp2
               go_meet
               case rel => exact ⟨_, (true), (by first | rfl | (simp; done) | (simp [*]; done)), H', ⟨by have := HJ7.out; have := HK2.out; first | omega | exact Nat.le_refl _⟩, ⟨by (with_reducible repeat (first | apply Kd.R_alloc | apply Kd.R_drewN | apply Kd.R_drew)); exact HO_5.out⟩, ⟨by repeat (first | (with_reducible first | exact HB.out | apply below_alloc | apply pw_below_drewN | apply below_drew1) | exact HB.out)⟩⟩
              ·
               rw [if_neg c32] at H
               have c32b0 : ((bt PP x7_2) == 60) = false := beq_eq_false_iff_ne.mpr c32
               have c32b1 : ((bt PP x7_2) != 60) = true := bne_iff_ne.mpr c32
               by_cases c34 : (bt PP x7_2) = 62
               ·
                rw [if_pos c34] at H
                have c34b0 : ((bt PP x7_2) == 62) = true := beq_iff_eq.mpr c34
                have c34b1 : ((bt PP x7_2) != 62) = false := bne_eq_false_iff_eq.mpr c34
                clear c34
                have H' := Aside0.mk H
                clear H
                have p31 : 0 ≤ (x7_2 : Int) := of_decide_eq_true (by first | (with_reducible assumption) | assumption)
                have q31 : x7_2 < (PP.size : Int) := of_decide_eq_true (by first | (with_reducible assumption) | assumption)
                have hx31 := bt_at PP x7_2
                replace p31 := eq_true p31
                replace q31 := eq_true q31
                have p33 : 0 ≤ (x7_2 : Int) := of_decide_eq_true (by first | (with_reducible assumption) | assumption)
                have q33 : x7_2 < (PP.size : Int) := of_decide_eq_true (by first | (with_reducible assumption) | assumption)
                have hx33 := bt_at PP x7_2
                replace p33 := eq_true p33
                replace q33 := eq_true q33
                go_wp2
                go_meet
                case rel => exact ⟨_, (true), (by first | rfl | (simp; done) | (simp [*]; done)), H', ⟨by have := HJ7.out; have := HK2.out; first | omega | exact Nat.le_refl _⟩, ⟨by (with_reducible repeat (first | apply Kd.R_alloc | apply Kd.R_drewN | apply Kd.R_drew)); exact HO_5.out⟩, ⟨by repeat (first | (with_reducible first | exact HB.out | apply below_alloc | apply pw_below_drewN | apply below_drew1) | exact HB.out)⟩⟩
               ·
                rw [if_neg c34] at H
                have c34b0 : ((bt PP x7_2) == 62) = false := beq_eq_false_iff_ne.mpr c34
                have c34b1 : ((bt PP x7_2) != 62) = true := bne_iff_ne.mpr c34
                have H' := Aside0.mk H
                clear H
                have p31 : 0 ≤ (x7_2 : Int) := of_decide_eq_true (by first | (with_reducible assumption) | assumption)
                have q31 : x7_2 < (PP.size : Int) := of_decide_eq_true (by first | (with_reducible assumption) | assumption)
                have hx31 := bt_at PP x7_2
                replace p31 := eq_true p31
                replace q31 := eq_true q31
                have p33 : 0 ≤ (x7_2 : Int) := of_decide_eq_true (by first | (with_reducible assumption) | assumption)
                have q33 : x7_2 < (PP.size : Int) := of_decide_eq_true (by first | (with_reducible assumption) | assumption)
                have hx33 := bt_at PP x7_2
                replace p33 := eq_true p33
                replace q33 := eq_true q33
                have p35 : 0 ≤ (x7_2 : Int) := of_decide_eq_true (by first | (with_reducible assumption) | assumption)
                have q35 : x7_2 < (PP.size : Int) := of_decide_eq_true (by first | (with_reducible assumption) | assumption)
                have hx35 := bt_at PP x7_2
                replace p35 := eq_true p35
                replace q35 := eq_true q35
                go_wp2
                go_meet
                case rel => exact ⟨_, (((bt PP x7_2) == 34)), (by first | rfl | (simp; done) | (simp [*]; done)), H', ⟨by have := HJ7.out; have := HK2.out; first | omega | exact Nat.le_refl _⟩, ⟨by (with_reducible repeat (first | apply Kd.R_alloc | apply Kd.R_drewN | apply Kd.R_drew)); exact HO_5.out⟩, ⟨by repeat (first | (with_reducible first | exact HB.out | apply below_alloc | apply pw_below_drewN | apply below_drew1) | exact HB.out)⟩⟩
             ·
              rw [if_neg c30] at H
              exact absurd H (by simp)
            case rest =>
             clear HC29
             try clear c1
             try clear c2
             try clear p2
             try clear c3
             try clear p3
             try clear q3
             try clear hx3
             try clear c5
             try clear c5b0
             try clear c5b1
             try clear c6
             try clear c6b0
             try clear c6b1
             try clear p6
             try clear c7
             try clear c8
             try clear c9
             try clear c15
             try clear c15b0
             try clear c15b1
             try clear c16
             try clear c16b0
             try clear c16b1
             try clear c17
             try clear c17b0
             try clear c17b1
             try clear c18
             try clear c18b0
             try clear c18b1
             try clear c19
             try clear c19b0
             try clear c19b1
             try clear c21
             try clear c21b0
             try clear c21b1
             try clear c22
             try clear c22b0
             try clear c22b1
             try clear c23
             try clear c24
             try clear c24b0
             try clear c24b1
             try clear c25
             try clear c25b0
             try clear c25b1
             try clear c28
             try clear c28b0
             try clear c30
             try clear c30b0
             try clear p31
             try clear q31
             try clear hx31
             try clear c32
             try clear c32b0
             try clear c32b1
             try clear p33
             try clear q33
             try clear hx33
             try clear c34
             try clear c34b0
             try clear c34b1
             try clear p35
             try clear q35
             try clear hx35
             try clear p2
             try clear p31
             try clear p33
             try clear p35
             try clear p6
             try clear q31
             try clear q33
             try clear q35
             obtain ⟨kq, x72_28, rfl, HA, HJ28, HO_5, HB⟩ := hcut
             cases kq with
             | zero => exact absurd HA.out (by simp [fanlightlaw09_TreeEscapes.j2])
             | succ kj28 =>
              have H := HA.out
              clear HA
              simp only [fanlightlaw09_TreeEscapes.j2] at H
              by_cases c36 : x72_28 = true
              ·
               subst c36
               have H1 : (some false) = some r := by rw [if_pos rfl] at H; exact H
               clear H
               have H := H1
               clear H1
               obtain rfl := Option.some.inj H
               cases hT
              ·
               replace c36 := Bool.eq_false_iff.mpr c36
               subst c36
               have H1 : (if 0 ≤ x7_2 then (if x7_2 < (PP.size : Int) then (if (bt PP x7_2) = 38 then (fanlightlaw09_TreeEscapes.l1 kj28 (a0.extract 0 ((ji4) : Int).toNat) PP y121 x6_2 x7_2 false 0) else (if x7_2 ≤ (wrap64 (x7_2 + 1)) then (if (wrap64 (x7_2 + 1)) ≤ (PP.size : Int) then (if x6_2.size + (PP.extract (x7_2 : Int).toNat ((wrap64 (x7_2 + 1)) : Int).toNat).size ≤ 9223372036854775807 then (fanlightlaw09_TreeEscapes.l0 kj28 (a0.extract 0 ((ji4) : Int).toNat) PP y121 (x6_2 ++ (PP.extract (x7_2 : Int).toNat ((wrap64 (x7_2 + 1)) : Int).toNat)) (wrap64 (x7_2 + 1))) else (none)) else (none)) else (none))) else (none)) else (none)) = some r := by rw [if_neg (show ¬ (false = true) by decide)] at H; exact H
               clear H
               have H := H1
               clear H1
               by_cases c37 : 0 ≤ x7_2
               ·
                rw [if_pos c37] at H
                have c37b0 : decide (0 ≤ x7_2) = true := decide_eq_true c37
                clear c37
                by_cases c38 : x7_2 < (PP.size : Int)
                ·
                 rw [if_pos c38] at H
                 have c38b0 : decide (x7_2 < (PP.size : Int)) = true := decide_eq_true c38
                 clear c38
                 by_cases c40 : (bt PP x7_2) = 38
                 ·
                  rw [if_pos c40] at H
                  have c40b0 : ((bt PP x7_2) == 38) = true := beq_iff_eq.mpr c40
                  have c40b1 : ((bt PP x7_2) != 38) = false := bne_eq_false_iff_eq.mpr c40
                  clear c40
                  have H' := Aside0.mk H
                  clear H
                  have p39 : 0 ≤ (x7_2 : Int) := of_decide_eq_true (by first | (with_reducible assumption) | assumption)
                  have q39 : x7_2 < (PP.size : Int) := of_decide_eq_true (by first | (with_reducible assumption) | assumption)
                  have hx39 := bt_at PP x7_2
                  replace p39 := eq_true p39
                  replace q39 := eq_true q39
                  go_wp2
                  go_loopg [6, 7, 8, 9] kj28 (fun kq v6 v7 v8 v9 w' => ∃ (x6_4 : ByteArray) (x7_4 : Int) (x8_4 : Bool) (x9_4 : Int), v6 = .string x6_4 ∧ v7 = .int .i64 x7_4 ∧ v8 = .bool x8_4 ∧ v9 = .int .i64 x9_4 ∧ Aside0 (fanlightlaw09_TreeEscapes.l1 kq (a0.extract 0 ((ji4) : Int).toNat) PP y121 x6_4 x7_4 x8_4 x9_4 = some r) ∧ Aside0 (kq ≤ kj28) ∧ Aside0 (Kd.R Kd.string 9 w' w.heap.size (fun _ => True) v122 y121) ∧ Aside0 (Below w.heap.size w w'))
                  case atStart => exact ⟨(x6_2), (x7_2), (false), (0), (by first | rfl | (simp; done) | (simp [*]; done)), (by first | rfl | (simp; done) | (simp [*]; done)), (by first | rfl | (simp; done) | (simp [*]; done)), (by first | rfl | (simp; done) | (simp [*]; done)), H', ⟨Nat.le_refl _⟩, ⟨by (with_reducible repeat (first | apply Kd.R_alloc | apply Kd.R_drewN | apply Kd.R_drew)); exact HO_5.out⟩, ⟨by repeat (first | (with_reducible first | exact HB.out | apply below_alloc | apply pw_below_drewN | apply below_drew1) | exact HB.out)⟩⟩
                  case round =>
                   clear H'
                   try clear c1
                   try clear c2
                   try clear p2
                   try clear c3
                   try clear p3
                   try clear q3
                   try clear hx3
                   try clear c4
                   try clear c5
                   try clear c5b0
                   try clear c5b1
                   try clear c6
                   try clear c6b0
                   try clear c6b1
                   try clear p6
                   try clear c7
                   try clear c8
                   try clear c9
                   try clear c15
                   try clear c15b0
                   try clear c15b1
                   try clear c16
                   try clear c16b0
                   try clear c16b1
                   try clear c17
                   try clear c17b0
                   try clear c17b1
                   try clear c18
                   try clear c18b0
                   try clear c18b1
                   try clear c19
                   try clear c19b0
                   try clear c19b1
                   try clear c21
                   try clear c21b0
                   try clear c21b1
                   try clear c22
                   try clear c22b0
                   try clear c22b1
                   try clear c23
                   try clear c24
                   try clear c24b0
                   try clear c24b1
                   try clear c25
                   try clear c25b0
                   try clear c25b1
                   try clear c28
                   try clear c28b0
                   try clear c30
                   try clear c30b0
                   try clear p31
                   try clear q31
                   try clear hx31
                   try clear c32
                   try clear c32b0
                   try clear c32b1
                   try clear p33
                   try clear q33
                   try clear hx33
                   try clear c34
                   try clear c34b0
                   try clear c34b1
                   try clear p35
                   try clear q35
                   try clear hx35
                   try clear c36
                   try clear c37
                   try clear c37b0
                   try clear c38
                   try clear c38b0
                   try clear p39
                   try clear q39
                   try clear hx39
                   try clear c40
                   try clear c40b0
                   try clear c40b1
                   try clear p2
                   try clear p3
                   try clear p31
                   try clear p33
                   try clear p35
                   try clear p39
                   try clear p6
                   try clear q3
                   try clear q31
                   try clear q33
                   try clear q35
                   try clear q39
                   obtain ⟨x6_4, x7_4, x8_4, x9_4, rfl, rfl, rfl, rfl, HA, HK4, HO_5, HB⟩ := hrel
                   cases gk with
                   | zero => exact absurd HA.out (by simp [fanlightlaw09_TreeEscapes.l1])
                   | succ k4 =>
                    have H := HA.out
                    clear HA
                    simp only [fanlightlaw09_TreeEscapes.l1] at H
                    have HC41 := Aside0.mk H
                    clear H
                    go_upto_region 19 with (fail)
                    go_cut [91] (fun v91 wc => ∃ (kq : Nat) (x91_40 : Bool), v91 = .bool x91_40 ∧ Aside0 (fanlightlaw09_TreeEscapes.j4 kq (a0.extract 0 ((ji4) : Int).toNat) PP y121 x6_4 x7_4 x8_4 x9_4 x91_40 = some r) ∧ Aside0 (kq ≤ k4) ∧ Aside0 (Kd.R Kd.string 9 wc w.heap.size (fun _ => True) v122 y121) ∧ Aside0 (Below w.heap.size w wc))
                    case first =>
                     have H := HC41.out
                     clear HC41
                     by_cases c42 : x9_4 < 4
                     ·
                      rw [if_pos c42] at H
                      have c42b0 : decide (x9_4 < 4) = true := decide_eq_true c42
                      clear c42
                      (first | rw [c42b0] | (simp only [i64_w, i32_w]; rw [c42b0]) | rw [c42b1] | skip)
                      have H' := Aside0.mk H
                      clear H
                      go_wp2
                      go_meet
                      case rel => exact ⟨_, (!x8_4), (by first | rfl | (simp; done) | (simp [*]; done)), H', ⟨by have := HJ7.out; have := HK2.out; have := HJ28.out; have := HK4.out; first | omega | exact Nat.le_refl _⟩, ⟨by (with_reducible repeat (first | apply Kd.R_alloc | apply Kd.R_drewN | apply Kd.R_drew)); exact HO_5.out⟩, ⟨by repeat (first | (with_reducible first | exact HB.out | apply below_alloc | apply pw_below_drewN | apply below_drew1) | exact HB.out)⟩⟩
                     ·
                      rw [if_neg c42] at H
                      have c42b0 : decide (x9_4 < 4) = false := decide_eq_false c42
                      clear c42
                      (first | rw [c42b0] | (simp only [i64_w, i32_w]; rw [c42b0]) | rw [c42b1] | skip)
                      have H' := Aside0.mk H
                      clear H
                      go_wp2
                      go_meet
                      case rel => exact ⟨_, (false), (by first | rfl | (simp; done) | (simp [*]; done)), H', ⟨by have := HJ7.out; have := HK2.out; have := HJ28.out; have := HK4.out; first | omega | exact Nat.le_refl _⟩, ⟨by (with_reducible repeat (first | apply Kd.R_alloc | apply Kd.R_drewN | apply Kd.R_drew)); exact HO_5.out⟩, ⟨by repeat (first | (with_reducible first | exact HB.out | apply below_alloc | apply pw_below_drewN | apply below_drew1) | exact HB.out)⟩⟩
                    case rest =>
                     clear HC41
                     try clear c1
                     try clear c2
                     try clear p2
                     try clear c3
                     try clear p3
                     try clear q3
                     try clear hx3
                     try clear c4
                     try clear c5
                     try clear c5b0
                     try clear c5b1
                     try clear c6
                     try clear c6b0
                     try clear c6b1
                     try clear p6
                     try clear c7
                     try clear c8
                     try clear c9
                     try clear c15
                     try clear c15b0
                     try clear c15b1
                     try clear c16
                     try clear c16b0
                     try clear c16b1
                     try clear c17
                     try clear c17b0
                     try clear c17b1
                     try clear c18
                     try clear c18b0
                     try clear c18b1
                     try clear c19
                     try clear c19b0
                     try clear c19b1
                     try clear c21
                     try clear c21b0
                     try clear c21b1
                     try clear c22
                     try clear c22b0
                     try clear c22b1
                     try clear c23
                     try clear c24
                     try clear c24b0
                     try clear c24b1
                     try clear c25
                     try clear c25b0
                     try clear c25b1
                     try clear c28
                     try clear c28b0
                     try clear c30
                     try clear c30b0
                     try clear p31
                     try clear q31
                     try clear hx31
                     try clear c32
                     try clear c32b0
                     try clear c32b1
                     try clear p33
                     try clear q33
                     try clear hx33
                     try clear c34
                     try clear c34b0
                     try clear c34b1
                     try clear p35
                     try clear q35
                     try clear hx35
                     try clear c36
                     try clear c37
                     try clear c37b0
                     try clear c38
                     try clear c38b0
                     try clear p39
                     try clear q39
                     try clear hx39
                     try clear c40
                     try clear c40b0
                     try clear c40b1
                     try clear c42
                     try clear c42b0
                     try clear p2
                     try clear p3
                     try clear p31
                     try clear p33
                     try clear p35
                     try clear p39
                     try clear p6
                     try clear q3
                     try clear q31
                     try clear q33
                     try clear q35
                     try clear q39
                     obtain ⟨kq, x91_40, rfl, HA, HJ40, HO_5, HB⟩ := hcut
                     cases kq with
                     | zero => exact absurd HA.out (by simp [fanlightlaw09_TreeEscapes.j4])
                     | succ kj40 =>
                      have H := HA.out
                      clear HA
                      simp only [fanlightlaw09_TreeEscapes.j4] at H
                      by_cases c43 : x91_40 = true
                      ·
                       subst c43
                       have H1 : (if 0 ≤ x9_4 then (if x9_4 < (y121.length : Int) then (if (wrap64 ((PP.size : Int) - x7_4)) ≥ ((rdOf ByteArray.empty y121 x9_4).size : Int) then (if 0 ≤ x7_4 then (if x7_4 ≤ (wrap64 (x7_4 + ((rdOf ByteArray.empty y121 x9_4).size : Int))) then (if (wrap64 (x7_4 + ((rdOf ByteArray.empty y121 x9_4).size : Int))) ≤ (PP.size : Int) then (if (PP.extract (x7_4 : Int).toNat ((wrap64 (x7_4 + ((rdOf ByteArray.empty y121 x9_4).size : Int))) : Int).toNat).toList = (rdOf ByteArray.empty y121 x9_4).toList then (if x9_4 ≤ (wrap64 (x9_4 + 1)) then (if (wrap64 (x9_4 + 1)) ≤ 4 then (if x6_4.size + ((⟨#[38, 60, 62, 34]⟩ : ByteArray).extract (x9_4 : Int).toNat ((wrap64 (x9_4 + 1)) : Int).toNat).size ≤ 9223372036854775807 then (fanlightlaw09_TreeEscapes.l1 kj40 (a0.extract 0 ((ji4) : Int).toNat) PP y121 (x6_4 ++ ((⟨#[38, 60, 62, 34]⟩ : ByteArray).extract (x9_4 : Int).toNat ((wrap64 (x9_4 + 1)) : Int).toNat)) (wrap64 (x7_4 + ((rdOf ByteArray.empty y121 x9_4).size : Int))) true (wrap64 (x9_4 + 1))) else (none)) else (none)) else (none)) else (fanlightlaw09_TreeEscapes.l1 kj40 (a0.extract 0 ((ji4) : Int).toNat) PP y121 x6_4 x7_4 x8_4 (wrap64 (x9_4 + 1)))) else (none)) else (none)) else (none)) else (fanlightlaw09_TreeEscapes.l1 kj40 (a0.extract 0 ((ji4) : Int).toNat) PP y121 x6_4 x7_4 x8_4 (wrap64 (x9_4 + 1)))) else (none)) else (none)) = some r := by rw [if_pos rfl] at H; exact H
                       clear H
                       have H := H1
                       clear H1
                       by_cases c44 : 0 ≤ x9_4
                       ·
                        rw [if_pos c44] at H
                        have c44b0 : decide (0 ≤ x9_4) = true := decide_eq_true c44
                        clear c44
                        by_cases c45 : x9_4 < (y121.length : Int)
                        ·
                         rw [if_pos c45] at H
                         have c45b0 : decide (x9_4 < (y121.length : Int)) = true := decide_eq_true c45
                         clear c45
                         by_cases c46 : (wrap64 ((PP.size : Int) - x7_4)) ≥ ((rdOf ByteArray.empty y121 x9_4).size : Int)
                         ·
                          rw [if_pos c46] at H
                          have c46b0 : decide (((rdOf ByteArray.empty y121 x9_4).size : Int) ≤ (wrap64 ((PP.size : Int) - x7_4))) = true := decide_eq_true c46
                          clear c46
                          by_cases c47 : 0 ≤ x7_4
                          ·
                           rw [if_pos c47] at H
                           have c47b0 := eq_true c47
                           have c47b1 : decide (0 ≤ x7_4) = true := decide_eq_true c47
                           clear c47
                           by_cases c48 : x7_4 ≤ (wrap64 (x7_4 + ((rdOf ByteArray.empty y121 x9_4).size : Int)))
                           ·
                            rw [if_pos c48] at H
                            have c48b0 := eq_true c48
                            have c48b1 : decide (x7_4 ≤ (wrap64 (x7_4 + ((rdOf ByteArray.empty y121 x9_4).size : Int)))) = true := decide_eq_true c48
                            by_cases c49 : (wrap64 (x7_4 + ((rdOf ByteArray.empty y121 x9_4).size : Int))) ≤ (PP.size : Int)
                            ·
                             rw [if_pos c49] at H
                             have c49b0 := eq_true c49
                             have c49b1 : decide ((wrap64 (x7_4 + ((rdOf ByteArray.empty y121 x9_4).size : Int))) ≤ (PP.size : Int)) = true := decide_eq_true c49
                             by_cases c50 : (PP.extract (x7_4 : Int).toNat ((wrap64 (x7_4 + ((rdOf ByteArray.empty y121 x9_4).size : Int))) : Int).toNat).toList = (rdOf ByteArray.empty y121 x9_4).toList
                             ·
                              rw [if_pos c50] at H
                              have c50b0 : ((PP.extract (x7_4 : Int).toNat ((wrap64 (x7_4 + ((rdOf ByteArray.empty y121 x9_4).size : Int))) : Int).toNat).toList == (rdOf ByteArray.empty y121 x9_4).toList) = true := beq_iff_eq.mpr c50
                              have c50b1 : ((PP.extract (x7_4 : Int).toNat ((wrap64 (x7_4 + ((rdOf ByteArray.empty y121 x9_4).size : Int))) : Int).toNat).toList != (rdOf ByteArray.empty y121 x9_4).toList) = false := bne_eq_false_iff_eq.mpr c50
                              clear c50
                              have c51b0 := eq_true (of_decide_eq_true (by first | (with_reducible assumption) | assumption) : 0 ≤ x9_4)
                              by_cases c52 : x9_4 ≤ (wrap64 (x9_4 + 1))
                              ·
                               rw [if_pos c52] at H
                               have c52b0 := eq_true c52
                               have c52b1 : decide (x9_4 ≤ (wrap64 (x9_4 + 1))) = true := decide_eq_true c52
                               by_cases c53 : (wrap64 (x9_4 + 1)) ≤ 4
                               ·
                                rw [if_pos c53] at H
                                have c53b0 := eq_true c53
                                have c53b1 : decide ((wrap64 (x9_4 + 1)) ≤ 4) = true := decide_eq_true c53
                                by_cases c54 : x6_4.size + ((⟨#[38, 60, 62, 34]⟩ : ByteArray).extract (x9_4 : Int).toNat ((wrap64 (x9_4 + 1)) : Int).toNat).size ≤ 9223372036854775807
                                ·
                                 rw [if_pos c54] at H
                                 have c54b0 := eq_true c54
                                 have c54b1 : decide (x6_4.size + ((⟨#[38, 60, 62, 34]⟩ : ByteArray).extract (x9_4 : Int).toNat ((wrap64 (x9_4 + 1)) : Int).toNat).size ≤ 9223372036854775807) = true := decide_eq_true c54
                                 try have c54b2 : (9223372036854775807 < x6_4.size + ((⟨#[38, 60, 62, 34]⟩ : ByteArray).extract (x9_4 : Int).toNat ((wrap64 (x9_4 + 1)) : Int).toNat).size) = False := eq_false (Nat.not_lt.2 c54)
                                 have H' := Aside0.mk H
                                 clear H
                                 obtain ⟨Ao55, co55, eo55⟩ := Kd.R_slice HO_5.out
                                 subst eo55
                                 have p124 : 0 ≤ (x9_4 : Int) := of_decide_eq_true (by first | (with_reducible assumption) | assumption)
                                 have q124 : x9_4 < (y121.length : Int) := of_decide_eq_true (by first | (with_reducible assumption) | assumption)
                                 obtain ⟨ad124, e124, hx124_0⟩ := Kd.at_string (Kd.R_reads' HO_5.out).2.2 x9_4 p124 q124
                                 cases e124
                                 replace p124 := eq_true p124
                                 replace q124 := eq_true q124
                                 go_wp2
                                 go_roundg kj40
                                 case measure => have := HJ7.out; have := HK2.out; have := HJ28.out; have := HK4.out; have := HJ40.out; omega
                                 case rel => exact ⟨(x6_4 ++ ((⟨#[38, 60, 62, 34]⟩ : ByteArray).extract (x9_4 : Int).toNat ((wrap64 (x9_4 + 1)) : Int).toNat)), (wrap64 (x7_4 + ((rdOf ByteArray.empty y121 x9_4).size : Int))), (true), (wrap64 (x9_4 + 1)), (by first | rfl | (simp; done) | (simp [*]; done)), (by first | rfl | (simp; done) | (simp [*]; done)), (by first | rfl | (simp; done) | (simp [*]; done)), (by first | rfl | (simp; done) | (simp [*]; done)), H', ⟨by have := HJ7.out; have := HK2.out; have := HJ28.out; have := HK4.out; have := HJ40.out; omega⟩, ⟨by (with_reducible repeat (first | apply Kd.R_alloc | apply Kd.R_drewN | apply Kd.R_drew)); exact HO_5.out⟩, ⟨by repeat (first | (with_reducible first | exact HB.out | apply below_alloc | apply pw_below_drewN | apply below_drew1) | exact HB.out)⟩⟩
                                ·
                                 rw [if_neg c54] at H
                                 exact absurd H (by simp)
                               ·
                                rw [if_neg c53] at H
                                exact absurd H (by simp)
                              ·
                               rw [if_neg c52] at H
                               exact absurd H (by simp)
                             ·
                              rw [if_neg c50] at H
                              have c50b0 : ((PP.extract (x7_4 : Int).toNat ((wrap64 (x7_4 + ((rdOf ByteArray.empty y121 x9_4).size : Int))) : Int).toNat).toList == (rdOf ByteArray.empty y121 x9_4).toList) = false := beq_eq_false_iff_ne.mpr c50
                              have c50b1 : ((PP.extract (x7_4 : Int).toNat ((wrap64 (x7_4 + ((rdOf ByteArray.empty y121 x9_4).size : Int))) : Int).toNat).toList != (rdOf ByteArray.empty y121 x9_4).toList) = true := bne_iff_ne.mpr c50
                              have H' := Aside0.mk H
                              clear H
                              obtain ⟨Ao56, co56, eo56⟩ := Kd.R_slice HO_5.out
                              subst eo56
                              have p124 : 0 ≤ (x9_4 : Int) := of_decide_eq_true (by first | (with_reducible assumption) | assumption)
                              have q124 : x9_4 < (y121.length : Int) := of_decide_eq_true (by first | (with_reducible assumption) | assumption)
                              obtain ⟨ad124, e124, hx124_0⟩ := Kd.at_string (Kd.R_reads' HO_5.out).2.2 x9_4 p124 q124
                              cases e124
                              replace p124 := eq_true p124
                              replace q124 := eq_true q124
                              go_wp2
                              go_roundg kj40
                              case measure => have := HJ7.out; have := HK2.out; have := HJ28.out; have := HK4.out; have := HJ40.out; omega
                              case rel => exact ⟨(x6_4), (x7_4), (x8_4), (wrap64 (x9_4 + 1)), (by first | rfl | (simp; done) | (simp [*]; done)), (by first | rfl | (simp; done) | (simp [*]; done)), (by first | rfl | (simp; done) | (simp [*]; done)), (by first | rfl | (simp; done) | (simp [*]; done)), H', ⟨by have := HJ7.out; have := HK2.out; have := HJ28.out; have := HK4.out; have := HJ40.out; omega⟩, ⟨by (with_reducible repeat (first | apply Kd.R_alloc | apply Kd.R_drewN | apply Kd.R_drew)); exact HO_5.out⟩, ⟨by repeat (first | (with_reducible first | exact HB.out | apply below_alloc | apply pw_below_drewN | apply below_drew1) | exact HB.out)⟩⟩
                            ·
                             rw [if_neg c49] at H
                             exact absurd H (by simp)
                           ·
                            rw [if_neg c48] at H
                            exact absurd H (by simp)
                          ·
                           rw [if_neg c47] at H
                           exact absurd H (by simp)
                         ·
                          rw [if_neg c46] at H
                          have c46b0 : decide (((rdOf ByteArray.empty y121 x9_4).size : Int) ≤ (wrap64 ((PP.size : Int) - x7_4))) = false := decide_eq_false c46
                          clear c46
                          have H' := Aside0.mk H
                          clear H
                          obtain ⟨Ao57, co57, eo57⟩ := Kd.R_slice HO_5.out
                          subst eo57
                          have p124 : 0 ≤ (x9_4 : Int) := of_decide_eq_true (by first | (with_reducible assumption) | assumption)
                          have q124 : x9_4 < (y121.length : Int) := of_decide_eq_true (by first | (with_reducible assumption) | assumption)
                          obtain ⟨ad124, e124, hx124_0⟩ := Kd.at_string (Kd.R_reads' HO_5.out).2.2 x9_4 p124 q124
                          cases e124
                          replace p124 := eq_true p124
                          replace q124 := eq_true q124
                          go_wp2
                          go_roundg kj40
                          case measure => have := HJ7.out; have := HK2.out; have := HJ28.out; have := HK4.out; have := HJ40.out; omega
                          case rel => exact ⟨(x6_4), (x7_4), (x8_4), (wrap64 (x9_4 + 1)), (by first | rfl | (simp; done) | (simp [*]; done)), (by first | rfl | (simp; done) | (simp [*]; done)), (by first | rfl | (simp; done) | (simp [*]; done)), (by first | rfl | (simp; done) | (simp [*]; done)), H', ⟨by have := HJ7.out; have := HK2.out; have := HJ28.out; have := HK4.out; have := HJ40.out; omega⟩, ⟨by (with_reducible repeat (first | apply Kd.R_alloc | apply Kd.R_drewN | apply Kd.R_drew)); exact HO_5.out⟩, ⟨by repeat (first | (with_reducible first | exact HB.out | apply below_alloc | apply pw_below_drewN | apply below_drew1) | exact HB.out)⟩⟩
                        ·
                         rw [if_neg c45] at H
                         exact absurd H (by simp)
                       ·
                        rw [if_neg c44] at H
                        exact absurd H (by simp)
                      ·
                       replace c43 := Bool.eq_false_iff.mpr c43
                       subst c43
                       have H1 : (if x8_4 = true then (fanlightlaw09_TreeEscapes.l0 kj40 (a0.extract 0 ((ji4) : Int).toNat) PP y121 x6_4 x7_4) else (some false)) = some r := by rw [if_neg (show ¬ (false = true) by decide)] at H; exact H
                       clear H
                       have H := H1
                       clear H1
                       by_cases c58 : x8_4 = true
                       ·
                        subst c58
                        have H1 : (fanlightlaw09_TreeEscapes.l0 kj40 (a0.extract 0 ((ji4) : Int).toNat) PP y121 x6_4 x7_4) = some r := by rw [if_pos rfl] at H; exact H
                        clear H
                        have H := H1
                        clear H1
                        have H' := Aside0.mk H
                        clear H
                        go_wp2
                        go_roundg kj40
                        case measure => have := HJ7.out; have := HK2.out; have := HJ28.out; have := HK4.out; have := HJ40.out; omega
                        case rel => exact ⟨(x6_4), (x7_4), (by first | rfl | (simp; done) | (simp [*]; done)), (by first | rfl | (simp; done) | (simp [*]; done)), H', ⟨by have := HJ7.out; have := HK2.out; have := HJ28.out; have := HK4.out; have := HJ40.out; omega⟩, ⟨by (with_reducible repeat (first | apply Kd.R_alloc | apply Kd.R_drewN | apply Kd.R_drew)); exact HO_5.out⟩, ⟨by repeat (first | (with_reducible first | exact HB.out | apply below_alloc | apply pw_below_drewN | apply below_drew1) | exact HB.out)⟩⟩
                       ·
                        replace c58 := Bool.eq_false_iff.mpr c58
                        subst c58
                        have H1 : (some false) = some r := by rw [if_neg (show ¬ (false = true) by decide)] at H; exact H
                        clear H
                        have H := H1
                        clear H1
                        obtain rfl := Option.some.inj H
                        cases hT
                 ·
                  rw [if_neg c40] at H
                  have c40b0 : ((bt PP x7_2) == 38) = false := beq_eq_false_iff_ne.mpr c40
                  have c40b1 : ((bt PP x7_2) != 38) = true := bne_iff_ne.mpr c40
                  have c59b0 := eq_true (of_decide_eq_true (by first | (with_reducible assumption) | assumption) : 0 ≤ x7_2)
                  by_cases c60 : x7_2 ≤ (wrap64 (x7_2 + 1))
                  ·
                   rw [if_pos c60] at H
                   have c60b0 := eq_true c60
                   have c60b1 : decide (x7_2 ≤ (wrap64 (x7_2 + 1))) = true := decide_eq_true c60
                   by_cases c61 : (wrap64 (x7_2 + 1)) ≤ (PP.size : Int)
                   ·
                    rw [if_pos c61] at H
                    have c61b0 := eq_true c61
                    have c61b1 : decide ((wrap64 (x7_2 + 1)) ≤ (PP.size : Int)) = true := decide_eq_true c61
                    by_cases c62 : x6_2.size + (PP.extract (x7_2 : Int).toNat ((wrap64 (x7_2 + 1)) : Int).toNat).size ≤ 9223372036854775807
                    ·
                     rw [if_pos c62] at H
                     have c62b0 := eq_true c62
                     have c62b1 : decide (x6_2.size + (PP.extract (x7_2 : Int).toNat ((wrap64 (x7_2 + 1)) : Int).toNat).size ≤ 9223372036854775807) = true := decide_eq_true c62
                     try have c62b2 : (9223372036854775807 < x6_2.size + (PP.extract (x7_2 : Int).toNat ((wrap64 (x7_2 + 1)) : Int).toNat).size) = False := eq_false (Nat.not_lt.2 c62)
                     have H' := Aside0.mk H
                     clear H
                     have p39 : 0 ≤ (x7_2 : Int) := of_decide_eq_true (by first | (with_reducible assumption) | assumption)
                     have q39 : x7_2 < (PP.size : Int) := of_decide_eq_true (by first | (with_reducible assumption) | assumption)
                     have hx39 := bt_at PP x7_2
                     replace p39 := eq_true p39
                     replace q39 := eq_true q39
                     go_wp2
                     go_roundg kj28
                     case measure => have := HJ7.out; have := HK2.out; have := HJ28.out; omega
                     case rel => exact ⟨(x6_2 ++ (PP.extract (x7_2 : Int).toNat ((wrap64 (x7_2 + 1)) : Int).toNat)), (wrap64 (x7_2 + 1)), (by first | rfl | (simp; done) | (simp [*]; done)), (by first | rfl | (simp; done) | (simp [*]; done)), H', ⟨by have := HJ7.out; have := HK2.out; have := HJ28.out; omega⟩, ⟨by (with_reducible repeat (first | apply Kd.R_alloc | apply Kd.R_drewN | apply Kd.R_drew)); exact HO_5.out⟩, ⟨by repeat (first | (with_reducible first | exact HB.out | apply below_alloc | apply pw_below_drewN | apply below_drew1) | exact HB.out)⟩⟩
                    ·
                     rw [if_neg c62] at H
                     exact absurd H (by simp)
                   ·
                    rw [if_neg c61] at H
                    exact absurd H (by simp)
                  ·
                   rw [if_neg c60] at H
                   exact absurd H (by simp)
                ·
                 rw [if_neg c38] at H
                 exact absurd H (by simp)
               ·
                rw [if_neg c37] at H
                exact absurd H (by simp)
           ·
            rw [if_neg c28] at H
            have c28b0 : decide (x7_2 < (PP.size : Int)) = false := decide_eq_false c28
            clear c28
            obtain rfl := Option.some.inj H
            go_wp2
            go_ret
            exact ⟨by first | rfl | (simp [errW_none, errW_some] <;> rfl) | (simp only [← hji4]; first | rfl | (simp [errW_none, errW_some] <;> rfl)) | (simp [*, errW_none, errW_some] <;> rfl), by repeat (first | (with_reducible first | exact HB.out | apply below_alloc | apply pw_below_drewN | apply below_drew1) | exact HB.out)⟩
        ·
         rw [if_neg c25] at H
         exact absurd H (by simp)
       ·
        rw [if_neg c24] at H
        exact absurd H (by simp)
   ·
    rw [if_neg c6] at H
    exact absurd H (by simp)
  ·
   rw [if_neg c5] at H
   exact absurd H (by simp)
 ·
  replace c3 := Bool.eq_false_iff.mpr c3
  subst c3
  have H1 : (some false) = some r := by rw [if_neg (show ¬ (false = true) by decide)] at H; exact H
  clear H
  have H := H1
  clear H1
  obtain rfl := Option.some.inj H
  cases hT
end Go.Proofs.Ytloocmeckpoflaa.D
