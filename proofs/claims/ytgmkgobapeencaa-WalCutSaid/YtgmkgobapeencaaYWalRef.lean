/- What the print's words and the walks are, as far as this claim names them. -/
import Derived.Test.YtgmkgobapeencaaYS2
import Derived.Test.YtgmkgobapeencaaYS23
import Derived.Test.YtgmkgobapeencaaYWalMore
import Derived.Test.YtgmkgobapeencaaYS7
import Derived.Test.YtgmkgobapeencaaYS8
import Derived.Test.YtgmkgobapeencaaYS9
import Derived.Test.YtgmkgobapeencaaYS12
import Derived.Test.YtgmkgobapeencaaYS14
import Derived.Test.YtgmkgobapeencaaYS15
import Derived.Test.YtgmkgobapeencaaYS16
import Derived.Test.YtgmkgobapeencaaYS17
import Derived.Test.YtgmkgobapeencaaYS18
import Derived.Test.YtgmkgobapeencaaYS19
import Derived.Test.YtgmkgobapeencaaYS20
import Derived.Test.YtgmkgobapeencaaYWalMath
import Derived.Test.YtgmkgobapeencaaYS22
import Derived.Test.YtgmkgobapeencaaYS24
set_option linter.unusedVariables false
set_option linter.unusedSimpArgs false
namespace Go.Proofs.Ytgmkgobapeencaa.S
open Go.Proofs.YtgmkgobapeencaaW.PrintWords.Aside0 renaming mk → a'
open Go.RowKit Go.Proofs.YtgmkgobapeencaaW.PrintWords Go.Proofs.YtgmkgobapeencaaW.PrintLast Go.Proofs.YtgmkgobapeencaaW.PrintMore
attribute [local go_sem] max2_int min2_int max_two min_two max_three min_three max_four min_four   -- for this text's walks alone
def fanlightlaw06_same.l0 : Nat → List (S60) → List (S57) → Int → Option (Bool)
 | 0, _, _, _ => none
 | k + 1, x0, x1, x5 => if x5 < (x0.length : Int) then (if 0 ≤ x5 then (if x5 < (x1.length : Int) then (if ((rd_T60 x0 x5).f0) = ((rd_T57 x1 x5).f0) then ((fanlightplain_SameBytes.f ((rd_T60 x0 x5).f1) ((rd_T57 x1 x5).f1)).bind fun t495 => (if t495 = true then (fanlightlaw06_same.l0 k x0 x1 (wrap64 (x5 + 1))) else (some false))) else (some false)) else (none)) else (none)) else (some true)
def fanlightlaw06_same.f (k : Nat) (l0 : List (S60)) (l1 : List (S57)) : Option (Bool) := if (l0.length : Int) = (l1.length : Int) then (fanlightlaw06_same.l0 k l0 l1 0) else (some false)
theorem fanlightlaw06_same.mono_l : ∀ k, (∀ y0 y1 y2, LeO (fanlightlaw06_same.l0 k y0 y1 y2) (fanlightlaw06_same.l0 (k + 1) y0 y1 y2))
 | 0 => fun _ _ _ r h => by simp [fanlightlaw06_same.l0] at h
 | k + 1 => by
  have ih0 := fanlightlaw06_same.mono_l k
  ·
   intro y0 y1 y2
   unfold fanlightlaw06_same.l0
   repeat' first
   | (with_reducible exact ih0 _ _ _)
   | with_reducible first | exact LeO.refl _ | exact LeO.none _ | refine LeO.ite ?_ ?_ | refine LeO.bind ?_ fun _ => ?_
theorem fanlightlaw06_same.mono : ∀ a0 a1 k, LeO (fanlightlaw06_same.f k a0 a1) (fanlightlaw06_same.f (k + 1) a0 a1) := by
 intro a0 a1 k
 have ih0 := fanlightlaw06_same.mono_l k
 unfold fanlightlaw06_same.f
 repeat' first
   | (with_reducible exact ih0 _ _ _)
   | with_reducible first | exact LeO.refl _ | exact LeO.none _ | refine LeO.ite ?_ ?_ | refine LeO.bind ?_ fun _ => ?_
set_option maxHeartbeats 8000000 in
set_option maxRecDepth 100000 in
theorem fanlightlaw06_same.calls (k : Nat) (A0 : Option Addr) (c0 : Nat) (l0 : List (S60)) (A1 : Option Addr) (c1 : Nat) (l1 : List (S57)) (r : Bool) (w : World) (hr0 : Kd.C k60 w A0 l0.length l0) (hc0 : l0.length ≤ c0) (hr1 : Kd.C k57 w A1 l1.length l1) (hc1 : l1.length ≤ c1) (h : fanlightlaw06_same.f k l0 l1 = some r) :
  Calls Try.prog 20 #[.slice A0 l0.length c0, .slice A1 l1.length c1] w fun e w' => e = .returned (.bool r) ∧ Drawn0 w w' := by
 have HR0 := a' hr0
 have HC0 := a' hc0
 clear hr0 hc0
 have HR1 := a' hr1
 have HC1 := a' hc1
 clear hr1 hc1
 have H : (if (l0.length : Int) = (l1.length : Int) then (fanlightlaw06_same.l0 k l0 l1 0) else (some false)) = some r := h
 clear h
 by_cases c3 : (l0.length : Int) = (l1.length : Int)
 ·
  rw [if_pos c3] at H
  have c3b0 : ((l0.length : Int) == (l1.length : Int)) = true := beq_iff_eq.mpr c3
  have c3b1 : ((l0.length : Int) != (l1.length : Int)) = false := bne_eq_false_iff_eq.mpr c3
  have c3b2 : (l0.length == l1.length) = true := by first | simpa using c3 | (simp at c3 ⊢; omega)
  clear c3
  have H' := a' H
  clear H
  go_enter Try.func20, Try.ntmps20
  go_wp2
  repeat (go_quiet (fail); try go_wp2)
  go_loopg [5] k (fun kq v5 w' => ∃ (x5_1 : Int), v5 = .int .i64 x5_1 ∧ Aside0 (fanlightlaw06_same.l0 kq l0 l1 x5_1 = some r) ∧ Aside0 (kq ≤ k) ∧ Drawn0 w w')
  case atStart => exact ⟨(0), (by first | rfl | (simp; done) | (simp [*]; done)), H', ⟨Nat.le_refl _⟩, by repeat (first | exact Drawn0.refl _ | apply Drawn0.step)⟩
  case round =>
   clear H'
   try clear c1
   try clear c2
   try clear p2
   try clear c3
   try clear c3b0
   try clear c3b1
   try clear c3b2
   obtain ⟨x5_1, rfl, HA, HK1, ⟨m1, rfl⟩⟩ := hrel
   cases gk with
   | zero => exact absurd HA.out (by simp [fanlightlaw06_same.l0])
   | succ k1 =>
    have H := HA.out
    clear HA
    simp only [fanlightlaw06_same.l0] at H
    by_cases c4 : x5_1 < (l0.length : Int)
    ·
     rw [if_pos c4] at H
     have c4b0 : decide (x5_1 < (l0.length : Int)) = true := decide_eq_true c4
     clear c4
     by_cases c5 : 0 ≤ x5_1
     ·
      rw [if_pos c5] at H
      have c5b0 : decide (0 ≤ x5_1) = true := decide_eq_true c5
      clear c5
      by_cases c6 : x5_1 < (l1.length : Int)
      ·
       rw [if_pos c6] at H
       have c6b0 : decide (x5_1 < (l1.length : Int)) = true := decide_eq_true c6
       clear c6
       by_cases c7 : ((rd_T60 l0 x5_1).f0) = ((rd_T57 l1 x5_1).f0)
       ·
        rw [if_pos c7] at H
        have c7b0 : (((rd_T60 l0 x5_1).f0) == ((rd_T57 l1 x5_1).f0)) = true := beq_iff_eq.mpr c7
        have c7b1 : (((rd_T60 l0 x5_1).f0) != ((rd_T57 l1 x5_1).f0)) = false := bne_eq_false_iff_eq.mpr c7
        clear c7
        replace H := Option.bind_eq_some_iff.mp H
        obtain ⟨t495, A80, H⟩ := H
        (try dsimp only at H)
        have A8 := a' A80
        clear A80
        by_cases c9 : t495 = true
        ·
         subst c9
         have H1 : (fanlightlaw06_same.l0 k1 l0 l1 (wrap64 (x5_1 + 1))) = some r := by rw [if_pos rfl] at H; exact H
         clear H
         have H := H1
         clear H1
         have H' := a' H
         clear H
         have p491 : 0 ≤ (x5_1 : Int) := oD
         have q491 : x5_1 < (l0.length : Int) := oD
         obtain ⟨ad491, A491_1, c491_1, e491, hx491_0, hx491_1, hl491_1, hi491_1⟩ := at_T60 HR0.out x5_1 p491 q491
         cases e491
         have HR491_1 := a' hi491_1
         have HC491_1 := a' hl491_1
         clear hi491_1 hl491_1
         replace p491 := eq_true p491
         replace q491 := eq_true q491
         have p492 : 0 ≤ (x5_1 : Int) := oD
         have q492 : x5_1 < (l1.length : Int) := oD
         obtain ⟨ad492, A492_1, c492_1, e492, hx492_0, hx492_1, hl492_1, hi492_1⟩ := at_T57 HR1.out x5_1 p492 q492
         cases e492
         have HR492_1 := a' hi492_1
         have HC492_1 := a' hl492_1
         clear hi492_1 hl492_1
         replace p492 := eq_true p492
         replace q492 := eq_true q492
         have p493 : 0 ≤ (x5_1 : Int) := oD
         have q493 : x5_1 < (l0.length : Int) := oD
         obtain ⟨ad493, A493_1, c493_1, e493, hx493_0, hx493_1, hl493_1, hi493_1⟩ := at_T60 HR0.out x5_1 p493 q493
         obtain rfl : ad491 = ad493 := (by injection e493)
         have HR493_1 := a' hi493_1
         have HC493_1 := a' hl493_1
         clear hi493_1 hl493_1
         replace p493 := eq_true p493
         replace q493 := eq_true q493
         have ea_ := Option.some.inj (hx491_1.symm.trans hx493_1)
         injection ea_ with ea_ en_ ec_
         subst ea_
         subst ec_
         clear en_
         have p494 : 0 ≤ (x5_1 : Int) := oD
         have q494 : x5_1 < (l1.length : Int) := oD
         obtain ⟨ad494, A494_1, c494_1, e494, hx494_0, hx494_1, hl494_1, hi494_1⟩ := at_T57 HR1.out x5_1 p494 q494
         obtain rfl : ad492 = ad494 := (by injection e494)
         have HR494_1 := a' hi494_1
         have HC494_1 := a' hl494_1
         clear hi494_1 hl494_1
         replace p494 := eq_true p494
         replace q494 := eq_true q494
         have ea_ := Option.some.inj (hx492_1.symm.trans hx494_1)
         injection ea_ with ea_ en_ ec_
         subst ea_
         subst ec_
         clear en_
         go_wp2_with (first | (go_at_call 23; (with_reducible refine (fanlightplain_SameBytes.calls _ _ ((rd_T60 l0 x5_1).f1) _ _ ((rd_T57 l1 x5_1).f1) true _ ?side1 ?side2 ?side3 ?side4 A8.out).mono ?_); (case side1 => repeat (first | exact HR493_1.out | (with_reducible refine Kd.C_alloc ?_ _) | (with_reducible refine Kd.C_drewN ?_ _) | (with_reducible refine Kd.C_drew ?_))); (case side2 => exact HC493_1.out); (case side3 => repeat (first | exact HR494_1.out | (with_reducible refine Kd.C_alloc ?_ _) | (with_reducible refine Kd.C_drewN ?_ _) | (with_reducible refine Kd.C_drew ?_))); (case side4 => exact HC494_1.out); rintro e w' ⟨rfl, ⟨nd, rfl⟩⟩; (try first | exact ⟨rfl, _, World.drewN_drewN _ _ _⟩ | exact ⟨rfl, _, Eq.trans (World.drewN_drewN _ _ _) (congrArg (World.drewN _) (Nat.add_assoc _ _ _))⟩)))
         repeat (go_quiet (first | (go_at_call 23; (with_reducible refine (fanlightplain_SameBytes.calls _ _ ((rd_T60 l0 x5_1).f1) _ _ ((rd_T57 l1 x5_1).f1) true _ ?side1 ?side2 ?side3 ?side4 A8.out).mono ?_); (case side1 => repeat (first | exact HR493_1.out | (with_reducible refine Kd.C_alloc ?_ _) | (with_reducible refine Kd.C_drewN ?_ _) | (with_reducible refine Kd.C_drew ?_))); (case side2 => exact HC493_1.out); (case side3 => repeat (first | exact HR494_1.out | (with_reducible refine Kd.C_alloc ?_ _) | (with_reducible refine Kd.C_drewN ?_ _) | (with_reducible refine Kd.C_drew ?_))); (case side4 => exact HC494_1.out); rintro e w' ⟨rfl, ⟨nd, rfl⟩⟩; (try first | exact ⟨rfl, _, World.drewN_drewN _ _ _⟩ | exact ⟨rfl, _, Eq.trans (World.drewN_drewN _ _ _) (congrArg (World.drewN _) (Nat.add_assoc _ _ _))⟩))); try go_wp2_with (first | (go_at_call 23; (with_reducible refine (fanlightplain_SameBytes.calls _ _ ((rd_T60 l0 x5_1).f1) _ _ ((rd_T57 l1 x5_1).f1) true _ ?side1 ?side2 ?side3 ?side4 A8.out).mono ?_); (case side1 => repeat (first | exact HR493_1.out | (with_reducible refine Kd.C_alloc ?_ _) | (with_reducible refine Kd.C_drewN ?_ _) | (with_reducible refine Kd.C_drew ?_))); (case side2 => exact HC493_1.out); (case side3 => repeat (first | exact HR494_1.out | (with_reducible refine Kd.C_alloc ?_ _) | (with_reducible refine Kd.C_drewN ?_ _) | (with_reducible refine Kd.C_drew ?_))); (case side4 => exact HC494_1.out); rintro e w' ⟨rfl, ⟨nd, rfl⟩⟩; (try first | exact ⟨rfl, _, World.drewN_drewN _ _ _⟩ | exact ⟨rfl, _, Eq.trans (World.drewN_drewN _ _ _) (congrArg (World.drewN _) (Nat.add_assoc _ _ _))⟩))))
         go_roundg k1
         case measure => have := HK1.out; omega
         case rel => exact ⟨(wrap64 (x5_1 + 1)), (by first | rfl | (simp; done) | (simp [*]; done)), H', ⟨by have := HK1.out; omega⟩, by repeat (first | exact Drawn0.refl _ | apply Drawn0.step)⟩
        ·
         replace c9 := Bool.eq_false_iff.mpr c9
         subst c9
         have H1 : (some false) = some r := by rw [if_neg (show ¬ (false = true) by decide)] at H; exact H
         clear H
         have H := H1
         clear H1
         obtain rfl := Option.some.inj H
         have p491 : 0 ≤ (x5_1 : Int) := oD
         have q491 : x5_1 < (l0.length : Int) := oD
         obtain ⟨ad491, A491_1, c491_1, e491, hx491_0, hx491_1, hl491_1, hi491_1⟩ := at_T60 HR0.out x5_1 p491 q491
         cases e491
         have HR491_1 := a' hi491_1
         have HC491_1 := a' hl491_1
         clear hi491_1 hl491_1
         replace p491 := eq_true p491
         replace q491 := eq_true q491
         have p492 : 0 ≤ (x5_1 : Int) := oD
         have q492 : x5_1 < (l1.length : Int) := oD
         obtain ⟨ad492, A492_1, c492_1, e492, hx492_0, hx492_1, hl492_1, hi492_1⟩ := at_T57 HR1.out x5_1 p492 q492
         cases e492
         have HR492_1 := a' hi492_1
         have HC492_1 := a' hl492_1
         clear hi492_1 hl492_1
         replace p492 := eq_true p492
         replace q492 := eq_true q492
         have p493 : 0 ≤ (x5_1 : Int) := oD
         have q493 : x5_1 < (l0.length : Int) := oD
         obtain ⟨ad493, A493_1, c493_1, e493, hx493_0, hx493_1, hl493_1, hi493_1⟩ := at_T60 HR0.out x5_1 p493 q493
         obtain rfl : ad491 = ad493 := (by injection e493)
         have HR493_1 := a' hi493_1
         have HC493_1 := a' hl493_1
         clear hi493_1 hl493_1
         replace p493 := eq_true p493
         replace q493 := eq_true q493
         have ea_ := Option.some.inj (hx491_1.symm.trans hx493_1)
         injection ea_ with ea_ en_ ec_
         subst ea_
         subst ec_
         clear en_
         have p494 : 0 ≤ (x5_1 : Int) := oD
         have q494 : x5_1 < (l1.length : Int) := oD
         obtain ⟨ad494, A494_1, c494_1, e494, hx494_0, hx494_1, hl494_1, hi494_1⟩ := at_T57 HR1.out x5_1 p494 q494
         obtain rfl : ad492 = ad494 := (by injection e494)
         have HR494_1 := a' hi494_1
         have HC494_1 := a' hl494_1
         clear hi494_1 hl494_1
         replace p494 := eq_true p494
         replace q494 := eq_true q494
         have ea_ := Option.some.inj (hx492_1.symm.trans hx494_1)
         injection ea_ with ea_ en_ ec_
         subst ea_
         subst ec_
         clear en_
         go_wp2_with (first | (go_at_call 23; (with_reducible refine (fanlightplain_SameBytes.calls _ _ ((rd_T60 l0 x5_1).f1) _ _ ((rd_T57 l1 x5_1).f1) false _ ?side1 ?side2 ?side3 ?side4 A8.out).mono ?_); (case side1 => repeat (first | exact HR493_1.out | (with_reducible refine Kd.C_alloc ?_ _) | (with_reducible refine Kd.C_drewN ?_ _) | (with_reducible refine Kd.C_drew ?_))); (case side2 => exact HC493_1.out); (case side3 => repeat (first | exact HR494_1.out | (with_reducible refine Kd.C_alloc ?_ _) | (with_reducible refine Kd.C_drewN ?_ _) | (with_reducible refine Kd.C_drew ?_))); (case side4 => exact HC494_1.out); rintro e w' ⟨rfl, ⟨nd, rfl⟩⟩; (try first | exact ⟨rfl, _, World.drewN_drewN _ _ _⟩ | exact ⟨rfl, _, Eq.trans (World.drewN_drewN _ _ _) (congrArg (World.drewN _) (Nat.add_assoc _ _ _))⟩)))
         repeat (go_quiet (first | (go_at_call 23; (with_reducible refine (fanlightplain_SameBytes.calls _ _ ((rd_T60 l0 x5_1).f1) _ _ ((rd_T57 l1 x5_1).f1) false _ ?side1 ?side2 ?side3 ?side4 A8.out).mono ?_); (case side1 => repeat (first | exact HR493_1.out | (with_reducible refine Kd.C_alloc ?_ _) | (with_reducible refine Kd.C_drewN ?_ _) | (with_reducible refine Kd.C_drew ?_))); (case side2 => exact HC493_1.out); (case side3 => repeat (first | exact HR494_1.out | (with_reducible refine Kd.C_alloc ?_ _) | (with_reducible refine Kd.C_drewN ?_ _) | (with_reducible refine Kd.C_drew ?_))); (case side4 => exact HC494_1.out); rintro e w' ⟨rfl, ⟨nd, rfl⟩⟩; (try first | exact ⟨rfl, _, World.drewN_drewN _ _ _⟩ | exact ⟨rfl, _, Eq.trans (World.drewN_drewN _ _ _) (congrArg (World.drewN _) (Nat.add_assoc _ _ _))⟩))); try go_wp2_with (first | (go_at_call 23; (with_reducible refine (fanlightplain_SameBytes.calls _ _ ((rd_T60 l0 x5_1).f1) _ _ ((rd_T57 l1 x5_1).f1) false _ ?side1 ?side2 ?side3 ?side4 A8.out).mono ?_); (case side1 => repeat (first | exact HR493_1.out | (with_reducible refine Kd.C_alloc ?_ _) | (with_reducible refine Kd.C_drewN ?_ _) | (with_reducible refine Kd.C_drew ?_))); (case side2 => exact HC493_1.out); (case side3 => repeat (first | exact HR494_1.out | (with_reducible refine Kd.C_alloc ?_ _) | (with_reducible refine Kd.C_drewN ?_ _) | (with_reducible refine Kd.C_drew ?_))); (case side4 => exact HC494_1.out); rintro e w' ⟨rfl, ⟨nd, rfl⟩⟩; (try first | exact ⟨rfl, _, World.drewN_drewN _ _ _⟩ | exact ⟨rfl, _, Eq.trans (World.drewN_drewN _ _ _) (congrArg (World.drewN _) (Nat.add_assoc _ _ _))⟩))))
         go_ret
         exact ⟨by first | rfl | (simp; done) | (simp [*]; done), by repeat (first | exact Drawn0.refl _ | apply Drawn0.step)⟩
       ·
        rw [if_neg c7] at H
        have c7b0 : (((rd_T60 l0 x5_1).f0) == ((rd_T57 l1 x5_1).f0)) = false := beq_eq_false_iff_ne.mpr c7
        have c7b1 : (((rd_T60 l0 x5_1).f0) != ((rd_T57 l1 x5_1).f0)) = true := bne_iff_ne.mpr c7
        obtain rfl := Option.some.inj H
        have p491 : 0 ≤ (x5_1 : Int) := oD
        have q491 : x5_1 < (l0.length : Int) := oD
        obtain ⟨ad491, A491_1, c491_1, e491, hx491_0, hx491_1, hl491_1, hi491_1⟩ := at_T60 HR0.out x5_1 p491 q491
        cases e491
        have HR491_1 := a' hi491_1
        have HC491_1 := a' hl491_1
        clear hi491_1 hl491_1
        replace p491 := eq_true p491
        replace q491 := eq_true q491
        have p492 : 0 ≤ (x5_1 : Int) := oD
        have q492 : x5_1 < (l1.length : Int) := oD
        obtain ⟨ad492, A492_1, c492_1, e492, hx492_0, hx492_1, hl492_1, hi492_1⟩ := at_T57 HR1.out x5_1 p492 q492
        cases e492
        have HR492_1 := a' hi492_1
        have HC492_1 := a' hl492_1
        clear hi492_1 hl492_1
        replace p492 := eq_true p492
        replace q492 := eq_true q492
        go_wp2
        repeat (go_quiet (fail); try go_wp2)
        go_ret
        exact ⟨by first | rfl | (simp; done) | (simp [*]; done), by repeat (first | exact Drawn0.refl _ | apply Drawn0.step)⟩
      ·
       rw [if_neg c6] at H
       exact absurd H (by simp)
     ·
      rw [if_neg c5] at H
      exact absurd H (by simp)
    ·
     rw [if_neg c4] at H
     have c4b0 : decide (x5_1 < (l0.length : Int)) = false := decide_eq_false c4
     clear c4
     obtain rfl := Option.some.inj H
     go_wp2
     repeat (go_quiet (fail); try go_wp2)
     go_ret
     exact ⟨by first | rfl | (simp; done) | (simp [*]; done), by repeat (first | exact Drawn0.refl _ | apply Drawn0.step)⟩
 ·
  rw [if_neg c3] at H
  have c3b0 : ((l0.length : Int) == (l1.length : Int)) = false := beq_eq_false_iff_ne.mpr c3
  have c3b1 : ((l0.length : Int) != (l1.length : Int)) = true := bne_iff_ne.mpr c3
  have c3b2 : (l0.length == l1.length) = false := by first | simpa using c3 | (simp at c3 ⊢; omega)
  obtain rfl := Option.some.inj H
  go_enter Try.func20, Try.ntmps20
  go_wp2
  repeat (go_quiet (fail); try go_wp2)
  go_ret
  exact ⟨by first | rfl | (simp; done) | (simp [*]; done), by repeat (first | exact Drawn0.refl _ | apply Drawn0.step)⟩
end Go.Proofs.Ytgmkgobapeencaa.S
namespace Go.Proofs.Ytgmkgobapeencaa.WalRef
open Go.RowKit Go.Proofs.Ytgmkgobapeencaa.S Go.Proofs.YtgmkgobapeencaaW.PrintWords Go.Proofs.YtgmkgobapeencaaW.PrintLast RefSeal RefPut WalMath WalEv WalLog WalMore
theorem sameB (l : List Int) : fanlightplain_SameBytes.f l l = some true := by
 unfold fanlightplain_SameBytes.f
 rw [beq_self_eq_true]
theorem same_l0 (rs : List (Int × List Int)) (hn : rs.length ≤ 4611686018427387904) : ∀ (rest pre : List (Int × List Int)), rs = pre ++ rest → Ev (fun k => fanlightlaw06_same.l0 k (rs.map rowP) (rs.map rowD) (pre.length : Int)) true
 | [], pre, h => by
  refine Ev.step (fun k => rfl) ?_
  have e : rs = pre := by simpa using h
  simp only [fanlightlaw06_same.l0, List.length_map, if_neg (show ¬ (pre.length : Int) < (rs.length : Int) by rw [e]; omega)]
  exact Ev.now _
 | s :: ss, pre, h => by
  refine Ev.step (fun k => rfl) ?_
  have hlen : rs.length = pre.length + 1 + ss.length := by rw [h]; simp; omega
  have hat : rs[pre.length]? = some s := by rw [h, List.getElem?_append_right (Nat.le_refl _), Nat.sub_self]; rfl
  have e1 : rd_T60 (rs.map rowP) (pre.length : Int) = rowP s := by
   unfold rd_T60
   rw [Int.toNat_natCast, List.getD_eq_getElem?_getD, List.getElem?_map, hat]
   rfl
  have e2 : rd_T57 (rs.map rowD) (pre.length : Int) = rowD s := by
   unfold rd_T57
   rw [Int.toNat_natCast, List.getD_eq_getElem?_getD, List.getElem?_map, hat]
   rfl
  have w2 : wrap64 ((pre.length : Int) + 1) = (((pre ++ [s]).length : Nat) : Int) := by rw [List.length_append]; exact wI (by omega) (by omega)
  have c1 : (rowP s).f0 = (rowD s).f0 := rfl
  have c2 : (rowP s).f1 = (rowD s).f1 := rfl
  simp only [fanlightlaw06_same.l0, List.length_map, if_pos (show (pre.length : Int) < (rs.length : Int) by omega), if_pos (show (0 : Int) ≤ (pre.length : Int) by omega), e1, e2, if_pos c1, c2, sameB, Option.bind_some, if_true, w2]
  exact same_l0 rs hn ss (pre ++ [s]) (by rw [h]; simp)
theorem same_is (rs : List (Int × List Int)) (hn : rs.length ≤ 4611686018427387904) : Ev (fun k => fanlightlaw06_same.f k (rs.map rowP) (rs.map rowD)) true := by
 unfold fanlightlaw06_same.f
 simp only [List.length_map, if_true]
 exact same_l0 rs hn rs [] rfl
theorem zeros_octs (n : Nat) : octs (List.replicate n (0 : Int)) := by
 intro x hx
 have := List.eq_of_mem_replicate hx
 omega
theorem alive_is : Ev (fun k => fanlightlaw06_alive.f k) true := by
 have hn : Okt [] := fun s hs => by simp at hs
 have hlog : logS [] 1 = some [] := rfl
 have hz := zeros_octs 300
 have hzl : (List.replicate 300 (0 : Int)).length = 300 := List.length_replicate ..
 obtain ⟨Z, hZ⟩ : ∃ Z, List.replicate 300 (0 : Int) = Z := ⟨_, rfl⟩
 rw [hZ] at hz hzl
 obtain ⟨a1, a2, a3, _⟩ := app_log hn hlog hz (by omega) (by omega) (by simp)
 have e1 : appA [] 1 Z = ([recF 1 Z], 2, 0, 0) := by
  unfold appA
  rw [hlog, Option.isSome_some, if_pos rfl, if_neg (by omega), if_neg (by omega), if_pos (.inl rfl), if_neg (by simp)]
  rfl
 rw [e1] at a3
 have ho1 : Okt [recF 1 Z] := fun s hs => by
  rw [List.mem_singleton.1 hs]
  exact ⟨recF_octs hz, by rw [recF_length]; omega⟩
 have hlog2 : logS [recF 1 Z] 2 = some [(1, Z)] := a3
 obtain ⟨b1, b2, b3, _⟩ := app_log ho1 hlog2 hz (by omega) (by omega) (by simp)
 have e2 : appA [recF 1 Z] 2 Z = ([recF 1 Z, recF 2 Z], 3, 1, 0) := by
  unfold appA
  rw [hlog2, Option.isSome_some, if_pos rfl, if_neg (by omega), if_neg (by omega), if_pos (.inr (by show 480 < (recF 1 Z).length + 16 + Z.length; rw [recF_length]; omega)), if_neg (by simp)]
  rfl
 rw [e2] at b3
 have ho2 : Okt [recF 1 Z, recF 2 Z] := fun s hs => by
  simp only [List.mem_cons, List.mem_nil_iff, or_false] at hs
  rcases hs with rfl | rfl
  ·
   exact ⟨recF_octs hz, by rw [recF_length]; omega⟩
  ·
   exact ⟨recF_octs hz, by rw [recF_length]; omega⟩
 have hlog3 : logS [recF 1 Z, recF 2 Z] 3 = some [(1, Z), (2, Z)] := b3
 have p1 := app_is hn 1 Z
 rw [e1] at p1
 have p2 := app_is ho1 2 Z
 rw [e2] at p2
 unfold fanlightlaw06_alive.f
 simp only [if_pos (show (300 : Int) ≤ 281474976710656 by decide), hZ]
 refine Ev.bind p1 ?_
 refine Ev.bind p2 ?_
 refine Ev.bind (records_ok ho2 hlog3) ?_
 have h1 : wrap64 (wrap64 (0 + 0) + 0) = 0 := by rw [wI (i := 0 + 0) (by omega) (by omega)]; exact wI (by omega) (by omega)
 have h2 : ((([(1, Z), (2, Z)] : List (Int × List Int)).map rowP).length : Int) = 2 := rfl
 have h3 : ((rd_T60 (([(1, Z), (2, Z)] : List (Int × List Int)).map rowP) 1).f0 == 2) = true := rfl
 simp only [fanlightlaw06_num.f, Option.bind_some, if_pos h1, if_true, h2, if_pos (show (1 : Int) < 2 by decide), h3]
 exact Ev.now _
end Go.Proofs.Ytgmkgobapeencaa.WalRef
