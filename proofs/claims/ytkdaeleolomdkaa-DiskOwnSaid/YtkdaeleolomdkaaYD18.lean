import Derived.Test.YtkdaeleolomdkaaYD0
import Derived.Test.YtkdaeleolomdkaaYD11
import Derived.Test.YtkdaeleolomdkaaYD12
import Derived.Test.YtkdaeleolomdkaaYD14
import Derived.Test.YtkdaeleolomdkaaYD15
import Derived.Test.YtkdaeleolomdkaaYD16
import Derived.Test.YtkdaeleolomdkaaYD17
namespace Go.Proofs.Ytkdaeleolomdkaa.D
open Go.RowKit Go.Proofs.YtkdaeleolomdkaaW.PrintWords Go.Proofs.YtkdaeleolomdkaaW.PrintLast Go.Proofs.YtkdaeleolomdkaaW.PrintMore
attribute [local go_sem] max2_int min2_int max_two min_two max_three min_three max_four min_four   -- for this text's walks alone
set_option linter.unusedVariables false
set_option linter.unusedSimpArgs false
def fanlightlaw05_alive.f (k : Nat)  : Option (Bool) := (disk_New.f k 2).bind fun bt113 => (if 49 ≤ 281474976710656 then ((some (List.replicate 49 0 : List Int)).bind fun y121 => ((some (([7] : List Int) : List Int)).bind fun y124 => (if y121.length + y124.length < 140737488355328 then ((disk_Padded.f (y121 ++ y124)).bind fun t130 => ((disk_Do.f bt113.1 bt113.2.1 false 0 t130).bind fun bt133 => ((disk_Padded.f (([9] : List Int))).bind fun t143 => ((disk_Do.f bt133.1 bt133.2.1 false 0 t143).bind fun bt146 => ((disk_Crash.f bt146.1 bt146.2.1 (([0, 1] : List Int))).bind fun bt156 => ((disk_Read.f bt156.1 bt156.2.1 0 2).bind fun bt163 => ((fanlightlaw05_num.f bt113.2.2).bind fun t167 => ((fanlightlaw05_num.f bt133.2.2).bind fun t168 => ((fanlightlaw05_num.f bt146.2.2).bind fun t169 => ((fanlightlaw05_num.f bt156.2.2).bind fun t170 => ((fanlightlaw05_num.f bt163.2).bind fun t171 => (if (wrap64 ((wrap64 ((wrap64 ((wrap64 (t167 + t168)) + t169)) + t170)) + t171)) = 0 then (if (bt163.1.length : Int) = 96 then (if 0 < (bt163.1.length : Int) then (if (rd bt163.1 0) = 9 then (if 49 < (bt163.1.length : Int) then (some ((rd bt163.1 49) == 0)) else (none)) else (some false)) else (none)) else (some false)) else (some false))))))))))))) else (none)))) else (none))
theorem fanlightlaw05_alive.mono : ∀ k, LeO (fanlightlaw05_alive.f k ) (fanlightlaw05_alive.f (k + 1) ) := by
 intro  k
 unfold fanlightlaw05_alive.f
 repeat' first
   | (with_reducible exact disk_New.mono _ _)
   | (with_reducible exact LeO.refl _)
   | (with_reducible exact LeO.none _)
   | (with_reducible refine LeO.ite ?_ ?_)
   | (with_reducible refine LeO.bind ?_ (fun _ => ?_))
   | exact disk_New.mono _ _
   | exact LeO.none _
   | refine LeO.ite ?_ ?_
   | refine LeO.bind ?_ (fun _ => ?_)
def fanlightlaw05_alive.T2 : Bool × List (List Nat × List Nat) := (true, [([], []), ([], []), ([], []), ([1, 2], [1, 2]), ([3, 3], [3]), ([4], [4]), ([0, 5, 4], [0, 5]), ([6], [6]), ([7], [7]), ([7], [7]), ([8, 6, 0, 1, 2, 3, 4, 5, 6, 7, 8], [8]), ([9, 10, 0, 1, 2, 3, 4, 5, 6, 7, 8, 9, 10], [9])])
def fanlightlaw05_alive.B2 : List Nat := [0, 0, 0, 6, 14, 30, 63, 127, 255, 255, 511, 2047]
theorem fanlightlaw05_alive.tab2 : rtab .any (opsOf Try.f29 2) = fanlightlaw05_alive.T2 := by kernel_rfl
theorem fanlightlaw05_alive.bits2 : waitsOk fanlightlaw05_alive.T2.2 fanlightlaw05_alive.B2 = true := by kernel_rfl
def fanlightlaw05_alive.T3 : Bool × List (List Nat × List Nat) := (true, [([], []), ([], []), ([1], [1]), ([2], [2]), ([0, 3, 2], [0, 3]), ([4], [4]), ([5], [5]), ([5], [5]), ([6, 4, 0, 1, 2, 3, 4, 5, 6], [6]), ([7, 8, 0, 1, 2, 3, 4, 5, 6, 7, 8], [7])])
def fanlightlaw05_alive.B3 : List Nat := [0, 0, 2, 6, 15, 31, 63, 63, 127, 511]
theorem fanlightlaw05_alive.tab3 : rtab .any (opsOf Try.f29 3) = fanlightlaw05_alive.T3 := by kernel_rfl
theorem fanlightlaw05_alive.bits3 : waitsOk fanlightlaw05_alive.T3.2 fanlightlaw05_alive.B3 = true := by kernel_rfl
set_option maxHeartbeats 8000000 in
set_option maxRecDepth 100000 in
theorem fanlightlaw05_alive.calls (k : Nat)  (r : Bool) (w : World) (h : fanlightlaw05_alive.f k  = some r) (hT : r = true) :
  Calls Try.prog 29 #[] w fun e w' => e = .returned (.bool r) ∧ Below w.heap.size w w' := by
 have hu58 := Try.underlying58
 have hu57 := Try.underlying57
 have HB := Aside0.mk (Below.refl w.heap.size w)
 have H : ((disk_New.f k 2).bind fun bt113 => (if 49 ≤ 281474976710656 then ((some (List.replicate 49 0 : List Int)).bind fun y121 => ((some (([7] : List Int) : List Int)).bind fun y124 => (if y121.length + y124.length < 140737488355328 then ((disk_Padded.f (y121 ++ y124)).bind fun t130 => ((disk_Do.f bt113.1 bt113.2.1 false 0 t130).bind fun bt133 => ((disk_Padded.f (([9] : List Int))).bind fun t143 => ((disk_Do.f bt133.1 bt133.2.1 false 0 t143).bind fun bt146 => ((disk_Crash.f bt146.1 bt146.2.1 (([0, 1] : List Int))).bind fun bt156 => ((disk_Read.f bt156.1 bt156.2.1 0 2).bind fun bt163 => ((fanlightlaw05_num.f bt113.2.2).bind fun t167 => ((fanlightlaw05_num.f bt133.2.2).bind fun t168 => ((fanlightlaw05_num.f bt146.2.2).bind fun t169 => ((fanlightlaw05_num.f bt156.2.2).bind fun t170 => ((fanlightlaw05_num.f bt163.2).bind fun t171 => (if (wrap64 ((wrap64 ((wrap64 ((wrap64 (t167 + t168)) + t169)) + t170)) + t171)) = 0 then (if (bt163.1.length : Int) = 96 then (if 0 < (bt163.1.length : Int) then (if (rd bt163.1 0) = 9 then (if 49 < (bt163.1.length : Int) then (some ((rd bt163.1 49) == 0)) else (none)) else (some false)) else (none)) else (some false)) else (some false))))))))))))) else (none)))) else (none))) = some r := h
 clear h
 replace H := Option.bind_eq_some_iff.mp H
 obtain ⟨⟨t113, t116, t119⟩, A10, H⟩ := H
 replace H : (if 49 ≤ 281474976710656 then ((some (List.replicate 49 0 : List Int)).bind fun y121 => ((some (([7] : List Int) : List Int)).bind fun y124 => (if y121.length + y124.length < 140737488355328 then ((disk_Padded.f (y121 ++ y124)).bind fun t130 => ((disk_Do.f t113 t116 false 0 t130).bind fun bt133 => ((disk_Padded.f (([9] : List Int))).bind fun t143 => ((disk_Do.f bt133.1 bt133.2.1 false 0 t143).bind fun bt146 => ((disk_Crash.f bt146.1 bt146.2.1 (([0, 1] : List Int))).bind fun bt156 => ((disk_Read.f bt156.1 bt156.2.1 0 2).bind fun bt163 => ((fanlightlaw05_num.f t119).bind fun t167 => ((fanlightlaw05_num.f bt133.2.2).bind fun t168 => ((fanlightlaw05_num.f bt146.2.2).bind fun t169 => ((fanlightlaw05_num.f bt156.2.2).bind fun t170 => ((fanlightlaw05_num.f bt163.2).bind fun t171 => (if (wrap64 ((wrap64 ((wrap64 ((wrap64 (t167 + t168)) + t169)) + t170)) + t171)) = 0 then (if (bt163.1.length : Int) = 96 then (if 0 < (bt163.1.length : Int) then (if (rd bt163.1 0) = 9 then (if 49 < (bt163.1.length : Int) then (some ((rd bt163.1 49) == 0)) else (none)) else (some false)) else (none)) else (some false)) else (some false))))))))))))) else (none)))) else (none)) = some r := H
 have A1 := Aside0.mk A10
 clear A10
 by_cases c2 : 49 ≤ 281474976710656
 ·
  rw [if_pos c2] at H
  have c2b0 := eq_true c2
  have c2b1 : decide (49 ≤ 281474976710656) = true := decide_eq_true c2
  clear c2
  obtain ⟨y121, hy121⟩ : ∃ y_ : List Int, y_ = (List.replicate 49 0) := ⟨_, rfl⟩
  replace H : ((some (([7] : List Int) : List Int)).bind fun y124 => (if y121.length + y124.length < 140737488355328 then ((disk_Padded.f (y121 ++ y124)).bind fun t130 => ((disk_Do.f t113 t116 false 0 t130).bind fun bt133 => ((disk_Padded.f (([9] : List Int))).bind fun t143 => ((disk_Do.f bt133.1 bt133.2.1 false 0 t143).bind fun bt146 => ((disk_Crash.f bt146.1 bt146.2.1 (([0, 1] : List Int))).bind fun bt156 => ((disk_Read.f bt156.1 bt156.2.1 0 2).bind fun bt163 => ((fanlightlaw05_num.f t119).bind fun t167 => ((fanlightlaw05_num.f bt133.2.2).bind fun t168 => ((fanlightlaw05_num.f bt146.2.2).bind fun t169 => ((fanlightlaw05_num.f bt156.2.2).bind fun t170 => ((fanlightlaw05_num.f bt163.2).bind fun t171 => (if (wrap64 ((wrap64 ((wrap64 ((wrap64 (t167 + t168)) + t169)) + t170)) + t171)) = 0 then (if (bt163.1.length : Int) = 96 then (if 0 < (bt163.1.length : Int) then (if (rd bt163.1 0) = 9 then (if 49 < (bt163.1.length : Int) then (some ((rd bt163.1 49) == 0)) else (none)) else (some false)) else (none)) else (some false)) else (some false))))))))))))) else (none))) = some r := by first | (rw [hy121]; with_reducible exact H) | (have H2_ := (Option.bind_some _ _).symm.trans H; rw [hy121]; with_reducible exact H2_) | (have H2_ := (Option.bind_some _ _).symm.trans H; with_reducible exact H2_) | with_reducible exact H | (rw [hy121]; exact H) | exact H
  have Ny121 := Aside0.mk hy121
  clear hy121
  obtain ⟨y124, hy124⟩ : ∃ y_ : List Int, y_ = (([7] : List Int)) := ⟨_, rfl⟩
  replace H : (if y121.length + y124.length < 140737488355328 then ((disk_Padded.f (y121 ++ y124)).bind fun t130 => ((disk_Do.f t113 t116 false 0 t130).bind fun bt133 => ((disk_Padded.f (([9] : List Int))).bind fun t143 => ((disk_Do.f bt133.1 bt133.2.1 false 0 t143).bind fun bt146 => ((disk_Crash.f bt146.1 bt146.2.1 (([0, 1] : List Int))).bind fun bt156 => ((disk_Read.f bt156.1 bt156.2.1 0 2).bind fun bt163 => ((fanlightlaw05_num.f t119).bind fun t167 => ((fanlightlaw05_num.f bt133.2.2).bind fun t168 => ((fanlightlaw05_num.f bt146.2.2).bind fun t169 => ((fanlightlaw05_num.f bt156.2.2).bind fun t170 => ((fanlightlaw05_num.f bt163.2).bind fun t171 => (if (wrap64 ((wrap64 ((wrap64 ((wrap64 (t167 + t168)) + t169)) + t170)) + t171)) = 0 then (if (bt163.1.length : Int) = 96 then (if 0 < (bt163.1.length : Int) then (if (rd bt163.1 0) = 9 then (if 49 < (bt163.1.length : Int) then (some ((rd bt163.1 49) == 0)) else (none)) else (some false)) else (none)) else (some false)) else (some false))))))))))))) else (none)) = some r := by first | (rw [hy124]; with_reducible exact H) | (have H2_ := (Option.bind_some _ _).symm.trans H; rw [hy124]; with_reducible exact H2_) | (have H2_ := (Option.bind_some _ _).symm.trans H; with_reducible exact H2_) | with_reducible exact H | (rw [hy124]; exact H) | exact H
  have Ny124 := Aside0.mk hy124
  clear hy124
  by_cases c3 : y121.length + y124.length < 140737488355328
  ·
   rw [if_pos c3] at H
   have LMc3 := Aside0.mk c3
   clear c3
   obtain ⟨y127, hy127⟩ : ∃ y_ : List Int, y_ = (y121 ++ y124) := ⟨_, rfl⟩
   replace H : ((disk_Padded.f y127).bind fun t130 => ((disk_Do.f t113 t116 false 0 t130).bind fun bt133 => ((disk_Padded.f (([9] : List Int))).bind fun t143 => ((disk_Do.f bt133.1 bt133.2.1 false 0 t143).bind fun bt146 => ((disk_Crash.f bt146.1 bt146.2.1 (([0, 1] : List Int))).bind fun bt156 => ((disk_Read.f bt156.1 bt156.2.1 0 2).bind fun bt163 => ((fanlightlaw05_num.f t119).bind fun t167 => ((fanlightlaw05_num.f bt133.2.2).bind fun t168 => ((fanlightlaw05_num.f bt146.2.2).bind fun t169 => ((fanlightlaw05_num.f bt156.2.2).bind fun t170 => ((fanlightlaw05_num.f bt163.2).bind fun t171 => (if (wrap64 ((wrap64 ((wrap64 ((wrap64 (t167 + t168)) + t169)) + t170)) + t171)) = 0 then (if (bt163.1.length : Int) = 96 then (if 0 < (bt163.1.length : Int) then (if (rd bt163.1 0) = 9 then (if 49 < (bt163.1.length : Int) then (some ((rd bt163.1 49) == 0)) else (none)) else (some false)) else (none)) else (some false)) else (some false))))))))))))) = some r := by first | (rw [hy127]; with_reducible exact H) | (have H2_ := (Option.bind_some _ _).symm.trans H; rw [hy127]; with_reducible exact H2_) | (have H2_ := (Option.bind_some _ _).symm.trans H; with_reducible exact H2_) | with_reducible exact H | (rw [hy127]; exact H) | exact H
   have Ny127 := Aside0.mk hy127
   clear hy127
   replace H := Option.bind_eq_some_iff.mp H
   obtain ⟨t130, A40, H⟩ := H
   replace H : ((disk_Do.f t113 t116 false 0 t130).bind fun bt133 => ((disk_Padded.f (([9] : List Int))).bind fun t143 => ((disk_Do.f bt133.1 bt133.2.1 false 0 t143).bind fun bt146 => ((disk_Crash.f bt146.1 bt146.2.1 (([0, 1] : List Int))).bind fun bt156 => ((disk_Read.f bt156.1 bt156.2.1 0 2).bind fun bt163 => ((fanlightlaw05_num.f t119).bind fun t167 => ((fanlightlaw05_num.f bt133.2.2).bind fun t168 => ((fanlightlaw05_num.f bt146.2.2).bind fun t169 => ((fanlightlaw05_num.f bt156.2.2).bind fun t170 => ((fanlightlaw05_num.f bt163.2).bind fun t171 => (if (wrap64 ((wrap64 ((wrap64 ((wrap64 (t167 + t168)) + t169)) + t170)) + t171)) = 0 then (if (bt163.1.length : Int) = 96 then (if 0 < (bt163.1.length : Int) then (if (rd bt163.1 0) = 9 then (if 49 < (bt163.1.length : Int) then (some ((rd bt163.1 49) == 0)) else (none)) else (some false)) else (none)) else (some false)) else (some false)))))))))))) = some r := H
   have A4 := Aside0.mk A40
   clear A40
   replace H := Option.bind_eq_some_iff.mp H
   obtain ⟨⟨t133, t136, t139⟩, A50, H⟩ := H
   replace H : ((disk_Padded.f (([9] : List Int))).bind fun t143 => ((disk_Do.f t133 t136 false 0 t143).bind fun bt146 => ((disk_Crash.f bt146.1 bt146.2.1 (([0, 1] : List Int))).bind fun bt156 => ((disk_Read.f bt156.1 bt156.2.1 0 2).bind fun bt163 => ((fanlightlaw05_num.f t119).bind fun t167 => ((fanlightlaw05_num.f t139).bind fun t168 => ((fanlightlaw05_num.f bt146.2.2).bind fun t169 => ((fanlightlaw05_num.f bt156.2.2).bind fun t170 => ((fanlightlaw05_num.f bt163.2).bind fun t171 => (if (wrap64 ((wrap64 ((wrap64 ((wrap64 (t167 + t168)) + t169)) + t170)) + t171)) = 0 then (if (bt163.1.length : Int) = 96 then (if 0 < (bt163.1.length : Int) then (if (rd bt163.1 0) = 9 then (if 49 < (bt163.1.length : Int) then (some ((rd bt163.1 49) == 0)) else (none)) else (some false)) else (none)) else (some false)) else (some false))))))))))) = some r := H
   have A5 := Aside0.mk A50
   clear A50
   obtain ⟨y140, hy140⟩ : ∃ y_ : List Int, y_ = (([9] : List Int)) := ⟨_, rfl⟩
   replace H : ((disk_Padded.f y140).bind fun t143 => ((disk_Do.f t133 t136 false 0 t143).bind fun bt146 => ((disk_Crash.f bt146.1 bt146.2.1 (([0, 1] : List Int))).bind fun bt156 => ((disk_Read.f bt156.1 bt156.2.1 0 2).bind fun bt163 => ((fanlightlaw05_num.f t119).bind fun t167 => ((fanlightlaw05_num.f t139).bind fun t168 => ((fanlightlaw05_num.f bt146.2.2).bind fun t169 => ((fanlightlaw05_num.f bt156.2.2).bind fun t170 => ((fanlightlaw05_num.f bt163.2).bind fun t171 => (if (wrap64 ((wrap64 ((wrap64 ((wrap64 (t167 + t168)) + t169)) + t170)) + t171)) = 0 then (if (bt163.1.length : Int) = 96 then (if 0 < (bt163.1.length : Int) then (if (rd bt163.1 0) = 9 then (if 49 < (bt163.1.length : Int) then (some ((rd bt163.1 49) == 0)) else (none)) else (some false)) else (none)) else (some false)) else (some false))))))))))) = some r := by first | (rw [hy140]; with_reducible exact H) | (have H2_ := (Option.bind_some _ _).symm.trans H; rw [hy140]; with_reducible exact H2_) | (have H2_ := (Option.bind_some _ _).symm.trans H; with_reducible exact H2_) | with_reducible exact H | (rw [hy140]; exact H) | exact H
   have Ny140 := Aside0.mk hy140
   clear hy140
   replace H := Option.bind_eq_some_iff.mp H
   obtain ⟨t143, A60, H⟩ := H
   replace H : ((disk_Do.f t133 t136 false 0 t143).bind fun bt146 => ((disk_Crash.f bt146.1 bt146.2.1 (([0, 1] : List Int))).bind fun bt156 => ((disk_Read.f bt156.1 bt156.2.1 0 2).bind fun bt163 => ((fanlightlaw05_num.f t119).bind fun t167 => ((fanlightlaw05_num.f t139).bind fun t168 => ((fanlightlaw05_num.f bt146.2.2).bind fun t169 => ((fanlightlaw05_num.f bt156.2.2).bind fun t170 => ((fanlightlaw05_num.f bt163.2).bind fun t171 => (if (wrap64 ((wrap64 ((wrap64 ((wrap64 (t167 + t168)) + t169)) + t170)) + t171)) = 0 then (if (bt163.1.length : Int) = 96 then (if 0 < (bt163.1.length : Int) then (if (rd bt163.1 0) = 9 then (if 49 < (bt163.1.length : Int) then (some ((rd bt163.1 49) == 0)) else (none)) else (some false)) else (none)) else (some false)) else (some false)))))))))) = some r := H
   have A6 := Aside0.mk A60
   clear A60
   replace H := Option.bind_eq_some_iff.mp H
   obtain ⟨⟨t146, t149, t152⟩, A70, H⟩ := H
   replace H : ((disk_Crash.f t146 t149 (([0, 1] : List Int))).bind fun bt156 => ((disk_Read.f bt156.1 bt156.2.1 0 2).bind fun bt163 => ((fanlightlaw05_num.f t119).bind fun t167 => ((fanlightlaw05_num.f t139).bind fun t168 => ((fanlightlaw05_num.f t152).bind fun t169 => ((fanlightlaw05_num.f bt156.2.2).bind fun t170 => ((fanlightlaw05_num.f bt163.2).bind fun t171 => (if (wrap64 ((wrap64 ((wrap64 ((wrap64 (t167 + t168)) + t169)) + t170)) + t171)) = 0 then (if (bt163.1.length : Int) = 96 then (if 0 < (bt163.1.length : Int) then (if (rd bt163.1 0) = 9 then (if 49 < (bt163.1.length : Int) then (some ((rd bt163.1 49) == 0)) else (none)) else (some false)) else (none)) else (some false)) else (some false))))))))) = some r := H
   have A7 := Aside0.mk A70
   clear A70
   obtain ⟨y153, hy153⟩ : ∃ y_ : List Int, y_ = (([0, 1] : List Int)) := ⟨_, rfl⟩
   replace H : ((disk_Crash.f t146 t149 y153).bind fun bt156 => ((disk_Read.f bt156.1 bt156.2.1 0 2).bind fun bt163 => ((fanlightlaw05_num.f t119).bind fun t167 => ((fanlightlaw05_num.f t139).bind fun t168 => ((fanlightlaw05_num.f t152).bind fun t169 => ((fanlightlaw05_num.f bt156.2.2).bind fun t170 => ((fanlightlaw05_num.f bt163.2).bind fun t171 => (if (wrap64 ((wrap64 ((wrap64 ((wrap64 (t167 + t168)) + t169)) + t170)) + t171)) = 0 then (if (bt163.1.length : Int) = 96 then (if 0 < (bt163.1.length : Int) then (if (rd bt163.1 0) = 9 then (if 49 < (bt163.1.length : Int) then (some ((rd bt163.1 49) == 0)) else (none)) else (some false)) else (none)) else (some false)) else (some false))))))))) = some r := by first | (rw [hy153]; with_reducible exact H) | (have H2_ := (Option.bind_some _ _).symm.trans H; rw [hy153]; with_reducible exact H2_) | (have H2_ := (Option.bind_some _ _).symm.trans H; with_reducible exact H2_) | with_reducible exact H | (rw [hy153]; exact H) | exact H
   have Ny153 := Aside0.mk hy153
   clear hy153
   replace H := Option.bind_eq_some_iff.mp H
   obtain ⟨⟨t156, t159, t162⟩, A80, H⟩ := H
   replace H : ((disk_Read.f t156 t159 0 2).bind fun bt163 => ((fanlightlaw05_num.f t119).bind fun t167 => ((fanlightlaw05_num.f t139).bind fun t168 => ((fanlightlaw05_num.f t152).bind fun t169 => ((fanlightlaw05_num.f t162).bind fun t170 => ((fanlightlaw05_num.f bt163.2).bind fun t171 => (if (wrap64 ((wrap64 ((wrap64 ((wrap64 (t167 + t168)) + t169)) + t170)) + t171)) = 0 then (if (bt163.1.length : Int) = 96 then (if 0 < (bt163.1.length : Int) then (if (rd bt163.1 0) = 9 then (if 49 < (bt163.1.length : Int) then (some ((rd bt163.1 49) == 0)) else (none)) else (some false)) else (none)) else (some false)) else (some false)))))))) = some r := H
   have A8 := Aside0.mk A80
   clear A80
   replace H := Option.bind_eq_some_iff.mp H
   obtain ⟨⟨t163, t166⟩, A90, H⟩ := H
   replace H : ((fanlightlaw05_num.f t119).bind fun t167 => ((fanlightlaw05_num.f t139).bind fun t168 => ((fanlightlaw05_num.f t152).bind fun t169 => ((fanlightlaw05_num.f t162).bind fun t170 => ((fanlightlaw05_num.f t166).bind fun t171 => (if (wrap64 ((wrap64 ((wrap64 ((wrap64 (t167 + t168)) + t169)) + t170)) + t171)) = 0 then (if (t163.length : Int) = 96 then (if 0 < (t163.length : Int) then (if (rd t163 0) = 9 then (if 49 < (t163.length : Int) then (some ((rd t163 49) == 0)) else (none)) else (some false)) else (none)) else (some false)) else (some false))))))) = some r := H
   have A9 := Aside0.mk A90
   clear A90
   replace H := Option.bind_eq_some_iff.mp H
   obtain ⟨t167, A100, H⟩ := H
   replace H : ((fanlightlaw05_num.f t139).bind fun t168 => ((fanlightlaw05_num.f t152).bind fun t169 => ((fanlightlaw05_num.f t162).bind fun t170 => ((fanlightlaw05_num.f t166).bind fun t171 => (if (wrap64 ((wrap64 ((wrap64 ((wrap64 (t167 + t168)) + t169)) + t170)) + t171)) = 0 then (if (t163.length : Int) = 96 then (if 0 < (t163.length : Int) then (if (rd t163 0) = 9 then (if 49 < (t163.length : Int) then (some ((rd t163 49) == 0)) else (none)) else (some false)) else (none)) else (some false)) else (some false)))))) = some r := H
   have A10 := Aside0.mk A100
   clear A100
   replace H := Option.bind_eq_some_iff.mp H
   obtain ⟨t168, A110, H⟩ := H
   replace H : ((fanlightlaw05_num.f t152).bind fun t169 => ((fanlightlaw05_num.f t162).bind fun t170 => ((fanlightlaw05_num.f t166).bind fun t171 => (if (wrap64 ((wrap64 ((wrap64 ((wrap64 (t167 + t168)) + t169)) + t170)) + t171)) = 0 then (if (t163.length : Int) = 96 then (if 0 < (t163.length : Int) then (if (rd t163 0) = 9 then (if 49 < (t163.length : Int) then (some ((rd t163 49) == 0)) else (none)) else (some false)) else (none)) else (some false)) else (some false))))) = some r := H
   have A11 := Aside0.mk A110
   clear A110
   replace H := Option.bind_eq_some_iff.mp H
   obtain ⟨t169, A120, H⟩ := H
   replace H : ((fanlightlaw05_num.f t162).bind fun t170 => ((fanlightlaw05_num.f t166).bind fun t171 => (if (wrap64 ((wrap64 ((wrap64 ((wrap64 (t167 + t168)) + t169)) + t170)) + t171)) = 0 then (if (t163.length : Int) = 96 then (if 0 < (t163.length : Int) then (if (rd t163 0) = 9 then (if 49 < (t163.length : Int) then (some ((rd t163 49) == 0)) else (none)) else (some false)) else (none)) else (some false)) else (some false)))) = some r := H
   have A12 := Aside0.mk A120
   clear A120
   replace H := Option.bind_eq_some_iff.mp H
   obtain ⟨t170, A130, H⟩ := H
   replace H : ((fanlightlaw05_num.f t166).bind fun t171 => (if (wrap64 ((wrap64 ((wrap64 ((wrap64 (t167 + t168)) + t169)) + t170)) + t171)) = 0 then (if (t163.length : Int) = 96 then (if 0 < (t163.length : Int) then (if (rd t163 0) = 9 then (if 49 < (t163.length : Int) then (some ((rd t163 49) == 0)) else (none)) else (some false)) else (none)) else (some false)) else (some false))) = some r := H
   have A13 := Aside0.mk A130
   clear A130
   replace H := Option.bind_eq_some_iff.mp H
   obtain ⟨t171, A140, H⟩ := H
   replace H : (if (wrap64 ((wrap64 ((wrap64 ((wrap64 (t167 + t168)) + t169)) + t170)) + t171)) = 0 then (if (t163.length : Int) = 96 then (if 0 < (t163.length : Int) then (if (rd t163 0) = 9 then (if 49 < (t163.length : Int) then (some ((rd t163 49) == 0)) else (none)) else (some false)) else (none)) else (some false)) else (some false)) = some r := H
   have A14 := Aside0.mk A140
   clear A140
   by_cases c15 : (wrap64 ((wrap64 ((wrap64 ((wrap64 (t167 + t168)) + t169)) + t170)) + t171)) = 0
   ·
    rw [if_pos c15] at H
    have c15b0 : ((wrap64 ((wrap64 ((wrap64 ((wrap64 (t167 + t168)) + t169)) + t170)) + t171)) == 0) = true := beq_iff_eq.mpr c15
    have c15b1 : ((wrap64 ((wrap64 ((wrap64 ((wrap64 (t167 + t168)) + t169)) + t170)) + t171)) != 0) = false := bne_eq_false_iff_eq.mpr c15
    clear c15
    by_cases c16 : (t163.length : Int) = 96
    ·
     rw [if_pos c16] at H
     have c16b0 : ((t163.length : Int) == 96) = true := beq_iff_eq.mpr c16
     have c16b1 : ((t163.length : Int) != 96) = false := bne_eq_false_iff_eq.mpr c16
     clear c16
     by_cases c17 : 0 < (t163.length : Int)
     ·
      rw [if_pos c17] at H
      have c17b0 : decide (0 < (t163.length : Int)) = true := decide_eq_true c17
      have c17b1 : decide (0 < t163.length) = true := decide_eq_true (by omega)
      clear c17
      by_cases c18 : (rd t163 0) = 9
      ·
       rw [if_pos c18] at H
       have c18b0 : ((rd t163 0) == 9) = true := beq_iff_eq.mpr c18
       have c18b1 : ((rd t163 0) != 9) = false := bne_eq_false_iff_eq.mpr c18
       clear c18
       by_cases c19 : 49 < (t163.length : Int)
       ·
        rw [if_pos c19] at H
        have c19b0 : decide (49 < (t163.length : Int)) = true := decide_eq_true c19
        have c19b1 : decide (49 < t163.length) = true := decide_eq_true (by omega)
        clear c19
        obtain rfl := Option.some.inj H
        go_enter Try.func29, Try.ntmps29
        try go_wp2_with (first | ((with_reducible refine gate_callee (f := 51) rfl ?_); refine goesL_ (some 9) rfl rfl Try.func51 (by kernel_rfl) rfl #[.int .i64 2] rfl (by (try simp only [List.map_toArray, List.map_cons, List.map_nil]); first | done | rfl | (simp only [List.length_drop, List.length_take]; rfl)) ?_; (with_reducible refine (disk_New.calls k 2 t113 t116 t119 _ A1.out).mono ?_); rintro e w20 ⟨v114, v117, rfl, ho0, ho1, hb⟩; refine ⟨_, rfl, ?_⟩; have n0_ := Aside0.mk (Kd.N_lower (Kd.N_mono (ok' := fun k_ => some k_ ≠ (v117 : Value).ownBlock) ho0 (fun k_ hk_ => hk_.2)) (below_size (by repeat (first | (with_reducible first | exact HB.out | apply below_alloc | apply pw_below_drewN | apply below_drew1) | exact HB.out)))); have n1_ := Aside0.mk (Kd.N_lower (Kd.N_mono (ok' := fun k_ => some k_ ≠ (v114 : Value).ownBlock) ho1 (fun k_ hk_ => hk_.2)) (below_size (by repeat (first | (with_reducible first | exact HB.out | apply below_alloc | apply pw_below_drewN | apply below_drew1) | exact HB.out)))); have n2_ := Aside0.mk (below_step (by repeat (first | (with_reducible first | exact HB.out | apply below_alloc | apply pw_below_drewN | apply below_drew1) | exact HB.out)) hb); clear HB; have HO115 := n0_; have HO118 := n1_; have HB := n2_; clear n0_ n1_ n2_; (try clear hb); (try clear hb2); (try clear hk); (try clear hi); (try clear ho0); (try clear ho1)) | ((with_reducible refine gate_dst (N := 1) rfl ?_); (try (refine gate_guard (by rfl) ?_; dsimp only)); refine box_event ?hg (N := 1) ?hd (cs := #[.slice none 0 0, .slice none 0 0]) (t := 58) ?hr ?_; (case hd => rfl); (case hg => rfl); (case hr => first | (go_simp; done) | (go_simp; rfl)); intro gb120 hg w21 hbox hb; have n0_ := Aside0.mk (Kd.N_below (Kd.N_elderB (by (with_reducible repeat (first | apply Kd.N_alloc | apply Kd.N_drewN | apply Kd.N_drew)); exact HO115.out) gb120 (Nat.le_of_eq hg.symm)) hb); have n1_ := Aside0.mk (Kd.N_below (Kd.N_elderB (by (with_reducible repeat (first | apply Kd.N_alloc | apply Kd.N_drewN | apply Kd.N_drew)); exact HO118.out) gb120 (Nat.le_of_eq hg.symm)) hb); have n2_ := Aside0.mk (below_step (by repeat (first | (with_reducible first | exact HB.out | apply below_alloc | apply pw_below_drewN | apply below_drew1) | exact HB.out)) hb); have n3_ := Aside0.mk (hbox); have n4_ := Aside0.mk ((by rw [hg]; exact (below_size (by repeat (first | (with_reducible first | exact HB.out | apply below_alloc | apply pw_below_drewN | apply below_drew1) | exact HB.out))) : w.heap.size ≤ gb120)); have n5_ := Aside0.mk ((by rw [hg]; exact (below_size (by repeat (first | (with_reducible first | exact HB.out | apply below_alloc | apply pw_below_drewN | apply below_drew1) | exact HB.out))) : w.heap.size ≤ gb120)); clear HO115; clear HO118; clear HB; have HO115 := n0_; have HO118 := n1_; have HB := n2_; have BK120 := n3_; have GW120 := n4_; have GE120 := n5_; clear n0_ n1_ n2_ n3_ n4_ n5_; clear hb hbox hg; obtain ⟨Ao22, co22, eo22⟩ := Kd.N_slice HO115.out; subst eo22; have hcz23_0 : w21.cell? ⟨gb120, 0, none⟩ = some (.slice none 0 0) := (blk_cell BK120.out 0).trans rfl; have hcz23_1 : w21.cell? ⟨gb120, 1, none⟩ = some (.slice none 0 0) := (blk_cell BK120.out 1).trans rfl; have hfz23_0 := blk_frozen BK120.out 0; have hfz23_1 := blk_frozen BK120.out 1; obtain ⟨Ao24, co24, eo24⟩ := Kd.N_slice HO118.out; subst eo24))
        have n0_ : Aside0 (Kd.N (Kd.slice 5 (Kd.int .u8)) 22 ((w21.setCell ⟨gb120, 0, none⟩ (.slice Ao22 t113.length co22)).setCell ⟨gb120, 1, none⟩ (.slice Ao24 t116.length co24)) w.heap.size (fun k_ => some k_ ≠ (.slice Ao24 t116.length co24 : Value).ownBlock ∧ k_ ≠ gb120) (.slice Ao22 t113.length co22) t113) := ⟨by (with_reducible repeat (first | apply Kd.N_alloc | apply Kd.N_drewN | apply Kd.N_drew)); exact Kd.N_mono (Kd.N_far (p := ⟨gb120, 1, none⟩) (Kd.N_far (p := ⟨gb120, 0, none⟩) (Kd.N_mono HO115.out (fun k_ hk => (⟨hk, hk.2⟩ : _ ∧ k_ ≠ gb120))) (fun _ hk => hk.2) (.slice Ao22 t113.length co22)) (fun _ hk => hk.2) (.slice Ao24 t116.length co24)) (fun _ hk => ⟨hk.1.1, hk.1.2⟩)⟩
        have n1_ : Aside0 (Kd.N k57 57 ((w21.setCell ⟨gb120, 0, none⟩ (.slice Ao22 t113.length co22)).setCell ⟨gb120, 1, none⟩ (.slice Ao24 t116.length co24)) w.heap.size (fun k_ => some k_ ≠ (.slice Ao22 t113.length co22 : Value).ownBlock ∧ k_ ≠ gb120) (.slice Ao24 t116.length co24) t116) := ⟨by (with_reducible repeat (first | apply Kd.N_alloc | apply Kd.N_drewN | apply Kd.N_drew)); exact Kd.N_mono (Kd.N_far (p := ⟨gb120, 1, none⟩) (Kd.N_far (p := ⟨gb120, 0, none⟩) (Kd.N_mono HO118.out (fun k_ hk => (⟨hk, hk.2⟩ : _ ∧ k_ ≠ gb120))) (fun _ hk => hk.2) (.slice Ao22 t113.length co22)) (fun _ hk => hk.2) (.slice Ao24 t116.length co24)) (fun _ hk => ⟨hk.1.1, hk.1.2⟩)⟩
        have n2_ : Aside0 (((w21.setCell ⟨gb120, 0, none⟩ (.slice Ao22 t113.length co22)).setCell ⟨gb120, 1, none⟩ (.slice Ao24 t116.length co24)).heap[gb120]? = some (.cells #[.slice Ao22 t113.length co22, .slice Ao24 t116.length co24] 58 (0, 0))) := ⟨by (with_reducible repeat (first | refine blk_drewN ?_ _ | refine blk_drew ?_ | refine blk_alloc ?_ _)); refine blk_put (cs := #[.slice Ao22 t113.length co22, .slice none 0 0]) ?_ 1 _ rfl; (with_reducible repeat (first | refine blk_drewN ?_ _ | refine blk_drew ?_ | refine blk_alloc ?_ _)); refine blk_put (cs := #[.slice none 0 0, .slice none 0 0]) ?_ 0 _ rfl; (with_reducible repeat (first | refine blk_drewN ?_ _ | refine blk_drew ?_ | refine blk_alloc ?_ _)); exact BK120.out⟩
        have n3_ : Aside0 (Below w.heap.size w ((w21.setCell ⟨gb120, 0, none⟩ (.slice Ao22 t113.length co22)).setCell ⟨gb120, 1, none⟩ (.slice Ao24 t116.length co24))) := ⟨by repeat (first | (with_reducible first | exact HB.out | apply below_alloc | apply pw_below_drewN | apply below_drew1 | refine below_set ?_ GE120.out) | exact HB.out)⟩
        (try clear HO115)
        (try clear HO118)
        (try clear BK120)
        (try clear HB)
        generalize ((w21.setCell ⟨gb120, 0, none⟩ (.slice Ao22 t113.length co22)).setCell ⟨gb120, 1, none⟩ (.slice Ao24 t116.length co24)) = w25 at n0_ n1_ n2_ n3_ ⊢
        have HO115 := n0_
        have HO118 := n1_
        have BK120 := n2_
        have HB := n3_
        clear n0_ n1_ n2_ n3_
        have n0_ := Aside0.mk (Kd.N_drew HO115.out)
        have n1_ := Aside0.mk (Kd.N_drew HO118.out)
        have n2_ := Aside0.mk (blk_drew BK120.out)
        have n3_ := Aside0.mk (below_drew1 HB.out)
        clear HO115
        clear HO118
        clear BK120
        clear HB
        have HO115 := n0_
        have HO118 := n1_
        have BK120 := n2_
        have HB := n3_
        clear n0_ n1_ n2_ n3_
        refine start_ (n := 12) (S := fun w' => w'.cell? ⟨gb120, 0, none⟩ = some (.slice Ao22 t113.length co22) ∧ w'.cell? ⟨gb120, 1, none⟩ = some (.slice Ao24 t116.length co24)) (ds := [10]) #[false, false, false, false, false, false, false, false, false, false, false, false] (by kernel_rfl) rfl rfl ⟨(blk_cell BK120.out 0).trans rfl, (blk_cell BK120.out 1).trans rfl⟩ (fun hHeld => ?_); refine with_tabW fanlightlaw05_alive.tab2 fanlightlaw05_alive.bits2 (fun HT_ HW_ => ?_)
        generalize w25.drew = w26 at HO115 HO118 BK120 HB hHeld ⊢
        refine take_ (i := 0) (N := some 13) (v := ?_) (a' := ?_) #[true, false, false, false, false, false, false, false, false, false, false, false] rfl rfl (take_ofW HT_.out HW_.out (by kernel_rfl)) (fun _ _ _ h => h) (Or.inl ⟨by rfl, ?_⟩) hHeld ?_ ?_
        rotate_left
        ·
         rintro w' ⟨s0, s1⟩
         go_simp
         with_reducible rfl
        rotate_left
        ·
         simp only [Act.put, List.setIfInBounds_toArray, List.set_cons_zero, List.set_cons_succ, i64_w, i32_w]
         rfl
        refine join_ (σ := Value × Value) 9 #[true, true, true, false, false, false, false, false, false, false, false, false] (fun s_ => [(14, s_.1), (15, s_.2)]) (fun s_ w' => (w'.cell? ⟨gb120, 0, none⟩ = some (.slice Ao22 t113.length co22) ∧ w'.cell? ⟨gb120, 1, none⟩ = some (.slice Ao24 t116.length co24)) ∧ (Kd.N (Kd.slice 5 (Kd.int .u8)) 22 w' w.heap.size (fun k_ => some k_ ≠ (.slice Ao24 t116.length co24 : Value).ownBlock ∧ some k_ ≠ (s_.1 : Value).ownBlock ∧ some k_ ≠ (s_.2 : Value).ownBlock ∧ k_ ≠ gb120) (.slice Ao22 t113.length co22) t113) ∧ (Kd.N k57 57 w' w.heap.size (fun k_ => some k_ ≠ (.slice Ao22 t113.length co22 : Value).ownBlock ∧ some k_ ≠ (s_.1 : Value).ownBlock ∧ some k_ ≠ (s_.2 : Value).ownBlock ∧ k_ ≠ gb120) (.slice Ao24 t116.length co24) t116) ∧ (Kd.R (Kd.int .u8) 5 w' w.heap.size (fun k_ => some k_ ≠ (s_.2 : Value).ownBlock) s_.1 y121) ∧ (Kd.R (Kd.int .u8) 5 w' w.heap.size (fun k_ => some k_ ≠ (s_.1 : Value).ownBlock) s_.2 y124) ∧ (w'.heap[gb120]? = some (.cells #[.slice Ao22 t113.length co22, .slice Ao24 t116.length co24] 58 (0, 0))) ∧ (Below w.heap.size w w')) ?_ ?_
        rotate_left
        ·
         intro hCont
         refine two_ (i := 1) (j := 2) (Ni := some 14) (Nj := some 15) #[true, true, false, false, false, false, false, false, false, false, false, false] #[true, false, true, false, false, false, false, false, false, false, false, false] rfl rfl rfl rfl (two_of HT_.out (by kernel_rfl)) (by decide) (by decide) (fun K hK => ?_) (fun K hK => ?_)
         ·
          skip
          refine Kd.R_make_step (Kd.int .u8) _ 5 (by rfl) (N := 14) rfl 22 _ _ rfl 49 rfl rfl Try.underlying22 (.int .u8 0) 1 info5 rfl (by decide) (by omega) 0 (ok := fun _ => True) (okp := fun _ => True) rfl (fun _ hk => hk) trivial (by omega) (by omega) (Below.refl _ _) (Nat.le_refl _) ?_
          intro v122 w27 ho28 hb hg_ hnew_
          clear hg_ hnew_
          (first | rw [← Ny121.out] at ho28 | (simp only [Int.reduceToNat] at ho28; rw [← Ny121.out] at ho28))
          have n0_ := Aside0.mk (Kd.N_elder' (by (with_reducible repeat (first | apply Kd.N_alloc | apply Kd.N_drewN | apply Kd.N_drew)); exact HO115.out) (Kd.R_base ho28) hb)
          have n1_ := Aside0.mk (Kd.N_elder' (by (with_reducible repeat (first | apply Kd.N_alloc | apply Kd.N_drewN | apply Kd.N_drew)); exact HO118.out) (Kd.R_base ho28) hb)
          have n2_ := Aside0.mk (Kd.R_lower ho28 (below_size (by repeat (first | (with_reducible first | exact HB.out | apply below_alloc | apply pw_below_drewN | apply below_drew1 | refine below_set ?_ GE120.out) | exact HB.out))))
          have n3_ := Aside0.mk (blk_below (g := gb120) (o := .cells #[.slice Ao22 t113.length co22, .slice Ao24 t116.length co24] 58 (0, 0)) (by (with_reducible repeat (first | refine blk_drewN ?_ _ | refine blk_drew ?_ | refine blk_alloc ?_ _)); exact BK120.out) hb)
          have n4_ := Aside0.mk (below_step (by repeat (first | (with_reducible first | exact HB.out | apply below_alloc | apply pw_below_drewN | apply below_drew1 | refine below_set ?_ GE120.out) | exact HB.out)) hb)
          clear HO115
          clear HO118
          clear BK120
          clear HB
          have HO115 := n0_
          have HO118 := n1_
          have HO123 := n2_
          have BK120 := n3_
          have HB := n4_
          clear n0_ n1_ n2_ n3_ n4_
          clear hb ho28
          refine hK.out _ _ ⟨(blk_cell BK120.out 0).trans rfl, (blk_cell BK120.out 1).trans rfl⟩ (fun hHeld => ?_)
          clear hK K
          refine norm_ (a' := ?_) ?_ ?_
          rotate_left
          ·
           show Act.put _ (some 14) _ = _
           simp only [Act.put, List.setIfInBounds_toArray, List.set_cons_zero, List.set_cons_succ, i64_w, i32_w]
           rfl
          refine one_ (i := 2) (N := some 15) #[true, true, true, false, false, false, false, false, false, false, false, false] rfl rfl (one_of HT_.out (by kernel_rfl)) (by decide) (fun K hK => ?_)
          refine Kd.R_lit_step (Kd.int .u8) _ 5 ?hg (N := 15) ?hd (xs := ([7] : List Int)) (inner := [.int .u8 7]) (ok := fun _ => True) (okp := fun _ => True) ?hr ?hp (fun _ hk => hk) trivial (Below.refl _ _) (Nat.le_refl _) (by simp) ?_; (case hd => rfl); (case hg => rfl); (case hr => first | (go_simp; done) | (go_simp; rfl)); (case hp => exact (Reps.one (show Kd.M (Kd.int .u8) _ _ _ 7 [.int .u8 7] from rfl) (Reps.none _ _)))
          intro v125 w29 ho30 hb hg_ hnew_
          clear hg_ hnew_
          (first | rw [← Ny124.out] at ho30 | (simp only [Int.reduceToNat] at ho30; rw [← Ny124.out] at ho30))
          have n0_ := Aside0.mk (Kd.N_elder' (by (with_reducible repeat (first | apply Kd.N_alloc | apply Kd.N_drewN | apply Kd.N_drew)); exact HO115.out) (Kd.R_base ho30) hb)
          have n1_ := Aside0.mk (Kd.N_elder' (by (with_reducible repeat (first | apply Kd.N_alloc | apply Kd.N_drewN | apply Kd.N_drew)); exact HO118.out) (Kd.R_base ho30) hb)
          have n2_ := Aside0.mk (Kd.R_elder' (by (with_reducible repeat (first | apply Kd.R_alloc | apply Kd.R_drewN | apply Kd.R_drew)); exact HO123.out) (Kd.R_base ho30) hb)
          have n3_ := Aside0.mk (Kd.R_lower (Kd.R_new' ho30 (Kd.R_lt (by (with_reducible repeat (first | apply Kd.R_alloc | apply Kd.R_drewN | apply Kd.R_drew)); exact HO123.out))) (below_size (by repeat (first | (with_reducible first | exact HB.out | apply below_alloc | apply pw_below_drewN | apply below_drew1 | refine below_set ?_ GE120.out) | exact HB.out))))
          have n4_ := Aside0.mk (blk_below (g := gb120) (o := .cells #[.slice Ao22 t113.length co22, .slice Ao24 t116.length co24] 58 (0, 0)) (by (with_reducible repeat (first | refine blk_drewN ?_ _ | refine blk_drew ?_ | refine blk_alloc ?_ _)); exact BK120.out) hb)
          have n5_ := Aside0.mk (below_step (by repeat (first | (with_reducible first | exact HB.out | apply below_alloc | apply pw_below_drewN | apply below_drew1 | refine below_set ?_ GE120.out) | exact HB.out)) hb)
          clear HO115
          clear HO118
          clear HO123
          clear BK120
          clear HB
          have HO115 := n0_
          have HO118 := n1_
          have HO123 := n2_
          have HO126 := n3_
          have BK120 := n4_
          have HB := n5_
          clear n0_ n1_ n2_ n3_ n4_ n5_
          clear hb ho30
          refine hK.out _ _ ⟨(blk_cell BK120.out 0).trans rfl, (blk_cell BK120.out 1).trans rfl⟩ (fun hHeld => ?_)
          clear hK K
          refine norm_ (a' := ?_) ?_ ?_
          rotate_left
          ·
           show Act.put _ (some 15) _ = _
           simp only [Act.put, List.setIfInBounds_toArray, List.set_cons_zero, List.set_cons_succ, i64_w, i32_w]
           rfl
          exact norm_ (by simp only [putAll, Act.put, List.setIfInBounds_toArray, List.set_cons_zero, List.set_cons_succ]) (hCont (v122, v125) _ ⟨hHeld, (by (with_reducible repeat (first | apply Kd.N_alloc | apply Kd.N_drewN | apply Kd.N_drew)); exact Kd.N_mono HO115.out (fun _ hk => ⟨hk.1.1.1, ⟨hk.1.2, ⟨hk.2, hk.1.1.2⟩⟩⟩)), (by (with_reducible repeat (first | apply Kd.N_alloc | apply Kd.N_drewN | apply Kd.N_drew)); exact Kd.N_mono HO118.out (fun _ hk => ⟨hk.1.1.1, ⟨hk.1.2, ⟨hk.2, hk.1.1.2⟩⟩⟩)), (by (with_reducible repeat (first | apply Kd.R_alloc | apply Kd.R_drewN | apply Kd.R_drew)); exact Kd.R_mono HO123.out (fun _ hk => hk.2)), (by (with_reducible repeat (first | apply Kd.R_alloc | apply Kd.R_drewN | apply Kd.R_drew)); exact Kd.R_mono HO126.out (fun _ hk => hk.2)), (by (with_reducible repeat (first | refine blk_drewN ?_ _ | refine blk_drew ?_ | refine blk_alloc ?_ _)); exact BK120.out), (by repeat (first | (with_reducible first | exact HB.out | apply below_alloc | apply pw_below_drewN | apply below_drew1 | refine below_set ?_ GE120.out) | exact HB.out))⟩)
         ·
          skip
          refine Kd.R_lit_step (Kd.int .u8) _ 5 ?hg (N := 15) ?hd (xs := ([7] : List Int)) (inner := [.int .u8 7]) (ok := fun _ => True) (okp := fun _ => True) ?hr ?hp (fun _ hk => hk) trivial (Below.refl _ _) (Nat.le_refl _) (by simp) ?_; (case hd => rfl); (case hg => rfl); (case hr => first | (go_simp; done) | (go_simp; rfl)); (case hp => exact (Reps.one (show Kd.M (Kd.int .u8) _ _ _ 7 [.int .u8 7] from rfl) (Reps.none _ _)))
          intro v125 w27 ho28 hb hg_ hnew_
          clear hg_ hnew_
          (first | rw [← Ny124.out] at ho28 | (simp only [Int.reduceToNat] at ho28; rw [← Ny124.out] at ho28))
          have n0_ := Aside0.mk (Kd.N_elder' (by (with_reducible repeat (first | apply Kd.N_alloc | apply Kd.N_drewN | apply Kd.N_drew)); exact HO115.out) (Kd.R_base ho28) hb)
          have n1_ := Aside0.mk (Kd.N_elder' (by (with_reducible repeat (first | apply Kd.N_alloc | apply Kd.N_drewN | apply Kd.N_drew)); exact HO118.out) (Kd.R_base ho28) hb)
          have n2_ := Aside0.mk (Kd.R_lower ho28 (below_size (by repeat (first | (with_reducible first | exact HB.out | apply below_alloc | apply pw_below_drewN | apply below_drew1 | refine below_set ?_ GE120.out) | exact HB.out))))
          have n3_ := Aside0.mk (blk_below (g := gb120) (o := .cells #[.slice Ao22 t113.length co22, .slice Ao24 t116.length co24] 58 (0, 0)) (by (with_reducible repeat (first | refine blk_drewN ?_ _ | refine blk_drew ?_ | refine blk_alloc ?_ _)); exact BK120.out) hb)
          have n4_ := Aside0.mk (below_step (by repeat (first | (with_reducible first | exact HB.out | apply below_alloc | apply pw_below_drewN | apply below_drew1 | refine below_set ?_ GE120.out) | exact HB.out)) hb)
          clear HO115
          clear HO118
          clear BK120
          clear HB
          have HO115 := n0_
          have HO118 := n1_
          have HO126 := n2_
          have BK120 := n3_
          have HB := n4_
          clear n0_ n1_ n2_ n3_ n4_
          clear hb ho28
          refine hK.out _ _ ⟨(blk_cell BK120.out 0).trans rfl, (blk_cell BK120.out 1).trans rfl⟩ (fun hHeld => ?_)
          clear hK K
          refine norm_ (a' := ?_) ?_ ?_
          rotate_left
          ·
           show Act.put _ (some 15) _ = _
           simp only [Act.put, List.setIfInBounds_toArray, List.set_cons_zero, List.set_cons_succ, i64_w, i32_w]
           rfl
          refine one_ (i := 1) (N := some 14) #[true, true, true, false, false, false, false, false, false, false, false, false] rfl rfl (one_of HT_.out (by kernel_rfl)) (by decide) (fun K hK => ?_)
          refine Kd.R_make_step (Kd.int .u8) _ 5 (by rfl) (N := 14) rfl 22 _ _ rfl 49 rfl rfl Try.underlying22 (.int .u8 0) 1 info5 rfl (by decide) (by omega) 0 (ok := fun _ => True) (okp := fun _ => True) rfl (fun _ hk => hk) trivial (by omega) (by omega) (Below.refl _ _) (Nat.le_refl _) ?_
          intro v122 w29 ho30 hb hg_ hnew_
          clear hg_ hnew_
          (first | rw [← Ny121.out] at ho30 | (simp only [Int.reduceToNat] at ho30; rw [← Ny121.out] at ho30))
          have n0_ := Aside0.mk (Kd.N_elder' (by (with_reducible repeat (first | apply Kd.N_alloc | apply Kd.N_drewN | apply Kd.N_drew)); exact HO115.out) (Kd.R_base ho30) hb)
          have n1_ := Aside0.mk (Kd.N_elder' (by (with_reducible repeat (first | apply Kd.N_alloc | apply Kd.N_drewN | apply Kd.N_drew)); exact HO118.out) (Kd.R_base ho30) hb)
          have n2_ := Aside0.mk (Kd.R_elder' (by (with_reducible repeat (first | apply Kd.R_alloc | apply Kd.R_drewN | apply Kd.R_drew)); exact HO126.out) (Kd.R_base ho30) hb)
          have n3_ := Aside0.mk (Kd.R_lower (Kd.R_new' ho30 (Kd.R_lt (by (with_reducible repeat (first | apply Kd.R_alloc | apply Kd.R_drewN | apply Kd.R_drew)); exact HO126.out))) (below_size (by repeat (first | (with_reducible first | exact HB.out | apply below_alloc | apply pw_below_drewN | apply below_drew1 | refine below_set ?_ GE120.out) | exact HB.out))))
          have n4_ := Aside0.mk (blk_below (g := gb120) (o := .cells #[.slice Ao22 t113.length co22, .slice Ao24 t116.length co24] 58 (0, 0)) (by (with_reducible repeat (first | refine blk_drewN ?_ _ | refine blk_drew ?_ | refine blk_alloc ?_ _)); exact BK120.out) hb)
          have n5_ := Aside0.mk (below_step (by repeat (first | (with_reducible first | exact HB.out | apply below_alloc | apply pw_below_drewN | apply below_drew1 | refine below_set ?_ GE120.out) | exact HB.out)) hb)
          clear HO115
          clear HO118
          clear HO126
          clear BK120
          clear HB
          have HO115 := n0_
          have HO118 := n1_
          have HO126 := n2_
          have HO123 := n3_
          have BK120 := n4_
          have HB := n5_
          clear n0_ n1_ n2_ n3_ n4_ n5_
          clear hb ho30
          refine hK.out _ _ ⟨(blk_cell BK120.out 0).trans rfl, (blk_cell BK120.out 1).trans rfl⟩ (fun hHeld => ?_)
          clear hK K
          refine norm_ (a' := ?_) ?_ ?_
          rotate_left
          ·
           show Act.put _ (some 14) _ = _
           simp only [Act.put, List.setIfInBounds_toArray, List.set_cons_zero, List.set_cons_succ, i64_w, i32_w]
           rfl
          exact norm_ (by simp only [putAll, Act.put, List.setIfInBounds_toArray, List.set_cons_zero, List.set_cons_succ]) (hCont (v122, v125) _ ⟨hHeld, (by (with_reducible repeat (first | apply Kd.N_alloc | apply Kd.N_drewN | apply Kd.N_drew)); exact Kd.N_mono HO115.out (fun _ hk => ⟨hk.1.1.1, ⟨hk.2, ⟨hk.1.2, hk.1.1.2⟩⟩⟩)), (by (with_reducible repeat (first | apply Kd.N_alloc | apply Kd.N_drewN | apply Kd.N_drew)); exact Kd.N_mono HO118.out (fun _ hk => ⟨hk.1.1.1, ⟨hk.2, ⟨hk.1.2, hk.1.1.2⟩⟩⟩)), (by (with_reducible repeat (first | apply Kd.R_alloc | apply Kd.R_drewN | apply Kd.R_drew)); exact Kd.R_mono HO123.out (fun _ hk => hk.2)), (by (with_reducible repeat (first | apply Kd.R_alloc | apply Kd.R_drewN | apply Kd.R_drew)); exact Kd.R_mono HO126.out (fun _ hk => hk.2)), (by (with_reducible repeat (first | refine blk_drewN ?_ _ | refine blk_drew ?_ | refine blk_alloc ?_ _)); exact BK120.out), (by repeat (first | (with_reducible first | exact HB.out | apply below_alloc | apply pw_below_drewN | apply below_drew1 | refine below_set ?_ GE120.out) | exact HB.out))⟩)
        rintro ⟨v122, v125⟩ w31 ⟨hS_, h0_, h1_, h2_, h3_, h4_, h5_⟩
        have n0_ : Aside0 (Kd.N (Kd.slice 5 (Kd.int .u8)) 22 w31 w.heap.size (fun k_ => some k_ ≠ (.slice Ao24 t116.length co24 : Value).ownBlock ∧ some k_ ≠ (v122 : Value).ownBlock ∧ some k_ ≠ (v125 : Value).ownBlock ∧ k_ ≠ gb120) (.slice Ao22 t113.length co22) t113) := ⟨h0_⟩
        have n1_ : Aside0 (Kd.N k57 57 w31 w.heap.size (fun k_ => some k_ ≠ (.slice Ao22 t113.length co22 : Value).ownBlock ∧ some k_ ≠ (v122 : Value).ownBlock ∧ some k_ ≠ (v125 : Value).ownBlock ∧ k_ ≠ gb120) (.slice Ao24 t116.length co24) t116) := ⟨h1_⟩
        have n2_ : Aside0 (Kd.R (Kd.int .u8) 5 w31 w.heap.size (fun k_ => some k_ ≠ (v125 : Value).ownBlock) v122 y121) := ⟨h2_⟩
        have n3_ : Aside0 (Kd.R (Kd.int .u8) 5 w31 w.heap.size (fun k_ => some k_ ≠ (v122 : Value).ownBlock) v125 y124) := ⟨h3_⟩
        have n4_ : Aside0 (w31.heap[gb120]? = some (.cells #[.slice Ao22 t113.length co22, .slice Ao24 t116.length co24] 58 (0, 0))) := ⟨h4_⟩
        have n5_ : Aside0 (Below w.heap.size w w31) := ⟨h5_⟩
        clear HO115
        clear HO118
        clear BK120
        clear HB
        clear h0_ h1_ h2_ h3_ h4_ h5_
        have HO115 := n0_
        have HO118 := n1_
        have HO123 := n2_
        have HO126 := n3_
        have BK120 := n4_
        have HB := n5_
        clear n0_ n1_ n2_ n3_ n4_ n5_
        have hHeld : w31.cell? ⟨gb120, 0, none⟩ = some (.slice Ao22 t113.length co22) ∧ w31.cell? ⟨gb120, 1, none⟩ = some (.slice Ao24 t116.length co24) := hS_
        obtain ⟨Ao33, co33, eo33⟩ := Kd.R_slice HO126.out
        (first | subst eo33 | (injection eo33 with f1_ f2_ f3_; have f4_ := f1_.symm; have f5_ := f3_.symm; clear f1_ f2_ f3_; subst f4_; subst f5_))
        refine norm_ (a' := ?_) ?_ ?_
        rotate_left
        ·
         simp only [putAll, Act.put, List.setIfInBounds_toArray, List.set_cons_zero, List.set_cons_succ]
         rfl
        refine one_ (i := 3) (N := some 16) #[true, true, true, true, false, false, false, false, false, false, false, false] rfl rfl (one_of HT_.out (by kernel_rfl)) (by decide) (fun K hK => ?_)
        refine Kd.R_append_rows_step (Kd.int .u8) (w0 := w) w.heap.size (by rfl) (.tmp 14) (.tmp 15) 22 5 (.int .u8 0) 1 rfl Try.underlying22 info5 rfl (by decide) (by omega) v122 y121 y124 _ _ _ (fun k_ => some k_ ≠ (.slice Ao33 y124.length co33 : Value).ownBlock) (fun _ => False) rfl rfl ?aO ?aR (fun _ _ h => h) (fun _ h => h.elim) ?aF ?aB ?aS ?aL ?_
        (case aR => repeat (first | exact (Kd.R_reads' HO126.out).2.2 | (with_reducible refine Kd.C_alloc ?_ _) | (with_reducible refine Kd.C_drewN ?_ _) | (with_reducible refine Kd.C_drew ?_)))
        (case aB => exact (by repeat (first | (with_reducible first | exact HB.out | apply below_alloc | apply pw_below_drewN | apply below_drew1 | refine below_set ?_ GE120.out) | exact HB.out)))
        (case aF => exact (fun k_ hk => Kd.fresh' (Kd.R_lt (by (with_reducible repeat (first | apply Kd.R_alloc | apply Kd.R_drewN | apply Kd.R_drew)); exact HO126.out)) k_ hk))
        (case aO => exact (by (with_reducible repeat (first | apply Kd.R_alloc | apply Kd.R_drewN | apply Kd.R_drew)); exact HO123.out))
        (case aS => exact (below_size (by repeat (first | (with_reducible first | exact HB.out | apply below_alloc | apply pw_below_drewN | apply below_drew1 | refine below_set ?_ GE120.out) | exact HB.out))))
        (case aL => have := LMc3.out; omega)
        intro v128 w32 ho hb hg hat
        rw [← Ny127.out] at ho
        have n0_ := Aside0.mk (Kd.N_afterv (ok := (fun k_ => some k_ ≠ (.slice Ao24 t116.length co24 : Value).ownBlock ∧ some k_ ≠ (.slice Ao33 y124.length co33 : Value).ownBlock ∧ k_ ≠ gb120)) (by (with_reducible repeat (first | apply Kd.N_alloc | apply Kd.N_drewN | apply Kd.N_drew)); exact Kd.N_mono HO115.out (fun _ hk => ⟨⟨hk.1, ⟨hk.2.2.1, hk.2.2.2⟩⟩, hk.2.1⟩)) hg hat)
        have n1_ := Aside0.mk (Kd.N_afterv (ok := (fun k_ => some k_ ≠ (.slice Ao22 t113.length co22 : Value).ownBlock ∧ some k_ ≠ (.slice Ao33 y124.length co33 : Value).ownBlock ∧ k_ ≠ gb120)) (by (with_reducible repeat (first | apply Kd.N_alloc | apply Kd.N_drewN | apply Kd.N_drew)); exact Kd.N_mono HO118.out (fun _ hk => ⟨⟨hk.1, ⟨hk.2.2.1, hk.2.2.2⟩⟩, hk.2.1⟩)) hg hat)
        have n2_ := Aside0.mk (blk_grown (g := gb120) (o := .cells #[.slice Ao22 t113.length co22, .slice Ao24 t116.length co24] 58 (0, 0)) (by (with_reducible repeat (first | refine blk_drewN ?_ _ | refine blk_drew ?_ | refine blk_alloc ?_ _)); exact BK120.out) hg (Kd.R_ne HO123.out BK120.out (by decide)))
        have n3_ := Aside0.mk (Kd.R_after (ok := (fun _ => True)) (by (with_reducible repeat (first | apply Kd.R_alloc | apply Kd.R_drewN | apply Kd.R_drew)); exact Kd.R_mono HO126.out (fun _ hk => ⟨trivial, hk⟩)) hg hat)
        have n4_ := Aside0.mk (hb)
        have n5_ := Aside0.mk (ho)
        clear HO115
        clear HO118
        clear BK120
        clear HO126
        clear HB
        clear HO123
        have HO115 := n0_
        have HO118 := n1_
        have BK120 := n2_
        have HO126 := n3_
        have HB := n4_
        have HO129 := n5_
        clear n0_ n1_ n2_ n3_ n4_ n5_
        clear ho hb hg hat
        obtain ⟨Ao34, co34, eo34⟩ := Kd.R_slice HO129.out
        (first | subst eo34 | (injection eo34 with f1_ f2_ f3_; have f4_ := f1_.symm; have f5_ := f3_.symm; clear f1_ f2_ f3_; subst f4_; subst f5_))
        refine hK.out _ _ ⟨(blk_cell BK120.out 0).trans rfl, (blk_cell BK120.out 1).trans rfl⟩ (fun hHeld => ?_)
        clear hK K
        refine norm_ (a' := ?_) ?_ ?_
        rotate_left
        ·
         show Act.put _ (some 16) _ = _
         simp only [Act.put, List.setIfInBounds_toArray, List.set_cons_zero, List.set_cons_succ, i64_w, i32_w]
         rfl
        refine one_ (i := 4) (N := some 17) #[true, true, true, true, true, false, false, false, false, false, false, false] rfl rfl (one_of HT_.out (by kernel_rfl)) (by decide) (fun K hK => ?_)
        refine goes_ Try.func52 (by kernel_rfl) rfl #[.slice Ao34 y127.length co34] (by rfl) rfl rfl (by (try simp only [List.map_toArray, List.map_cons, List.map_nil]); first | done | rfl | (simp only [List.length_drop, List.length_take]; rfl)) ?_
        with_reducible refine (disk_Padded.calls _ _ y127 t130 _ ?side1 ?side2 A4.out).mono ?_
        (case side1 => repeat (first | exact (Kd.R_reads' HO129.out).2.2 | (with_reducible refine Kd.C_alloc ?_ _) | (with_reducible refine Kd.C_drewN ?_ _) | (with_reducible refine Kd.C_drew ?_)))
        (case side2 => exact (Kd.R_reads' HO129.out).2.1)
        rintro e w35 ⟨v131, rfl, ho0, hb⟩
        refine ⟨_, rfl, ?_⟩
        have n0_ := Aside0.mk (Kd.N_elder' (by (with_reducible repeat (first | apply Kd.N_alloc | apply Kd.N_drewN | apply Kd.N_drew)); exact HO115.out) (Kd.R_base ho0) hb)
        have n1_ := Aside0.mk (Kd.N_elder' (by (with_reducible repeat (first | apply Kd.N_alloc | apply Kd.N_drewN | apply Kd.N_drew)); exact HO118.out) (Kd.R_base ho0) hb)
        have n2_ := Aside0.mk (Kd.R_elder' (by (with_reducible repeat (first | apply Kd.R_alloc | apply Kd.R_drewN | apply Kd.R_drew)); exact HO126.out) (Kd.R_base ho0) hb)
        have n3_ := Aside0.mk (Kd.R_elder' (by (with_reducible repeat (first | apply Kd.R_alloc | apply Kd.R_drewN | apply Kd.R_drew)); exact HO129.out) (Kd.R_base ho0) hb)
        have n4_ := Aside0.mk (Kd.R_lower (Kd.R_new' (Kd.R_new' ho0 (Kd.R_lt (by (with_reducible repeat (first | apply Kd.R_alloc | apply Kd.R_drewN | apply Kd.R_drew)); exact HO126.out))) (Kd.R_lt (by (with_reducible repeat (first | apply Kd.R_alloc | apply Kd.R_drewN | apply Kd.R_drew)); exact HO129.out))) (below_size (by repeat (first | (with_reducible first | exact HB.out | apply below_alloc | apply pw_below_drewN | apply below_drew1 | refine below_set ?_ GE120.out) | exact HB.out))))
        have n5_ := Aside0.mk (blk_below (g := gb120) (o := .cells #[.slice Ao22 t113.length co22, .slice Ao24 t116.length co24] 58 (0, 0)) (by (with_reducible repeat (first | refine blk_drewN ?_ _ | refine blk_drew ?_ | refine blk_alloc ?_ _)); exact BK120.out) hb)
        have n6_ := Aside0.mk (below_step (by repeat (first | (with_reducible first | exact HB.out | apply below_alloc | apply pw_below_drewN | apply below_drew1 | refine below_set ?_ GE120.out) | exact HB.out)) hb)
        clear HO115
        clear HO118
        clear HO126
        clear HO129
        clear BK120
        clear HB
        have HO115 := n0_
        have HO118 := n1_
        have HO126 := n2_
        have HO129 := n3_
        have HO132 := n4_
        have BK120 := n5_
        have HB := n6_
        clear n0_ n1_ n2_ n3_ n4_ n5_ n6_
        (try clear hb)
        (try clear hb2)
        (try clear hk)
        (try clear hi)
        (try clear ho0)
        obtain ⟨Ao36, co36, eo36⟩ := Kd.R_slice HO132.out
        (first | subst eo36 | (injection eo36 with f1_ f2_ f3_; have f4_ := f1_.symm; have f5_ := f3_.symm; clear f1_ f2_ f3_; subst f4_; subst f5_))
        refine hK.out _ _ ⟨(blk_cell BK120.out 0).trans rfl, (blk_cell BK120.out 1).trans rfl⟩ (fun hHeld => ?_)
        clear hK K
        refine norm_ (a' := ?_) ?_ ?_
        rotate_left
        ·
         show Act.put _ (some 17) _ = _
         simp only [Act.put, List.setIfInBounds_toArray, List.set_cons_zero, List.set_cons_succ, i64_w, i32_w]
         rfl
        refine pure_ (i := 5) (N := some 18) (v := ?_) (a' := ?_) #[true, true, true, true, true, true, false, false, false, false, false, false] rfl rfl (any_of HT_.out (by kernel_rfl)) (fun _ _ _ h => h) (Or.inl ⟨by rfl, ?_⟩) ?_ ?_
        rotate_left
        ·
         intro w'
         go_simp
         with_reducible rfl
        rotate_left
        ·
         simp only [Act.put, List.setIfInBounds_toArray, List.set_cons_zero, List.set_cons_succ, i64_w, i32_w]
         rfl
        refine one_ (i := 6) (N := some 19) #[true, true, true, true, true, true, true, false, false, false, false, false] rfl rfl (one_of HT_.out (by kernel_rfl)) (by decide) (fun K hK => ?_)
        refine goes_ Try.func30 (by kernel_rfl) rfl #[.agg #[.slice Ao22 t113.length co22, .slice Ao24 t116.length co24], .agg #[.bool false, .int .i64 0, .slice Ao36 t130.length co36]] (by rfl) rfl rfl (by (try simp only [List.map_toArray, List.map_cons, List.map_nil]); first | done | rfl | (simp only [List.length_drop, List.length_take]; rfl)) ?_
        with_reducible refine (disk_Do.calls _ _ t113 _ _ t116 false 0 _ _ t130 t133 t136 t139 _ ?side1 ?side2 ?side3 ?side4 ?side5 ?side6 A5.out).mono ?_
        (case side1 => repeat (first | exact (Kd.N_reads' HO115.out).2.2 | (with_reducible refine Kd.C_alloc ?_ _) | (with_reducible refine Kd.C_drewN ?_ _) | (with_reducible refine Kd.C_drew ?_)))
        (case side2 => exact (Kd.N_reads' HO115.out).2.1)
        (case side3 => repeat (first | exact (Kd.N_reads' HO118.out).2.2 | (with_reducible refine Kd.C_alloc ?_ _) | (with_reducible refine Kd.C_drewN ?_ _) | (with_reducible refine Kd.C_drew ?_)))
        (case side4 => exact (Kd.N_reads' HO118.out).2.1)
        (case side5 => repeat (first | exact (Kd.R_reads' HO132.out).2.2 | (with_reducible refine Kd.C_alloc ?_ _) | (with_reducible refine Kd.C_drewN ?_ _) | (with_reducible refine Kd.C_drew ?_)))
        (case side6 => exact (Kd.R_reads' HO132.out).2.1)
        rintro e w37 ⟨v134, v137, rfl, ho0, ho1, hb⟩
        refine ⟨_, rfl, ?_⟩
        have n0_ := Aside0.mk (Kd.N_mono (Kd.N_told (Kd.N_told (Kd.N_old (by (with_reducible repeat (first | apply Kd.N_alloc | apply Kd.N_drewN | apply Kd.N_drew)); exact HO115.out) hb) (by first | exact Kd.N_base ho0 | exact Kd.S_base ho0 | exact Kd.R_base ho0)) (by first | exact Kd.N_base ho1 | exact Kd.S_base ho1 | exact Kd.R_base ho1)) (fun _ h_ => h_.1))
        have n1_ := Aside0.mk (Kd.N_mono (Kd.N_told (Kd.N_told (Kd.N_old (by (with_reducible repeat (first | apply Kd.N_alloc | apply Kd.N_drewN | apply Kd.N_drew)); exact HO118.out) hb) (by first | exact Kd.N_base ho0 | exact Kd.S_base ho0 | exact Kd.R_base ho0)) (by first | exact Kd.N_base ho1 | exact Kd.S_base ho1 | exact Kd.R_base ho1)) (fun _ h_ => h_.1))
        have n2_ := Aside0.mk (Kd.R_below (by (with_reducible repeat (first | apply Kd.R_alloc | apply Kd.R_drewN | apply Kd.R_drew)); exact HO126.out) hb)
        have n3_ := Aside0.mk (Kd.R_below (by (with_reducible repeat (first | apply Kd.R_alloc | apply Kd.R_drewN | apply Kd.R_drew)); exact HO129.out) hb)
        have n4_ := Aside0.mk (Kd.R_below (by (with_reducible repeat (first | apply Kd.R_alloc | apply Kd.R_drewN | apply Kd.R_drew)); exact HO132.out) hb)
        have n5_ := Aside0.mk (Kd.N_lower (Kd.N_mono (ok' := fun k_ => some k_ ≠ (v137 : Value).ownBlock ∧ some k_ ≠ (.slice Ao22 t113.length co22 : Value).ownBlock ∧ some k_ ≠ (.slice Ao24 t116.length co24 : Value).ownBlock ∧ some k_ ≠ (.slice Ao33 y124.length co33 : Value).ownBlock ∧ some k_ ≠ (.slice Ao34 y127.length co34 : Value).ownBlock ∧ some k_ ≠ (.slice Ao36 t130.length co36 : Value).ownBlock ∧ k_ ≠ gb120) (Kd.S_N (Kd.S_bound (Kd.S_apart' ho0 (Kd.S_typed ho1) (by decide)))) (fun k_ hk_ => ⟨hk_.1.2, (Kd.fresh' (Kd.N_lt (by (with_reducible repeat (first | apply Kd.N_alloc | apply Kd.N_drewN | apply Kd.N_drew)); exact HO115.out)) k_ hk_.2.1), (Kd.fresh' (Kd.N_lt (by (with_reducible repeat (first | apply Kd.N_alloc | apply Kd.N_drewN | apply Kd.N_drew)); exact HO118.out)) k_ hk_.2.1), (Kd.fresh' (Kd.R_lt (by (with_reducible repeat (first | apply Kd.R_alloc | apply Kd.R_drewN | apply Kd.R_drew)); exact HO126.out)) k_ hk_.2.1), (Kd.fresh' (Kd.R_lt (by (with_reducible repeat (first | apply Kd.R_alloc | apply Kd.R_drewN | apply Kd.R_drew)); exact HO129.out)) k_ hk_.2.1), (Kd.fresh' (Kd.R_lt (by (with_reducible repeat (first | apply Kd.R_alloc | apply Kd.R_drewN | apply Kd.R_drew)); exact HO132.out)) k_ hk_.2.1), (Kd.freshB (g := gb120) (o := .cells #[.slice Ao22 t113.length co22, .slice Ao24 t116.length co24] 58 (0, 0)) (by (with_reducible repeat (first | refine blk_drewN ?_ _ | refine blk_drew ?_ | refine blk_alloc ?_ _)); exact BK120.out) k_ hk_.2.1)⟩)) (below_size (by repeat (first | (with_reducible first | exact HB.out | apply below_alloc | apply pw_below_drewN | apply below_drew1 | refine below_set ?_ GE120.out) | exact HB.out))))
        have n6_ := Aside0.mk (Kd.N_lower (Kd.N_mono (ok' := fun k_ => some k_ ≠ (v134 : Value).ownBlock ∧ some k_ ≠ (.slice Ao22 t113.length co22 : Value).ownBlock ∧ some k_ ≠ (.slice Ao24 t116.length co24 : Value).ownBlock ∧ some k_ ≠ (.slice Ao33 y124.length co33 : Value).ownBlock ∧ some k_ ≠ (.slice Ao34 y127.length co34 : Value).ownBlock ∧ some k_ ≠ (.slice Ao36 t130.length co36 : Value).ownBlock ∧ k_ ≠ gb120) (Kd.S_N (Kd.S_bound (Kd.S_apart' ho1 (Kd.S_typed ho0) (by decide)))) (fun k_ hk_ => ⟨hk_.1.2, (Kd.fresh' (Kd.N_lt (by (with_reducible repeat (first | apply Kd.N_alloc | apply Kd.N_drewN | apply Kd.N_drew)); exact HO115.out)) k_ hk_.2.1), (Kd.fresh' (Kd.N_lt (by (with_reducible repeat (first | apply Kd.N_alloc | apply Kd.N_drewN | apply Kd.N_drew)); exact HO118.out)) k_ hk_.2.1), (Kd.fresh' (Kd.R_lt (by (with_reducible repeat (first | apply Kd.R_alloc | apply Kd.R_drewN | apply Kd.R_drew)); exact HO126.out)) k_ hk_.2.1), (Kd.fresh' (Kd.R_lt (by (with_reducible repeat (first | apply Kd.R_alloc | apply Kd.R_drewN | apply Kd.R_drew)); exact HO129.out)) k_ hk_.2.1), (Kd.fresh' (Kd.R_lt (by (with_reducible repeat (first | apply Kd.R_alloc | apply Kd.R_drewN | apply Kd.R_drew)); exact HO132.out)) k_ hk_.2.1), (Kd.freshB (g := gb120) (o := .cells #[.slice Ao22 t113.length co22, .slice Ao24 t116.length co24] 58 (0, 0)) (by (with_reducible repeat (first | refine blk_drewN ?_ _ | refine blk_drew ?_ | refine blk_alloc ?_ _)); exact BK120.out) k_ hk_.2.1)⟩)) (below_size (by repeat (first | (with_reducible first | exact HB.out | apply below_alloc | apply pw_below_drewN | apply below_drew1 | refine below_set ?_ GE120.out) | exact HB.out))))
        have n7_ := Aside0.mk (blk_below (g := gb120) (o := .cells #[.slice Ao22 t113.length co22, .slice Ao24 t116.length co24] 58 (0, 0)) (by (with_reducible repeat (first | refine blk_drewN ?_ _ | refine blk_drew ?_ | refine blk_alloc ?_ _)); exact BK120.out) hb)
        have n8_ := Aside0.mk (below_step (by repeat (first | (with_reducible first | exact HB.out | apply below_alloc | apply pw_below_drewN | apply below_drew1 | refine below_set ?_ GE120.out) | exact HB.out)) hb)
        clear HO115
        clear HO118
        clear HO126
        clear HO129
        clear HO132
        clear BK120
        clear HB
        have HO115 := n0_
        have HO118 := n1_
        have HO126 := n2_
        have HO129 := n3_
        have HO132 := n4_
        have HO135 := n5_
        have HO138 := n6_
        have BK120 := n7_
        have HB := n8_
        clear n0_ n1_ n2_ n3_ n4_ n5_ n6_ n7_ n8_
        (try clear hb)
        (try clear hb2)
        (try clear hk)
        (try clear hi)
        (try clear ho0)
        (try clear ho1)
        obtain ⟨Ao38, co38, eo38⟩ := Kd.N_slice HO135.out
        (first | subst eo38 | (injection eo38 with f1_ f2_ f3_; have f4_ := f1_.symm; have f5_ := f3_.symm; clear f1_ f2_ f3_; subst f4_; subst f5_))
        obtain ⟨Ao40, co40, eo40⟩ := Kd.N_slice HO138.out
        (first | subst eo40 | (injection eo40 with f1_ f2_ f3_; have f4_ := f1_.symm; have f5_ := f3_.symm; clear f1_ f2_ f3_; subst f4_; subst f5_))
        refine hK.out _ _ ⟨(blk_cell BK120.out 0).trans rfl, (blk_cell BK120.out 1).trans rfl⟩ (fun hHeld => ?_)
        clear hK K
        refine norm_ (a' := ?_) ?_ ?_
        rotate_left
        ·
         show Act.put _ (some 19) _ = _
         simp only [Act.put, List.setIfInBounds_toArray, List.set_cons_zero, List.set_cons_succ, i64_w, i32_w]
         rfl
        refine pure_ (i := 7) (N := some 12) (v := ?_) (a' := ?_) #[true, true, true, true, true, true, true, true, false, false, false, false] rfl rfl (any_of HT_.out (by kernel_rfl)) (fun _ _ _ h => h) (Or.inl ⟨by rfl, ?_⟩) ?_ ?_
        rotate_left
        ·
         intro w'
         go_simp
         with_reducible rfl
        rotate_left
        ·
         simp only [Act.put, List.setIfInBounds_toArray, List.set_cons_zero, List.set_cons_succ, i64_w, i32_w]
         rfl
        refine pure_ (i := 8) (N := some 20) (v := ?_) (a' := ?_) #[true, true, true, true, true, true, true, true, true, false, false, false] rfl rfl (any_of HT_.out (by kernel_rfl)) (fun _ _ _ h => h) (Or.inl ⟨by rfl, ?_⟩) ?_ ?_
        rotate_left
        ·
         intro w'
         go_simp
         with_reducible rfl
        rotate_left
        ·
         simp only [Act.put, List.setIfInBounds_toArray, List.set_cons_zero, List.set_cons_succ, i64_w, i32_w]
         rfl
        refine pure_ (i := 9) (N := some 21) (v := ?_) (a' := ?_) #[true, true, true, true, true, true, true, true, true, true, false, false] rfl rfl (any_of HT_.out (by kernel_rfl)) (fun _ _ _ h => h) (Or.inl ⟨by rfl, ?_⟩) ?_ ?_
        rotate_left
        ·
         intro w'
         go_simp
         with_reducible rfl
        rotate_left
        ·
         simp only [Act.put, List.setIfInBounds_toArray, List.set_cons_zero, List.set_cons_succ, i64_w, i32_w]
         rfl
        refine last_ (i := 10) (N := none) #[true, true, true, true, true, true, true, true, true, true, true, false] rfl rfl (one_of HT_.out (by kernel_rfl)) (by decide) (fun K hK => ?_)
        have hs39 : w37.cell? ⟨gb120, 0, none⟩ = some (.slice Ao22 t113.length co22) := (blk_cell BK120.out 0).trans rfl
        have hfs39 := blk_frozen BK120.out 0
        have hs41 : w37.cell? ⟨gb120, 1, none⟩ = some (.slice Ao24 t116.length co24) := (blk_cell BK120.out 1).trans rfl
        have hfs41 := blk_frozen BK120.out 1
        refine skip_ (w1 := ?_) (by rfl) rfl ?_ ?_
        rotate_left
        ·
         go_simp
         rfl
        refine hK.out _ _ ?_
        clear hK K
        refine pure_ (i := 11) (N := some 3) (v := ?_) (a' := ?_) #[true, true, true, true, true, true, true, true, true, true, true, true] rfl rfl (any_of HT_.out (by kernel_rfl)) (fun _ _ _ h => h) (Or.inl ⟨by rfl, ?_⟩) ?_ ?_
        rotate_left
        ·
         intro w'
         go_simp
         with_reducible rfl
        rotate_left
        ·
         simp only [Act.put, List.setIfInBounds_toArray, List.set_cons_zero, List.set_cons_succ, i64_w, i32_w]
         rfl
        refine done_ (done_of HT_.out (by kernel_rfl)) ?_
        try go_wp2
        have n0_ : Aside0 (Kd.N (Kd.slice 5 (Kd.int .u8)) 22 ((w37.setCell ⟨gb120, 0, none⟩ (.slice Ao38 t133.length co38)).setCell ⟨gb120, 1, none⟩ (.slice Ao40 t136.length co40)) w.heap.size (fun k_ => some k_ ≠ (.slice Ao24 t116.length co24 : Value).ownBlock ∧ some k_ ≠ (.slice Ao33 y124.length co33 : Value).ownBlock ∧ some k_ ≠ (.slice Ao34 y127.length co34 : Value).ownBlock ∧ some k_ ≠ (.slice Ao36 t130.length co36 : Value).ownBlock ∧ some k_ ≠ (.slice Ao38 t133.length co38 : Value).ownBlock ∧ some k_ ≠ (.slice Ao40 t136.length co40 : Value).ownBlock ∧ k_ ≠ gb120) (.slice Ao22 t113.length co22) t113) := ⟨by (with_reducible repeat (first | apply Kd.N_alloc | apply Kd.N_drewN | apply Kd.N_drew)); exact Kd.N_mono (Kd.N_far (p := ⟨gb120, 1, none⟩) (Kd.N_far (p := ⟨gb120, 0, none⟩) (Kd.N_mono HO115.out (fun k_ hk => (⟨hk, hk.1.1.1.1.2.2⟩ : _ ∧ k_ ≠ gb120))) (fun _ hk => hk.2) (.slice Ao38 t133.length co38)) (fun _ hk => hk.2) (.slice Ao40 t136.length co40)) (fun _ hk => ⟨hk.1.1.1.1.1.1, ⟨hk.1.1.1.1.1.2.1, ⟨hk.1.1.1.1.2, ⟨hk.1.1.1.2, ⟨hk.1.1.2, ⟨hk.1.2, hk.1.1.1.1.1.2.2⟩⟩⟩⟩⟩⟩)⟩
        have n1_ : Aside0 (Kd.N k57 57 ((w37.setCell ⟨gb120, 0, none⟩ (.slice Ao38 t133.length co38)).setCell ⟨gb120, 1, none⟩ (.slice Ao40 t136.length co40)) w.heap.size (fun k_ => some k_ ≠ (.slice Ao22 t113.length co22 : Value).ownBlock ∧ some k_ ≠ (.slice Ao33 y124.length co33 : Value).ownBlock ∧ some k_ ≠ (.slice Ao34 y127.length co34 : Value).ownBlock ∧ some k_ ≠ (.slice Ao36 t130.length co36 : Value).ownBlock ∧ some k_ ≠ (.slice Ao38 t133.length co38 : Value).ownBlock ∧ some k_ ≠ (.slice Ao40 t136.length co40 : Value).ownBlock ∧ k_ ≠ gb120) (.slice Ao24 t116.length co24) t116) := ⟨by (with_reducible repeat (first | apply Kd.N_alloc | apply Kd.N_drewN | apply Kd.N_drew)); exact Kd.N_mono (Kd.N_far (p := ⟨gb120, 1, none⟩) (Kd.N_far (p := ⟨gb120, 0, none⟩) (Kd.N_mono HO118.out (fun k_ hk => (⟨hk, hk.1.1.1.1.2.2⟩ : _ ∧ k_ ≠ gb120))) (fun _ hk => hk.2) (.slice Ao38 t133.length co38)) (fun _ hk => hk.2) (.slice Ao40 t136.length co40)) (fun _ hk => ⟨hk.1.1.1.1.1.1, ⟨hk.1.1.1.1.1.2.1, ⟨hk.1.1.1.1.2, ⟨hk.1.1.1.2, ⟨hk.1.1.2, ⟨hk.1.2, hk.1.1.1.1.1.2.2⟩⟩⟩⟩⟩⟩)⟩
        have n2_ : Aside0 (Kd.R (Kd.int .u8) 5 ((w37.setCell ⟨gb120, 0, none⟩ (.slice Ao38 t133.length co38)).setCell ⟨gb120, 1, none⟩ (.slice Ao40 t136.length co40)) w.heap.size (fun k_ => some k_ ≠ (.slice Ao34 y127.length co34 : Value).ownBlock ∧ some k_ ≠ (.slice Ao36 t130.length co36 : Value).ownBlock) (.slice Ao33 y124.length co33) y124) := ⟨by (with_reducible repeat (first | apply Kd.R_alloc | apply Kd.R_drewN | apply Kd.R_drew)); exact Kd.R_mono (Kd.R_far (p := ⟨gb120, 1, none⟩) (Kd.R_far (p := ⟨gb120, 0, none⟩) (Kd.R_types HO126.out BK120.out (by decide)) (fun _ hk => hk.2) (.slice Ao38 t133.length co38)) (fun _ hk => hk.2) (.slice Ao40 t136.length co40)) (fun _ hk => ⟨hk.1.1.2, hk.1.2⟩)⟩
        have n3_ : Aside0 (Kd.R (Kd.int .u8) 5 ((w37.setCell ⟨gb120, 0, none⟩ (.slice Ao38 t133.length co38)).setCell ⟨gb120, 1, none⟩ (.slice Ao40 t136.length co40)) w.heap.size (fun k_ => some k_ ≠ (.slice Ao33 y124.length co33 : Value).ownBlock ∧ some k_ ≠ (.slice Ao36 t130.length co36 : Value).ownBlock) (.slice Ao34 y127.length co34) y127) := ⟨by (with_reducible repeat (first | apply Kd.R_alloc | apply Kd.R_drewN | apply Kd.R_drew)); exact Kd.R_mono (Kd.R_far (p := ⟨gb120, 1, none⟩) (Kd.R_far (p := ⟨gb120, 0, none⟩) (Kd.R_types HO129.out BK120.out (by decide)) (fun _ hk => hk.2) (.slice Ao38 t133.length co38)) (fun _ hk => hk.2) (.slice Ao40 t136.length co40)) (fun _ hk => ⟨hk.1.1, hk.1.2⟩)⟩
        have n4_ : Aside0 (Kd.R (Kd.int .u8) 5 ((w37.setCell ⟨gb120, 0, none⟩ (.slice Ao38 t133.length co38)).setCell ⟨gb120, 1, none⟩ (.slice Ao40 t136.length co40)) w.heap.size (fun k_ => some k_ ≠ (.slice Ao33 y124.length co33 : Value).ownBlock ∧ some k_ ≠ (.slice Ao34 y127.length co34 : Value).ownBlock) (.slice Ao36 t130.length co36) t130) := ⟨by (with_reducible repeat (first | apply Kd.R_alloc | apply Kd.R_drewN | apply Kd.R_drew)); exact Kd.R_mono (Kd.R_far (p := ⟨gb120, 1, none⟩) (Kd.R_far (p := ⟨gb120, 0, none⟩) (Kd.R_types HO132.out BK120.out (by decide)) (fun _ hk => hk.2) (.slice Ao38 t133.length co38)) (fun _ hk => hk.2) (.slice Ao40 t136.length co40)) (fun _ hk => ⟨hk.1.1.2, hk.1.2⟩)⟩
        have n5_ : Aside0 (Kd.N (Kd.slice 5 (Kd.int .u8)) 22 ((w37.setCell ⟨gb120, 0, none⟩ (.slice Ao38 t133.length co38)).setCell ⟨gb120, 1, none⟩ (.slice Ao40 t136.length co40)) w.heap.size (fun k_ => some k_ ≠ (.slice Ao22 t113.length co22 : Value).ownBlock ∧ some k_ ≠ (.slice Ao24 t116.length co24 : Value).ownBlock ∧ some k_ ≠ (.slice Ao33 y124.length co33 : Value).ownBlock ∧ some k_ ≠ (.slice Ao34 y127.length co34 : Value).ownBlock ∧ some k_ ≠ (.slice Ao36 t130.length co36 : Value).ownBlock ∧ some k_ ≠ (.slice Ao40 t136.length co40 : Value).ownBlock ∧ k_ ≠ gb120) (.slice Ao38 t133.length co38) t133) := ⟨by (with_reducible repeat (first | apply Kd.N_alloc | apply Kd.N_drewN | apply Kd.N_drew)); exact Kd.N_mono (Kd.N_far (p := ⟨gb120, 1, none⟩) (Kd.N_far (p := ⟨gb120, 0, none⟩) (Kd.N_mono HO135.out (fun k_ hk => (⟨hk, hk.2.2.2.2.2.2⟩ : _ ∧ k_ ≠ gb120))) (fun _ hk => hk.2) (.slice Ao38 t133.length co38)) (fun _ hk => hk.2) (.slice Ao40 t136.length co40)) (fun _ hk => ⟨hk.1.2.1, ⟨hk.1.2.2.1, ⟨hk.1.2.2.2.1, ⟨hk.1.2.2.2.2.1, ⟨hk.1.2.2.2.2.2.1, ⟨hk.1.1, hk.1.2.2.2.2.2.2⟩⟩⟩⟩⟩⟩)⟩
        have n6_ : Aside0 (Kd.N k57 57 ((w37.setCell ⟨gb120, 0, none⟩ (.slice Ao38 t133.length co38)).setCell ⟨gb120, 1, none⟩ (.slice Ao40 t136.length co40)) w.heap.size (fun k_ => some k_ ≠ (.slice Ao22 t113.length co22 : Value).ownBlock ∧ some k_ ≠ (.slice Ao24 t116.length co24 : Value).ownBlock ∧ some k_ ≠ (.slice Ao33 y124.length co33 : Value).ownBlock ∧ some k_ ≠ (.slice Ao34 y127.length co34 : Value).ownBlock ∧ some k_ ≠ (.slice Ao36 t130.length co36 : Value).ownBlock ∧ some k_ ≠ (.slice Ao38 t133.length co38 : Value).ownBlock ∧ k_ ≠ gb120) (.slice Ao40 t136.length co40) t136) := ⟨by (with_reducible repeat (first | apply Kd.N_alloc | apply Kd.N_drewN | apply Kd.N_drew)); exact Kd.N_mono (Kd.N_far (p := ⟨gb120, 1, none⟩) (Kd.N_far (p := ⟨gb120, 0, none⟩) (Kd.N_mono HO138.out (fun k_ hk => (⟨hk, hk.2.2.2.2.2.2⟩ : _ ∧ k_ ≠ gb120))) (fun _ hk => hk.2) (.slice Ao38 t133.length co38)) (fun _ hk => hk.2) (.slice Ao40 t136.length co40)) (fun _ hk => ⟨hk.1.2.1, ⟨hk.1.2.2.1, ⟨hk.1.2.2.2.1, ⟨hk.1.2.2.2.2.1, ⟨hk.1.2.2.2.2.2.1, ⟨hk.1.1, hk.1.2.2.2.2.2.2⟩⟩⟩⟩⟩⟩)⟩
        have n7_ : Aside0 (((w37.setCell ⟨gb120, 0, none⟩ (.slice Ao38 t133.length co38)).setCell ⟨gb120, 1, none⟩ (.slice Ao40 t136.length co40)).heap[gb120]? = some (.cells #[.slice Ao38 t133.length co38, .slice Ao40 t136.length co40] 58 (0, 0))) := ⟨by (with_reducible repeat (first | refine blk_drewN ?_ _ | refine blk_drew ?_ | refine blk_alloc ?_ _)); refine blk_put (cs := #[.slice Ao38 t133.length co38, .slice Ao24 t116.length co24]) ?_ 1 _ rfl; (with_reducible repeat (first | refine blk_drewN ?_ _ | refine blk_drew ?_ | refine blk_alloc ?_ _)); refine blk_put (cs := #[.slice Ao22 t113.length co22, .slice Ao24 t116.length co24]) ?_ 0 _ rfl; (with_reducible repeat (first | refine blk_drewN ?_ _ | refine blk_drew ?_ | refine blk_alloc ?_ _)); exact BK120.out⟩
        have n8_ : Aside0 (Below w.heap.size w ((w37.setCell ⟨gb120, 0, none⟩ (.slice Ao38 t133.length co38)).setCell ⟨gb120, 1, none⟩ (.slice Ao40 t136.length co40))) := ⟨by repeat (first | (with_reducible first | exact HB.out | apply below_alloc | apply pw_below_drewN | apply below_drew1 | refine below_set ?_ GE120.out) | exact HB.out)⟩
        (try clear HO115)
        (try clear HO118)
        (try clear HO126)
        (try clear HO129)
        (try clear HO132)
        (try clear HO135)
        (try clear HO138)
        (try clear BK120)
        (try clear HB)
        generalize ((w37.setCell ⟨gb120, 0, none⟩ (.slice Ao38 t133.length co38)).setCell ⟨gb120, 1, none⟩ (.slice Ao40 t136.length co40)) = w42 at n0_ n1_ n2_ n3_ n4_ n5_ n6_ n7_ n8_ ⊢
        have HO115 := n0_
        have HO118 := n1_
        have HO126 := n2_
        have HO129 := n3_
        have HO132 := n4_
        have HO135 := n5_
        have HO138 := n6_
        have BK120 := n7_
        have HB := n8_
        clear n0_ n1_ n2_ n3_ n4_ n5_ n6_ n7_ n8_
        have n0_ := Aside0.mk (Kd.N_drew HO115.out)
        have n1_ := Aside0.mk (Kd.N_drew HO118.out)
        have n2_ := Aside0.mk (Kd.R_drew HO126.out)
        have n3_ := Aside0.mk (Kd.R_drew HO129.out)
        have n4_ := Aside0.mk (Kd.R_drew HO132.out)
        have n5_ := Aside0.mk (Kd.N_drew HO135.out)
        have n6_ := Aside0.mk (Kd.N_drew HO138.out)
        have n7_ := Aside0.mk (blk_drew BK120.out)
        have n8_ := Aside0.mk (below_drew1 HB.out)
        clear HO115
        clear HO118
        clear HO126
        clear HO129
        clear HO132
        clear HO135
        clear HO138
        clear BK120
        clear HB
        have HO115 := n0_
        have HO118 := n1_
        have HO126 := n2_
        have HO129 := n3_
        have HO132 := n4_
        have HO135 := n5_
        have HO138 := n6_
        have BK120 := n7_
        have HB := n8_
        clear n0_ n1_ n2_ n3_ n4_ n5_ n6_ n7_ n8_
        refine start_ (n := 10) (S := fun w' => w'.cell? ⟨gb120, 0, none⟩ = some (.slice Ao38 t133.length co38) ∧ w'.cell? ⟨gb120, 1, none⟩ = some (.slice Ao40 t136.length co40)) (ds := [8]) #[false, false, false, false, false, false, false, false, false, false] (by kernel_rfl) rfl rfl ⟨(blk_cell BK120.out 0).trans rfl, (blk_cell BK120.out 1).trans rfl⟩ (fun hHeld => ?_); refine with_tabW fanlightlaw05_alive.tab3 fanlightlaw05_alive.bits3 (fun HT_ HW_ => ?_)
        generalize w42.drew = w43 at HO115 HO118 HO126 HO129 HO132 HO135 HO138 BK120 HB hHeld ⊢
        refine take_ (i := 0) (N := some 23) (v := ?_) (a' := ?_) #[true, false, false, false, false, false, false, false, false, false] rfl rfl (take_ofW HT_.out HW_.out (by kernel_rfl)) (fun _ _ _ h => h) (Or.inl ⟨by rfl, ?_⟩) hHeld ?_ ?_
        rotate_left
        ·
         rintro w' ⟨s0, s1⟩
         go_simp
         with_reducible rfl
        rotate_left
        ·
         simp only [Act.put, List.setIfInBounds_toArray, List.set_cons_zero, List.set_cons_succ, i64_w, i32_w]
         rfl
        refine one_ (i := 1) (N := some 24) #[true, true, false, false, false, false, false, false, false, false] rfl rfl (one_of HT_.out (by kernel_rfl)) (by decide) (fun K hK => ?_)
        refine Kd.R_lit_step (Kd.int .u8) _ 5 ?hg (N := 24) ?hd (xs := ([9] : List Int)) (inner := [.int .u8 9]) (ok := fun _ => True) (okp := fun _ => True) ?hr ?hp (fun _ hk => hk) trivial (Below.refl _ _) (Nat.le_refl _) (by simp) ?_; (case hd => rfl); (case hg => rfl); (case hr => first | (go_simp; done) | (go_simp; rfl)); (case hp => exact (Reps.one (show Kd.M (Kd.int .u8) _ _ _ 9 [.int .u8 9] from rfl) (Reps.none _ _)))
        intro v141 w44 ho45 hb hg_ hnew_
        clear hg_ hnew_
        (first | rw [← Ny140.out] at ho45 | (simp only [Int.reduceToNat] at ho45; rw [← Ny140.out] at ho45))
        have n0_ := Aside0.mk (Kd.N_elder' (by (with_reducible repeat (first | apply Kd.N_alloc | apply Kd.N_drewN | apply Kd.N_drew)); exact HO115.out) (Kd.R_base ho45) hb)
        have n1_ := Aside0.mk (Kd.N_elder' (by (with_reducible repeat (first | apply Kd.N_alloc | apply Kd.N_drewN | apply Kd.N_drew)); exact HO118.out) (Kd.R_base ho45) hb)
        have n2_ := Aside0.mk (Kd.R_elder' (by (with_reducible repeat (first | apply Kd.R_alloc | apply Kd.R_drewN | apply Kd.R_drew)); exact HO126.out) (Kd.R_base ho45) hb)
        have n3_ := Aside0.mk (Kd.R_elder' (by (with_reducible repeat (first | apply Kd.R_alloc | apply Kd.R_drewN | apply Kd.R_drew)); exact HO129.out) (Kd.R_base ho45) hb)
        have n4_ := Aside0.mk (Kd.R_elder' (by (with_reducible repeat (first | apply Kd.R_alloc | apply Kd.R_drewN | apply Kd.R_drew)); exact HO132.out) (Kd.R_base ho45) hb)
        have n5_ := Aside0.mk (Kd.N_elder' (by (with_reducible repeat (first | apply Kd.N_alloc | apply Kd.N_drewN | apply Kd.N_drew)); exact HO135.out) (Kd.R_base ho45) hb)
        have n6_ := Aside0.mk (Kd.N_elder' (by (with_reducible repeat (first | apply Kd.N_alloc | apply Kd.N_drewN | apply Kd.N_drew)); exact HO138.out) (Kd.R_base ho45) hb)
        have n7_ := Aside0.mk (Kd.R_lower (Kd.R_new' (Kd.R_new' (Kd.R_new' ho45 (Kd.R_lt (by (with_reducible repeat (first | apply Kd.R_alloc | apply Kd.R_drewN | apply Kd.R_drew)); exact HO126.out))) (Kd.R_lt (by (with_reducible repeat (first | apply Kd.R_alloc | apply Kd.R_drewN | apply Kd.R_drew)); exact HO129.out))) (Kd.R_lt (by (with_reducible repeat (first | apply Kd.R_alloc | apply Kd.R_drewN | apply Kd.R_drew)); exact HO132.out))) (below_size (by repeat (first | (with_reducible first | exact HB.out | apply below_alloc | apply pw_below_drewN | apply below_drew1 | refine below_set ?_ GE120.out) | exact HB.out))))
        have n8_ := Aside0.mk (blk_below (g := gb120) (o := .cells #[.slice Ao38 t133.length co38, .slice Ao40 t136.length co40] 58 (0, 0)) (by (with_reducible repeat (first | refine blk_drewN ?_ _ | refine blk_drew ?_ | refine blk_alloc ?_ _)); exact BK120.out) hb)
        have n9_ := Aside0.mk (below_step (by repeat (first | (with_reducible first | exact HB.out | apply below_alloc | apply pw_below_drewN | apply below_drew1 | refine below_set ?_ GE120.out) | exact HB.out)) hb)
        clear HO115
        clear HO118
        clear HO126
        clear HO129
        clear HO132
        clear HO135
        clear HO138
        clear BK120
        clear HB
        have HO115 := n0_
        have HO118 := n1_
        have HO126 := n2_
        have HO129 := n3_
        have HO132 := n4_
        have HO135 := n5_
        have HO138 := n6_
        have HO142 := n7_
        have BK120 := n8_
        have HB := n9_
        clear n0_ n1_ n2_ n3_ n4_ n5_ n6_ n7_ n8_ n9_
        clear hb ho45
        obtain ⟨Ao46, co46, eo46⟩ := Kd.R_slice HO142.out
        (first | subst eo46 | (injection eo46 with f1_ f2_ f3_; have f4_ := f1_.symm; have f5_ := f3_.symm; clear f1_ f2_ f3_; subst f4_; subst f5_))
        refine hK.out _ _ ⟨(blk_cell BK120.out 0).trans rfl, (blk_cell BK120.out 1).trans rfl⟩ (fun hHeld => ?_)
        clear hK K
        refine norm_ (a' := ?_) ?_ ?_
        rotate_left
        ·
         show Act.put _ (some 24) _ = _
         simp only [Act.put, List.setIfInBounds_toArray, List.set_cons_zero, List.set_cons_succ, i64_w, i32_w]
         rfl
        refine one_ (i := 2) (N := some 25) #[true, true, true, false, false, false, false, false, false, false] rfl rfl (one_of HT_.out (by kernel_rfl)) (by decide) (fun K hK => ?_)
        refine goes_ Try.func52 (by kernel_rfl) rfl #[.slice Ao46 y140.length co46] (by rfl) rfl rfl (by (try simp only [List.map_toArray, List.map_cons, List.map_nil]); first | done | rfl | (simp only [List.length_drop, List.length_take]; rfl)) ?_
        with_reducible refine (disk_Padded.calls _ _ y140 t143 _ ?side1 ?side2 A6.out).mono ?_
        (case side1 => repeat (first | exact (Kd.R_reads' HO142.out).2.2 | (with_reducible refine Kd.C_alloc ?_ _) | (with_reducible refine Kd.C_drewN ?_ _) | (with_reducible refine Kd.C_drew ?_)))
        (case side2 => exact (Kd.R_reads' HO142.out).2.1)
        rintro e w47 ⟨v144, rfl, ho0, hb⟩
        refine ⟨_, rfl, ?_⟩
        have n0_ := Aside0.mk (Kd.N_elder' (by (with_reducible repeat (first | apply Kd.N_alloc | apply Kd.N_drewN | apply Kd.N_drew)); exact HO115.out) (Kd.R_base ho0) hb)
        have n1_ := Aside0.mk (Kd.N_elder' (by (with_reducible repeat (first | apply Kd.N_alloc | apply Kd.N_drewN | apply Kd.N_drew)); exact HO118.out) (Kd.R_base ho0) hb)
        have n2_ := Aside0.mk (Kd.R_elder' (by (with_reducible repeat (first | apply Kd.R_alloc | apply Kd.R_drewN | apply Kd.R_drew)); exact HO126.out) (Kd.R_base ho0) hb)
        have n3_ := Aside0.mk (Kd.R_elder' (by (with_reducible repeat (first | apply Kd.R_alloc | apply Kd.R_drewN | apply Kd.R_drew)); exact HO129.out) (Kd.R_base ho0) hb)
        have n4_ := Aside0.mk (Kd.R_elder' (by (with_reducible repeat (first | apply Kd.R_alloc | apply Kd.R_drewN | apply Kd.R_drew)); exact HO132.out) (Kd.R_base ho0) hb)
        have n5_ := Aside0.mk (Kd.N_elder' (by (with_reducible repeat (first | apply Kd.N_alloc | apply Kd.N_drewN | apply Kd.N_drew)); exact HO135.out) (Kd.R_base ho0) hb)
        have n6_ := Aside0.mk (Kd.N_elder' (by (with_reducible repeat (first | apply Kd.N_alloc | apply Kd.N_drewN | apply Kd.N_drew)); exact HO138.out) (Kd.R_base ho0) hb)
        have n7_ := Aside0.mk (Kd.R_elder' (by (with_reducible repeat (first | apply Kd.R_alloc | apply Kd.R_drewN | apply Kd.R_drew)); exact HO142.out) (Kd.R_base ho0) hb)
        have n8_ := Aside0.mk (Kd.R_lower (Kd.R_new' (Kd.R_new' (Kd.R_new' (Kd.R_new' ho0 (Kd.R_lt (by (with_reducible repeat (first | apply Kd.R_alloc | apply Kd.R_drewN | apply Kd.R_drew)); exact HO126.out))) (Kd.R_lt (by (with_reducible repeat (first | apply Kd.R_alloc | apply Kd.R_drewN | apply Kd.R_drew)); exact HO129.out))) (Kd.R_lt (by (with_reducible repeat (first | apply Kd.R_alloc | apply Kd.R_drewN | apply Kd.R_drew)); exact HO132.out))) (Kd.R_lt (by (with_reducible repeat (first | apply Kd.R_alloc | apply Kd.R_drewN | apply Kd.R_drew)); exact HO142.out))) (below_size (by repeat (first | (with_reducible first | exact HB.out | apply below_alloc | apply pw_below_drewN | apply below_drew1 | refine below_set ?_ GE120.out) | exact HB.out))))
        have n9_ := Aside0.mk (blk_below (g := gb120) (o := .cells #[.slice Ao38 t133.length co38, .slice Ao40 t136.length co40] 58 (0, 0)) (by (with_reducible repeat (first | refine blk_drewN ?_ _ | refine blk_drew ?_ | refine blk_alloc ?_ _)); exact BK120.out) hb)
        have n10_ := Aside0.mk (below_step (by repeat (first | (with_reducible first | exact HB.out | apply below_alloc | apply pw_below_drewN | apply below_drew1 | refine below_set ?_ GE120.out) | exact HB.out)) hb)
        clear HO115
        clear HO118
        clear HO126
        clear HO129
        clear HO132
        clear HO135
        clear HO138
        clear HO142
        clear BK120
        clear HB
        have HO115 := n0_
        have HO118 := n1_
        have HO126 := n2_
        have HO129 := n3_
        have HO132 := n4_
        have HO135 := n5_
        have HO138 := n6_
        have HO142 := n7_
        have HO145 := n8_
        have BK120 := n9_
        have HB := n10_
        clear n0_ n1_ n2_ n3_ n4_ n5_ n6_ n7_ n8_ n9_ n10_
        (try clear hb)
        (try clear hb2)
        (try clear hk)
        (try clear hi)
        (try clear ho0)
        obtain ⟨Ao48, co48, eo48⟩ := Kd.R_slice HO145.out
        (first | subst eo48 | (injection eo48 with f1_ f2_ f3_; have f4_ := f1_.symm; have f5_ := f3_.symm; clear f1_ f2_ f3_; subst f4_; subst f5_))
        refine hK.out _ _ ⟨(blk_cell BK120.out 0).trans rfl, (blk_cell BK120.out 1).trans rfl⟩ (fun hHeld => ?_)
        clear hK K
        refine norm_ (a' := ?_) ?_ ?_
        rotate_left
        ·
         show Act.put _ (some 25) _ = _
         simp only [Act.put, List.setIfInBounds_toArray, List.set_cons_zero, List.set_cons_succ, i64_w, i32_w]
         rfl
        refine pure_ (i := 3) (N := some 26) (v := ?_) (a' := ?_) #[true, true, true, true, false, false, false, false, false, false] rfl rfl (any_of HT_.out (by kernel_rfl)) (fun _ _ _ h => h) (Or.inl ⟨by rfl, ?_⟩) ?_ ?_
        rotate_left
        ·
         intro w'
         go_simp
         with_reducible rfl
        rotate_left
        ·
         simp only [Act.put, List.setIfInBounds_toArray, List.set_cons_zero, List.set_cons_succ, i64_w, i32_w]
         rfl
        refine one_ (i := 4) (N := some 27) #[true, true, true, true, true, false, false, false, false, false] rfl rfl (one_of HT_.out (by kernel_rfl)) (by decide) (fun K hK => ?_)
        refine goes_ Try.func30 (by kernel_rfl) rfl #[.agg #[.slice Ao38 t133.length co38, .slice Ao40 t136.length co40], .agg #[.bool false, .int .i64 0, .slice Ao48 t143.length co48]] (by rfl) rfl rfl (by (try simp only [List.map_toArray, List.map_cons, List.map_nil]); first | done | rfl | (simp only [List.length_drop, List.length_take]; rfl)) ?_
        with_reducible refine (disk_Do.calls _ _ t133 _ _ t136 false 0 _ _ t143 t146 t149 t152 _ ?side1 ?side2 ?side3 ?side4 ?side5 ?side6 A7.out).mono ?_
        (case side1 => repeat (first | exact (Kd.N_reads' HO135.out).2.2 | (with_reducible refine Kd.C_alloc ?_ _) | (with_reducible refine Kd.C_drewN ?_ _) | (with_reducible refine Kd.C_drew ?_)))
        (case side2 => exact (Kd.N_reads' HO135.out).2.1)
        (case side3 => repeat (first | exact (Kd.N_reads' HO138.out).2.2 | (with_reducible refine Kd.C_alloc ?_ _) | (with_reducible refine Kd.C_drewN ?_ _) | (with_reducible refine Kd.C_drew ?_)))
        (case side4 => exact (Kd.N_reads' HO138.out).2.1)
        (case side5 => repeat (first | exact (Kd.R_reads' HO145.out).2.2 | (with_reducible refine Kd.C_alloc ?_ _) | (with_reducible refine Kd.C_drewN ?_ _) | (with_reducible refine Kd.C_drew ?_)))
        (case side6 => exact (Kd.R_reads' HO145.out).2.1)
        rintro e w49 ⟨v147, v150, rfl, ho0, ho1, hb⟩
        refine ⟨_, rfl, ?_⟩
        have n0_ := Aside0.mk (Kd.N_mono (Kd.N_told (Kd.N_told (Kd.N_old (by (with_reducible repeat (first | apply Kd.N_alloc | apply Kd.N_drewN | apply Kd.N_drew)); exact HO115.out) hb) (by first | exact Kd.N_base ho0 | exact Kd.S_base ho0 | exact Kd.R_base ho0)) (by first | exact Kd.N_base ho1 | exact Kd.S_base ho1 | exact Kd.R_base ho1)) (fun _ h_ => h_.1))
        have n1_ := Aside0.mk (Kd.N_mono (Kd.N_told (Kd.N_told (Kd.N_old (by (with_reducible repeat (first | apply Kd.N_alloc | apply Kd.N_drewN | apply Kd.N_drew)); exact HO118.out) hb) (by first | exact Kd.N_base ho0 | exact Kd.S_base ho0 | exact Kd.R_base ho0)) (by first | exact Kd.N_base ho1 | exact Kd.S_base ho1 | exact Kd.R_base ho1)) (fun _ h_ => h_.1))
        have n2_ := Aside0.mk (Kd.R_below (by (with_reducible repeat (first | apply Kd.R_alloc | apply Kd.R_drewN | apply Kd.R_drew)); exact HO126.out) hb)
        have n3_ := Aside0.mk (Kd.R_below (by (with_reducible repeat (first | apply Kd.R_alloc | apply Kd.R_drewN | apply Kd.R_drew)); exact HO129.out) hb)
        have n4_ := Aside0.mk (Kd.R_below (by (with_reducible repeat (first | apply Kd.R_alloc | apply Kd.R_drewN | apply Kd.R_drew)); exact HO132.out) hb)
        have n5_ := Aside0.mk (Kd.N_mono (Kd.N_told (Kd.N_told (Kd.N_old (by (with_reducible repeat (first | apply Kd.N_alloc | apply Kd.N_drewN | apply Kd.N_drew)); exact HO135.out) hb) (by first | exact Kd.N_base ho0 | exact Kd.S_base ho0 | exact Kd.R_base ho0)) (by first | exact Kd.N_base ho1 | exact Kd.S_base ho1 | exact Kd.R_base ho1)) (fun _ h_ => h_.1))
        have n6_ := Aside0.mk (Kd.N_mono (Kd.N_told (Kd.N_told (Kd.N_old (by (with_reducible repeat (first | apply Kd.N_alloc | apply Kd.N_drewN | apply Kd.N_drew)); exact HO138.out) hb) (by first | exact Kd.N_base ho0 | exact Kd.S_base ho0 | exact Kd.R_base ho0)) (by first | exact Kd.N_base ho1 | exact Kd.S_base ho1 | exact Kd.R_base ho1)) (fun _ h_ => h_.1))
        have n7_ := Aside0.mk (Kd.R_below (by (with_reducible repeat (first | apply Kd.R_alloc | apply Kd.R_drewN | apply Kd.R_drew)); exact HO142.out) hb)
        have n8_ := Aside0.mk (Kd.R_below (by (with_reducible repeat (first | apply Kd.R_alloc | apply Kd.R_drewN | apply Kd.R_drew)); exact HO145.out) hb)
        have n9_ := Aside0.mk (Kd.N_lower (Kd.N_mono (ok' := fun k_ => some k_ ≠ (v150 : Value).ownBlock ∧ some k_ ≠ (.slice Ao22 t113.length co22 : Value).ownBlock ∧ some k_ ≠ (.slice Ao24 t116.length co24 : Value).ownBlock ∧ some k_ ≠ (.slice Ao33 y124.length co33 : Value).ownBlock ∧ some k_ ≠ (.slice Ao34 y127.length co34 : Value).ownBlock ∧ some k_ ≠ (.slice Ao36 t130.length co36 : Value).ownBlock ∧ some k_ ≠ (.slice Ao38 t133.length co38 : Value).ownBlock ∧ some k_ ≠ (.slice Ao40 t136.length co40 : Value).ownBlock ∧ some k_ ≠ (.slice Ao46 y140.length co46 : Value).ownBlock ∧ some k_ ≠ (.slice Ao48 t143.length co48 : Value).ownBlock ∧ k_ ≠ gb120) (Kd.S_N (Kd.S_bound (Kd.S_apart' ho0 (Kd.S_typed ho1) (by decide)))) (fun k_ hk_ => ⟨hk_.1.2, (Kd.fresh' (Kd.N_lt (by (with_reducible repeat (first | apply Kd.N_alloc | apply Kd.N_drewN | apply Kd.N_drew)); exact HO115.out)) k_ hk_.2.1), (Kd.fresh' (Kd.N_lt (by (with_reducible repeat (first | apply Kd.N_alloc | apply Kd.N_drewN | apply Kd.N_drew)); exact HO118.out)) k_ hk_.2.1), (Kd.fresh' (Kd.R_lt (by (with_reducible repeat (first | apply Kd.R_alloc | apply Kd.R_drewN | apply Kd.R_drew)); exact HO126.out)) k_ hk_.2.1), (Kd.fresh' (Kd.R_lt (by (with_reducible repeat (first | apply Kd.R_alloc | apply Kd.R_drewN | apply Kd.R_drew)); exact HO129.out)) k_ hk_.2.1), (Kd.fresh' (Kd.R_lt (by (with_reducible repeat (first | apply Kd.R_alloc | apply Kd.R_drewN | apply Kd.R_drew)); exact HO132.out)) k_ hk_.2.1), (Kd.fresh' (Kd.N_lt (by (with_reducible repeat (first | apply Kd.N_alloc | apply Kd.N_drewN | apply Kd.N_drew)); exact HO135.out)) k_ hk_.2.1), (Kd.fresh' (Kd.N_lt (by (with_reducible repeat (first | apply Kd.N_alloc | apply Kd.N_drewN | apply Kd.N_drew)); exact HO138.out)) k_ hk_.2.1), (Kd.fresh' (Kd.R_lt (by (with_reducible repeat (first | apply Kd.R_alloc | apply Kd.R_drewN | apply Kd.R_drew)); exact HO142.out)) k_ hk_.2.1), (Kd.fresh' (Kd.R_lt (by (with_reducible repeat (first | apply Kd.R_alloc | apply Kd.R_drewN | apply Kd.R_drew)); exact HO145.out)) k_ hk_.2.1), (Kd.freshB (g := gb120) (o := .cells #[.slice Ao38 t133.length co38, .slice Ao40 t136.length co40] 58 (0, 0)) (by (with_reducible repeat (first | refine blk_drewN ?_ _ | refine blk_drew ?_ | refine blk_alloc ?_ _)); exact BK120.out) k_ hk_.2.1)⟩)) (below_size (by repeat (first | (with_reducible first | exact HB.out | apply below_alloc | apply pw_below_drewN | apply below_drew1 | refine below_set ?_ GE120.out) | exact HB.out))))
        have n10_ := Aside0.mk (Kd.N_lower (Kd.N_mono (ok' := fun k_ => some k_ ≠ (v147 : Value).ownBlock ∧ some k_ ≠ (.slice Ao22 t113.length co22 : Value).ownBlock ∧ some k_ ≠ (.slice Ao24 t116.length co24 : Value).ownBlock ∧ some k_ ≠ (.slice Ao33 y124.length co33 : Value).ownBlock ∧ some k_ ≠ (.slice Ao34 y127.length co34 : Value).ownBlock ∧ some k_ ≠ (.slice Ao36 t130.length co36 : Value).ownBlock ∧ some k_ ≠ (.slice Ao38 t133.length co38 : Value).ownBlock ∧ some k_ ≠ (.slice Ao40 t136.length co40 : Value).ownBlock ∧ some k_ ≠ (.slice Ao46 y140.length co46 : Value).ownBlock ∧ some k_ ≠ (.slice Ao48 t143.length co48 : Value).ownBlock ∧ k_ ≠ gb120) (Kd.S_N (Kd.S_bound (Kd.S_apart' ho1 (Kd.S_typed ho0) (by decide)))) (fun k_ hk_ => ⟨hk_.1.2, (Kd.fresh' (Kd.N_lt (by (with_reducible repeat (first | apply Kd.N_alloc | apply Kd.N_drewN | apply Kd.N_drew)); exact HO115.out)) k_ hk_.2.1), (Kd.fresh' (Kd.N_lt (by (with_reducible repeat (first | apply Kd.N_alloc | apply Kd.N_drewN | apply Kd.N_drew)); exact HO118.out)) k_ hk_.2.1), (Kd.fresh' (Kd.R_lt (by (with_reducible repeat (first | apply Kd.R_alloc | apply Kd.R_drewN | apply Kd.R_drew)); exact HO126.out)) k_ hk_.2.1), (Kd.fresh' (Kd.R_lt (by (with_reducible repeat (first | apply Kd.R_alloc | apply Kd.R_drewN | apply Kd.R_drew)); exact HO129.out)) k_ hk_.2.1), (Kd.fresh' (Kd.R_lt (by (with_reducible repeat (first | apply Kd.R_alloc | apply Kd.R_drewN | apply Kd.R_drew)); exact HO132.out)) k_ hk_.2.1), (Kd.fresh' (Kd.N_lt (by (with_reducible repeat (first | apply Kd.N_alloc | apply Kd.N_drewN | apply Kd.N_drew)); exact HO135.out)) k_ hk_.2.1), (Kd.fresh' (Kd.N_lt (by (with_reducible repeat (first | apply Kd.N_alloc | apply Kd.N_drewN | apply Kd.N_drew)); exact HO138.out)) k_ hk_.2.1), (Kd.fresh' (Kd.R_lt (by (with_reducible repeat (first | apply Kd.R_alloc | apply Kd.R_drewN | apply Kd.R_drew)); exact HO142.out)) k_ hk_.2.1), (Kd.fresh' (Kd.R_lt (by (with_reducible repeat (first | apply Kd.R_alloc | apply Kd.R_drewN | apply Kd.R_drew)); exact HO145.out)) k_ hk_.2.1), (Kd.freshB (g := gb120) (o := .cells #[.slice Ao38 t133.length co38, .slice Ao40 t136.length co40] 58 (0, 0)) (by (with_reducible repeat (first | refine blk_drewN ?_ _ | refine blk_drew ?_ | refine blk_alloc ?_ _)); exact BK120.out) k_ hk_.2.1)⟩)) (below_size (by repeat (first | (with_reducible first | exact HB.out | apply below_alloc | apply pw_below_drewN | apply below_drew1 | refine below_set ?_ GE120.out) | exact HB.out))))
        have n11_ := Aside0.mk (blk_below (g := gb120) (o := .cells #[.slice Ao38 t133.length co38, .slice Ao40 t136.length co40] 58 (0, 0)) (by (with_reducible repeat (first | refine blk_drewN ?_ _ | refine blk_drew ?_ | refine blk_alloc ?_ _)); exact BK120.out) hb)
        have n12_ := Aside0.mk (below_step (by repeat (first | (with_reducible first | exact HB.out | apply below_alloc | apply pw_below_drewN | apply below_drew1 | refine below_set ?_ GE120.out) | exact HB.out)) hb)
        clear HO115
        clear HO118
        clear HO126
        clear HO129
        clear HO132
        clear HO135
        clear HO138
        clear HO142
        clear HO145
        clear BK120
        clear HB
        have HO115 := n0_
        have HO118 := n1_
        have HO126 := n2_
        have HO129 := n3_
        have HO132 := n4_
        have HO135 := n5_
        have HO138 := n6_
        have HO142 := n7_
        have HO145 := n8_
        have HO148 := n9_
        have HO151 := n10_
        have BK120 := n11_
        have HB := n12_
        clear n0_ n1_ n2_ n3_ n4_ n5_ n6_ n7_ n8_ n9_ n10_ n11_ n12_
        (try clear hb)
        (try clear hb2)
        (try clear hk)
        (try clear hi)
        (try clear ho0)
        (try clear ho1)
        obtain ⟨Ao50, co50, eo50⟩ := Kd.N_slice HO148.out
        (first | subst eo50 | (injection eo50 with f1_ f2_ f3_; have f4_ := f1_.symm; have f5_ := f3_.symm; clear f1_ f2_ f3_; subst f4_; subst f5_))
        obtain ⟨Ao52, co52, eo52⟩ := Kd.N_slice HO151.out
        (first | subst eo52 | (injection eo52 with f1_ f2_ f3_; have f4_ := f1_.symm; have f5_ := f3_.symm; clear f1_ f2_ f3_; subst f4_; subst f5_))
        refine hK.out _ _ ⟨(blk_cell BK120.out 0).trans rfl, (blk_cell BK120.out 1).trans rfl⟩ (fun hHeld => ?_)
        clear hK K
        refine norm_ (a' := ?_) ?_ ?_
        rotate_left
        ·
         show Act.put _ (some 27) _ = _
         simp only [Act.put, List.setIfInBounds_toArray, List.set_cons_zero, List.set_cons_succ, i64_w, i32_w]
         rfl
        refine pure_ (i := 5) (N := some 22) (v := ?_) (a' := ?_) #[true, true, true, true, true, true, false, false, false, false] rfl rfl (any_of HT_.out (by kernel_rfl)) (fun _ _ _ h => h) (Or.inl ⟨by rfl, ?_⟩) ?_ ?_
        rotate_left
        ·
         intro w'
         go_simp
         with_reducible rfl
        rotate_left
        ·
         simp only [Act.put, List.setIfInBounds_toArray, List.set_cons_zero, List.set_cons_succ, i64_w, i32_w]
         rfl
        refine pure_ (i := 6) (N := some 28) (v := ?_) (a' := ?_) #[true, true, true, true, true, true, true, false, false, false] rfl rfl (any_of HT_.out (by kernel_rfl)) (fun _ _ _ h => h) (Or.inl ⟨by rfl, ?_⟩) ?_ ?_
        rotate_left
        ·
         intro w'
         go_simp
         with_reducible rfl
        rotate_left
        ·
         simp only [Act.put, List.setIfInBounds_toArray, List.set_cons_zero, List.set_cons_succ, i64_w, i32_w]
         rfl
        refine pure_ (i := 7) (N := some 29) (v := ?_) (a' := ?_) #[true, true, true, true, true, true, true, true, false, false] rfl rfl (any_of HT_.out (by kernel_rfl)) (fun _ _ _ h => h) (Or.inl ⟨by rfl, ?_⟩) ?_ ?_
        rotate_left
        ·
         intro w'
         go_simp
         with_reducible rfl
        rotate_left
        ·
         simp only [Act.put, List.setIfInBounds_toArray, List.set_cons_zero, List.set_cons_succ, i64_w, i32_w]
         rfl
        refine last_ (i := 8) (N := none) #[true, true, true, true, true, true, true, true, true, false] rfl rfl (one_of HT_.out (by kernel_rfl)) (by decide) (fun K hK => ?_)
        have hs51 : w49.cell? ⟨gb120, 0, none⟩ = some (.slice Ao38 t133.length co38) := (blk_cell BK120.out 0).trans rfl
        have hfs51 := blk_frozen BK120.out 0
        have hs53 : w49.cell? ⟨gb120, 1, none⟩ = some (.slice Ao40 t136.length co40) := (blk_cell BK120.out 1).trans rfl
        have hfs53 := blk_frozen BK120.out 1
        refine skip_ (w1 := ?_) (by rfl) rfl ?_ ?_
        rotate_left
        ·
         go_simp
         rfl
        refine hK.out _ _ ?_
        clear hK K
        refine pure_ (i := 9) (N := some 4) (v := ?_) (a' := ?_) #[true, true, true, true, true, true, true, true, true, true] rfl rfl (any_of HT_.out (by kernel_rfl)) (fun _ _ _ h => h) (Or.inl ⟨by rfl, ?_⟩) ?_ ?_
        rotate_left
        ·
         intro w'
         go_simp
         with_reducible rfl
        rotate_left
        ·
         simp only [Act.put, List.setIfInBounds_toArray, List.set_cons_zero, List.set_cons_succ, i64_w, i32_w]
         rfl
        refine done_ (done_of HT_.out (by kernel_rfl)) ?_
        have hcz54_0 : w49.cell? ⟨gb120, 0, none⟩ = some (.slice Ao38 t133.length co38) := (blk_cell BK120.out 0).trans rfl
        have hcz54_1 : w49.cell? ⟨gb120, 1, none⟩ = some (.slice Ao40 t136.length co40) := (blk_cell BK120.out 1).trans rfl
        have hfz54_0 := blk_frozen BK120.out 0
        have hfz54_1 := blk_frozen BK120.out 1
        try go_wp2_with (first | ((with_reducible refine gate_dst (N := 32) rfl ?_); (try (refine gate_guard (by rfl) ?_; dsimp only)); refine Kd.R_lit (Kd.int .i64) _ 3 ?hg (N := 32) ?hd (xs := ([0, 1] : List Int)) (inner := [.int .i64 0, .int .i64 1]) (ok := fun _ => True) (okp := fun _ => True) ?hr ?hp (fun _ hk => hk) trivial (Below.refl _ _) (Nat.le_refl _) (by simp) ?_; (case hd => rfl); (case hg => rfl); (case hr => first | (go_simp; done) | (go_simp; rfl)); (case hp => exact (Reps.one (show Kd.M (Kd.int .i64) _ _ _ 0 [.int .i64 0] from rfl) (Reps.one (show Kd.M (Kd.int .i64) _ _ _ 1 [.int .i64 1] from rfl) (Reps.none _ _)))); intro v154 w55 ho56 hb hg_ hnew_; clear hg_ hnew_; (first | rw [← Ny153.out] at ho56 | (simp only [Int.reduceToNat] at ho56; rw [← Ny153.out] at ho56)); have n0_ := Aside0.mk (Kd.N_elder' (by (with_reducible repeat (first | apply Kd.N_alloc | apply Kd.N_drewN | apply Kd.N_drew)); exact (Kd.N_mono (Kd.N_far (p := ⟨gb120, 1, none⟩) (Kd.N_far (p := ⟨gb120, 0, none⟩) (Kd.N_mono HO115.out (fun k_ hk => (⟨hk, hk.1.1.1.1.2.2.2.2.2.2⟩ : _ ∧ k_ ≠ gb120))) (fun _ hk => hk.2) (.slice Ao50 t146.length co50)) (fun _ hk => hk.2) (.slice Ao52 t149.length co52)) (fun _ h_ => h_.1))) (Kd.R_base ho56) hb); have n1_ := Aside0.mk (Kd.N_elder' (by (with_reducible repeat (first | apply Kd.N_alloc | apply Kd.N_drewN | apply Kd.N_drew)); exact (Kd.N_mono (Kd.N_far (p := ⟨gb120, 1, none⟩) (Kd.N_far (p := ⟨gb120, 0, none⟩) (Kd.N_mono HO118.out (fun k_ hk => (⟨hk, hk.1.1.1.1.2.2.2.2.2.2⟩ : _ ∧ k_ ≠ gb120))) (fun _ hk => hk.2) (.slice Ao50 t146.length co50)) (fun _ hk => hk.2) (.slice Ao52 t149.length co52)) (fun _ h_ => h_.1))) (Kd.R_base ho56) hb); have n2_ := Aside0.mk (Kd.R_below (by (with_reducible repeat (first | apply Kd.R_alloc | apply Kd.R_drewN | apply Kd.R_drew)); exact (Kd.R_mono (Kd.R_far (p := ⟨gb120, 1, none⟩) (Kd.R_far (p := ⟨gb120, 0, none⟩) (Kd.R_types HO126.out BK120.out (by decide)) (fun _ hk => hk.2) (.slice Ao50 t146.length co50)) (fun _ hk => hk.2) (.slice Ao52 t149.length co52)) (fun _ h_ => h_.1))) hb); have n3_ := Aside0.mk (Kd.R_below (by (with_reducible repeat (first | apply Kd.R_alloc | apply Kd.R_drewN | apply Kd.R_drew)); exact (Kd.R_mono (Kd.R_far (p := ⟨gb120, 1, none⟩) (Kd.R_far (p := ⟨gb120, 0, none⟩) (Kd.R_types HO129.out BK120.out (by decide)) (fun _ hk => hk.2) (.slice Ao50 t146.length co50)) (fun _ hk => hk.2) (.slice Ao52 t149.length co52)) (fun _ h_ => h_.1))) hb); have n4_ := Aside0.mk (Kd.R_below (by (with_reducible repeat (first | apply Kd.R_alloc | apply Kd.R_drewN | apply Kd.R_drew)); exact (Kd.R_mono (Kd.R_far (p := ⟨gb120, 1, none⟩) (Kd.R_far (p := ⟨gb120, 0, none⟩) (Kd.R_types HO132.out BK120.out (by decide)) (fun _ hk => hk.2) (.slice Ao50 t146.length co50)) (fun _ hk => hk.2) (.slice Ao52 t149.length co52)) (fun _ h_ => h_.1))) hb); have n5_ := Aside0.mk (Kd.N_elder' (by (with_reducible repeat (first | apply Kd.N_alloc | apply Kd.N_drewN | apply Kd.N_drew)); exact (Kd.N_mono (Kd.N_far (p := ⟨gb120, 1, none⟩) (Kd.N_far (p := ⟨gb120, 0, none⟩) (Kd.N_mono HO135.out (fun k_ hk => (⟨hk, hk.1.1.1.1.2.2.2.2.2.2⟩ : _ ∧ k_ ≠ gb120))) (fun _ hk => hk.2) (.slice Ao50 t146.length co50)) (fun _ hk => hk.2) (.slice Ao52 t149.length co52)) (fun _ h_ => h_.1))) (Kd.R_base ho56) hb); have n6_ := Aside0.mk (Kd.N_elder' (by (with_reducible repeat (first | apply Kd.N_alloc | apply Kd.N_drewN | apply Kd.N_drew)); exact (Kd.N_mono (Kd.N_far (p := ⟨gb120, 1, none⟩) (Kd.N_far (p := ⟨gb120, 0, none⟩) (Kd.N_mono HO138.out (fun k_ hk => (⟨hk, hk.1.1.1.1.2.2.2.2.2.2⟩ : _ ∧ k_ ≠ gb120))) (fun _ hk => hk.2) (.slice Ao50 t146.length co50)) (fun _ hk => hk.2) (.slice Ao52 t149.length co52)) (fun _ h_ => h_.1))) (Kd.R_base ho56) hb); have n7_ := Aside0.mk (Kd.R_below (by (with_reducible repeat (first | apply Kd.R_alloc | apply Kd.R_drewN | apply Kd.R_drew)); exact (Kd.R_mono (Kd.R_far (p := ⟨gb120, 1, none⟩) (Kd.R_far (p := ⟨gb120, 0, none⟩) (Kd.R_types HO142.out BK120.out (by decide)) (fun _ hk => hk.2) (.slice Ao50 t146.length co50)) (fun _ hk => hk.2) (.slice Ao52 t149.length co52)) (fun _ h_ => h_.1))) hb); have n8_ := Aside0.mk (Kd.R_below (by (with_reducible repeat (first | apply Kd.R_alloc | apply Kd.R_drewN | apply Kd.R_drew)); exact (Kd.R_mono (Kd.R_far (p := ⟨gb120, 1, none⟩) (Kd.R_far (p := ⟨gb120, 0, none⟩) (Kd.R_types HO145.out BK120.out (by decide)) (fun _ hk => hk.2) (.slice Ao50 t146.length co50)) (fun _ hk => hk.2) (.slice Ao52 t149.length co52)) (fun _ h_ => h_.1))) hb); have n9_ := Aside0.mk (Kd.N_elder' (by (with_reducible repeat (first | apply Kd.N_alloc | apply Kd.N_drewN | apply Kd.N_drew)); exact (Kd.N_mono (Kd.N_far (p := ⟨gb120, 1, none⟩) (Kd.N_far (p := ⟨gb120, 0, none⟩) (Kd.N_mono HO148.out (fun k_ hk => (⟨hk, hk.2.2.2.2.2.2.2.2.2.2⟩ : _ ∧ k_ ≠ gb120))) (fun _ hk => hk.2) (.slice Ao50 t146.length co50)) (fun _ hk => hk.2) (.slice Ao52 t149.length co52)) (fun _ h_ => h_.1))) (Kd.R_base ho56) hb); have n10_ := Aside0.mk (Kd.N_elder' (by (with_reducible repeat (first | apply Kd.N_alloc | apply Kd.N_drewN | apply Kd.N_drew)); exact (Kd.N_mono (Kd.N_far (p := ⟨gb120, 1, none⟩) (Kd.N_far (p := ⟨gb120, 0, none⟩) (Kd.N_mono HO151.out (fun k_ hk => (⟨hk, hk.2.2.2.2.2.2.2.2.2.2⟩ : _ ∧ k_ ≠ gb120))) (fun _ hk => hk.2) (.slice Ao50 t146.length co50)) (fun _ hk => hk.2) (.slice Ao52 t149.length co52)) (fun _ h_ => h_.1))) (Kd.R_base ho56) hb); have n11_ := Aside0.mk (Kd.R_lower ho56 (below_size (by repeat (first | (with_reducible first | exact HB.out | apply below_alloc | apply pw_below_drewN | apply below_drew1 | refine below_set ?_ GE120.out) | exact HB.out)))); have n12_ := Aside0.mk (blk_below (g := gb120) (o := .cells #[.slice Ao50 t146.length co50, .slice Ao52 t149.length co52] 58 (0, 0)) (by (with_reducible repeat (first | refine blk_drewN ?_ _ | refine blk_drew ?_ | refine blk_alloc ?_ _)); refine blk_put (cs := #[.slice Ao50 t146.length co50, .slice Ao40 t136.length co40]) ?_ 1 _ rfl; (with_reducible repeat (first | refine blk_drewN ?_ _ | refine blk_drew ?_ | refine blk_alloc ?_ _)); refine blk_put (cs := #[.slice Ao38 t133.length co38, .slice Ao40 t136.length co40]) ?_ 0 _ rfl; (with_reducible repeat (first | refine blk_drewN ?_ _ | refine blk_drew ?_ | refine blk_alloc ?_ _)); exact BK120.out) hb); have n13_ := Aside0.mk (below_step (by repeat (first | (with_reducible first | exact HB.out | apply below_alloc | apply pw_below_drewN | apply below_drew1 | refine below_set ?_ GE120.out) | exact HB.out)) hb); clear HO115; clear HO118; clear HO126; clear HO129; clear HO132; clear HO135; clear HO138; clear HO142; clear HO145; clear HO148; clear HO151; clear BK120; clear HB; have HO115 := n0_; have HO118 := n1_; have HO126 := n2_; have HO129 := n3_; have HO132 := n4_; have HO135 := n5_; have HO138 := n6_; have HO142 := n7_; have HO145 := n8_; have HO148 := n9_; have HO151 := n10_; have HO155 := n11_; have BK120 := n12_; have HB := n13_; clear n0_ n1_ n2_ n3_ n4_ n5_ n6_ n7_ n8_ n9_ n10_ n11_ n12_ n13_; clear hb ho56; obtain ⟨Ao57, co57, eo57⟩ := Kd.R_slice HO155.out; subst eo57) | ((with_reducible refine gate_callee (f := 35) rfl ?_); refine goesL_ (some 33) rfl rfl Try.func35 (by kernel_rfl) rfl #[.agg #[.slice Ao50 t146.length co50, .slice Ao52 t149.length co52], .slice Ao57 y153.length co57] rfl (by (try simp only [List.map_toArray, List.map_cons, List.map_nil]); first | done | rfl | (simp only [List.length_drop, List.length_take]; rfl)) ?_; (with_reducible refine (disk_Crash.calls _ _ t146 _ _ t149 _ _ y153 t156 t159 t162 _ ?side1 ?side2 ?side3 ?side4 ?side5 ?side6 A8.out).mono ?_); (case side1 => repeat (first | exact (Kd.N_reads' HO148.out).2.2 | (with_reducible refine Kd.C_alloc ?_ _) | (with_reducible refine Kd.C_drewN ?_ _) | (with_reducible refine Kd.C_drew ?_))); (case side2 => exact (Kd.N_reads' HO148.out).2.1); (case side3 => repeat (first | exact (Kd.N_reads' HO151.out).2.2 | (with_reducible refine Kd.C_alloc ?_ _) | (with_reducible refine Kd.C_drewN ?_ _) | (with_reducible refine Kd.C_drew ?_))); (case side4 => exact (Kd.N_reads' HO151.out).2.1); (case side5 => repeat (first | exact (Kd.R_reads' HO155.out).2.2 | (with_reducible refine Kd.C_alloc ?_ _) | (with_reducible refine Kd.C_drewN ?_ _) | (with_reducible refine Kd.C_drew ?_))); (case side6 => exact (Kd.R_reads' HO155.out).2.1); rintro e w58 ⟨v157, v160, rfl, ho0, ho1, hb⟩; refine ⟨_, rfl, ?_⟩; have n0_ := Aside0.mk (Kd.N_mono (Kd.N_told (Kd.N_told (Kd.N_old (by (with_reducible repeat (first | apply Kd.N_alloc | apply Kd.N_drewN | apply Kd.N_drew)); exact HO115.out) hb) (by first | exact Kd.N_base ho0 | exact Kd.S_base ho0 | exact Kd.R_base ho0)) (by first | exact Kd.N_base ho1 | exact Kd.S_base ho1 | exact Kd.R_base ho1)) (fun _ h_ => h_.1)); have n1_ := Aside0.mk (Kd.N_mono (Kd.N_told (Kd.N_told (Kd.N_old (by (with_reducible repeat (first | apply Kd.N_alloc | apply Kd.N_drewN | apply Kd.N_drew)); exact HO118.out) hb) (by first | exact Kd.N_base ho0 | exact Kd.S_base ho0 | exact Kd.R_base ho0)) (by first | exact Kd.N_base ho1 | exact Kd.S_base ho1 | exact Kd.R_base ho1)) (fun _ h_ => h_.1)); have n2_ := Aside0.mk (Kd.R_below (by (with_reducible repeat (first | apply Kd.R_alloc | apply Kd.R_drewN | apply Kd.R_drew)); exact HO126.out) hb); have n3_ := Aside0.mk (Kd.R_below (by (with_reducible repeat (first | apply Kd.R_alloc | apply Kd.R_drewN | apply Kd.R_drew)); exact HO129.out) hb); have n4_ := Aside0.mk (Kd.R_below (by (with_reducible repeat (first | apply Kd.R_alloc | apply Kd.R_drewN | apply Kd.R_drew)); exact HO132.out) hb); have n5_ := Aside0.mk (Kd.N_mono (Kd.N_told (Kd.N_told (Kd.N_old (by (with_reducible repeat (first | apply Kd.N_alloc | apply Kd.N_drewN | apply Kd.N_drew)); exact HO135.out) hb) (by first | exact Kd.N_base ho0 | exact Kd.S_base ho0 | exact Kd.R_base ho0)) (by first | exact Kd.N_base ho1 | exact Kd.S_base ho1 | exact Kd.R_base ho1)) (fun _ h_ => h_.1)); have n6_ := Aside0.mk (Kd.N_mono (Kd.N_told (Kd.N_told (Kd.N_old (by (with_reducible repeat (first | apply Kd.N_alloc | apply Kd.N_drewN | apply Kd.N_drew)); exact HO138.out) hb) (by first | exact Kd.N_base ho0 | exact Kd.S_base ho0 | exact Kd.R_base ho0)) (by first | exact Kd.N_base ho1 | exact Kd.S_base ho1 | exact Kd.R_base ho1)) (fun _ h_ => h_.1)); have n7_ := Aside0.mk (Kd.R_below (by (with_reducible repeat (first | apply Kd.R_alloc | apply Kd.R_drewN | apply Kd.R_drew)); exact HO142.out) hb); have n8_ := Aside0.mk (Kd.R_below (by (with_reducible repeat (first | apply Kd.R_alloc | apply Kd.R_drewN | apply Kd.R_drew)); exact HO145.out) hb); have n9_ := Aside0.mk (Kd.N_mono (Kd.N_told (Kd.N_told (Kd.N_old (by (with_reducible repeat (first | apply Kd.N_alloc | apply Kd.N_drewN | apply Kd.N_drew)); exact HO148.out) hb) (by first | exact Kd.N_base ho0 | exact Kd.S_base ho0 | exact Kd.R_base ho0)) (by first | exact Kd.N_base ho1 | exact Kd.S_base ho1 | exact Kd.R_base ho1)) (fun _ h_ => h_.1)); have n10_ := Aside0.mk (Kd.N_mono (Kd.N_told (Kd.N_told (Kd.N_old (by (with_reducible repeat (first | apply Kd.N_alloc | apply Kd.N_drewN | apply Kd.N_drew)); exact HO151.out) hb) (by first | exact Kd.N_base ho0 | exact Kd.S_base ho0 | exact Kd.R_base ho0)) (by first | exact Kd.N_base ho1 | exact Kd.S_base ho1 | exact Kd.R_base ho1)) (fun _ h_ => h_.1)); have n11_ := Aside0.mk (Kd.R_below (by (with_reducible repeat (first | apply Kd.R_alloc | apply Kd.R_drewN | apply Kd.R_drew)); exact HO155.out) hb); have n12_ := Aside0.mk (Kd.N_lower (Kd.N_mono (ok' := fun k_ => some k_ ≠ (v160 : Value).ownBlock ∧ some k_ ≠ (.slice Ao22 t113.length co22 : Value).ownBlock ∧ some k_ ≠ (.slice Ao24 t116.length co24 : Value).ownBlock ∧ some k_ ≠ (.slice Ao33 y124.length co33 : Value).ownBlock ∧ some k_ ≠ (.slice Ao34 y127.length co34 : Value).ownBlock ∧ some k_ ≠ (.slice Ao36 t130.length co36 : Value).ownBlock ∧ some k_ ≠ (.slice Ao38 t133.length co38 : Value).ownBlock ∧ some k_ ≠ (.slice Ao40 t136.length co40 : Value).ownBlock ∧ some k_ ≠ (.slice Ao46 y140.length co46 : Value).ownBlock ∧ some k_ ≠ (.slice Ao48 t143.length co48 : Value).ownBlock ∧ some k_ ≠ (.slice Ao50 t146.length co50 : Value).ownBlock ∧ some k_ ≠ (.slice Ao52 t149.length co52 : Value).ownBlock ∧ some k_ ≠ (.slice Ao57 y153.length co57 : Value).ownBlock ∧ k_ ≠ gb120) (Kd.S_N (Kd.S_bound (Kd.S_apart' ho0 (Kd.S_typed ho1) (by decide)))) (fun k_ hk_ => ⟨hk_.1.2, (Kd.fresh' (Kd.N_lt (by (with_reducible repeat (first | apply Kd.N_alloc | apply Kd.N_drewN | apply Kd.N_drew)); exact HO115.out)) k_ hk_.2.1), (Kd.fresh' (Kd.N_lt (by (with_reducible repeat (first | apply Kd.N_alloc | apply Kd.N_drewN | apply Kd.N_drew)); exact HO118.out)) k_ hk_.2.1), (Kd.fresh' (Kd.R_lt (by (with_reducible repeat (first | apply Kd.R_alloc | apply Kd.R_drewN | apply Kd.R_drew)); exact HO126.out)) k_ hk_.2.1), (Kd.fresh' (Kd.R_lt (by (with_reducible repeat (first | apply Kd.R_alloc | apply Kd.R_drewN | apply Kd.R_drew)); exact HO129.out)) k_ hk_.2.1), (Kd.fresh' (Kd.R_lt (by (with_reducible repeat (first | apply Kd.R_alloc | apply Kd.R_drewN | apply Kd.R_drew)); exact HO132.out)) k_ hk_.2.1), (Kd.fresh' (Kd.N_lt (by (with_reducible repeat (first | apply Kd.N_alloc | apply Kd.N_drewN | apply Kd.N_drew)); exact HO135.out)) k_ hk_.2.1), (Kd.fresh' (Kd.N_lt (by (with_reducible repeat (first | apply Kd.N_alloc | apply Kd.N_drewN | apply Kd.N_drew)); exact HO138.out)) k_ hk_.2.1), (Kd.fresh' (Kd.R_lt (by (with_reducible repeat (first | apply Kd.R_alloc | apply Kd.R_drewN | apply Kd.R_drew)); exact HO142.out)) k_ hk_.2.1), (Kd.fresh' (Kd.R_lt (by (with_reducible repeat (first | apply Kd.R_alloc | apply Kd.R_drewN | apply Kd.R_drew)); exact HO145.out)) k_ hk_.2.1), (Kd.fresh' (Kd.N_lt (by (with_reducible repeat (first | apply Kd.N_alloc | apply Kd.N_drewN | apply Kd.N_drew)); exact HO148.out)) k_ hk_.2.1), (Kd.fresh' (Kd.N_lt (by (with_reducible repeat (first | apply Kd.N_alloc | apply Kd.N_drewN | apply Kd.N_drew)); exact HO151.out)) k_ hk_.2.1), (Kd.fresh' (Kd.R_lt (by (with_reducible repeat (first | apply Kd.R_alloc | apply Kd.R_drewN | apply Kd.R_drew)); exact HO155.out)) k_ hk_.2.1), (Kd.freshB (g := gb120) (o := .cells #[.slice Ao50 t146.length co50, .slice Ao52 t149.length co52] 58 (0, 0)) (by (with_reducible repeat (first | refine blk_drewN ?_ _ | refine blk_drew ?_ | refine blk_alloc ?_ _)); exact BK120.out) k_ hk_.2.1)⟩)) (below_size (by repeat (first | (with_reducible first | exact HB.out | apply below_alloc | apply pw_below_drewN | apply below_drew1 | refine below_set ?_ GE120.out) | exact HB.out)))); have n13_ := Aside0.mk (Kd.N_lower (Kd.N_mono (ok' := fun k_ => some k_ ≠ (v157 : Value).ownBlock ∧ some k_ ≠ (.slice Ao22 t113.length co22 : Value).ownBlock ∧ some k_ ≠ (.slice Ao24 t116.length co24 : Value).ownBlock ∧ some k_ ≠ (.slice Ao33 y124.length co33 : Value).ownBlock ∧ some k_ ≠ (.slice Ao34 y127.length co34 : Value).ownBlock ∧ some k_ ≠ (.slice Ao36 t130.length co36 : Value).ownBlock ∧ some k_ ≠ (.slice Ao38 t133.length co38 : Value).ownBlock ∧ some k_ ≠ (.slice Ao40 t136.length co40 : Value).ownBlock ∧ some k_ ≠ (.slice Ao46 y140.length co46 : Value).ownBlock ∧ some k_ ≠ (.slice Ao48 t143.length co48 : Value).ownBlock ∧ some k_ ≠ (.slice Ao50 t146.length co50 : Value).ownBlock ∧ some k_ ≠ (.slice Ao52 t149.length co52 : Value).ownBlock ∧ some k_ ≠ (.slice Ao57 y153.length co57 : Value).ownBlock ∧ k_ ≠ gb120) (Kd.S_N (Kd.S_bound (Kd.S_apart' ho1 (Kd.S_typed ho0) (by decide)))) (fun k_ hk_ => ⟨hk_.1.2, (Kd.fresh' (Kd.N_lt (by (with_reducible repeat (first | apply Kd.N_alloc | apply Kd.N_drewN | apply Kd.N_drew)); exact HO115.out)) k_ hk_.2.1), (Kd.fresh' (Kd.N_lt (by (with_reducible repeat (first | apply Kd.N_alloc | apply Kd.N_drewN | apply Kd.N_drew)); exact HO118.out)) k_ hk_.2.1), (Kd.fresh' (Kd.R_lt (by (with_reducible repeat (first | apply Kd.R_alloc | apply Kd.R_drewN | apply Kd.R_drew)); exact HO126.out)) k_ hk_.2.1), (Kd.fresh' (Kd.R_lt (by (with_reducible repeat (first | apply Kd.R_alloc | apply Kd.R_drewN | apply Kd.R_drew)); exact HO129.out)) k_ hk_.2.1), (Kd.fresh' (Kd.R_lt (by (with_reducible repeat (first | apply Kd.R_alloc | apply Kd.R_drewN | apply Kd.R_drew)); exact HO132.out)) k_ hk_.2.1), (Kd.fresh' (Kd.N_lt (by (with_reducible repeat (first | apply Kd.N_alloc | apply Kd.N_drewN | apply Kd.N_drew)); exact HO135.out)) k_ hk_.2.1), (Kd.fresh' (Kd.N_lt (by (with_reducible repeat (first | apply Kd.N_alloc | apply Kd.N_drewN | apply Kd.N_drew)); exact HO138.out)) k_ hk_.2.1), (Kd.fresh' (Kd.R_lt (by (with_reducible repeat (first | apply Kd.R_alloc | apply Kd.R_drewN | apply Kd.R_drew)); exact HO142.out)) k_ hk_.2.1), (Kd.fresh' (Kd.R_lt (by (with_reducible repeat (first | apply Kd.R_alloc | apply Kd.R_drewN | apply Kd.R_drew)); exact HO145.out)) k_ hk_.2.1), (Kd.fresh' (Kd.N_lt (by (with_reducible repeat (first | apply Kd.N_alloc | apply Kd.N_drewN | apply Kd.N_drew)); exact HO148.out)) k_ hk_.2.1), (Kd.fresh' (Kd.N_lt (by (with_reducible repeat (first | apply Kd.N_alloc | apply Kd.N_drewN | apply Kd.N_drew)); exact HO151.out)) k_ hk_.2.1), (Kd.fresh' (Kd.R_lt (by (with_reducible repeat (first | apply Kd.R_alloc | apply Kd.R_drewN | apply Kd.R_drew)); exact HO155.out)) k_ hk_.2.1), (Kd.freshB (g := gb120) (o := .cells #[.slice Ao50 t146.length co50, .slice Ao52 t149.length co52] 58 (0, 0)) (by (with_reducible repeat (first | refine blk_drewN ?_ _ | refine blk_drew ?_ | refine blk_alloc ?_ _)); exact BK120.out) k_ hk_.2.1)⟩)) (below_size (by repeat (first | (with_reducible first | exact HB.out | apply below_alloc | apply pw_below_drewN | apply below_drew1 | refine below_set ?_ GE120.out) | exact HB.out)))); have n14_ := Aside0.mk (blk_below (g := gb120) (o := .cells #[.slice Ao50 t146.length co50, .slice Ao52 t149.length co52] 58 (0, 0)) (by (with_reducible repeat (first | refine blk_drewN ?_ _ | refine blk_drew ?_ | refine blk_alloc ?_ _)); exact BK120.out) hb); have n15_ := Aside0.mk (below_step (by repeat (first | (with_reducible first | exact HB.out | apply below_alloc | apply pw_below_drewN | apply below_drew1 | refine below_set ?_ GE120.out) | exact HB.out)) hb); clear HO115; clear HO118; clear HO126; clear HO129; clear HO132; clear HO135; clear HO138; clear HO142; clear HO145; clear HO148; clear HO151; clear HO155; clear BK120; clear HB; have HO115 := n0_; have HO118 := n1_; have HO126 := n2_; have HO129 := n3_; have HO132 := n4_; have HO135 := n5_; have HO138 := n6_; have HO142 := n7_; have HO145 := n8_; have HO148 := n9_; have HO151 := n10_; have HO155 := n11_; have HO158 := n12_; have HO161 := n13_; have BK120 := n14_; have HB := n15_; clear n0_ n1_ n2_ n3_ n4_ n5_ n6_ n7_ n8_ n9_ n10_ n11_ n12_ n13_ n14_ n15_; (try clear hb); (try clear hb2); (try clear hk); (try clear hi); (try clear ho0); (try clear ho1); obtain ⟨Ao59, co59, eo59⟩ := Kd.N_slice HO158.out; subst eo59; have hcz60_0 : w58.cell? ⟨gb120, 0, none⟩ = some (.slice Ao50 t146.length co50) := (blk_cell BK120.out 0).trans rfl; have hcz60_1 : w58.cell? ⟨gb120, 1, none⟩ = some (.slice Ao52 t149.length co52) := (blk_cell BK120.out 1).trans rfl; have hfz60_0 := blk_frozen BK120.out 0; have hfz60_1 := blk_frozen BK120.out 1; obtain ⟨Ao61, co61, eo61⟩ := Kd.N_slice HO161.out; subst eo61) | ((with_reducible refine gate_callee (f := 33) rfl ?_); refine goesL_ (some 38) rfl rfl Try.func33 (by kernel_rfl) rfl #[.agg #[.slice Ao59 t156.length co59, .slice Ao61 t159.length co61], .int .i64 0, .int .i64 2] rfl (by (try simp only [List.map_toArray, List.map_cons, List.map_nil]); first | done | rfl | (simp only [List.length_drop, List.length_take]; rfl)) ?_; (with_reducible refine (disk_Read.calls _ _ t156 _ _ t159 0 2 t163 t166 _ ?side1 ?side2 ?side3 ?side4 A9.out).mono ?_); (case side1 => refine (Kd.N_reads' (e := 22) (base := w.heap.size) (ok := fun k_ => (some k_ ≠ (.slice Ao61 t159.length co61 : Value).ownBlock ∧ (some k_ ≠ (.slice Ao22 t113.length co22 : Value).ownBlock ∧ (some k_ ≠ (.slice Ao24 t116.length co24 : Value).ownBlock ∧ (some k_ ≠ (.slice Ao33 y124.length co33 : Value).ownBlock ∧ (some k_ ≠ (.slice Ao34 y127.length co34 : Value).ownBlock ∧ (some k_ ≠ (.slice Ao36 t130.length co36 : Value).ownBlock ∧ (some k_ ≠ (.slice Ao38 t133.length co38 : Value).ownBlock ∧ (some k_ ≠ (.slice Ao40 t136.length co40 : Value).ownBlock ∧ (some k_ ≠ (.slice Ao46 y140.length co46 : Value).ownBlock ∧ (some k_ ≠ (.slice Ao48 t143.length co48 : Value).ownBlock ∧ (some k_ ≠ (.slice Ao50 t146.length co50 : Value).ownBlock ∧ (some k_ ≠ (.slice Ao52 t149.length co52 : Value).ownBlock ∧ (some k_ ≠ (.slice Ao57 y153.length co57 : Value).ownBlock ∧ k_ ≠ gb120)))))))))))))) (n := t156.length) (c := co59) ?_).2.2; exact (by (with_reducible repeat (first | apply Kd.N_alloc | apply Kd.N_drewN | apply Kd.N_drew)); exact (Kd.N_mono (Kd.N_far (p := ⟨gb120, 1, none⟩) (Kd.N_far (p := ⟨gb120, 0, none⟩) (Kd.N_mono HO158.out (fun k_ hk => (⟨hk, hk.2.2.2.2.2.2.2.2.2.2.2.2.2⟩ : _ ∧ k_ ≠ gb120))) (fun _ hk => hk.2) (.slice Ao59 t156.length co59)) (fun _ hk => hk.2) (.slice Ao61 t159.length co61)) (fun _ h_ => h_.1)))); (case side2 => exact (Kd.N_reads' HO158.out).2.1); (case side3 => refine (Kd.N_reads' (e := 57) (base := w.heap.size) (ok := fun k_ => (some k_ ≠ (.slice Ao59 t156.length co59 : Value).ownBlock ∧ (some k_ ≠ (.slice Ao22 t113.length co22 : Value).ownBlock ∧ (some k_ ≠ (.slice Ao24 t116.length co24 : Value).ownBlock ∧ (some k_ ≠ (.slice Ao33 y124.length co33 : Value).ownBlock ∧ (some k_ ≠ (.slice Ao34 y127.length co34 : Value).ownBlock ∧ (some k_ ≠ (.slice Ao36 t130.length co36 : Value).ownBlock ∧ (some k_ ≠ (.slice Ao38 t133.length co38 : Value).ownBlock ∧ (some k_ ≠ (.slice Ao40 t136.length co40 : Value).ownBlock ∧ (some k_ ≠ (.slice Ao46 y140.length co46 : Value).ownBlock ∧ (some k_ ≠ (.slice Ao48 t143.length co48 : Value).ownBlock ∧ (some k_ ≠ (.slice Ao50 t146.length co50 : Value).ownBlock ∧ (some k_ ≠ (.slice Ao52 t149.length co52 : Value).ownBlock ∧ (some k_ ≠ (.slice Ao57 y153.length co57 : Value).ownBlock ∧ k_ ≠ gb120)))))))))))))) (n := t159.length) (c := co61) ?_).2.2; exact (by (with_reducible repeat (first | apply Kd.N_alloc | apply Kd.N_drewN | apply Kd.N_drew)); exact (Kd.N_mono (Kd.N_far (p := ⟨gb120, 1, none⟩) (Kd.N_far (p := ⟨gb120, 0, none⟩) (Kd.N_mono HO161.out (fun k_ hk => (⟨hk, hk.2.2.2.2.2.2.2.2.2.2.2.2.2⟩ : _ ∧ k_ ≠ gb120))) (fun _ hk => hk.2) (.slice Ao59 t156.length co59)) (fun _ hk => hk.2) (.slice Ao61 t159.length co61)) (fun _ h_ => h_.1)))); (case side4 => exact (Kd.N_reads' HO161.out).2.1); rintro e w62 ⟨v164, rfl, ho0, hb⟩; refine ⟨_, rfl, ?_⟩; have n0_ := Aside0.mk (Kd.N_elder' (by (with_reducible repeat (first | apply Kd.N_alloc | apply Kd.N_drewN | apply Kd.N_drew)); exact (Kd.N_mono (Kd.N_far (p := ⟨gb120, 1, none⟩) (Kd.N_far (p := ⟨gb120, 0, none⟩) (Kd.N_mono HO115.out (fun k_ hk => (⟨hk, hk.1.1.1.1.1.1.1.2.2.2.2.2.2⟩ : _ ∧ k_ ≠ gb120))) (fun _ hk => hk.2) (.slice Ao59 t156.length co59)) (fun _ hk => hk.2) (.slice Ao61 t159.length co61)) (fun _ h_ => h_.1))) (Kd.R_base ho0) hb); have n1_ := Aside0.mk (Kd.N_elder' (by (with_reducible repeat (first | apply Kd.N_alloc | apply Kd.N_drewN | apply Kd.N_drew)); exact (Kd.N_mono (Kd.N_far (p := ⟨gb120, 1, none⟩) (Kd.N_far (p := ⟨gb120, 0, none⟩) (Kd.N_mono HO118.out (fun k_ hk => (⟨hk, hk.1.1.1.1.1.1.1.2.2.2.2.2.2⟩ : _ ∧ k_ ≠ gb120))) (fun _ hk => hk.2) (.slice Ao59 t156.length co59)) (fun _ hk => hk.2) (.slice Ao61 t159.length co61)) (fun _ h_ => h_.1))) (Kd.R_base ho0) hb); have n2_ := Aside0.mk (Kd.R_elder' (by (with_reducible repeat (first | apply Kd.R_alloc | apply Kd.R_drewN | apply Kd.R_drew)); exact (Kd.R_mono (Kd.R_far (p := ⟨gb120, 1, none⟩) (Kd.R_far (p := ⟨gb120, 0, none⟩) (Kd.R_types HO126.out BK120.out (by decide)) (fun _ hk => hk.2) (.slice Ao59 t156.length co59)) (fun _ hk => hk.2) (.slice Ao61 t159.length co61)) (fun _ h_ => h_.1))) (Kd.R_base ho0) hb); have n3_ := Aside0.mk (Kd.R_elder' (by (with_reducible repeat (first | apply Kd.R_alloc | apply Kd.R_drewN | apply Kd.R_drew)); exact (Kd.R_mono (Kd.R_far (p := ⟨gb120, 1, none⟩) (Kd.R_far (p := ⟨gb120, 0, none⟩) (Kd.R_types HO129.out BK120.out (by decide)) (fun _ hk => hk.2) (.slice Ao59 t156.length co59)) (fun _ hk => hk.2) (.slice Ao61 t159.length co61)) (fun _ h_ => h_.1))) (Kd.R_base ho0) hb); have n4_ := Aside0.mk (Kd.R_elder' (by (with_reducible repeat (first | apply Kd.R_alloc | apply Kd.R_drewN | apply Kd.R_drew)); exact (Kd.R_mono (Kd.R_far (p := ⟨gb120, 1, none⟩) (Kd.R_far (p := ⟨gb120, 0, none⟩) (Kd.R_types HO132.out BK120.out (by decide)) (fun _ hk => hk.2) (.slice Ao59 t156.length co59)) (fun _ hk => hk.2) (.slice Ao61 t159.length co61)) (fun _ h_ => h_.1))) (Kd.R_base ho0) hb); have n5_ := Aside0.mk (Kd.N_elder' (by (with_reducible repeat (first | apply Kd.N_alloc | apply Kd.N_drewN | apply Kd.N_drew)); exact (Kd.N_mono (Kd.N_far (p := ⟨gb120, 1, none⟩) (Kd.N_far (p := ⟨gb120, 0, none⟩) (Kd.N_mono HO135.out (fun k_ hk => (⟨hk, hk.1.1.1.1.1.1.1.2.2.2.2.2.2⟩ : _ ∧ k_ ≠ gb120))) (fun _ hk => hk.2) (.slice Ao59 t156.length co59)) (fun _ hk => hk.2) (.slice Ao61 t159.length co61)) (fun _ h_ => h_.1))) (Kd.R_base ho0) hb); have n6_ := Aside0.mk (Kd.N_elder' (by (with_reducible repeat (first | apply Kd.N_alloc | apply Kd.N_drewN | apply Kd.N_drew)); exact (Kd.N_mono (Kd.N_far (p := ⟨gb120, 1, none⟩) (Kd.N_far (p := ⟨gb120, 0, none⟩) (Kd.N_mono HO138.out (fun k_ hk => (⟨hk, hk.1.1.1.1.1.1.1.2.2.2.2.2.2⟩ : _ ∧ k_ ≠ gb120))) (fun _ hk => hk.2) (.slice Ao59 t156.length co59)) (fun _ hk => hk.2) (.slice Ao61 t159.length co61)) (fun _ h_ => h_.1))) (Kd.R_base ho0) hb); have n7_ := Aside0.mk (Kd.R_elder' (by (with_reducible repeat (first | apply Kd.R_alloc | apply Kd.R_drewN | apply Kd.R_drew)); exact (Kd.R_mono (Kd.R_far (p := ⟨gb120, 1, none⟩) (Kd.R_far (p := ⟨gb120, 0, none⟩) (Kd.R_types HO142.out BK120.out (by decide)) (fun _ hk => hk.2) (.slice Ao59 t156.length co59)) (fun _ hk => hk.2) (.slice Ao61 t159.length co61)) (fun _ h_ => h_.1))) (Kd.R_base ho0) hb); have n8_ := Aside0.mk (Kd.R_elder' (by (with_reducible repeat (first | apply Kd.R_alloc | apply Kd.R_drewN | apply Kd.R_drew)); exact (Kd.R_mono (Kd.R_far (p := ⟨gb120, 1, none⟩) (Kd.R_far (p := ⟨gb120, 0, none⟩) (Kd.R_types HO145.out BK120.out (by decide)) (fun _ hk => hk.2) (.slice Ao59 t156.length co59)) (fun _ hk => hk.2) (.slice Ao61 t159.length co61)) (fun _ h_ => h_.1))) (Kd.R_base ho0) hb); have n9_ := Aside0.mk (Kd.N_elder' (by (with_reducible repeat (first | apply Kd.N_alloc | apply Kd.N_drewN | apply Kd.N_drew)); exact (Kd.N_mono (Kd.N_far (p := ⟨gb120, 1, none⟩) (Kd.N_far (p := ⟨gb120, 0, none⟩) (Kd.N_mono HO148.out (fun k_ hk => (⟨hk, hk.1.1.1.2.2.2.2.2.2.2.2.2.2⟩ : _ ∧ k_ ≠ gb120))) (fun _ hk => hk.2) (.slice Ao59 t156.length co59)) (fun _ hk => hk.2) (.slice Ao61 t159.length co61)) (fun _ h_ => h_.1))) (Kd.R_base ho0) hb); have n10_ := Aside0.mk (Kd.N_elder' (by (with_reducible repeat (first | apply Kd.N_alloc | apply Kd.N_drewN | apply Kd.N_drew)); exact (Kd.N_mono (Kd.N_far (p := ⟨gb120, 1, none⟩) (Kd.N_far (p := ⟨gb120, 0, none⟩) (Kd.N_mono HO151.out (fun k_ hk => (⟨hk, hk.1.1.1.2.2.2.2.2.2.2.2.2.2⟩ : _ ∧ k_ ≠ gb120))) (fun _ hk => hk.2) (.slice Ao59 t156.length co59)) (fun _ hk => hk.2) (.slice Ao61 t159.length co61)) (fun _ h_ => h_.1))) (Kd.R_base ho0) hb); have n11_ := Aside0.mk (Kd.R_below (by (with_reducible repeat (first | apply Kd.R_alloc | apply Kd.R_drewN | apply Kd.R_drew)); exact (Kd.R_mono (Kd.R_far (p := ⟨gb120, 1, none⟩) (Kd.R_far (p := ⟨gb120, 0, none⟩) (Kd.R_types HO155.out BK120.out (by decide)) (fun _ hk => hk.2) (.slice Ao59 t156.length co59)) (fun _ hk => hk.2) (.slice Ao61 t159.length co61)) (fun _ h_ => h_.1))) hb); have n12_ := Aside0.mk (Kd.N_elder' (by (with_reducible repeat (first | apply Kd.N_alloc | apply Kd.N_drewN | apply Kd.N_drew)); exact (Kd.N_mono (Kd.N_far (p := ⟨gb120, 1, none⟩) (Kd.N_far (p := ⟨gb120, 0, none⟩) (Kd.N_mono HO158.out (fun k_ hk => (⟨hk, hk.2.2.2.2.2.2.2.2.2.2.2.2.2⟩ : _ ∧ k_ ≠ gb120))) (fun _ hk => hk.2) (.slice Ao59 t156.length co59)) (fun _ hk => hk.2) (.slice Ao61 t159.length co61)) (fun _ h_ => h_.1))) (Kd.R_base ho0) hb); have n13_ := Aside0.mk (Kd.N_elder' (by (with_reducible repeat (first | apply Kd.N_alloc | apply Kd.N_drewN | apply Kd.N_drew)); exact (Kd.N_mono (Kd.N_far (p := ⟨gb120, 1, none⟩) (Kd.N_far (p := ⟨gb120, 0, none⟩) (Kd.N_mono HO161.out (fun k_ hk => (⟨hk, hk.2.2.2.2.2.2.2.2.2.2.2.2.2⟩ : _ ∧ k_ ≠ gb120))) (fun _ hk => hk.2) (.slice Ao59 t156.length co59)) (fun _ hk => hk.2) (.slice Ao61 t159.length co61)) (fun _ h_ => h_.1))) (Kd.R_base ho0) hb); have n14_ := Aside0.mk (Kd.R_lower (Kd.R_new' (Kd.R_new' (Kd.R_new' (Kd.R_new' (Kd.R_new' ho0 (Kd.R_lt (by (with_reducible repeat (first | apply Kd.R_alloc | apply Kd.R_drewN | apply Kd.R_drew)); exact (Kd.R_mono (Kd.R_far (p := ⟨gb120, 1, none⟩) (Kd.R_far (p := ⟨gb120, 0, none⟩) (Kd.R_types HO126.out BK120.out (by decide)) (fun _ hk => hk.2) (.slice Ao59 t156.length co59)) (fun _ hk => hk.2) (.slice Ao61 t159.length co61)) (fun _ h_ => h_.1))))) (Kd.R_lt (by (with_reducible repeat (first | apply Kd.R_alloc | apply Kd.R_drewN | apply Kd.R_drew)); exact (Kd.R_mono (Kd.R_far (p := ⟨gb120, 1, none⟩) (Kd.R_far (p := ⟨gb120, 0, none⟩) (Kd.R_types HO129.out BK120.out (by decide)) (fun _ hk => hk.2) (.slice Ao59 t156.length co59)) (fun _ hk => hk.2) (.slice Ao61 t159.length co61)) (fun _ h_ => h_.1))))) (Kd.R_lt (by (with_reducible repeat (first | apply Kd.R_alloc | apply Kd.R_drewN | apply Kd.R_drew)); exact (Kd.R_mono (Kd.R_far (p := ⟨gb120, 1, none⟩) (Kd.R_far (p := ⟨gb120, 0, none⟩) (Kd.R_types HO132.out BK120.out (by decide)) (fun _ hk => hk.2) (.slice Ao59 t156.length co59)) (fun _ hk => hk.2) (.slice Ao61 t159.length co61)) (fun _ h_ => h_.1))))) (Kd.R_lt (by (with_reducible repeat (first | apply Kd.R_alloc | apply Kd.R_drewN | apply Kd.R_drew)); exact (Kd.R_mono (Kd.R_far (p := ⟨gb120, 1, none⟩) (Kd.R_far (p := ⟨gb120, 0, none⟩) (Kd.R_types HO142.out BK120.out (by decide)) (fun _ hk => hk.2) (.slice Ao59 t156.length co59)) (fun _ hk => hk.2) (.slice Ao61 t159.length co61)) (fun _ h_ => h_.1))))) (Kd.R_lt (by (with_reducible repeat (first | apply Kd.R_alloc | apply Kd.R_drewN | apply Kd.R_drew)); exact (Kd.R_mono (Kd.R_far (p := ⟨gb120, 1, none⟩) (Kd.R_far (p := ⟨gb120, 0, none⟩) (Kd.R_types HO145.out BK120.out (by decide)) (fun _ hk => hk.2) (.slice Ao59 t156.length co59)) (fun _ hk => hk.2) (.slice Ao61 t159.length co61)) (fun _ h_ => h_.1))))) (below_size (by repeat (first | (with_reducible first | exact HB.out | apply below_alloc | apply pw_below_drewN | apply below_drew1 | refine below_set ?_ GE120.out) | exact HB.out)))); have n15_ := Aside0.mk (blk_below (g := gb120) (o := .cells #[.slice Ao59 t156.length co59, .slice Ao61 t159.length co61] 58 (0, 0)) (by (with_reducible repeat (first | refine blk_drewN ?_ _ | refine blk_drew ?_ | refine blk_alloc ?_ _)); refine blk_put (cs := #[.slice Ao59 t156.length co59, .slice Ao52 t149.length co52]) ?_ 1 _ rfl; (with_reducible repeat (first | refine blk_drewN ?_ _ | refine blk_drew ?_ | refine blk_alloc ?_ _)); refine blk_put (cs := #[.slice Ao50 t146.length co50, .slice Ao52 t149.length co52]) ?_ 0 _ rfl; (with_reducible repeat (first | refine blk_drewN ?_ _ | refine blk_drew ?_ | refine blk_alloc ?_ _)); exact BK120.out) hb); have n16_ := Aside0.mk (below_step (by repeat (first | (with_reducible first | exact HB.out | apply below_alloc | apply pw_below_drewN | apply below_drew1 | refine below_set ?_ GE120.out) | exact HB.out)) hb); clear HO115; clear HO118; clear HO126; clear HO129; clear HO132; clear HO135; clear HO138; clear HO142; clear HO145; clear HO148; clear HO151; clear HO155; clear HO158; clear HO161; clear BK120; clear HB; have HO115 := n0_; have HO118 := n1_; have HO126 := n2_; have HO129 := n3_; have HO132 := n4_; have HO135 := n5_; have HO138 := n6_; have HO142 := n7_; have HO145 := n8_; have HO148 := n9_; have HO151 := n10_; have HO155 := n11_; have HO158 := n12_; have HO161 := n13_; have HO165 := n14_; have BK120 := n15_; have HB := n16_; clear n0_ n1_ n2_ n3_ n4_ n5_ n6_ n7_ n8_ n9_ n10_ n11_ n12_ n13_ n14_ n15_ n16_; (try clear hb); (try clear hb2); (try clear hk); (try clear hi); (try clear ho0)) | ((with_reducible refine gate_callee (f := 32) rfl ?_); refine goesL_ (some 42) rfl rfl Try.func32 (by kernel_rfl) rfl #[.int .i64 t119] rfl (by (try simp only [List.map_toArray, List.map_cons, List.map_nil]); first | done | rfl | (simp only [List.length_drop, List.length_take]; rfl)) ?_; (with_reducible refine (fanlightlaw05_num.calls t119 t167 _ A10.out).mono ?_); rintro e w' ⟨rfl, ⟨nd, rfl⟩⟩; refine ⟨_, rfl, ?_⟩) | ((with_reducible refine gate_callee (f := 32) rfl ?_); refine goesL_ (some 44) rfl rfl Try.func32 (by kernel_rfl) rfl #[.int .i64 t139] rfl (by (try simp only [List.map_toArray, List.map_cons, List.map_nil]); first | done | rfl | (simp only [List.length_drop, List.length_take]; rfl)) ?_; (with_reducible refine (fanlightlaw05_num.calls t139 t168 _ A11.out).mono ?_); rintro e w' ⟨rfl, ⟨nd, rfl⟩⟩; refine ⟨_, rfl, ?_⟩) | ((with_reducible refine gate_callee (f := 32) rfl ?_); refine goesL_ (some 47) rfl rfl Try.func32 (by kernel_rfl) rfl #[.int .i64 t152] rfl (by (try simp only [List.map_toArray, List.map_cons, List.map_nil]); first | done | rfl | (simp only [List.length_drop, List.length_take]; rfl)) ?_; (with_reducible refine (fanlightlaw05_num.calls t152 t169 _ A12.out).mono ?_); rintro e w' ⟨rfl, ⟨nd, rfl⟩⟩; refine ⟨_, rfl, ?_⟩) | ((with_reducible refine gate_callee (f := 32) rfl ?_); refine goesL_ (some 50) rfl rfl Try.func32 (by kernel_rfl) rfl #[.int .i64 t162] rfl (by (try simp only [List.map_toArray, List.map_cons, List.map_nil]); first | done | rfl | (simp only [List.length_drop, List.length_take]; rfl)) ?_; (with_reducible refine (fanlightlaw05_num.calls t162 t170 _ A13.out).mono ?_); rintro e w' ⟨rfl, ⟨nd, rfl⟩⟩; refine ⟨_, rfl, ?_⟩) | ((with_reducible refine gate_callee (f := 32) rfl ?_); refine goesL_ (some 53) rfl rfl Try.func32 (by kernel_rfl) rfl #[.int .i64 t166] rfl (by (try simp only [List.map_toArray, List.map_cons, List.map_nil]); first | done | rfl | (simp only [List.length_drop, List.length_take]; rfl)) ?_; (with_reducible refine (fanlightlaw05_num.calls t166 t171 _ A14.out).mono ?_); rintro e w' ⟨rfl, ⟨nd, rfl⟩⟩; refine ⟨_, rfl, ?_⟩; obtain ⟨Ao63, co63, eo63⟩ := Kd.R_slice HO165.out; subst eo63; have p172 : 0 ≤ (0 : Int) := (by omega); have q172 : 0 < (t163.length : Int) := of_decide_eq_true (by first | (with_reducible assumption) | assumption); obtain ⟨ad172, e172, hx172_0⟩ := Kd.at_int (Kd.R_reads' HO165.out).2.2 0 p172 q172; cases e172; have qi172 : (0 < t163.length) = True := eq_true (by omega); (try rw [show ((0 : Int)).toNat = 0 from rfl] at hx172_0); (try rw [Addr.add_zero'] at hx172_0); replace p172 := eq_true p172; replace q172 := eq_true q172; have p173 : 0 ≤ (49 : Int) := (by omega); have q173 : 49 < (t163.length : Int) := of_decide_eq_true (by first | (with_reducible assumption) | assumption); obtain ⟨ad173, e173, hx173_0⟩ := Kd.at_int (Kd.R_reads' HO165.out).2.2 49 p173 q173; obtain rfl : ad172 = ad173 := (by injection e173); (try simp only [show (49 : Int).toNat = 49 from rfl, Nat.reduceMul, Nat.reduceEqDiff, Go.Addr.add, ↓reduceIte] at hx173_0); have qi173 : (49 < t163.length) = True := eq_true (by omega); (try rw [show ((49 : Int)).toNat = 49 from rfl] at hx173_0); replace p173 := eq_true p173; replace q173 := eq_true q173))
        go_ret
        exact ⟨by first | rfl | (simp [errW_none, errW_some] <;> rfl) | (simp [*, errW_none, errW_some] <;> rfl), by repeat (first | (with_reducible first | exact HB.out | apply below_alloc | apply pw_below_drewN | apply below_drew1 | refine below_set ?_ GE120.out) | exact HB.out)⟩
       ·
        rw [if_neg c19] at H
        exact absurd H (by simp)
      ·
       rw [if_neg c18] at H
       have c18b0 : ((rd t163 0) == 9) = false := beq_eq_false_iff_ne.mpr c18
       have c18b1 : ((rd t163 0) != 9) = true := bne_iff_ne.mpr c18
       obtain rfl := Option.some.inj H
       cases hT
     ·
      rw [if_neg c17] at H
      exact absurd H (by simp)
    ·
     rw [if_neg c16] at H
     have c16b0 : ((t163.length : Int) == 96) = false := beq_eq_false_iff_ne.mpr c16
     have c16b1 : ((t163.length : Int) != 96) = true := bne_iff_ne.mpr c16
     obtain rfl := Option.some.inj H
     cases hT
   ·
    rw [if_neg c15] at H
    have c15b0 : ((wrap64 ((wrap64 ((wrap64 ((wrap64 (t167 + t168)) + t169)) + t170)) + t171)) == 0) = false := beq_eq_false_iff_ne.mpr c15
    have c15b1 : ((wrap64 ((wrap64 ((wrap64 ((wrap64 (t167 + t168)) + t169)) + t170)) + t171)) != 0) = true := bne_iff_ne.mpr c15
    obtain rfl := Option.some.inj H
    cases hT
  ·
   rw [if_neg c3] at H
   exact absurd H (by simp)
 ·
  rw [if_neg c2] at H
  exact absurd H (by simp)
end Go.Proofs.Ytkdaeleolomdkaa.D
