/- What the print's words and the walks are, as far as this claim names them. -/
import Derived.Test.YtgmkgobapeencaaYS2
import Derived.Test.YtgmkgobapeencaaYAid3
import Derived.Test.YtgmkgobapeencaaYS17
import Derived.Test.YtgmkgobapeencaaYAid
import Derived.Test.YtgmkgobapeencaaYS12
import Derived.Test.YtgmkgobapeencaaYS18
import Derived.Lib.Bytes
set_option linter.unusedVariables false
set_option linter.unusedSimpArgs false
set_option maxHeartbeats 8000000
set_option maxRecDepth 100000
namespace Go.Proofs.Ytgmkgobapeencaa.S
open Go.Proofs.YtgmkgobapeencaaW.PrintWords.Aside0 renaming mk → b'
open Bool renaming true → Y, false → Z
open Go.RowKit Go.Proofs.YtgmkgobapeencaaW.PrintWords Go.Proofs.YtgmkgobapeencaaW.PrintLast Go.Proofs.YtgmkgobapeencaaW.PrintMore
attribute [local go_sem] max2_int min2_int max_two min_two max_three min_three max_four min_four   -- for this text's walks alone
def fanlightref03_Octets.l0 : Nat → Int → List Int → Int → Option (List Int)
 | 0, _, _, _ => none
 | k + 1, x0, x5, x6 => if x6 ≥ 0 then (if 0 ≤ (wrap64 (8 * x6)) then (if x5.length < 140737488355328 then (fanlightref03_Octets.l0 k x0 (x5 ++ [(shr .u64 x0 (wrap64 (8 * x6))) % 256]) (wrap64 (x6 - 1))) else (none)) else (none)) else (some x5)
def fanlightref03_Octets.f (k : Nat) (a0 : Int) (a1 : Int) : Option (List Int) := fanlightref03_Octets.l0 k a0 ([] : List Int) (wrap64 (a1 - 1))
theorem fanlightref03_Octets.mono_l : ∀ k, (∀ y0 y1 y2, LeO (fanlightref03_Octets.l0 k y0 y1 y2) (fanlightref03_Octets.l0 (k + 1) y0 y1 y2))
 | 0 => fun _ _ _ r h => by simp [fanlightref03_Octets.l0] at h
 | k + 1 => by
  have ih0 := fanlightref03_Octets.mono_l k
  ·
   intro y0 y1 y2
   unfold fanlightref03_Octets.l0
   repeat' first
   | (with_reducible exact ih0 _ _ _)
   | with_reducible first | exact LeO.refl _ | exact LeO.none _ | refine LeO.ite ?_ ?_ | refine LeO.bind ?_ fun _ => ?_
theorem fanlightref03_Octets.mono : ∀ a0 a1 k, LeO (fanlightref03_Octets.f k a0 a1) (fanlightref03_Octets.f (k + 1) a0 a1) := by
 intro a0 a1 k
 have ih0 := fanlightref03_Octets.mono_l k
 unfold fanlightref03_Octets.f
 repeat' first
   | (with_reducible exact ih0 _ _ _)
   | with_reducible first | exact LeO.refl _ | exact LeO.none _ | refine LeO.ite ?_ ?_ | refine LeO.bind ?_ fun _ => ?_
theorem fanlightref03_Octets.calls (k : Nat) (a0 : Int) (a1 : Int) (r : List Int) (w : World) (h : fanlightref03_Octets.f k a0 a1 = some r) :
  Calls Try.prog 47 #[.int .u64 a0, .int .i64 a1] w fun e w' => ∃ v0_ : Value, e = .returned (v0_) ∧ Kd.R (Kd.int .u8) 5 w' w.heap.size (fun _ => True) v0_ r ∧ Below w.heap.size w w' := by
 have HB := b' (Below.refl w.heap.size w)
 have H : (fanlightref03_Octets.l0 k a0 ([] : List Int) (wrap64 (a1 - 1))) = some r := h
 clear h
 have H' := b' H
 clear H
 go_enter Try.func47, Try.ntmps47
 go_wp2
 go_loopg [5, 6] k (fun kq v5 v6 w' => ∃ (x5_1 : List Int) (x6_1 : Int), v6 = .int .i64 x6_1 ∧ Aside0 (fanlightref03_Octets.l0 kq a0 x5_1 x6_1 = some r) ∧ Aside0 (kq ≤ k) ∧ Aside0 (Kd.R (Kd.int .u8) 5 w' w.heap.size (fun _ => True) v5 x5_1) ∧ Aside0 (Below w.heap.size w w'))
 case atStart => exact ⟨(([] : List Int)), (wrap64 (a1 - 1)), rS, H', ⟨Nat.le_refl _⟩, ⟨by first | exact Kd.R_nil _ _ _ _ _ | exact Kd.N_nil _ _ _ _ _ | exact Kd.V_nil _ _ _ _ _ | exact Kd.Q_nil _ _ _ _ _ | exact Kd.S_nil _ _ _ _ _⟩, ⟨eH HB⟩⟩
 case round =>
  clear H'
  try clear p2
  obtain ⟨x5_1, x6_1, rfl, HA, HK1, HO_5, HB⟩ := hrel
  cases gk with
  | zero => exact absurd HA.out (by simp [fanlightref03_Octets.l0])
  | succ k1 =>
   have H := HA.out
   clear HA
   simp only [fanlightref03_Octets.l0] at H
   by_cases c3 : x6_1 ≥ 0
   ·
    rw [if_pos c3] at H
    have c3b0 := decide_eq_true c3
    clear c3
    obtain ⟨ji4, hji4⟩ : ∃ j_ : Int, (wrap64 (8 * x6_1)) = j_ := ⟨_, rfl⟩
    replace H : (if 0 ≤ (ji4) then (if x5_1.length < 140737488355328 then (fanlightref03_Octets.l0 k1 a0 (x5_1 ++ [(shr .u64 a0 (ji4)) % 256]) (wrap64 (x6_1 - 1))) else (none)) else (none)) = some r := by first | (rw [hji4] at H; exact H) | (simp only [hji4] at H ⊢; exact H)
    have hji4w : (IntKind.i64.wrap (8 * x6_1)) = ji4 := (i64_w _).trans hji4
    by_cases c5 : 0 ≤ (ji4)
    ·
     rw [if_pos c5] at H
     have c5b0 := eq_true c5
     have c5b1 := decide_eq_true c5
     clear c5
     obtain ⟨ji6, hji6⟩ : ∃ j_ : Int, (shr .u64 a0 (ji4)) = j_ := ⟨_, rfl⟩
     replace H : (if x5_1.length < 140737488355328 then (fanlightref03_Octets.l0 k1 a0 (x5_1 ++ [(ji6) % 256]) (wrap64 (x6_1 - 1))) else (none)) = some r := by first | (rw [hji6] at H; exact H) | (simp only [hji6] at H ⊢; exact H)
     have hji6_ : (a0 / 2 ^ min (ji4).toNat 64) = ji6 := hji6
     have hji6z : (ji4) ≤ 64 → (a0 / 2 ^ (ji4).toNat) = ji6 := shr_small hji6
     by_cases c7 : x5_1.length < 140737488355328
     ·
      rw [if_pos c7] at H
      have LMc7 := b' c7
      clear c7
      obtain ⟨y351, hy351⟩ : ∃ y_ : List Int, y_ = (x5_1 ++ [(ji6) % 256]) := ⟨_, rfl⟩
      replace H : (fanlightref03_Octets.l0 k1 a0 y351 (wrap64 (x6_1 - 1))) = some r := by rw [hy351]; exact H
      have Ny351 := b' hy351
      clear hy351
      have H' := b' H
      clear H
      go_wp2_with (first | ((with_reducible refine gate_builtin (b := .append) (xs := #[.tmp 13, .tmp 19]) rfl ?_); at_builtin; refine Kd.R_append (Kd.int .u8) (w0 := w) w.heap.size rfl (.tmp 13) (.tmp 19) 25 5 (.int .u8 0) 1 rfl Try.underlying25 info5 rfl (by decide) (by omega) u5 x5_1 ((ji6) % 256) [.int .u8 ((ji6) % 256)] (fun _ => True) (fun _ => False) rfl rfl ?aP (fun _ hk => hk.elim) ?aF ?aO ?aB ?aS ?aL ?_; (case aP => exact rfl); (case aB => exact (eH HB)); (case aF => exact (fun _ _ => trivial)); (case aO => exact (Kd.eR HO_5)); (case aS => exact (below_size (eH HB))); (case aL => have := LMc7.out; omega); intro v352 w8 ho hb hg hat; rw [← Ny351.out] at ho; have n0_ := b' (hb); have n1_ := b' (ho); clear HB; clear HO_5; have HB := n0_; have HO353 := n1_; clear n0_ n1_; clear ho hb hg hat))
      go_roundg k1
      case measure => have := HK1.out; omega
      case rel => exact ⟨(y351), (wrap64 (x6_1 - 1)), rS, H', ⟨by have := HK1.out; omega⟩, ⟨Kd.eR HO353⟩, ⟨eH HB⟩⟩
     ·
      rw [if_neg c7] at H
      exact absurd H (by simp)
    ·
     rw [if_neg c5] at H
     exact absurd H (by simp)
   ·
    rw [if_neg c3] at H
    have c3b0 := decide_eq_false c3
    clear c3
    obtain rfl := Option.some.inj H
    go_wp2
    go_ret
    exact ⟨_, eE, Kd.eR HO_5, eH HB⟩
def fanlightref04_Put.j0 : Nat → Bool → Int → List Int → Option (List Int × Int)
 | 0, _, _, _ => none
 | k + 1, x5, x355000, x355001 => if x5 = true then (some (([] : List Int), 22)) else (if (x355001.length : Int) > 65536 then (some (([] : List Int), 5)) else ((some (([(x355000) % 256] : List Int) : List Int)).bind fun y355 => ((fanlightref03_Octets.f k (IntKind.u64.wrap ((x355001.length : Int))) 3).bind fun t358 => (if y355.length + t358.length < 140737488355328 then ((some (y355 ++ t358 : List Int)).bind fun y361 => (if y361.length + x355001.length < 140737488355328 then ((some (y361 ++ x355001 : List Int)).bind fun y364 => ((fanlightref04_Sum.f k y364).bind fun t367 => ((fanlightref04_laid.f t367).bind fun t368 => (if y364.length + t368.length < 140737488355328 then (some ((y364 ++ t368), 0)) else (none))))) else (none))) else (none)))))
def fanlightref04_Put.f (k : Nat) (a0_0 : Int) (l0_1 : List Int) : Option (List Int × Int) := if a0_0 < 1 then (fanlightref04_Put.j0 k true a0_0 l0_1) else (fanlightref04_Put.j0 k (decide (a0_0 > 255)) a0_0 l0_1)
theorem fanlightref04_Put.mono_l : ∀ k, (∀ y0 y1 y2, LeO (fanlightref04_Put.j0 k y0 y1 y2) (fanlightref04_Put.j0 (k + 1) y0 y1 y2))
 | 0 => fun _ _ _ r h => by simp [fanlightref04_Put.j0] at h
 | k + 1 => by
  have ih0 := fanlightref04_Put.mono_l k
  ·
   intro y0 y1 y2
   unfold fanlightref04_Put.j0
   repeat' first
   | (with_reducible exact ih0 _ _ _)
   | (with_reducible exact fanlightref03_Octets.mono _ _ _)
   | (with_reducible exact fanlightref04_Sum.mono _ _)
   | with_reducible first | exact LeO.refl _ | exact LeO.none _ | refine LeO.ite ?_ ?_ | refine LeO.bind ?_ fun _ => ?_
theorem fanlightref04_Put.mono : ∀ a0 a1 k, LeO (fanlightref04_Put.f k a0 a1) (fanlightref04_Put.f (k + 1) a0 a1) := by
 intro a0 a1 k
 have ih0 := fanlightref04_Put.mono_l k
 unfold fanlightref04_Put.f
 repeat' first
   | (with_reducible exact ih0 _ _ _)
   | (with_reducible exact fanlightref03_Octets.mono _ _ _)
   | (with_reducible exact fanlightref04_Sum.mono _ _)
   | with_reducible first | exact LeO.refl _ | exact LeO.none _ | refine LeO.ite ?_ ?_ | refine LeO.bind ?_ fun _ => ?_
def fanlightref04_Put.T5 : Bool × List (List Nat × List Nat) := (true,[([],[]),([0],[0]),([1],[1]),([2],[2]),([],[]),([4],[4]),([5],[5]),([6],[6]),([7],[7]),([3,8,8],[3,8]),([9,9,0,1,2,3,4,5,6,7,8,9],[9])])
def fanlightref04_Put.B5 : List Nat := [0,1,3,7,0,16,48,112,240,511,1023]
theorem fanlightref04_Put.tab5 : rtab .any (opsOf Try.f46 5) = fanlightref04_Put.T5 := by kernel_rfl
theorem fanlightref04_Put.bits5 : waitsOk fanlightref04_Put.T5.2 fanlightref04_Put.B5 = true := by kernel_rfl
theorem fanlightref04_Put.calls (k : Nat) (a0_0 : Int) (A0_1 : Option Addr) (c0_1 : Nat) (l0_1 : List Int) (r1 : List Int) (r2 : Int) (w : World) (hr0_1 : Kd.C (Kd.int .u8) w A0_1 l0_1.length l0_1) (hc0_1 : l0_1.length ≤ c0_1) (h : fanlightref04_Put.f k a0_0 l0_1 = some (r1, r2)) :
  Calls Try.prog 46 #[.agg #[.int .i64 a0_0, .slice A0_1 l0_1.length c0_1]] w fun e w' => ∃ v0_ : Value, e = .returned (.tuple #[v0_, .int .i64 r2]) ∧ Kd.R (Kd.int .u8) 5 w' w.heap.size (fun _ => True) v0_ r1 ∧ Below w.heap.size w w' := by
 have hu89 := Try.underlying89
 have HR0_1 := b' hr0_1
 have HC0_1 := b' hc0_1
 clear hr0_1 hc0_1
 have HB := b' (Below.refl w.heap.size w)
 have H : (if a0_0 < 1 then (fanlightref04_Put.j0 k true a0_0 l0_1) else (fanlightref04_Put.j0 k (decide (a0_0 > 255)) a0_0 l0_1)) = some (r1, r2) := h
 clear h
 have HC2 := b' H
 clear H
 go_enter Try.func46, Try.ntmps46
 go_upto_region 1 with (first | ((with_reducible refine gate_dst (N := 1) rfl ?_); refine box_event ?hg (N := 1) ?hd (cs := #[.int .i64 a0_0, .slice A0_1 l0_1.length c0_1]) (t := 89) ?hr ?_; (case hd => rfl); (case hg => rfl); (case hr => go_simp <;> rfl); intro gb354 hg w3 hbox hb; have n0_ := b' (below_step (eH HB) hb); have n1_ := b' (hbox); have n2_ := b' ((by rw [hg]; exact (below_size (eH HB)) : w.heap.size ≤ gb354)); have n3_ := b' ((by rw [hg]; exact (below_size (eH HB)) : w.heap.size ≤ gb354)); clear HB; have HB := n0_; have BK354 := n1_; have GW354 := n2_; have GE354 := n3_; clear n0_ n1_ n2_ n3_; clear hb hbox hg))
 (try simp only [Act.put, List.setIfInBounds_toArray, List.set_cons_zero, List.set_cons_succ])
 go_cut [5] (fun v5 wc => ∃ (kq : Nat) (x5_1 : Bool), v5 = .bool x5_1 ∧ Aside0 (fanlightref04_Put.j0 kq x5_1 a0_0 l0_1 = some (r1, r2)) ∧ Aside0 (kq ≤ k) ∧ Aside0 (wc.heap[gb354]? = some (.cells #[.int .i64 a0_0, (.slice A0_1 l0_1.length c0_1)] 89 (0, 0))) ∧ Aside0 (Below w.heap.size w wc))
 case first =>
  have H := HC2.out
  clear HC2
  by_cases c4 : a0_0 < 1
  ·
   rw [if_pos c4] at H
   have c4b0 := decide_eq_true c4
   clear c4
   (first | rw [c4b0] | (simp only [i64_w, i32_w]; rw [c4b0]) | rw [c4b1] | skip)
   have H' := b' H
   clear H
   have hcz5_0 := bC BK354 0 (.int .i64 a0_0)
   have hcz5_1 := bC BK354 1 (.slice A0_1 l0_1.length c0_1)
   have hfz5_0 := blk_frozen BK354.out 0
   have hfz5_1 := blk_frozen BK354.out 1
   go_wp2
   go_meet
   case rel => exact ⟨_, (true), rS, H', ⟨by first | omega | exact Nat.le_refl _⟩, ⟨eB BK354⟩, ⟨eH HB⟩⟩
  ·
   rw [if_neg c4] at H
   have c4b0 := decide_eq_false c4
   clear c4
   (first | rw [c4b0] | (simp only [i64_w, i32_w]; rw [c4b0]) | rw [c4b1] | skip)
   have H' := b' H
   clear H
   have hcz6_0 := bC BK354 0 (.int .i64 a0_0)
   have hcz6_1 := bC BK354 1 (.slice A0_1 l0_1.length c0_1)
   have hfz6_0 := blk_frozen BK354.out 0
   have hfz6_1 := blk_frozen BK354.out 1
   go_wp2
   go_meet
   case rel => exact ⟨_, (decide (a0_0 > 255)), rS, H', ⟨by first | omega | exact Nat.le_refl _⟩, ⟨eB BK354⟩, ⟨eH HB⟩⟩
 case rest =>
  clear HC2
  try clear p2
  try clear c4
  try clear c4b0
  try clear hcz5_0
  try clear hcz5_1
  try clear hcz6_0
  try clear hcz6_1
  try clear hfz5_0
  try clear hfz5_1
  try clear hfz6_0
  try clear hfz6_1
  obtain ⟨kq, x5_1, rfl, HA, HJ1, BK354, HB⟩ := hcut
  cases kq with
  | zero => exact absurd HA.out (by simp [fanlightref04_Put.j0])
  | succ kj1 =>
   have H := HA.out
   clear HA
   simp only [fanlightref04_Put.j0] at H
   by_cases c7 : x5_1 = true
   ·
    subst c7
    have H1 : (some (([] : List Int), 22)) = some (r1, r2) := by rw [if_pos rfl] at H; exact H
    clear H
    have H := H1
    clear H1
    simp only [Option.some.injEq, Prod.mk.injEq] at H
    obtain ⟨rfl, rfl⟩ := H
    go_wp2
    go_ret2
    exact ⟨_, eE, by first | exact Kd.R_nil _ _ _ _ _ | exact Kd.N_nil _ _ _ _ _ | exact Kd.V_nil _ _ _ _ _ | exact Kd.Q_nil _ _ _ _ _ | exact Kd.S_nil _ _ _ _ _, eH HB⟩
   ·
    replace c7 := Bool.eq_false_iff.mpr c7
    subst c7
    have H1 : (if (l0_1.length : Int) > 65536 then (some (([] : List Int), 5)) else ((some (([(a0_0) % 256] : List Int) : List Int)).bind fun y355 => ((fanlightref03_Octets.f kj1 (IntKind.u64.wrap ((l0_1.length : Int))) 3).bind fun t358 => (if y355.length + t358.length < 140737488355328 then ((some (y355 ++ t358 : List Int)).bind fun y361 => (if y361.length + l0_1.length < 140737488355328 then ((some (y361 ++ l0_1 : List Int)).bind fun y364 => ((fanlightref04_Sum.f kj1 y364).bind fun t367 => ((fanlightref04_laid.f t367).bind fun t368 => (if y364.length + t368.length < 140737488355328 then (some ((y364 ++ t368), 0)) else (none))))) else (none))) else (none))))) = some (r1, r2) := by rw [if_neg (show ¬ (false = true) by decide)] at H; exact H
    clear H
    have H := H1
    clear H1
    by_cases c8 : (l0_1.length : Int) > 65536
    ·
     rw [if_pos c8] at H
     have c8b0 := decide_eq_true c8
     have c8b1 : decide (65536 < l0_1.length) = true := decide_eq_true (by omega)
     clear c8
     simp only [Option.some.injEq, Prod.mk.injEq] at H
     obtain ⟨rfl, rfl⟩ := H
     have hcz9_0 := bC BK354 0 (.int .i64 a0_0)
     have hcz9_1 := bC BK354 1 (.slice A0_1 l0_1.length c0_1)
     have hfz9_0 := blk_frozen BK354.out 0
     have hfz9_1 := blk_frozen BK354.out 1
     go_wp2
     go_ret2
     exact ⟨_, eE, by first | exact Kd.R_nil _ _ _ _ _ | exact Kd.N_nil _ _ _ _ _ | exact Kd.V_nil _ _ _ _ _ | exact Kd.Q_nil _ _ _ _ _ | exact Kd.S_nil _ _ _ _ _, eH HB⟩
    ·
     rw [if_neg c8] at H
     have c8b0 := decide_eq_false c8
     have c8b1 : decide (65536 < l0_1.length) = false := decide_eq_false (by omega)
     clear c8
     obtain ⟨y355, hy355⟩ : ∃ y_ : List Int, y_ = (([(a0_0) % 256] : List Int)) := ⟨_, rfl⟩
     replace H : ((fanlightref03_Octets.f kj1 (IntKind.u64.wrap ((l0_1.length : Int))) 3).bind fun t358 => (if y355.length + t358.length < 140737488355328 then ((some (y355 ++ t358 : List Int)).bind fun y361 => (if y361.length + l0_1.length < 140737488355328 then ((some (y361 ++ l0_1 : List Int)).bind fun y364 => ((fanlightref04_Sum.f kj1 y364).bind fun t367 => ((fanlightref04_laid.f t367).bind fun t368 => (if y364.length + t368.length < 140737488355328 then (some ((y364 ++ t368), 0)) else (none))))) else (none))) else (none))) = some (r1, r2) := by rw [hy355]; exact H
     have Ny355 := b' hy355
     clear hy355
     replace H := Option.bind_eq_some_iff.mp H
     obtain ⟨t358, A100, H⟩ := H
     (try dsimp only at H)
     have A10 := b' A100
     clear A100
     by_cases c11 : y355.length + t358.length < 140737488355328
     ·
      rw [if_pos c11] at H
      have LMc11 := b' c11
      clear c11
      obtain ⟨y361, hy361⟩ : ∃ y_ : List Int, y_ = (y355 ++ t358) := ⟨_, rfl⟩
      replace H : (if y361.length + l0_1.length < 140737488355328 then ((some (y361 ++ l0_1 : List Int)).bind fun y364 => ((fanlightref04_Sum.f kj1 y364).bind fun t367 => ((fanlightref04_laid.f t367).bind fun t368 => (if y364.length + t368.length < 140737488355328 then (some ((y364 ++ t368), 0)) else (none))))) else (none)) = some (r1, r2) := by rw [hy361]; exact H
      have Ny361 := b' hy361
      clear hy361
      by_cases c12 : y361.length + l0_1.length < 140737488355328
      ·
       rw [if_pos c12] at H
       have LMc12 := b' c12
       clear c12
       obtain ⟨y364, hy364⟩ : ∃ y_ : List Int, y_ = (y361 ++ l0_1) := ⟨_, rfl⟩
       replace H : ((fanlightref04_Sum.f kj1 y364).bind fun t367 => ((fanlightref04_laid.f t367).bind fun t368 => (if y364.length + t368.length < 140737488355328 then (some ((y364 ++ t368), 0)) else (none)))) = some (r1, r2) := by rw [hy364]; exact H
       have Ny364 := b' hy364
       clear hy364
       replace H := Option.bind_eq_some_iff.mp H
       obtain ⟨t367, A130, H⟩ := H
       (try dsimp only at H)
       have A13 := b' A130
       clear A130
       replace H := Option.bind_eq_some_iff.mp H
       obtain ⟨t368, A140, H⟩ := H
       (try dsimp only at H)
       have A14 := b' A140
       clear A140
       by_cases c15 : y364.length + t368.length < 140737488355328
       ·
        rw [if_pos c15] at H
        have LMc15 := b' c15
        clear c15
        obtain ⟨y371, hy371⟩ : ∃ y_ : List Int, y_ = (y364 ++ t368) := ⟨_, rfl⟩
        replace H : (some (y371, 0)) = some (r1, r2) := by rw [hy371]; exact H
        have Ny371 := b' hy371
        clear hy371
        simp only [Option.some.injEq, Prod.mk.injEq] at H
        obtain ⟨rfl, rfl⟩ := H
        have hcz16_0 := bC BK354 0 (.int .i64 a0_0)
        have hcz16_1 := bC BK354 1 (.slice A0_1 l0_1.length c0_1)
        have hfz16_0 := blk_frozen BK354.out 0
        have hfz16_1 := blk_frozen BK354.out 1
        try go_wp2
        have n0_ := b' (blk_drew BK354.out)
        have n1_ := b' (below_drew1 HB.out)
        clear BK354
        clear HB
        have BK354 := n0_
        have HB := n1_
        clear n0_ n1_
        refine start_ (n := 11) (S := fun w' => w'.cell? ⟨gb354, 0, none⟩ = some (.int .i64 a0_0) ∧ w'.cell? ⟨gb354, 1, none⟩ = some (.slice A0_1 l0_1.length c0_1)) (ds := []) #[Z,Z,Z,Z,Z,Z,Z,Z,Z,Z,Z] (by kernel_rfl) rfl rfl ⟨(blk_cell BK354.out 0).trans rfl, (blk_cell BK354.out 1).trans rfl⟩ (fun hHeld => ?_); refine with_tabW fanlightref04_Put.tab5 fanlightref04_Put.bits5 (fun HT_ HW_ => ?_)
        generalize wc.drew = w17 at BK354 HB hHeld ⊢
        refine pP 0 19 #[Y,Z,Z,Z,Z,Z,Z,Z,Z,Z,Z] HT_ (h := ?_)
        refine pP 4 23 #[Y,Z,Z,Z,Y,Z,Z,Z,Z,Z,Z] HT_ (h := ?_)
        refine tP 1 20 #[Y,Y,Z,Z,Y,Z,Z,Z,Z,Z,Z] HT_ HW_ hHeld (hy := by refine Or.inl ⟨by rfl, ?_⟩; rintro w' ⟨s0, s1⟩; go_simp; with_reducible rfl) (h := ?_)
        refine pP 2 21 #[Y,Y,Y,Z,Y,Z,Z,Z,Z,Z,Z] HT_ (h := ?_)
        refine tP 5 24 #[Y,Y,Y,Z,Y,Y,Z,Z,Z,Z,Z] HT_ HW_ hHeld (hy := by refine Or.inl ⟨by rfl, ?_⟩; rintro w' ⟨s0, s1⟩; go_simp; with_reducible rfl) (h := ?_)
        refine pP 6 25 #[Y,Y,Y,Z,Y,Y,Y,Z,Z,Z,Z] HT_ (h := ?_)
        refine pP 7 26 #[Y,Y,Y,Z,Y,Y,Y,Y,Z,Z,Z] HT_ (h := ?_)
        refine join_ (σ := Value × Value) 2 #[Y,Y,Y,Y,Y,Y,Y,Y,Y,Z,Z] (fun s_ => [(22, s_.1), (27, s_.2)]) (fun s_ w' => (w'.cell? ⟨gb354, 0, none⟩ = some (.int .i64 a0_0) ∧ w'.cell? ⟨gb354, 1, none⟩ = some (.slice A0_1 l0_1.length c0_1)) ∧ (Kd.R (Kd.int .u8) 5 w' w.heap.size (fun k_ => some k_ ≠ (s_.2 : Value).ownBlock) s_.1 y355) ∧ (Kd.R (Kd.int .u8) 5 w' w.heap.size (fun k_ => some k_ ≠ (s_.1 : Value).ownBlock) s_.2 t358) ∧ (w'.heap[gb354]? = some (.cells #[.int .i64 a0_0, .slice A0_1 l0_1.length c0_1] 89 (0, 0))) ∧ (Below w.heap.size w w')) ?_ ?_
        rotate_left
        ·
         intro hCont
         refine two_ (i := 3) (j := 8) (Ni := some 22) (Nj := some 27) #[Y,Y,Y,Y,Y,Y,Y,Y,Z,Z,Z] #[Y,Y,Y,Z,Y,Y,Y,Y,Y,Z,Z] rfl rfl rfl rfl (two_of HT_.out (by kernel_rfl)) (by decide) (by decide) (fun K hK => ?_) (fun K hK => ?_)
         ·
          skip
          refine Kd.R_lit_step (Kd.int .u8) _ 5 ?hg (N := 22) ?hd (xs := ([(a0_0) % 256] : List Int)) (inner := [.int .u8 ((a0_0) % 256)]) (ok := fun _ => True) (okp := fun _ => True) ?hr ?hp (fun _ hk => hk) trivial (Below.refl _ _) (Nat.le_refl _) (by simp) ?_; (case hd => rfl); (case hg => rfl); (case hr => go_simp <;> rfl); (case hp => exact (Reps.one (show Kd.M (Kd.int .u8) _ _ _ ((a0_0) % 256) [.int .u8 ((a0_0) % 256)] from rfl) (Reps.none _ _)))
          intro v356 w18 ho19 hb hg_ hnew_
          clear hg_ hnew_
          (first | rw [← Ny355.out] at ho19 | (simp only [Int.reduceToNat] at ho19; rw [← Ny355.out] at ho19))
          have n0_ := b' (Kd.R_lower ho19 (below_size (eH HB)))
          have n1_ := bB BK354 hb
          have n2_ := b' (below_step (eH HB) hb)
          clear BK354
          clear HB
          have HO357 := n0_
          have BK354 := n1_
          have HB := n2_
          clear n0_ n1_ n2_
          clear hb ho19
          refine hK.out _ _ ⟨(blk_cell BK354.out 0).trans rfl, (blk_cell BK354.out 1).trans rfl⟩ (fun hHeld => ?_)
          clear hK K
          refine norm_ (a' := ?_) ?_ ?_
          rotate_left
          ·
           show Act.put _ (some 22) _ = _
           exact uP
          refine one_ (i := 8) (N := some 27) #[Y,Y,Y,Y,Y,Y,Y,Y,Y,Z,Z] rfl rfl (one_of HT_.out (by kernel_rfl)) (by decide) (fun K hK => ?_)
          refine goes_ Try.func47 (by kernel_rfl) rfl #[.int .u64 (IntKind.u64.wrap ((l0_1.length : Int))), .int .i64 3] (by rfl) rfl rfl (by (try simp only [List.map_toArray, List.map_cons, List.map_nil]); first | done | rfl | (simp only [List.length_drop, List.length_take]; rfl)) ?_
          with_reducible refine (fanlightref03_Octets.calls kj1 (IntKind.u64.wrap ((l0_1.length : Int))) 3 t358 _ A10.out).mono ?_
          rintro e w20 ⟨v359, rfl, ho0, hb⟩
          refine ⟨_, rfl, ?_⟩
          have n0_ := b' (Kd.R_elder' (Kd.eR HO357) (Kd.R_base ho0) hb)
          have n1_ := b' (Kd.R_lower (Kd.R_new' ho0 (Kd.R_lt (Kd.eR HO357))) (below_size (eH HB)))
          have n2_ := bB BK354 hb
          have n3_ := b' (below_step (eH HB) hb)
          clear HO357
          clear BK354
          clear HB
          have HO357 := n0_
          have HO360 := n1_
          have BK354 := n2_
          have HB := n3_
          clear n0_ n1_ n2_ n3_
          (try clear hb)
          (try clear hb2)
          (try clear hk)
          (try clear hi)
          (try clear ho0)
          refine hK.out _ _ ⟨(blk_cell BK354.out 0).trans rfl, (blk_cell BK354.out 1).trans rfl⟩ (fun hHeld => ?_)
          clear hK K
          refine norm_ (a' := ?_) ?_ ?_
          rotate_left
          ·
           show Act.put _ (some 27) _ = _
           exact uP
          exact norm_ (by simp only [putAll, Act.put, List.setIfInBounds_toArray, List.set_cons_zero, List.set_cons_succ]) (hCont (v356, v359) _ ⟨hHeld, (Kd.kR (Kd.R_mono HO357.out (fun _ hk => hk.2))), (Kd.kR (Kd.R_mono HO360.out (fun _ hk => hk.2))), (eB BK354), (eH HB)⟩)
         ·
          skip
          refine goes_ Try.func47 (by kernel_rfl) rfl #[.int .u64 (IntKind.u64.wrap ((l0_1.length : Int))), .int .i64 3] (by rfl) rfl rfl (by (try simp only [List.map_toArray, List.map_cons, List.map_nil]); first | done | rfl | (simp only [List.length_drop, List.length_take]; rfl)) ?_
          with_reducible refine (fanlightref03_Octets.calls kj1 (IntKind.u64.wrap ((l0_1.length : Int))) 3 t358 _ A10.out).mono ?_
          rintro e w18 ⟨v359, rfl, ho0, hb⟩
          refine ⟨_, rfl, ?_⟩
          have n0_ := b' (Kd.R_lower ho0 (below_size (eH HB)))
          have n1_ := bB BK354 hb
          have n2_ := b' (below_step (eH HB) hb)
          clear BK354
          clear HB
          have HO360 := n0_
          have BK354 := n1_
          have HB := n2_
          clear n0_ n1_ n2_
          (try clear hb)
          (try clear hb2)
          (try clear hk)
          (try clear hi)
          (try clear ho0)
          refine hK.out _ _ ⟨(blk_cell BK354.out 0).trans rfl, (blk_cell BK354.out 1).trans rfl⟩ (fun hHeld => ?_)
          clear hK K
          refine norm_ (a' := ?_) ?_ ?_
          rotate_left
          ·
           show Act.put _ (some 27) _ = _
           exact uP
          refine one_ (i := 3) (N := some 22) #[Y,Y,Y,Y,Y,Y,Y,Y,Y,Z,Z] rfl rfl (one_of HT_.out (by kernel_rfl)) (by decide) (fun K hK => ?_)
          refine Kd.R_lit_step (Kd.int .u8) _ 5 ?hg (N := 22) ?hd (xs := ([(a0_0) % 256] : List Int)) (inner := [.int .u8 ((a0_0) % 256)]) (ok := fun _ => True) (okp := fun _ => True) ?hr ?hp (fun _ hk => hk) trivial (Below.refl _ _) (Nat.le_refl _) (by simp) ?_; (case hd => rfl); (case hg => rfl); (case hr => go_simp <;> rfl); (case hp => exact (Reps.one (show Kd.M (Kd.int .u8) _ _ _ ((a0_0) % 256) [.int .u8 ((a0_0) % 256)] from rfl) (Reps.none _ _)))
          intro v356 w19 ho20 hb hg_ hnew_
          clear hg_ hnew_
          (first | rw [← Ny355.out] at ho20 | (simp only [Int.reduceToNat] at ho20; rw [← Ny355.out] at ho20))
          have n0_ := b' (Kd.R_elder' (Kd.eR HO360) (Kd.R_base ho20) hb)
          have n1_ := b' (Kd.R_lower (Kd.R_new' ho20 (Kd.R_lt (Kd.eR HO360))) (below_size (eH HB)))
          have n2_ := bB BK354 hb
          have n3_ := b' (below_step (eH HB) hb)
          clear HO360
          clear BK354
          clear HB
          have HO360 := n0_
          have HO357 := n1_
          have BK354 := n2_
          have HB := n3_
          clear n0_ n1_ n2_ n3_
          clear hb ho20
          refine hK.out _ _ ⟨(blk_cell BK354.out 0).trans rfl, (blk_cell BK354.out 1).trans rfl⟩ (fun hHeld => ?_)
          clear hK K
          refine norm_ (a' := ?_) ?_ ?_
          rotate_left
          ·
           show Act.put _ (some 22) _ = _
           exact uP
          exact norm_ (by simp only [putAll, Act.put, List.setIfInBounds_toArray, List.set_cons_zero, List.set_cons_succ]) (hCont (v356, v359) _ ⟨hHeld, (Kd.kR (Kd.R_mono HO357.out (fun _ hk => hk.2))), (Kd.kR (Kd.R_mono HO360.out (fun _ hk => hk.2))), (eB BK354), (eH HB)⟩)
        rintro ⟨v356, v359⟩ w21 ⟨hS_, h0_, h1_, h2_, h3_⟩
        have n0_ : Aside0 (Kd.R (Kd.int .u8) 5 w21 w.heap.size (fun k_ => some k_ ≠ (v359 : Value).ownBlock) v356 y355) := ⟨h0_⟩
        have n1_ : Aside0 (Kd.R (Kd.int .u8) 5 w21 w.heap.size (fun k_ => some k_ ≠ (v356 : Value).ownBlock) v359 t358) := ⟨h1_⟩
        have n2_ : Aside0 (w21.heap[gb354]? = some (.cells #[.int .i64 a0_0, .slice A0_1 l0_1.length c0_1] 89 (0, 0))) := ⟨h2_⟩
        have n3_ : Aside0 (Below w.heap.size w w21) := ⟨h3_⟩
        clear BK354
        clear HB
        clear h0_ h1_ h2_ h3_
        have HO357 := n0_
        have HO360 := n1_
        have BK354 := n2_
        have HB := n3_
        clear n0_ n1_ n2_ n3_
        have hHeld : w21.cell? ⟨gb354, 0, none⟩ = some (.int .i64 a0_0) ∧ w21.cell? ⟨gb354, 1, none⟩ = some (.slice A0_1 l0_1.length c0_1) := hS_
        obtain ⟨Ao23, co23, eo23⟩ := Kd.R_slice HO360.out
        (first | subst eo23 | (injection eo23 with f1_ f2_ f3_; have f4_ := f1_.symm; have f5_ := f3_.symm; clear f1_ f2_ f3_; subst f4_; subst f5_))
        refine norm_ (a' := ?_) ?_ ?_
        rotate_left
        ·
         simp only [putAll, Act.put, List.setIfInBounds_toArray, List.set_cons_zero, List.set_cons_succ]
         rfl
        refine one_ (i := 9) (N := some 28) #[Y,Y,Y,Y,Y,Y,Y,Y,Y,Y,Z] rfl rfl (one_of HT_.out (by kernel_rfl)) (by decide) (fun K hK => ?_)
        refine Kd.R_append_rows_step (Kd.int .u8) (w0 := w) w.heap.size (by rfl) (.tmp 22) (.tmp 27) 25 5 (.int .u8 0) 1 rfl Try.underlying25 info5 rfl (by decide) (by omega) v356 y355 t358 _ _ _ (fun k_ => some k_ ≠ (.slice Ao23 t358.length co23 : Value).ownBlock) (fun _ => False) rfl rfl ?aO ?aR (fun _ _ h => h) (fun _ h => h.elim) ?aF ?aB ?aS ?aL ?_
        (case aR => exact Kd.kC (Kd.R_reads' HO360.out).2.2)
        (case aB => exact (eH HB))
        (case aF => exact (fun k_ hk => Kd.fresh' (Kd.R_lt (Kd.eR HO360)) k_ hk))
        (case aO => exact (Kd.eR HO357))
        (case aS => exact (below_size (eH HB)))
        (case aL => have := LMc11.out; omega)
        intro v362 w22 ho hb hg hat
        rw [← Ny361.out] at ho
        have n0_ := b' (blk_grown (g := gb354) (o := .cells #[.int .i64 a0_0, .slice A0_1 l0_1.length c0_1] 89 (0, 0)) (eB BK354) hg (Kd.R_ne HO357.out BK354.out (by decide)))
        have n1_ := b' (Kd.R_after (ok := (fun _ => True)) (Kd.kR (Kd.R_mono HO360.out (fun _ hk => ⟨trivial, hk⟩))) hg hat)
        have n2_ := b' (hb)
        have n3_ := b' (ho)
        clear BK354
        clear HO360
        clear HB
        clear HO357
        have BK354 := n0_
        have HO360 := n1_
        have HB := n2_
        have HO363 := n3_
        clear n0_ n1_ n2_ n3_
        clear ho hb hg hat
        refine hK.out _ _ ⟨(blk_cell BK354.out 0).trans rfl, (blk_cell BK354.out 1).trans rfl⟩ (fun hHeld => ?_)
        clear hK K
        refine norm_ (a' := ?_) ?_ ?_
        rotate_left
        ·
         show Act.put _ (some 28) _ = _
         exact uP
        refine pP 10 4 #[Y,Y,Y,Y,Y,Y,Y,Y,Y,Y,Y] HT_ (h := ?_)
        refine done_ (done_of HT_.out (by kernel_rfl)) ?_
        have hcz24_0 := bC BK354 0 (.int .i64 a0_0)
        have hcz24_1 := bC BK354 1 (.slice A0_1 l0_1.length c0_1)
        have hfz24_0 := blk_frozen BK354.out 0
        have hfz24_1 := blk_frozen BK354.out 1
        try go_wp2_with (first | ((with_reducible refine gate_builtin (b := .append) (xs := #[.tmp 29, .tmp 31]) rfl ?_); at_builtin; refine Kd.R_append_rows (Kd.int .u8) (w0 := w) w.heap.size rfl (.tmp 29) (.tmp 31) 25 5 (.int .u8 0) 1 rfl Try.underlying25 info5 rfl (by decide) (by omega) v362 y361 l0_1 _ _ _ (fun k_ => some k_ ≠ (.slice Ao23 t358.length co23 : Value).ownBlock) (fun _ => False) rfl rfl ?aO ?aR (fun _ _ h => h) (fun _ h => h.elim) ?aF ?aB ?aS ?aL ?_; (case aR => exact Kd.eC HR0_1 HB); (case aB => exact (eH HB)); (case aF => exact (fun k_ hk => Kd.fresh' (Kd.R_lt (Kd.eR HO360)) k_ hk)); (case aO => exact (Kd.eR HO363)); (case aS => exact (below_size (eH HB))); (case aL => have := LMc12.out; omega); intro v365 w25 ho hb hg hat; rw [← Ny364.out] at ho; have n0_ := b' (blk_grown (g := gb354) (o := .cells #[.int .i64 a0_0, .slice A0_1 l0_1.length c0_1] 89 (0, 0)) (eB BK354) hg (Kd.R_ne HO363.out BK354.out (by decide))); have n1_ := b' (Kd.R_after (ok := (fun _ => True)) (Kd.eR HO360) hg hat); have n2_ := b' (hb); have n3_ := b' (ho); clear BK354; clear HO360; clear HB; clear HO363; have BK354 := n0_; have HO360 := n1_; have HB := n2_; have HO366 := n3_; clear n0_ n1_ n2_ n3_; clear ho hb hg hat; obtain ⟨Ao26, co26, eo26⟩ := Kd.R_slice HO366.out; subst eo26) | ((with_reducible refine gate_callee (f := 55) rfl ?_); refine gL 35 Try.func55 #[.slice Ao26 y364.length co26] (h := ?_); (with_reducible refine (fanlightref04_Sum.calls kj1 _ _ y364 t367 _ ?side1 ?side2 A13.out).mono ?_); (case side1 => exact Kd.kC (Kd.R_reads' HO366.out).2.2); (case side2 => exact (Kd.R_reads' HO366.out).2.1); rintro e w' ⟨rfl, ⟨nd, rfl⟩⟩; refine ⟨_, rfl, ?_⟩) | ((with_reducible refine gate_callee (f := 54) rfl ?_); refine gL 36 Try.func54 #[.int .u32 t367] (h := ?_); (with_reducible refine (fanlightref04_laid.calls t367 t368 _ A14.out).mono ?_); rintro e w27 ⟨v369, rfl, ho0, hb⟩; refine ⟨_, rfl, ?_⟩; have n0_ := b' (Kd.R_elder' (Kd.eR HO360) (Kd.R_base ho0) hb); have n1_ := b' (Kd.R_elder' (Kd.eR HO366) (Kd.R_base ho0) hb); have n2_ := b' (Kd.R_lower (Kd.R_new' (Kd.R_new' ho0 (Kd.R_lt (Kd.eR HO360))) (Kd.R_lt (Kd.eR HO366))) (below_size (eH HB))); have n3_ := bB BK354 hb; have n4_ := b' (below_step (eH HB) hb); clear HO360; clear HO366; clear BK354; clear HB; have HO360 := n0_; have HO366 := n1_; have HO370 := n2_; have BK354 := n3_; have HB := n4_; clear n0_ n1_ n2_ n3_ n4_; (try clear hb); (try clear hb2); (try clear hk); (try clear hi); (try clear ho0); obtain ⟨Ao29, co29, eo29⟩ := Kd.R_slice HO370.out; subst eo29) | ((with_reducible refine gate_builtin (b := .append) (xs := #[.tmp 33, .tmp 36]) rfl ?_); at_builtin; refine Kd.R_append_rows (Kd.int .u8) (w0 := w) w.heap.size rfl (.tmp 33) (.tmp 36) 25 5 (.int .u8 0) 1 rfl Try.underlying25 info5 rfl (by decide) (by omega) (.slice Ao26 y364.length co26) y364 t368 _ _ _ (fun k_ => some k_ ≠ (.slice Ao23 t358.length co23 : Value).ownBlock ∧ some k_ ≠ (.slice Ao29 t368.length co29 : Value).ownBlock) (fun _ => False) rfl rfl ?aO ?aR (fun _ _ h => h) (fun _ h => h.elim) ?aF ?aB ?aS ?aL ?_; (case aR => exact Kd.kC (Kd.R_reads' HO370.out).2.2); (case aB => exact (eH HB)); (case aF => exact (fun k_ hk => ⟨Kd.fresh' (Kd.R_lt (Kd.eR HO360)) k_ hk, Kd.fresh' (Kd.R_lt (Kd.eR HO370)) k_ hk⟩)); (case aO => exact (Kd.eR HO366)); (case aS => exact (below_size (eH HB))); (case aL => have := LMc15.out; omega); intro v372 w28 ho hb hg hat; rw [← Ny371.out] at ho; have n0_ := b' (blk_grown (g := gb354) (o := .cells #[.int .i64 a0_0, .slice A0_1 l0_1.length c0_1] 89 (0, 0)) (eB BK354) hg (Kd.R_ne HO366.out BK354.out (by decide))); have n1_ := b' (Kd.R_after (ok := (fun k_ => some k_ ≠ (.slice Ao29 t368.length co29 : Value).ownBlock)) (Kd.kR (Kd.R_mono HO360.out (fun _ hk => ⟨hk.2, hk.1.2⟩))) hg hat); have n2_ := b' (Kd.R_after (ok := (fun k_ => some k_ ≠ (.slice Ao23 t358.length co23 : Value).ownBlock)) (Kd.kR (Kd.R_mono HO370.out (fun _ hk => ⟨hk.1.2, hk.2⟩))) hg hat); have n3_ := b' (hb); have n4_ := b' (ho); clear BK354; clear HO360; clear HO370; clear HB; clear HO366; have BK354 := n0_; have HO360 := n1_; have HO370 := n2_; have HB := n3_; have HO373 := n4_; clear n0_ n1_ n2_ n3_ n4_; clear ho hb hg hat))
        go_ret2
        exact ⟨_, eE, by (with_reducible repeat (first | apply Kd.R_alloc | apply Kd.R_drewN | apply Kd.R_drew)); exact Kd.R_mono HO373.out (fun _ hk => trivial), eH HB⟩
       ·
        rw [if_neg c15] at H
        exact absurd H (by simp)
      ·
       rw [if_neg c12] at H
       exact absurd H (by simp)
     ·
      rw [if_neg c11] at H
      exact absurd H (by simp)
def fanlightref06_framed.f (k : Nat) (a0 : Int) (l1 : List Int) : Option (List Int) := (fanlightref03_Octets.f k (IntKind.u64.wrap (a0)) 8).bind fun t374 => (if t374.length + l1.length < 140737488355328 then ((fanlightref04_Put.f k 2 (t374 ++ l1)).bind fun bt380 => (some bt380.1)) else (none))
theorem fanlightref06_framed.mono : ∀ a0 a1 k, LeO (fanlightref06_framed.f k a0 a1) (fanlightref06_framed.f (k + 1) a0 a1) := by
 intro a0 a1 k
 unfold fanlightref06_framed.f
 repeat' first
   | (with_reducible exact fanlightref03_Octets.mono _ _ _)
   | (with_reducible exact fanlightref04_Put.mono _ _ _)
   | with_reducible first | exact LeO.refl _ | exact LeO.none _ | refine LeO.ite ?_ ?_ | refine LeO.bind ?_ fun _ => ?_
theorem fanlightref06_framed.calls (k : Nat) (a0 : Int) (A1 : Option Addr) (c1 : Nat) (l1 : List Int) (r : List Int) (w : World) (hr1 : Kd.C (Kd.int .u8) w A1 l1.length l1) (hc1 : l1.length ≤ c1) (h : fanlightref06_framed.f k a0 l1 = some r) :
  Calls Try.prog 31 #[.int .i64 a0, .slice A1 l1.length c1] w fun e w' => ∃ v0_ : Value, e = .returned (v0_) ∧ Kd.R (Kd.int .u8) 5 w' w.heap.size (fun _ => True) v0_ r ∧ Below w.heap.size w w' := by
 have hu89 := Try.underlying89
 have HR1 := b' hr1
 have HC1 := b' hc1
 clear hr1 hc1
 have HB := b' (Below.refl w.heap.size w)
 have H : ((fanlightref03_Octets.f k (IntKind.u64.wrap (a0)) 8).bind fun t374 => (if t374.length + l1.length < 140737488355328 then ((fanlightref04_Put.f k 2 (t374 ++ l1)).bind fun bt380 => (some bt380.1)) else (none))) = some r := h
 clear h
 replace H := Option.bind_eq_some_iff.mp H
 obtain ⟨t374, A30, H⟩ := H
 (try dsimp only at H)
 have A3 := b' A30
 clear A30
 by_cases c4 : t374.length + l1.length < 140737488355328
 ·
  rw [if_pos c4] at H
  have LMc4 := b' c4
  clear c4
  obtain ⟨y377, hy377⟩ : ∃ y_ : List Int, y_ = (t374 ++ l1) := ⟨_, rfl⟩
  replace H : ((fanlightref04_Put.f k 2 y377).bind fun bt380 => (some bt380.1)) = some r := by rw [hy377]; exact H
  have Ny377 := b' hy377
  clear hy377
  replace H := Option.bind_eq_some_iff.mp H
  obtain ⟨⟨t380, t383⟩, A50, H⟩ := H
  (try dsimp only at H)
  have A5 := b' A50
  clear A50
  obtain rfl := Option.some.inj H
  go_enter Try.func31, Try.ntmps31
  go_wp2_with (first | ((with_reducible refine gate_callee (f := 47) rfl ?_); refine gL 10 Try.func47 #[.int .u64 (IntKind.u64.wrap (a0)), .int .i64 8] (h := ?_); (with_reducible refine (fanlightref03_Octets.calls k (IntKind.u64.wrap (a0)) 8 t374 _ A3.out).mono ?_); rintro e w6 ⟨v375, rfl, ho0, hb⟩; refine ⟨_, rfl, ?_⟩; have n0_ := b' (Kd.R_lower ho0 (below_size (eH HB))); have n1_ := b' (below_step (eH HB) hb); clear HB; have HO376 := n0_; have HB := n1_; clear n0_ n1_; (try clear hb); (try clear hb2); (try clear hk); (try clear hi); (try clear ho0)) | ((with_reducible refine gate_builtin (b := .append) (xs := #[.tmp 10, .tmp 11]) rfl ?_); at_builtin; refine Kd.R_append_rows (Kd.int .u8) (w0 := w) w.heap.size rfl (.tmp 10) (.tmp 11) 25 5 (.int .u8 0) 1 rfl Try.underlying25 info5 rfl (by decide) (by omega) v375 t374 l1 _ _ _ (fun _ => True) (fun _ => False) rfl rfl ?aO ?aR (fun _ _ h => h) (fun _ h => h.elim) ?aF ?aB ?aS ?aL ?_; (case aR => exact Kd.eC HR1 HB); (case aB => exact (eH HB)); (case aF => exact (fun _ _ => trivial)); (case aO => exact (Kd.eR HO376)); (case aS => exact (below_size (eH HB))); (case aL => have := LMc4.out; omega); intro v378 w7 ho hb hg hat; rw [← Ny377.out] at ho; have n0_ := b' (hb); have n1_ := b' (ho); clear HB; clear HO376; have HB := n0_; have HO379 := n1_; clear n0_ n1_; clear ho hb hg hat; obtain ⟨Ao8, co8, eo8⟩ := Kd.R_slice HO379.out; subst eo8) | ((with_reducible refine gate_callee (f := 46) rfl ?_); refine gL 14 Try.func46 #[.agg #[.int .i64 2, .slice Ao8 y377.length co8]] (h := ?_); (with_reducible refine (fanlightref04_Put.calls k 2 _ _ y377 t380 t383 _ ?side1 ?side2 A5.out).mono ?_); (case side1 => exact Kd.kC (Kd.R_reads' HO379.out).2.2); (case side2 => exact (Kd.R_reads' HO379.out).2.1); rintro e w9 ⟨v381, rfl, ho0, hb⟩; refine ⟨_, rfl, ?_⟩; have n0_ := b' (Kd.R_elder' (Kd.eR HO379) (Kd.R_base ho0) hb); have n1_ := b' (Kd.R_lower (Kd.R_new' ho0 (Kd.R_lt (Kd.eR HO379))) (below_size (eH HB))); have n2_ := b' (below_step (eH HB) hb); clear HO379; clear HB; have HO379 := n0_; have HO382 := n1_; have HB := n2_; clear n0_ n1_ n2_; (try clear hb); (try clear hb2); (try clear hk); (try clear hi); (try clear ho0)))
  go_ret
  exact ⟨_, eE, by (with_reducible repeat (first | apply Kd.R_alloc | apply Kd.R_drewN | apply Kd.R_drew)); exact Kd.R_mono HO382.out (fun _ hk => trivial), eH HB⟩
 ·
  rw [if_neg c4] at H
  exact absurd H (by simp)
end Go.Proofs.Ytgmkgobapeencaa.S
namespace Go.Proofs.Ytgmkgobapeencaa.SealCrc
open Go.RowKit Go.Proofs.Ytgmkgobapeencaa.S Go.Proofs.YtgmkgobapeencaaW.PrintWords Go.Proofs.YtgmkgobapeencaaW.PrintLast Crc
end Go.Proofs.Ytgmkgobapeencaa.SealCrc
namespace Go.Proofs.Ytgmkgobapeencaa.RefSeal
open Go.RowKit Go.Proofs.Ytgmkgobapeencaa.S Go.Proofs.YtgmkgobapeencaaW.PrintWords Go.Proofs.YtgmkgobapeencaaW.PrintLast Crc SealCrc
theorem or_oct64 (x y : Int) (hx : 0 ≤ x) (hx2 : x < 72057594037927936) (hy : 0 ≤ y) (hy2 : y < 256) : Go.bits .or .u64 (IntKind.u64.wrap (x * 256)) (IntKind.u64.wrap y) = x * 256 + y := by
 have w64 : ∀ n : Int, 0 ≤ n → n < 18446744073709551616 → IntKind.u64.wrap n = n := fun n h0 h1 => by
  simp [IntKind.wrap, IntKind.bits, IntKind.signed]
  omega
 rw [w64 (x * 256) (by omega) (by omega), w64 y (by omega) (by omega)]
 obtain ⟨a, rfl⟩ := Int.eq_ofNat_of_zero_le hx
 obtain ⟨b, rfl⟩ := Int.eq_ofNat_of_zero_le hy
 have e0 : ((a : Int) * 256) = ((a * 256 : Nat) : Int) := by omega
 have o64 : ∀ n : Nat, n < 18446744073709551616 → (BitVec.ofInt 64 (n : Int)).toNat = n := fun n h => by
  rw [BitVec.ofInt_natCast, BitVec.toNat_ofNat]; exact Nat.mod_eq_of_lt (by omega)
 rw [e0]
 show IntKind.u64.wrap ((BitVec.ofInt 64 ((a * 256 : Nat) : Int) ||| BitVec.ofInt 64 (b : Int)).toNat : Int) = _
 have e1 : a * 256 = a <<< 8 := by rw [Nat.shiftLeft_eq]
 rw [BitVec.toNat_or, o64 _ (by omega), o64 _ (by omega), e1, ← Nat.shiftLeft_add_eq_or_of_lt (i := 8) (by omega), Nat.shiftLeft_eq, w64 _ (by omega) (by omega)]
 omega
def numOf (l : List Int) : Int := l.foldl (fun n x => n * 256 + x) 0
theorem numOf_bound : ∀ (l : List Int) (a : Int), octs l → 0 ≤ a → 0 ≤ l.foldl (fun n x => n * 256 + x) a ∧ l.foldl (fun n x => n * 256 + x) a < (a + 1) * 256 ^ l.length
 | [], a, _, h0 => by simp; omega
 | x :: l, a, ho, h0 => by
  have hx := ho x (by simp)
  obtain ⟨h1, h2⟩ := numOf_bound l (a * 256 + x) (fun y hy => ho y (by simp [hy])) (by omega)
  refine ⟨h1, Int.lt_of_lt_of_le h2 ?_⟩
  rw [List.length_cons, Int.pow_succ, Int.mul_comm (256 ^ l.length) 256, ← Int.mul_assoc]
  exact Int.mul_le_mul_of_nonneg_right (by omega) (Int.pow_nonneg (by decide))
theorem octs_take {l : List Int} (h : octs l) (n : Nat) : octs (l.take n) := fun x hx => h x (List.mem_of_mem_take hx)
theorem octs_drop {l : List Int} (h : octs l) (n : Nat) : octs (l.drop n) := fun x hx => h x (List.mem_of_mem_drop hx)
theorem laidL_octs (c : Int) : octs (laidL c) := by
 intro x hx
 simp only [laidL, List.mem_cons, List.mem_nil_iff, or_false] at hx
 rcases hx with rfl | rfl | rfl | rfl <;> omega
end Go.Proofs.Ytgmkgobapeencaa.RefSeal
namespace Go.Proofs.Ytgmkgobapeencaa.RefPut
open Go.RowKit Go.Proofs.Ytgmkgobapeencaa.S Go.Proofs.YtgmkgobapeencaaW.PrintWords Go.Proofs.YtgmkgobapeencaaW.PrintLast RefSeal
def oc8 (n : Int) : List Int := [n / 72057594037927936 % 256, n / 281474976710656 % 256, n / 1099511627776 % 256, n / 4294967296 % 256, n / 16777216 % 256, n / 65536 % 256, n / 256 % 256, n % 256]
theorem oc8_octs (n : Int) : octs (oc8 n) := by
 intro x hx
 simp only [oc8, List.mem_cons, List.mem_nil_iff, or_false] at hx
 rcases hx with rfl | rfl | rfl | rfl | rfl | rfl | rfl | rfl <;> omega
end Go.Proofs.Ytgmkgobapeencaa.RefPut
namespace Go.Proofs.Ytgmkgobapeencaa.WalMath
open Go.RowKit Go.Proofs.Ytgmkgobapeencaa.S Go.Proofs.YtgmkgobapeencaaW.PrintWords Go.Proofs.YtgmkgobapeencaaW.PrintLast RefSeal RefPut
theorem octs_app {a b : List Int} (ha : octs a) (hb : octs b) : octs (a ++ b) := fun x hx => by
 rcases List.mem_append.1 hx with h | h
 ·
  exact ha x h
 ·
  exact hb x h
theorem numOf_oc8 {n : Int} (h0 : 0 ≤ n) (h1 : n < 18446744073709551616) : numOf (oc8 n) = n := by
 unfold numOf oc8
 simp only [List.foldl_cons, List.foldl_nil]
 omega
theorem oc8_numOf {l : List Int} (ho : octs l) (hl : l.length = 8) : oc8 (numOf l) = l := by
 match l, hl with
 | [a, b, c, d, e, f, g, h], _ =>
  have ha := ho a (by simp)
  have hb := ho b (by simp)
  have hc := ho c (by simp)
  have hd := ho d (by simp)
  have he := ho e (by simp)
  have hf := ho f (by simp)
  have hg := ho g (by simp)
  have hh := ho h (by simp)
  unfold numOf oc8
  simp only [List.foldl_cons, List.foldl_nil, List.cons.injEq, and_true]
  refine ⟨by omega, by omega, by omega, by omega, by omega, by omega, by omega, by omega⟩
theorem oc8_length (n : Int) : (oc8 n).length = 8 := rfl
def fr (k : Int) (l : List Int) : List Int := sealBody k l ++ laidL (sumOf (sealBody k l))
theorem fr_length (k : Int) (l : List Int) : (fr k l).length = l.length + 8 := by simp [fr, sealBody, sealHead, laidL]
theorem fr_octs {k : Int} {l : List Int} (ho : octs l) : octs (fr k l) := by
 refine octs_app (octs_app ?_ ho) (RefSeal.laidL_octs _)
 intro x hx
 simp only [sealHead, List.mem_cons, List.mem_nil_iff, or_false] at hx
 rcases hx with rfl | rfl | rfl | rfl <;> omega
theorem getS_fr {k : Int} {l : List Int} (h0 : 1 ≤ k) (h1 : k ≤ 255) (h : l.length ≤ 65536) (more : List Int) : getS (fr k l ++ more) = (k, l, (l.length : Int) + 8, 0) := by
 have hbl : (sealBody k l).length = l.length + 4 := by simp [sealBody, sealHead]
 have e : fr k l ++ more = sealBody k l ++ (laidL (sumOf (sealBody k l)) ++ more) := by unfold fr; rw [List.append_assoc]
 have r0 : rd (sealBody k l ++ (laidL (sumOf (sealBody k l)) ++ more)) 0 = k % 256 := rfl
 have hn : num3 (sealBody k l ++ (laidL (sumOf (sealBody k l)) ++ more)) = (l.length : Int) := by
  show ((l.length : Int) / 65536 % 256) * 65536 + ((l.length : Int) / 256 % 256) * 256 + (l.length : Int) % 256 = _
  omega
 have hlen : (sealBody k l ++ (laidL (sumOf (sealBody k l)) ++ more)).length = l.length + 8 + more.length := by
  simp [hbl, laidL]
  omega
 have ht : ((l.length : Int) + 4).toNat = (sealBody k l).length := by omega
 rw [e]
 unfold getS
 rw [hn, r0, hlen, if_neg (by omega), if_neg (by omega), if_neg (by omega), if_neg (by omega), ht, List.take_left, List.drop_left, if_pos (by rfl)]
 have hk : k % 256 = k := by omega
 rw [hk]
 rfl
theorem getS_form {l : List Int} (ho : octs l) (h : (getS l).2.2.2 = 0) : ∃ k d rest, l = fr k d ++ rest ∧ 1 ≤ k ∧ k ≤ 255 ∧ d.length ≤ 65536 := by
 have hb := num3_lo ho
 unfold getS at h
 split at h
 ·
  cases h
 ·
  split at h
  ·
   cases h
  ·
   split at h
   ·
    cases h
   ·
    split at h
    ·
     cases h
    ·
     split at h
     ·
      rename_i h1 h2 h3 h4 h5
      have q0 := octs_rd ho 0
      have q1 := octs_rd ho 1
      have q2 := octs_rd ho 2
      have q3 := octs_rd ho 3
      obtain ⟨m, hm⟩ : ∃ m : Nat, num3 l = m := ⟨(num3 l).toNat, by omega⟩
      have ht : (num3 l + 4).toNat = m + 4 := by omega
      rw [ht] at h5
      have hdl : ((l.take (m + 4)).drop 4).length = m := by simp; omega
      have hT : sealBody (rd l 0) ((l.take (m + 4)).drop 4) = l.take (m + 4) := by
       unfold sealBody sealHead
       rw [hdl]
       conv => rhs; rw [← List.take_append_drop 4 (l.take (m + 4))]
       congr 1
       rw [List.take_take, Nat.min_eq_left (by omega), take4_rd l (by omega)]
       unfold num3 at hm
       simp only [List.cons.injEq, and_true]
       refine ⟨by omega, by omega, by omega, by omega⟩
      refine ⟨rd l 0, (l.take (m + 4)).drop 4, l.drop (m + 8), ?_, by omega, by omega, by omega⟩
      unfold fr
      rw [hT, h5]
      have e2 : (l.drop (m + 4)).take 4 ++ l.drop (m + 8) = l.drop (m + 4) := by
       have := List.take_append_drop 4 (l.drop (m + 4))
       rwa [List.drop_drop] at this
      rw [List.append_assoc, e2, List.take_append_drop]
     ·
      cases h
theorem getS_none : (getS []).2.2.2 ≠ 0 := by
 unfold getS
 rw [if_pos (by simp)]
 decide
def isRec (l : List Int) (next : Int) : Prop := (getS l).2.2.2 = 0 ∧ (getS l).1 = 2 ∧ 8 ≤ (getS l).2.1.length ∧ (getS l).2.1.length ≤ 408 ∧ numOf ((getS l).2.1.take 8) = next
instance (l : List Int) (next : Int) : Decidable (isRec l next) := by unfold isRec; infer_instance
def recF (n : Int) (d : List Int) : List Int := fr 2 (oc8 n ++ d)
theorem recF_length (n : Int) (d : List Int) : (recF n d).length = d.length + 16 := by
 unfold recF
 rw [fr_length, List.length_append, oc8_length]
 omega
theorem recF_octs {n : Int} {d : List Int} (ho : octs d) : octs (recF n d) := fr_octs (octs_app (oc8_octs n) ho)
theorem rec_get {n : Int} {d : List Int} (hd : d.length ≤ 400) (T : List Int) : getS (recF n d ++ T) = (2, oc8 n ++ d, (d.length : Int) + 16, 0) := by
 have hl : (oc8 n ++ d).length = d.length + 8 := by rw [List.length_append, oc8_length]; omega
 unfold recF
 rw [getS_fr (by omega) (by omega) (by omega), hl]
 congr 3
theorem rec_is {n : Int} (h0 : 0 ≤ n) (h1 : n < 18446744073709551616) {d : List Int} (hd : d.length ≤ 400) (T : List Int) : isRec (recF n d ++ T) n := by
 have hl : (oc8 n ++ d).length = d.length + 8 := by rw [List.length_append, oc8_length]; omega
 unfold isRec
 rw [rec_get hd T]
 refine ⟨rfl, rfl, by dsimp only; omega, by dsimp only; omega, ?_⟩
 show numOf ((oc8 n ++ d).take 8) = n
 rw [show (oc8 n ++ d).take 8 = oc8 n from by rw [List.take_append_of_le_length (by rw [oc8_length]; omega), List.take_of_length_le (by rw [oc8_length]; omega)]]
 exact numOf_oc8 h0 h1
theorem rec_form {l : List Int} (ho : octs l) {n : Int} (h : isRec l n) : ∃ d T, l = recF n d ++ T ∧ d.length ≤ 400 ∧ octs d ∧ octs T ∧ 0 ≤ n ∧ n < 18446744073709551616 := by
 obtain ⟨h0, h1, h2, h3, h4⟩ := h
 obtain ⟨k, d, rest, hl, k0, k1, k2⟩ := getS_form ho h0
 have hg := getS_fr k0 k1 k2 rest
 rw [← hl] at hg
 rw [hg] at h1 h2 h3 h4
 dsimp only at h1 h2 h3 h4
 subst h1
 have hod : octs d := by
  intro x hx
  refine ho x ?_
  rw [hl]
  refine List.mem_append_left _ ?_
  unfold fr sealBody
  exact List.mem_append_left _ (List.mem_append_right _ hx)
 have hor : octs rest := fun x hx => ho x (by rw [hl]; exact List.mem_append_right _ hx)
 have h8 : (d.take 8).length = 8 := by simp; omega
 have ho8 := octs_take hod 8
 have hbn := numOf_bound (d.take 8) 0 ho8 (Int.le_refl _)
 have e1 : oc8 n = d.take 8 := by rw [← h4]; exact oc8_numOf ho8 h8
 refine ⟨d.drop 8, rest, ?_, by rw [List.length_drop]; omega, octs_drop hod 8, hor, by rw [← h4]; exact hbn.1, ?_⟩
 ·
  unfold recF
  rw [e1, List.take_append_drop]
  exact hl
 ·
  rw [← h4]
  have := hbn.2
  rw [h8] at this
  exact this
theorem recF_inj {n m : Int} {d e T U : List Int} (hd : d.length ≤ 400) (he : e.length ≤ 400) (h : recF n d ++ T = recF m e ++ U) : d = e ∧ T = U := by
 have h1 := rec_get hd T (n := n)
 have h2 := rec_get he U (n := m)
 rw [h, h2] at h1
 injection h1 with _ h1
 injection h1 with h1 _
 have hde : d = e := by
  have := congrArg (List.drop 8) h1
  rw [show (oc8 n ++ d).drop 8 = d from rfl, show (oc8 m ++ e).drop 8 = e from rfl] at this
  exact this.symm
 subst hde
 refine ⟨rfl, ?_⟩
 have hl : (recF n d).length = (recF m d).length := by rw [recF_length, recF_length]
 exact (List.append_inj h hl).2
def wscanN : Nat → List Int → Int → List (Int × List Int) × Nat
 | 0, _, _ => ([], 0)
 | n + 1, l, next => if isRec l next then ((next, (getS l).2.1.drop 8) :: (wscanN n (l.drop (getS l).2.2.1.toNat) (next + 1)).1, (getS l).2.2.1.toNat + (wscanN n (l.drop (getS l).2.2.1.toNat) (next + 1)).2) else ([], 0)
def wscan (l : List Int) (next : Int) : List (Int × List Int) × Nat := wscanN (l.length + 1) l next
def flatR : Int → List (List Int) → List Int
 | _, [] => []
 | n, d :: ds => recF n d ++ flatR (n + 1) ds
def rowsR : Int → List (List Int) → List (Int × List Int)
 | _, [] => []
 | n, d :: ds => (n, d) :: rowsR (n + 1) ds
theorem rowsR_length : ∀ (n : Int) (ds : List (List Int)), (rowsR n ds).length = ds.length
 | _, [] => rfl
 | n, d :: ds => by simp [rowsR, rowsR_length (n + 1) ds]
theorem rowsR_app : ∀ (n : Int) (a b : List (List Int)), rowsR n (a ++ b) = rowsR n a ++ rowsR (n + a.length) b
 | n, [], b => by simp [rowsR]
 | n, d :: a, b => by
  simp only [List.cons_append, rowsR, rowsR_app (n + 1) a b, List.length_cons]
  rw [show n + 1 + (a.length : Int) = n + ((a.length + 1 : Nat) : Int) from by omega]
theorem flatR_app : ∀ (n : Int) (a b : List (List Int)), flatR n (a ++ b) = flatR n a ++ flatR (n + a.length) b
 | n, [], b => by simp [flatR]
 | n, d :: a, b => by
  simp only [List.cons_append, flatR, flatR_app (n + 1) a b, List.length_cons, List.append_assoc]
  rw [show n + 1 + (a.length : Int) = n + ((a.length + 1 : Nat) : Int) from by omega]
theorem flatR_length : ∀ (n : Int) (ds : List (List Int)), (flatR n ds).length = 16 * ds.length + (ds.map List.length).sum
 | _, [] => rfl
 | n, d :: ds => by
  simp only [flatR, List.length_append, recF_length, flatR_length (n + 1) ds, List.length_cons, List.map_cons, List.sum_cons]
  omega
theorem flatR_octs : ∀ (n : Int) (ds : List (List Int)), (∀ d ∈ ds, octs d) → octs (flatR n ds)
 | _, [], _ => fun x hx => by simp [flatR] at hx
 | n, d :: ds, h => octs_app (recF_octs (h d (by simp))) (flatR_octs (n + 1) ds (fun e he => h e (by simp [he])))
theorem wscan_flat : ∀ (ds : List (List Int)) (next : Int) (T : List Int) (n : Nat), (∀ d ∈ ds, d.length ≤ 400) → 0 ≤ next → next + ds.length < 18446744073709551616 → ¬ isRec T (next + ds.length) → ds.length < n →
  wscanN n (flatR next ds ++ T) next = (rowsR next ds, (flatR next ds).length)
 | [], next, T, n, hd, h0, h1, hT, hn => by
  obtain ⟨n, rfl⟩ : ∃ m, n = m + 1 := ⟨n - 1, by simp at hn; omega⟩
  rw [show flatR next [] ++ T = T from rfl, wscanN, if_neg (by simpa using hT)]
  rfl
 | d :: ds, next, T, n, hd, h0, h1, hT, hn => by
  obtain ⟨n, rfl⟩ : ∃ m, n = m + 1 := ⟨n - 1, by simp at hn; omega⟩
  have hdl := hd d (by simp)
  simp only [List.length_cons] at h1 hT hn
  have ih := wscan_flat ds (next + 1) T n (fun e he => hd e (by simp [he])) (by omega) (by omega) (by rw [show next + 1 + (ds.length : Int) = next + ((ds.length + 1 : Nat) : Int) from by omega]; exact hT) (by omega)
  have ht : ((d.length : Int) + 16).toNat = (recF next d).length := by rw [recF_length]; omega
  rw [show flatR next (d :: ds) ++ T = recF next d ++ (flatR (next + 1) ds ++ T) from by simp [flatR], wscanN, if_pos (rec_is h0 (by omega) hdl _), rec_get hdl]
  simp only [ht, List.drop_left, ih]
  rw [show (flatR next (d :: ds)).length = (recF next d).length + (flatR (next + 1) ds).length from by rw [flatR, List.length_append]]
  rfl
theorem wscan_form : ∀ (n : Nat) (l : List Int) (next : Int), octs l → l.length < n → 0 ≤ next → next + l.length < 18446744073709551616 →
  ∃ ds T, l = flatR next ds ++ T ∧ (∀ d ∈ ds, d.length ≤ 400 ∧ octs d) ∧ octs T ∧ ¬ isRec T (next + ds.length) ∧ wscanN n l next = (rowsR next ds, (flatR next ds).length)
 | 0, l, next, ho, hn, h0, h1 => by omega
 | n + 1, l, next, ho, hn, h0, h1 => by
  by_cases h : isRec l next
  ·
   obtain ⟨d, T, hl, hdl, hod, hoT, hn0, hn1⟩ := rec_form ho h
   have hlen : l.length = d.length + 16 + T.length := by rw [hl, List.length_append, recF_length]
   obtain ⟨ds, U, hU, hds, hoU, hUr, hw⟩ := wscan_form n T (next + 1) hoT (by omega) (by omega) (by omega)
   refine ⟨d :: ds, U, by rw [hl, hU]; simp [flatR], fun e he => ?_, hoU, ?_, ?_⟩
   ·
    rcases List.mem_cons.1 he with rfl | he
    ·
     exact ⟨hdl, hod⟩
    ·
     exact hds e he
   ·
    rw [show next + (((d :: ds).length : Nat) : Int) = next + 1 + (ds.length : Int) from by simp only [List.length_cons]; omega]
    exact hUr
   ·
    rw [wscanN, if_pos h]
    have hg := rec_get hdl T (n := next)
    rw [← hl] at hg
    have ht : ((d.length : Int) + 16).toNat = (recF next d).length := by rw [recF_length]; omega
    have hdr : l.drop (recF next d).length = T := by rw [hl, List.drop_left]
    rw [hg]
    simp only [ht, hdr, hw]
    rw [show (flatR next (d :: ds)).length = (recF next d).length + (flatR (next + 1) ds).length from by rw [flatR, List.length_append]]
    rfl
  ·
   refine ⟨[], l, rfl, by simp, ho, by simpa using h, ?_⟩
   rw [wscanN, if_neg h]
   rfl
end Go.Proofs.Ytgmkgobapeencaa.WalMath
