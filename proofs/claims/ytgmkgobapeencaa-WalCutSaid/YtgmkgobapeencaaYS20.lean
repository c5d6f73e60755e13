import Derived.Test.YtgmkgobapeencaaYS2
import Derived.Test.YtgmkgobapeencaaYAid3
import Derived.Test.YtgmkgobapeencaaYS17
import Derived.Test.YtgmkgobapeencaaYS19
namespace Go.Proofs.Ytgmkgobapeencaa.S
open Go.Proofs.YtgmkgobapeencaaW.PrintWords renaming blk_frozen → b'
open Go.Proofs.YtgmkgobapeencaaW.PrintWords.Aside0 renaming mk → c'
open Bool renaming true → Y, false → Z
open Go.RowKit Go.Proofs.YtgmkgobapeencaaW.PrintWords Go.Proofs.YtgmkgobapeencaaW.PrintLast Go.Proofs.YtgmkgobapeencaaW.PrintMore
attribute [local go_sem] max2_int min2_int max_two min_two max_three min_three max_four min_four   -- for this text's walks alone
set_option linter.unusedVariables false
set_option linter.unusedSimpArgs false
mutual
def fanlightref06_Check.j0 : Nat → Bool → List (List Int) → Int → Option (Int)
 | 0, _, _, _ => none
 | k + 1, x20, x333000, x333001 => if x20 = true then (some 9) else (if (x333000.length : Int) > 0 then (if 0 < (x333000.length : Int) then ((fanlightref06_first.f k (rd_L1 x333000 0)).bind fun t334 => (fanlightref06_Check.j1 k t334 x333000 x333001)) else (none)) else (fanlightref06_Check.j1 k x333001 x333000 x333001))
def fanlightref06_Check.j1 : Nat → Int → List (List Int) → Int → Option (Int)
 | 0, _, _, _ => none
 | k + 1, x3, x333000, x333001 => fanlightref06_Check.l0 k x3 0 x333000 x333001
def fanlightref06_Check.l0 : Nat → Int → Int → List (List Int) → Int → Option (Int)
 | 0, _, _, _, _ => none
 | k + 1, x3, x4, x333000, x333001 => if x4 < (x333000.length : Int) then (if 0 ≤ x4 then ((fanlightref06_Scan.f k (rd_L1 x333000 x4) x3).bind fun bt336 => (if x3 < 1 then (some 9) else (if (bt336.1.length : Int) = 0 then (some 9) else (if bt336.2 = ((rd_L1 x333000 x4).length : Int) then (if bt336.2 > 480 then (some 9) else (fanlightref06_Check.l0 k (wrap64 (x3 + (bt336.1.length : Int))) (wrap64 (x4 + 1)) x333000 x333001)) else (some 9))))) else (none)) else (if x3 = x333001 then (some 0) else (some 9))
end
def fanlightref06_Check.f (k : Nat) (l0_0 : List (List Int)) (a0_1 : Int) : Option (Int) := if a0_1 < 1 then (fanlightref06_Check.j0 k true l0_0 a0_1) else (if a0_1 > 1099511627776 then (fanlightref06_Check.j0 k true l0_0 a0_1) else (fanlightref06_Check.j0 k (decide ((l0_0.length : Int) > 64)) l0_0 a0_1))
theorem fanlightref06_Check.mono_l : ∀ k, (∀ y0 y1 y2, LeO (fanlightref06_Check.j0 k y0 y1 y2) (fanlightref06_Check.j0 (k + 1) y0 y1 y2)) ∧ (∀ y0 y1 y2, LeO (fanlightref06_Check.j1 k y0 y1 y2) (fanlightref06_Check.j1 (k + 1) y0 y1 y2)) ∧ (∀ y0 y1 y2 y3, LeO (fanlightref06_Check.l0 k y0 y1 y2 y3) (fanlightref06_Check.l0 (k + 1) y0 y1 y2 y3))
 | 0 => ⟨fun _ _ _ r h => by simp [fanlightref06_Check.j0] at h, fun _ _ _ r h => by simp [fanlightref06_Check.j1] at h, fun _ _ _ _ r h => by simp [fanlightref06_Check.l0] at h⟩
 | k + 1 => by
  obtain ⟨ih0, ih1, ih2⟩ := fanlightref06_Check.mono_l k
  refine ⟨?_, ?_, ?_⟩
  ·
   intro y0 y1 y2
   unfold fanlightref06_Check.j0
   repeat' first
   | (with_reducible exact ih0 _ _ _)
   | (with_reducible exact ih1 _ _ _)
   | (with_reducible exact ih2 _ _ _ _)
   | (with_reducible exact fanlightref06_Scan.mono _ _ _)
   | (with_reducible exact fanlightref06_first.mono _ _)
   | with_reducible first | exact LeO.refl _ | exact LeO.none _ | refine LeO.ite ?_ ?_ | refine LeO.bind ?_ fun _ => ?_
  ·
   intro y0 y1 y2
   unfold fanlightref06_Check.j1
   repeat' first
   | (with_reducible exact ih0 _ _ _)
   | (with_reducible exact ih1 _ _ _)
   | (with_reducible exact ih2 _ _ _ _)
   | (with_reducible exact fanlightref06_Scan.mono _ _ _)
   | (with_reducible exact fanlightref06_first.mono _ _)
   | with_reducible first | exact LeO.refl _ | exact LeO.none _ | refine LeO.ite ?_ ?_ | refine LeO.bind ?_ fun _ => ?_
  ·
   intro y0 y1 y2 y3
   unfold fanlightref06_Check.l0
   repeat' first
   | (with_reducible exact ih0 _ _ _)
   | (with_reducible exact ih1 _ _ _)
   | (with_reducible exact ih2 _ _ _ _)
   | (with_reducible exact fanlightref06_Scan.mono _ _ _)
   | (with_reducible exact fanlightref06_first.mono _ _)
   | with_reducible first | exact LeO.refl _ | exact LeO.none _ | refine LeO.ite ?_ ?_ | refine LeO.bind ?_ fun _ => ?_
theorem fanlightref06_Check.mono : ∀ a0 a1 k, LeO (fanlightref06_Check.f k a0 a1) (fanlightref06_Check.f (k + 1) a0 a1) := by
 intro a0 a1 k
 obtain ⟨ih0, ih1, ih2⟩ := fanlightref06_Check.mono_l k
 unfold fanlightref06_Check.f
 repeat' first
   | (with_reducible exact ih0 _ _ _)
   | (with_reducible exact ih1 _ _ _)
   | (with_reducible exact ih2 _ _ _ _)
   | (with_reducible exact fanlightref06_Scan.mono _ _ _)
   | (with_reducible exact fanlightref06_first.mono _ _)
   | with_reducible first | exact LeO.refl _ | exact LeO.none _ | refine LeO.ite ?_ ?_ | refine LeO.bind ?_ fun _ => ?_
set_option maxHeartbeats 8000000 in
set_option maxRecDepth 100000 in
theorem fanlightref06_Check.calls (k : Nat) (A0_0 : Option Addr) (c0_0 : Nat) (l0_0 : List (List Int)) (a0_1 : Int) (r : Int) (w : World) (hr0_0 : Kd.C (Kd.slice 5 (Kd.int .u8)) w A0_0 l0_0.length l0_0) (hc0_0 : l0_0.length ≤ c0_0) (h : fanlightref06_Check.f k l0_0 a0_1 = some r) :
  Calls Try.prog 22 #[.agg #[.slice A0_0 l0_0.length c0_0, .int .i64 a0_1]] w fun e w' => e = .returned (.int .i64 r) ∧ Below w.heap.size w w' := by
 have hu24 := Try.underlying24
 have HR0_0 := c' hr0_0
 have HC0_0 := c' hc0_0
 clear hr0_0 hc0_0
 have HB := c' (Below.refl w.heap.size w)
 have H : (if a0_1 < 1 then (fanlightref06_Check.j0 k true l0_0 a0_1) else (if a0_1 > 1099511627776 then (fanlightref06_Check.j0 k true l0_0 a0_1) else (fanlightref06_Check.j0 k (decide ((l0_0.length : Int) > 64)) l0_0 a0_1))) = some r := h
 clear h
 have HC2 := c' H
 clear H
 go_enter Try.func22, Try.ntmps22
 go_upto_region 1 with (first | ((with_reducible refine gate_dst (N := 1) rfl ?_); (try (refine gate_guard (by rfl) ?_; dsimp only)); refine box_event ?hg (N := 1) ?hd (cs := #[.slice A0_0 l0_0.length c0_0, .int .i64 a0_1]) (t := 24) ?hr ?_; (case hd => rfl); (case hg => rfl); (case hr => go_simp <;> rfl); intro gb332 hg w3 hbox hb; have n0_ := c' (below_step (eH HB) hb); have n1_ := c' (hbox); have n2_ := c' ((by rw [hg]; exact (below_size (eH HB)) : w.heap.size ≤ gb332)); have n3_ := c' ((by rw [hg]; exact (below_size (eH HB)) : w.heap.size ≤ gb332)); clear HB; have HB := n0_; have BK332 := n1_; have GW332 := n2_; have GE332 := n3_; clear n0_ n1_ n2_ n3_; clear hb hbox hg))
 (try simp only [Act.put, List.setIfInBounds_toArray, List.set_cons_zero, List.set_cons_succ])
 go_cut [20] (fun v20 wc => ∃ (kq : Nat) (x20_1 : Bool), v20 = .bool x20_1 ∧ Aside0 (fanlightref06_Check.j0 kq x20_1 l0_0 a0_1 = some r) ∧ Aside0 (kq ≤ k) ∧ Aside0 (wc.heap[gb332]? = some (.cells #[(.slice A0_0 l0_0.length c0_0), .int .i64 a0_1] 24 (0, 0))) ∧ Aside0 (Below w.heap.size w wc))
 case first =>
  have H := HC2.out
  clear HC2
  by_cases c4 : a0_1 < 1
  ·
   rw [if_pos c4] at H
   have c4b0 := decide_eq_true c4
   clear c4
   (first | rw [c4b0] | (simp only [i64_w, i32_w]; rw [c4b0]) | rw [c4b1] | skip)
   have H' := c' H
   clear H
   have hcz5_0 := bC BK332 0 (.slice A0_0 l0_0.length c0_0)
   have hcz5_1 := bC BK332 1 (.int .i64 a0_1)
   have hfz5_0 := b' BK332.out 0
   have hfz5_1 := b' BK332.out 1
   go_wp2
   go_meet
   case rel => exact ⟨_, (true), rS, H', ⟨by first | omega | exact Nat.le_refl _⟩, ⟨eB BK332⟩, ⟨eH HB⟩⟩
  ·
   rw [if_neg c4] at H
   have c4b0 := decide_eq_false c4
   clear c4
   (first | rw [c4b0] | (simp only [i64_w, i32_w]; rw [c4b0]) | rw [c4b1] | skip)
   by_cases c6 : a0_1 > 1099511627776
   ·
    rw [if_pos c6] at H
    have c6b0 := decide_eq_true c6
    clear c6
    have H' := c' H
    clear H
    have hcz7_0 := bC BK332 0 (.slice A0_0 l0_0.length c0_0)
    have hcz7_1 := bC BK332 1 (.int .i64 a0_1)
    have hfz7_0 := b' BK332.out 0
    have hfz7_1 := b' BK332.out 1
    go_wp2
    go_meet
    case rel => exact ⟨_, (true), rS, H', ⟨by first | omega | exact Nat.le_refl _⟩, ⟨eB BK332⟩, ⟨eH HB⟩⟩
   ·
    rw [if_neg c6] at H
    have c6b0 := decide_eq_false c6
    clear c6
    have H' := c' H
    clear H
    have hcz8_0 := bC BK332 0 (.slice A0_0 l0_0.length c0_0)
    have hcz8_1 := bC BK332 1 (.int .i64 a0_1)
    have hfz8_0 := b' BK332.out 0
    have hfz8_1 := b' BK332.out 1
    go_wp2
    go_meet
    case rel => exact ⟨_, (decide ((l0_0.length : Int) > 64)), rS, H', ⟨by first | omega | exact Nat.le_refl _⟩, ⟨eB BK332⟩, ⟨eH HB⟩⟩
 case rest =>
  clear HC2
  try clear c2
  try clear p2
  try clear c4
  try clear c4b0
  try clear c6
  try clear c6b0
  try clear hcz5_0
  try clear hcz5_1
  try clear hcz7_0
  try clear hcz7_1
  try clear hcz8_0
  try clear hcz8_1
  try clear hfz5_0
  try clear hfz5_1
  try clear hfz7_0
  try clear hfz7_1
  try clear hfz8_0
  try clear hfz8_1
  obtain ⟨kq, x20_1, rfl, HA, HJ1, BK332, HB⟩ := hcut
  cases kq with
  | zero => exact absurd HA.out (by simp [fanlightref06_Check.j0])
  | succ kj1 =>
   have H := HA.out
   clear HA
   simp only [fanlightref06_Check.j0] at H
   by_cases c9 : x20_1 = true
   ·
    subst c9
    have H1 : (some 9) = some r := by rw [if_pos rfl] at H; exact H
    clear H
    have H := H1
    clear H1
    obtain rfl := Option.some.inj H
    go_wp2
    go_ret
    exact ⟨eE, eH HB⟩
   ·
    replace c9 := Bool.eq_false_iff.mpr c9
    subst c9
    have H1 : (if (l0_0.length : Int) > 0 then (if 0 < (l0_0.length : Int) then ((fanlightref06_first.f kj1 (rd_L1 l0_0 0)).bind fun t334 => (fanlightref06_Check.j1 kj1 t334 l0_0 a0_1)) else (none)) else (fanlightref06_Check.j1 kj1 a0_1 l0_0 a0_1)) = some r := by rw [if_neg (show ¬ (false = true) by decide)] at H; exact H
    clear H
    have H := H1
    clear H1
    have HC10 := c' H
    clear H
    have hcz11_0 := bC BK332 0 (.slice A0_0 l0_0.length c0_0)
    have hcz11_1 := bC BK332 1 (.int .i64 a0_1)
    have hfz11_0 := b' BK332.out 0
    have hfz11_1 := b' BK332.out 1
    go_upto_if 26 with (fail)
    go_cut [3] (fun v3 wc => ∃ (kq : Nat) (x3_9 : Int), v3 = .int .i64 x3_9 ∧ Aside0 (fanlightref06_Check.j1 kq x3_9 l0_0 a0_1 = some r) ∧ Aside0 (kq ≤ kj1) ∧ Aside0 (wc.heap[gb332]? = some (.cells #[(.slice A0_0 l0_0.length c0_0), .int .i64 a0_1] 24 (0, 0))) ∧ Aside0 (Below w.heap.size w wc))
    case first =>
     have H := HC10.out
     clear HC10
     by_cases c12 : (l0_0.length : Int) > 0
     ·
      rw [if_pos c12] at H
      have c12b0 := decide_eq_true c12
      have c12b1 : decide (0 < l0_0.length) = true := decide_eq_true (by omega)
      clear c12
      (first | rw [c12b0] | (simp only [i64_w, i32_w]; rw [c12b0]) | rw [c12b1] | skip)
      by_cases c13 : 0 < (l0_0.length : Int)
      ·
       rw [if_pos c13] at H
       have c13b0 := decide_eq_true c13
       have c13b1 : decide (0 < l0_0.length) = true := decide_eq_true (by omega)
       clear c13
       replace H := Option.bind_eq_some_iff.mp H
       obtain ⟨t334, A140, H⟩ := H
       (try dsimp only at H)
       have A14 := c' A140
       clear A140
       have H' := c' H
       clear H
       have hcz15_0 := bC BK332 0 (.slice A0_0 l0_0.length c0_0)
       have hcz15_1 := bC BK332 1 (.int .i64 a0_1)
       have hfz15_0 := b' BK332.out 0
       have hfz15_1 := b' BK332.out 1
       have p333 : 0 ≤ (0 : Int) := (by omega)
       have q333 : 0 < (l0_0.length : Int) := oD
       obtain ⟨ad333, A333_0, c333_0, e333, hx333_0, hl333_0, hi333_0⟩ := at_L1 HR0_0.out 0 p333 q333
       cases e333
       have qi333 : (0 < l0_0.length) = True := eq_true (by omega)
       (try rw [show ((0 : Int)).toNat = 0 from rfl] at hx333_0)
       (try rw [Addr.add_zero'] at hx333_0)
       replace hx333_0 := (HB.out.cell (World.block_lt_of_cell? w _ hx333_0)).trans hx333_0
       have HR333_0 := c' hi333_0
       have HC333_0 := c' hl333_0
       clear hi333_0 hl333_0
       replace p333 := eq_true p333
       replace q333 := eq_true q333
       go_wp2_with (first | ((with_reducible refine gate_callee (f := 34) rfl ?_); refine gL 31 Try.func34 #[.slice A333_0 (rd_L1 l0_0 0).length c333_0] (h := ?_); (with_reducible refine (fanlightref06_first.calls kj1 _ _ (rd_L1 l0_0 0) t334 _ ?side1 ?side2 A14.out).mono ?_); (case side1 => exact Kd.eC HR333_0 HB); (case side2 => exact HC333_0.out); rintro e w16 ⟨rfl, hb⟩; refine ⟨_, rfl, ?_⟩; have n0_ := bB BK332 hb; have n1_ := c' (below_step (eH HB) hb); clear BK332; clear HB; have BK332 := n0_; have HB := n1_; clear n0_ n1_; (try clear hb); (try clear hb2); (try clear hk); (try clear hi)))
       go_meet
       case rel => exact ⟨_, (t334), rS, H', ⟨by have := HJ1.out; first | omega | exact Nat.le_refl _⟩, ⟨eB BK332⟩, ⟨eH HB⟩⟩
      ·
       rw [if_neg c13] at H
       exact absurd H (by simp)
     ·
      rw [if_neg c12] at H
      have c12b0 := decide_eq_false c12
      have c12b1 : decide (0 < l0_0.length) = false := decide_eq_false (by omega)
      clear c12
      (first | rw [c12b0] | (simp only [i64_w, i32_w]; rw [c12b0]) | rw [c12b1] | skip)
      have H' := c' H
      clear H
      go_wp2
      go_meet
      case rel => exact ⟨_, (a0_1), rS, H', ⟨by have := HJ1.out; first | omega | exact Nat.le_refl _⟩, ⟨eB BK332⟩, ⟨eH HB⟩⟩
    case rest =>
     clear HC10
     try clear c1
     try clear c2
     try clear p2
     try clear c3
     try clear p3
     try clear q3
     try clear hx3
     try clear qi3
     try clear c4
     try clear c4b0
     try clear c6
     try clear c6b0
     try clear c9
     try clear c12
     try clear c12b0
     try clear c12b1
     try clear c13
     try clear c13b0
     try clear c13b1
     try clear hcz11_0
     try clear hcz11_1
     try clear hcz15_0
     try clear hcz15_1
     try clear hcz5_0
     try clear hcz5_1
     try clear hcz7_0
     try clear hcz7_1
     try clear hcz8_0
     try clear hcz8_1
     try clear hfz11_0
     try clear hfz11_1
     try clear hfz15_0
     try clear hfz15_1
     try clear hfz5_0
     try clear hfz5_1
     try clear hfz7_0
     try clear hfz7_1
     try clear hfz8_0
     try clear hfz8_1
     try clear hx333_0
     try clear p2
     try clear p333
     try clear q333
     obtain ⟨kq, x3_9, rfl, HA, HJ9, BK332, HB⟩ := hcut
     cases kq with
     | zero => exact absurd HA.out (by simp [fanlightref06_Check.j1])
     | succ kj9 =>
      have H := HA.out
      clear HA
      simp only [fanlightref06_Check.j1] at H
      have H' := c' H
      clear H
      go_wp2
      go_loopg [3, 4] kj9 (fun kq v3 v4 w' => ∃ (x3_3 : Int) (x4_3 : Int), v3 = .int .i64 x3_3 ∧ v4 = .int .i64 x4_3 ∧ Aside0 (fanlightref06_Check.l0 kq x3_3 x4_3 l0_0 a0_1 = some r) ∧ Aside0 (kq ≤ kj9) ∧ Aside0 (w'.heap[gb332]? = some (.cells #[(.slice A0_0 l0_0.length c0_0), .int .i64 a0_1] 24 (0, 0))) ∧ Aside0 (Below w.heap.size w w'))
      case atStart => exact ⟨(x3_9), (0), rS, rS, H', ⟨Nat.le_refl _⟩, ⟨eB BK332⟩, ⟨eH HB⟩⟩
      case round =>
       clear H'
       try clear c1
       try clear c2
       try clear p2
       try clear c3
       try clear p3
       try clear q3
       try clear hx3
       try clear qi3
       try clear c4
       try clear c4b0
       try clear c6
       try clear c6b0
       try clear c9
       try clear c12
       try clear c12b0
       try clear c12b1
       try clear c13
       try clear c13b0
       try clear c13b1
       try clear hcz11_0
       try clear hcz11_1
       try clear hcz15_0
       try clear hcz15_1
       try clear hcz5_0
       try clear hcz5_1
       try clear hcz7_0
       try clear hcz7_1
       try clear hcz8_0
       try clear hcz8_1
       try clear hfz11_0
       try clear hfz11_1
       try clear hfz15_0
       try clear hfz15_1
       try clear hfz5_0
       try clear hfz5_1
       try clear hfz7_0
       try clear hfz7_1
       try clear hfz8_0
       try clear hfz8_1
       try clear hx333_0
       try clear p2
       try clear p3
       try clear p333
       try clear q3
       try clear q333
       obtain ⟨x3_3, x4_3, rfl, rfl, HA, HK3, BK332, HB⟩ := hrel
       cases gk with
       | zero => exact absurd HA.out (by simp [fanlightref06_Check.l0])
       | succ k3 =>
        have H := HA.out
        clear HA
        simp only [fanlightref06_Check.l0] at H
        by_cases c17 : x4_3 < (l0_0.length : Int)
        ·
         rw [if_pos c17] at H
         have c17b0 := decide_eq_true c17
         clear c17
         by_cases c18 : 0 ≤ x4_3
         ·
          rw [if_pos c18] at H
          have c18b0 := decide_eq_true c18
          clear c18
          replace H := Option.bind_eq_some_iff.mp H
          obtain ⟨⟨t336, t337⟩, A190, H⟩ := H
          (try dsimp only at H)
          have A19 := c' A190
          clear A190
          by_cases c20 : x3_3 < 1
          ·
           rw [if_pos c20] at H
           have c20b0 := decide_eq_true c20
           clear c20
           obtain rfl := Option.some.inj H
           have hcz21_0 := bC BK332 0 (.slice A0_0 l0_0.length c0_0)
           have hcz21_1 := bC BK332 1 (.int .i64 a0_1)
           have hfz21_0 := b' BK332.out 0
           have hfz21_1 := b' BK332.out 1
           have p335 : 0 ≤ (x4_3 : Int) := oD
           have q335 : x4_3 < (l0_0.length : Int) := oD
           obtain ⟨ad335, A335_0, c335_0, e335, hx335_0, hl335_0, hi335_0⟩ := at_L1 HR0_0.out x4_3 p335 q335
           cases e335
           replace hx335_0 := (HB.out.cell (World.block_lt_of_cell? w _ hx335_0)).trans hx335_0
           have HR335_0 := c' hi335_0
           have HC335_0 := c' hl335_0
           clear hi335_0 hl335_0
           replace p335 := eq_true p335
           replace q335 := eq_true q335
           go_wp2_with (first | ((with_reducible refine gate_callee (f := 33) rfl ?_); refine gL 46 Try.func33 #[.slice A335_0 (rd_L1 l0_0 x4_3).length c335_0, .int .i64 x3_3] (h := ?_); (with_reducible refine (fanlightref06_Scan.calls k3 _ _ (rd_L1 l0_0 x4_3) x3_3 t336 t337 _ ?side1 ?side2 A19.out).mono ?_); (case side1 => exact Kd.eC HR335_0 HB); (case side2 => exact HC335_0.out); rintro e w22 ⟨v338, rfl, ho0, hb⟩; refine ⟨_, rfl, ?_⟩; have n0_ := c' (Kd.S_lower ho0 (below_size (eH HB))); have n1_ := bB BK332 hb; have n2_ := c' (below_step (eH HB) hb); clear BK332; clear HB; have HO339 := n0_; have BK332 := n1_; have HB := n2_; clear n0_ n1_ n2_; (try clear hb); (try clear hb2); (try clear hk); (try clear hi); (try clear ho0)))
           go_ret
           exact ⟨eE, eH HB⟩
          ·
           rw [if_neg c20] at H
           have c20b0 := decide_eq_false c20
           clear c20
           by_cases c23 : (t336.length : Int) = 0
           ·
            rw [if_pos c23] at H
            have c23b0 := beq_iff_eq.mpr c23
            have c23b1 := bne_eq_false_iff_eq.mpr c23
            clear c23
            obtain rfl := Option.some.inj H
            have hcz24_0 := bC BK332 0 (.slice A0_0 l0_0.length c0_0)
            have hcz24_1 := bC BK332 1 (.int .i64 a0_1)
            have hfz24_0 := b' BK332.out 0
            have hfz24_1 := b' BK332.out 1
            have p335 : 0 ≤ (x4_3 : Int) := oD
            have q335 : x4_3 < (l0_0.length : Int) := oD
            obtain ⟨ad335, A335_0, c335_0, e335, hx335_0, hl335_0, hi335_0⟩ := at_L1 HR0_0.out x4_3 p335 q335
            cases e335
            replace hx335_0 := (HB.out.cell (World.block_lt_of_cell? w _ hx335_0)).trans hx335_0
            have HR335_0 := c' hi335_0
            have HC335_0 := c' hl335_0
            clear hi335_0 hl335_0
            replace p335 := eq_true p335
            replace q335 := eq_true q335
            go_wp2_with (first | ((with_reducible refine gate_callee (f := 33) rfl ?_); refine gL 46 Try.func33 #[.slice A335_0 (rd_L1 l0_0 x4_3).length c335_0, .int .i64 x3_3] (h := ?_); (with_reducible refine (fanlightref06_Scan.calls k3 _ _ (rd_L1 l0_0 x4_3) x3_3 t336 t337 _ ?side1 ?side2 A19.out).mono ?_); (case side1 => exact Kd.eC HR335_0 HB); (case side2 => exact HC335_0.out); rintro e w25 ⟨v338, rfl, ho0, hb⟩; refine ⟨_, rfl, ?_⟩; have n0_ := c' (Kd.S_lower ho0 (below_size (eH HB))); have n1_ := bB BK332 hb; have n2_ := c' (below_step (eH HB) hb); clear BK332; clear HB; have HO339 := n0_; have BK332 := n1_; have HB := n2_; clear n0_ n1_ n2_; (try clear hb); (try clear hb2); (try clear hk); (try clear hi); (try clear ho0); obtain ⟨Ao26, co26, eo26⟩ := Kd.S_slice HO339.out; subst eo26))
            go_ret
            exact ⟨eE, eH HB⟩
           ·
            rw [if_neg c23] at H
            have c23b0 := beq_eq_false_iff_ne.mpr c23
            have c23b1 := bne_iff_ne.mpr c23
            have c23b2 : ¬ (t336 = []) := fun h_ => c23 (by rw [h_]; rfl)
            by_cases c27 : t337 = ((rd_L1 l0_0 x4_3).length : Int)
            ·
             rw [if_pos c27] at H
             have c27b0 := beq_iff_eq.mpr c27
             have c27b1 := bne_eq_false_iff_eq.mpr c27
             clear c27
             by_cases c28 : t337 > 480
             ·
              rw [if_pos c28] at H
              have c28b0 := decide_eq_true c28
              clear c28
              obtain rfl := Option.some.inj H
              have hcz29_0 := bC BK332 0 (.slice A0_0 l0_0.length c0_0)
              have hcz29_1 := bC BK332 1 (.int .i64 a0_1)
              have hfz29_0 := b' BK332.out 0
              have hfz29_1 := b' BK332.out 1
              have p335 : 0 ≤ (x4_3 : Int) := oD
              have q335 : x4_3 < (l0_0.length : Int) := oD
              obtain ⟨ad335, A335_0, c335_0, e335, hx335_0, hl335_0, hi335_0⟩ := at_L1 HR0_0.out x4_3 p335 q335
              cases e335
              replace hx335_0 := (HB.out.cell (World.block_lt_of_cell? w _ hx335_0)).trans hx335_0
              have HR335_0 := c' hi335_0
              have HC335_0 := c' hl335_0
              clear hi335_0 hl335_0
              replace p335 := eq_true p335
              replace q335 := eq_true q335
              go_wp2_with (first | ((with_reducible refine gate_callee (f := 33) rfl ?_); refine gL 46 Try.func33 #[.slice A335_0 (rd_L1 l0_0 x4_3).length c335_0, .int .i64 x3_3] (h := ?_); (with_reducible refine (fanlightref06_Scan.calls k3 _ _ (rd_L1 l0_0 x4_3) x3_3 t336 t337 _ ?side1 ?side2 A19.out).mono ?_); (case side1 => exact Kd.eC HR335_0 HB); (case side2 => exact HC335_0.out); rintro e w30 ⟨v338, rfl, ho0, hb⟩; refine ⟨_, rfl, ?_⟩; have n0_ := c' (Kd.S_lower ho0 (below_size (eH HB))); have n1_ := bB BK332 hb; have n2_ := c' (below_step (eH HB) hb); clear BK332; clear HB; have HO339 := n0_; have BK332 := n1_; have HB := n2_; clear n0_ n1_ n2_; (try clear hb); (try clear hb2); (try clear hk); (try clear hi); (try clear ho0); obtain ⟨Ao31, co31, eo31⟩ := Kd.S_slice HO339.out; subst eo31; have hcz32_0 := bC BK332 0 (.slice (some ad335) l0_0.length c0_0); have hcz32_1 := bC BK332 1 (.int .i64 a0_1); have hfz32_0 := b' BK332.out 0; have hfz32_1 := b' BK332.out 1; have p340 : 0 ≤ (x4_3 : Int) := oD; have q340 : x4_3 < (l0_0.length : Int) := oD; obtain ⟨ad340, A340_0, c340_0, e340, hx340_0, hl340_0, hi340_0⟩ := at_L1 HR0_0.out x4_3 p340 q340; obtain rfl : ad335 = ad340 := (by injection e340); replace hx340_0 := (HB.out.cell (World.block_lt_of_cell? w _ hx340_0)).trans hx340_0; have HR340_0 := c' hi340_0; have HC340_0 := c' hl340_0; clear hi340_0 hl340_0; replace p340 := eq_true p340; replace q340 := eq_true q340))
              go_ret
              exact ⟨eE, eH HB⟩
             ·
              rw [if_neg c28] at H
              have c28b0 := decide_eq_false c28
              clear c28
              have H' := c' H
              clear H
              have hcz33_0 := bC BK332 0 (.slice A0_0 l0_0.length c0_0)
              have hcz33_1 := bC BK332 1 (.int .i64 a0_1)
              have hfz33_0 := b' BK332.out 0
              have hfz33_1 := b' BK332.out 1
              have p335 : 0 ≤ (x4_3 : Int) := oD
              have q335 : x4_3 < (l0_0.length : Int) := oD
              obtain ⟨ad335, A335_0, c335_0, e335, hx335_0, hl335_0, hi335_0⟩ := at_L1 HR0_0.out x4_3 p335 q335
              cases e335
              replace hx335_0 := (HB.out.cell (World.block_lt_of_cell? w _ hx335_0)).trans hx335_0
              have HR335_0 := c' hi335_0
              have HC335_0 := c' hl335_0
              clear hi335_0 hl335_0
              replace p335 := eq_true p335
              replace q335 := eq_true q335
              go_wp2_with (first | ((with_reducible refine gate_callee (f := 33) rfl ?_); refine gL 46 Try.func33 #[.slice A335_0 (rd_L1 l0_0 x4_3).length c335_0, .int .i64 x3_3] (h := ?_); (with_reducible refine (fanlightref06_Scan.calls k3 _ _ (rd_L1 l0_0 x4_3) x3_3 t336 t337 _ ?side1 ?side2 A19.out).mono ?_); (case side1 => exact Kd.eC HR335_0 HB); (case side2 => exact HC335_0.out); rintro e w34 ⟨v338, rfl, ho0, hb⟩; refine ⟨_, rfl, ?_⟩; have n0_ := c' (Kd.S_lower ho0 (below_size (eH HB))); have n1_ := bB BK332 hb; have n2_ := c' (below_step (eH HB) hb); clear BK332; clear HB; have HO339 := n0_; have BK332 := n1_; have HB := n2_; clear n0_ n1_ n2_; (try clear hb); (try clear hb2); (try clear hk); (try clear hi); (try clear ho0); obtain ⟨Ao35, co35, eo35⟩ := Kd.S_slice HO339.out; subst eo35; have hcz36_0 := bC BK332 0 (.slice (some ad335) l0_0.length c0_0); have hcz36_1 := bC BK332 1 (.int .i64 a0_1); have hfz36_0 := b' BK332.out 0; have hfz36_1 := b' BK332.out 1; have p340 : 0 ≤ (x4_3 : Int) := oD; have q340 : x4_3 < (l0_0.length : Int) := oD; obtain ⟨ad340, A340_0, c340_0, e340, hx340_0, hl340_0, hi340_0⟩ := at_L1 HR0_0.out x4_3 p340 q340; obtain rfl : ad335 = ad340 := (by injection e340); replace hx340_0 := (HB.out.cell (World.block_lt_of_cell? w _ hx340_0)).trans hx340_0; have HR340_0 := c' hi340_0; have HC340_0 := c' hl340_0; clear hi340_0 hl340_0; replace p340 := eq_true p340; replace q340 := eq_true q340))
              go_roundg k3
              case measure => have := HJ1.out; have := HJ9.out; have := HK3.out; omega
              case rel => exact ⟨(wrap64 (x3_3 + (t336.length : Int))), (wrap64 (x4_3 + 1)), rS, rS, H', ⟨by have := HJ1.out; have := HJ9.out; have := HK3.out; omega⟩, ⟨eB BK332⟩, ⟨eH HB⟩⟩
            ·
             rw [if_neg c27] at H
             have c27b0 := beq_eq_false_iff_ne.mpr c27
             have c27b1 := bne_iff_ne.mpr c27
             obtain rfl := Option.some.inj H
             have hcz37_0 := bC BK332 0 (.slice A0_0 l0_0.length c0_0)
             have hcz37_1 := bC BK332 1 (.int .i64 a0_1)
             have hfz37_0 := b' BK332.out 0
             have hfz37_1 := b' BK332.out 1
             have p335 : 0 ≤ (x4_3 : Int) := oD
             have q335 : x4_3 < (l0_0.length : Int) := oD
             obtain ⟨ad335, A335_0, c335_0, e335, hx335_0, hl335_0, hi335_0⟩ := at_L1 HR0_0.out x4_3 p335 q335
             cases e335
             replace hx335_0 := (HB.out.cell (World.block_lt_of_cell? w _ hx335_0)).trans hx335_0
             have HR335_0 := c' hi335_0
             have HC335_0 := c' hl335_0
             clear hi335_0 hl335_0
             replace p335 := eq_true p335
             replace q335 := eq_true q335
             go_wp2_with (first | ((with_reducible refine gate_callee (f := 33) rfl ?_); refine gL 46 Try.func33 #[.slice A335_0 (rd_L1 l0_0 x4_3).length c335_0, .int .i64 x3_3] (h := ?_); (with_reducible refine (fanlightref06_Scan.calls k3 _ _ (rd_L1 l0_0 x4_3) x3_3 t336 t337 _ ?side1 ?side2 A19.out).mono ?_); (case side1 => exact Kd.eC HR335_0 HB); (case side2 => exact HC335_0.out); rintro e w38 ⟨v338, rfl, ho0, hb⟩; refine ⟨_, rfl, ?_⟩; have n0_ := c' (Kd.S_lower ho0 (below_size (eH HB))); have n1_ := bB BK332 hb; have n2_ := c' (below_step (eH HB) hb); clear BK332; clear HB; have HO339 := n0_; have BK332 := n1_; have HB := n2_; clear n0_ n1_ n2_; (try clear hb); (try clear hb2); (try clear hk); (try clear hi); (try clear ho0); obtain ⟨Ao39, co39, eo39⟩ := Kd.S_slice HO339.out; subst eo39; have hcz40_0 := bC BK332 0 (.slice (some ad335) l0_0.length c0_0); have hcz40_1 := bC BK332 1 (.int .i64 a0_1); have hfz40_0 := b' BK332.out 0; have hfz40_1 := b' BK332.out 1; have p340 : 0 ≤ (x4_3 : Int) := oD; have q340 : x4_3 < (l0_0.length : Int) := oD; obtain ⟨ad340, A340_0, c340_0, e340, hx340_0, hl340_0, hi340_0⟩ := at_L1 HR0_0.out x4_3 p340 q340; obtain rfl : ad335 = ad340 := (by injection e340); replace hx340_0 := (HB.out.cell (World.block_lt_of_cell? w _ hx340_0)).trans hx340_0; have HR340_0 := c' hi340_0; have HC340_0 := c' hl340_0; clear hi340_0 hl340_0; replace p340 := eq_true p340; replace q340 := eq_true q340))
             go_ret
             exact ⟨eE, eH HB⟩
         ·
          rw [if_neg c18] at H
          exact absurd H (by simp)
        ·
         rw [if_neg c17] at H
         have c17b0 := decide_eq_false c17
         clear c17
         by_cases c41 : x3_3 = a0_1
         ·
          rw [if_pos c41] at H
          have c41b0 := beq_iff_eq.mpr c41
          have c41b1 := bne_eq_false_iff_eq.mpr c41
          clear c41
          obtain rfl := Option.some.inj H
          have hcz42_0 := bC BK332 0 (.slice A0_0 l0_0.length c0_0)
          have hcz42_1 := bC BK332 1 (.int .i64 a0_1)
          have hfz42_0 := b' BK332.out 0
          have hfz42_1 := b' BK332.out 1
          go_wp2
          go_ret
          exact ⟨eE, eH HB⟩
         ·
          rw [if_neg c41] at H
          have c41b0 := beq_eq_false_iff_ne.mpr c41
          have c41b1 := bne_iff_ne.mpr c41
          obtain rfl := Option.some.inj H
          have hcz43_0 := bC BK332 0 (.slice A0_0 l0_0.length c0_0)
          have hcz43_1 := bC BK332 1 (.int .i64 a0_1)
          have hfz43_0 := b' BK332.out 0
          have hfz43_1 := b' BK332.out 1
          go_wp2
          go_ret
          exact ⟨eE, eH HB⟩
def fanlightref06_Own.l0 : Nat → Int → List (List Int) → Int → List (List Int) → Int → Option ((List (List Int)) × Int)
 | 0, _, _, _, _, _ => none
 | k + 1, x4, x342000, x342001, x344000, x344001 => if x4 < (x342000.length : Int) then (if 0 ≤ x4 then ((fanlightref04_Copied.f (rd_L1 x342000 x4)).bind fun t345 => (if x344000.length < 5864062014805 then (fanlightref06_Own.l0 k (wrap64 (x4 + 1)) x342000 x342001 (x344000 ++ [t345]) x344001) else (none))) else (none)) else (some (x344000, x344001))
def fanlightref06_Own.f (k : Nat) (l0_0 : List (List Int)) (a0_1 : Int) : Option ((List (List Int)) × Int) := fanlightref06_Own.l0 k 0 l0_0 a0_1 ([] : List (List Int)) a0_1
theorem fanlightref06_Own.mono_l : ∀ k, (∀ y0 y1 y2 y3 y4, LeO (fanlightref06_Own.l0 k y0 y1 y2 y3 y4) (fanlightref06_Own.l0 (k + 1) y0 y1 y2 y3 y4))
 | 0 => fun _ _ _ _ _ r h => by simp [fanlightref06_Own.l0] at h
 | k + 1 => by
  have ih0 := fanlightref06_Own.mono_l k
  ·
   intro y0 y1 y2 y3 y4
   unfold fanlightref06_Own.l0
   repeat' first
   | (with_reducible exact ih0 _ _ _ _ _)
   | with_reducible first | exact LeO.refl _ | exact LeO.none _ | refine LeO.ite ?_ ?_ | refine LeO.bind ?_ fun _ => ?_
theorem fanlightref06_Own.mono : ∀ a0 a1 k, LeO (fanlightref06_Own.f k a0 a1) (fanlightref06_Own.f (k + 1) a0 a1) := by
 intro a0 a1 k
 have ih0 := fanlightref06_Own.mono_l k
 unfold fanlightref06_Own.f
 repeat' first
   | (with_reducible exact ih0 _ _ _ _ _)
   | with_reducible first | exact LeO.refl _ | exact LeO.none _ | refine LeO.ite ?_ ?_ | refine LeO.bind ?_ fun _ => ?_
def fanlightref06_Own.T5 : Bool × List (List Nat × List Nat) := (true,[([],[]),([0],[0]),([],[]),([2],[2]),([],[]),([3,4],[3,4]),([5],[5]),([6],[6]),([7],[7]),([1,8,7],[1,8]),([0,1,2,3,4,5,6,7,8,9],[]),([10,9,9,0,1,2,3,4,5,6,7,8,9],[9,10])])
def fanlightref06_Own.B5 : List Nat := [0,1,0,4,0,28,60,124,252,511,1023,2047]
theorem fanlightref06_Own.tab5 : rtab .any (opsOf Try.f30 5) = fanlightref06_Own.T5 := by kernel_rfl
theorem fanlightref06_Own.bits5 : waitsOk fanlightref06_Own.T5.2 fanlightref06_Own.B5 = true := by kernel_rfl
set_option maxHeartbeats 8000000 in
set_option maxRecDepth 100000 in
theorem fanlightref06_Own.calls (k : Nat) (A0_0 : Option Addr) (c0_0 : Nat) (l0_0 : List (List Int)) (a0_1 : Int) (r1 : List (List Int)) (r2 : Int) (w : World) (hr0_0 : Kd.C (Kd.slice 5 (Kd.int .u8)) w A0_0 l0_0.length l0_0) (hc0_0 : l0_0.length ≤ c0_0) (h : fanlightref06_Own.f k l0_0 a0_1 = some (r1, r2)) :
  Calls Try.prog 30 #[.agg #[.slice A0_0 l0_0.length c0_0, .int .i64 a0_1]] w fun e w' => ∃ v0_ : Value, e = .returned (.agg #[v0_, .int .i64 r2]) ∧ Kd.S (Kd.slice 5 (Kd.int .u8)) 25 w' w.heap.size (fun _ => True) v0_ r1 ∧ Below w.heap.size w w' := by
 have hu24 := Try.underlying24
 have HR0_0 := c' hr0_0
 have HC0_0 := c' hc0_0
 clear hr0_0 hc0_0
 have HB := c' (Below.refl w.heap.size w)
 have H : (fanlightref06_Own.l0 k 0 l0_0 a0_1 ([] : List (List Int)) a0_1) = some (r1, r2) := h
 clear h
 have H' := c' H
 clear H
 go_enter Try.func30, Try.ntmps30
 go_wp2_with (first | ((with_reducible refine gate_dst (N := 1) rfl ?_); refine box_event ?hg (N := 1) ?hd (cs := #[.slice A0_0 l0_0.length c0_0, .int .i64 a0_1]) (t := 24) ?hr ?_; (case hd => rfl); (case hg => rfl); (case hr => go_simp <;> rfl); intro gb341 hg w2 hbox hb; have n0_ := c' (below_step (eH HB) hb); have n1_ := c' (hbox); have n2_ := c' ((by rw [hg]; exact (below_size (eH HB)) : w.heap.size ≤ gb341)); have n3_ := c' ((by rw [hg]; exact (below_size (eH HB)) : w.heap.size ≤ gb341)); clear HB; have HB := n0_; have BK341 := n1_; have GW341 := n2_; have GE341 := n3_; clear n0_ n1_ n2_ n3_; clear hb hbox hg) | ((with_reducible refine gate_dst (N := 2) rfl ?_); refine box_event ?hg (N := 2) ?hd (cs := #[.slice none 0 0, .int .i64 0]) (t := 24) ?hr ?_; (case hd => rfl); (case hg => rfl); (case hr => go_simp <;> rfl); intro gb342 hg w3 hbox hb; have n0_ := bB BK341 hb; have n1_ := c' (below_step (eH HB) hb); have n2_ := c' (hbox); have n3_ := c' ((by rw [hg]; exact (below_size (eH HB)) : w.heap.size ≤ gb342)); have n4_ := c' ((by rw [hg]; exact (below_size (eH HB)) : w.heap.size ≤ gb342)); have n5_ := nL hg BK341; have n6_ := nG hg BK341; clear BK341; clear HB; have BK341 := n0_; have HB := n1_; have BK342 := n2_; have GW342 := n3_; have GE342 := n4_; have NB341_342 := n5_; have NB342_341 := n6_; clear n0_ n1_ n2_ n3_ n4_ n5_ n6_; clear hb hbox hg; have hnb4 := NB341_342.out; have hnc4 := NB342_341.out; have hcz5_0 := bC BK341 0 (.slice A0_0 l0_0.length c0_0); have hcz5_1 := bC BK341 1 (.int .i64 a0_1); have hfz5_0 := b' BK341.out 0; have hfz5_1 := b' BK341.out 1) | ((with_reducible refine gate_dst (N := 3) rfl ?_); refine box_event ?hg (N := 3) ?hd (cs := #[.slice none 0 0, .int .i64 0]) (t := 24) ?hr ?_; (case hd => rfl); (case hg => rfl); (case hr => go_simp <;> rfl); intro gb343 hg w6 hbox hb; have n0_ := bB BK341 hb; have n1_ := bB BK342 hb; have n2_ := c' (below_step (eH HB) hb); have n3_ := c' (hbox); have n4_ := c' ((by rw [hg]; exact (below_size (eH HB)) : w.heap.size ≤ gb343)); have n5_ := c' ((by rw [hg]; exact (below_size (eH HB)) : w.heap.size ≤ gb343)); have n6_ := nL hg BK341; have n7_ := nG hg BK341; have n8_ := nL hg BK342; have n9_ := nG hg BK342; clear BK341; clear BK342; clear HB; have BK341 := n0_; have BK342 := n1_; have HB := n2_; have BK343 := n3_; have GW343 := n4_; have GE343 := n5_; have NB341_343 := n6_; have NB343_341 := n7_; have NB342_343 := n8_; have NB343_342 := n9_; clear n0_ n1_ n2_ n3_ n4_ n5_ n6_ n7_ n8_ n9_; clear hb hbox hg; have hnb7 := NB343_341.out; have hnc7 := NB341_343.out; have hnb8 := NB343_342.out; have hnc8 := NB342_343.out; have hcz9_0 := bC BK343 0 (.slice none 0 0); have hcz9_1 := bC BK343 1 (.int .i64 0); have hfz9_0 := b' BK343.out 0; have hfz9_1 := b' BK343.out 1))
 go_loopg [4] k (fun kq v4 w' => ∃ (x4_1 : Int) (x344000_1 : List (List Int)) (u344000 : Value), v4 = .int .i64 x4_1 ∧ Aside0 (fanlightref06_Own.l0 kq x4_1 l0_0 a0_1 x344000_1 a0_1 = some (r1, r2)) ∧ Aside0 (kq ≤ k) ∧ Aside0 (Kd.S (Kd.slice 5 (Kd.int .u8)) 25 w' w.heap.size (fun _ => True) u344000 x344000_1) ∧ Aside0 (w'.heap[gb341]? = some (.cells #[(.slice A0_0 l0_0.length c0_0), .int .i64 a0_1] 24 (0, 0))) ∧ Aside0 (w'.heap[gb342]? = some (.cells #[(.slice none 0 0), .int .i64 0] 24 (0, 0))) ∧ Aside0 (w'.heap[gb343]? = some (.cells #[u344000, .int .i64 a0_1] 24 (0, 0))) ∧ Aside0 (Below w.heap.size w w'))
 case atStart => exact ⟨(0), (([] : List (List Int))), (.slice none 0 0), rS, H', ⟨Nat.le_refl _⟩, ⟨nS⟩, ⟨by refine eK ?_; refine blk_far ?_ NB341_343.out _; refine eK ?_; refine blk_far ?_ NB341_343.out _; refine eK ?_; exact BK341.out⟩, ⟨by refine eK ?_; refine blk_far ?_ NB342_343.out _; refine eK ?_; refine blk_far ?_ NB342_343.out _; refine eK ?_; exact BK342.out⟩, ⟨by refine eK ?_; refine blk_put (cs := #[.slice none 0 0, .int .i64 0]) ?_ 1 _ rfl; refine eK ?_; refine blk_put (cs := #[.slice none 0 0, .int .i64 0]) ?_ 0 _ rfl; refine eK ?_; exact BK343.out⟩, ⟨eH HB⟩⟩
 case round =>
  clear H'
  try clear p2
  try clear c3
  try clear c4
  try clear c7
  try clear c8
  try clear hcz5_0
  try clear hcz5_1
  try clear hcz9_0
  try clear hcz9_1
  try clear hfz5_0
  try clear hfz5_1
  try clear hfz9_0
  try clear hfz9_1
  obtain ⟨x4_1, x344000_1, u344000, rfl, HA, HK1, HO_344000, BK341, BK342, BK343, HB⟩ := hrel
  cases gk with
  | zero => exact absurd HA.out (by simp [fanlightref06_Own.l0])
  | succ k1 =>
   have H := HA.out
   clear HA
   simp only [fanlightref06_Own.l0] at H
   by_cases c10 : x4_1 < (l0_0.length : Int)
   ·
    rw [if_pos c10] at H
    have c10b0 := decide_eq_true c10
    clear c10
    by_cases c11 : 0 ≤ x4_1
    ·
     rw [if_pos c11] at H
     have c11b0 := decide_eq_true c11
     clear c11
     replace H := Option.bind_eq_some_iff.mp H
     obtain ⟨t345, A120, H⟩ := H
     (try dsimp only at H)
     have A12 := c' A120
     clear A120
     by_cases c13 : x344000_1.length < 5864062014805
     ·
      rw [if_pos c13] at H
      have LMc13 := c' c13
      clear c13
      obtain ⟨y348, hy348⟩ : ∃ y_ : List (List Int), y_ = (x344000_1 ++ [t345]) := ⟨_, rfl⟩
      replace H : (fanlightref06_Own.l0 k1 (wrap64 (x4_1 + 1)) l0_0 a0_1 y348 a0_1) = some (r1, r2) := by rw [hy348]; exact H
      have Ny348 := c' hy348
      clear hy348
      have H' := c' H
      clear H
      have hnb14 := NB341_342.out
      have hnc14 := NB342_341.out
      have hnb15 := NB341_343.out
      have hnc15 := NB343_341.out
      have hcz16_0 := bC BK341 0 (.slice A0_0 l0_0.length c0_0)
      have hcz16_1 := bC BK341 1 (.int .i64 a0_1)
      have hfz16_0 := b' BK341.out 0
      have hfz16_1 := b' BK341.out 1
      try go_wp2
      have n0_ := c' (Kd.S_drew HO_344000.out)
      have n1_ := c' (blk_drew BK341.out)
      have n2_ := c' (blk_drew BK342.out)
      have n3_ := c' (blk_drew BK343.out)
      have n4_ := c' (below_drew1 HB.out)
      clear HO_344000
      clear BK341
      clear BK342
      clear BK343
      clear HB
      have HO_344000 := n0_
      have BK341 := n1_
      have BK342 := n2_
      have BK343 := n3_
      have HB := n4_
      clear n0_ n1_ n2_ n3_ n4_
      have p344 : 0 ≤ (x4_1 : Int) := oD
      have q344 : x4_1 < (l0_0.length : Int) := oD
      obtain ⟨ad344, A344_0, c344_0, e344, hx344_0, hl344_0, hi344_0⟩ := at_L1 HR0_0.out x4_1 p344 q344
      have hw344_0 := hx344_0
      cases e344
      replace hx344_0 := (HB.out.cell (World.block_lt_of_cell? w _ hx344_0)).trans hx344_0
      have HR344_0 := c' hi344_0
      have HC344_0 := c' hl344_0
      clear hi344_0 hl344_0
      replace p344 := eq_true p344
      replace q344 := eq_true q344
      refine start_ (n := 12) (S := fun w' => w'.cell? ⟨gb343, 0, none⟩ = some (u344000) ∧ w'.cell? ⟨gb343, 1, none⟩ = some (.int .i64 a0_1) ∧ w'.cell? ⟨gb341, 0, none⟩ = some (.slice (some ad344) l0_0.length c0_0) ∧ w'.cell? ⟨gb341, 1, none⟩ = some (.int .i64 a0_1) ∧ w'.cell? (ad344.add (x4_1).toNat) = some (.slice A344_0 (rd_L1 l0_0 x4_1).length c344_0)) (ds := [11]) #[Z,Z,Z,Z,Z,Z,Z,Z,Z,Z,Z,Z] (by kernel_rfl) rfl rfl ⟨(blk_cell BK343.out 0).trans rfl, (blk_cell BK343.out 1).trans rfl, (blk_cell BK341.out 0).trans rfl, (blk_cell BK341.out 1).trans rfl, ((HB.out.cell (World.block_lt_of_cell? w _ hw344_0)).trans hw344_0)⟩ (fun hHeld => ?_); refine with_tabW fanlightref06_Own.tab5 fanlightref06_Own.bits5 (fun HT_ HW_ => ?_)
      generalize wr.drew = w17 at HO_344000 BK341 BK342 BK343 HB HR344_0 hx344_0 hHeld ⊢
      refine pP 0 15 #[Y,Z,Z,Z,Z,Z,Z,Z,Z,Z,Z,Z] HT_ (h := ?_)
      refine pP 2 17 #[Y,Z,Y,Z,Z,Z,Z,Z,Z,Z,Z,Z] HT_ (h := ?_)
      refine pP 4 19 #[Y,Z,Y,Z,Y,Z,Z,Z,Z,Z,Z,Z] HT_ (h := ?_)
      refine tP 1 16 #[Y,Y,Y,Z,Y,Z,Z,Z,Z,Z,Z,Z] HT_ HW_ hHeld (hy := by refine Or.inl ⟨by rfl, ?_⟩; rintro w' ⟨s0, s1, s2, s3, s4⟩; go_simp; with_reducible rfl) (h := ?_)
      refine tP 3 18 #[Y,Y,Y,Y,Y,Z,Z,Z,Z,Z,Z,Z] HT_ HW_ hHeld (hy := by refine Or.inl ⟨by rfl, ?_⟩; rintro w' ⟨s0, s1, s2, s3, s4⟩; go_simp; with_reducible rfl) (h := ?_)
      refine pP 5 20 #[Y,Y,Y,Y,Y,Y,Z,Z,Z,Z,Z,Z] HT_ (h := ?_)
      refine tP 6 21 #[Y,Y,Y,Y,Y,Y,Y,Z,Z,Z,Z,Z] HT_ HW_ hHeld (hy := by refine Or.inl ⟨by rfl, ?_⟩; rintro w' ⟨s0, s1, s2, s3, s4⟩; go_simp; with_reducible rfl) (h := ?_)
      refine one_ (i := 7) (N := some 22) #[Y,Y,Y,Y,Y,Y,Y,Y,Z,Z,Z,Z] rfl rfl (one_of HT_.out (by kernel_rfl)) (by decide) (fun K hK => ?_)
      refine goes_ Try.func45 (by kernel_rfl) rfl #[.slice A344_0 (rd_L1 l0_0 x4_1).length c344_0] (by rfl) rfl rfl (by (try simp only [List.map_toArray, List.map_cons, List.map_nil]); first | done | rfl | (simp only [List.length_drop, List.length_take]; rfl)) ?_
      with_reducible refine (fanlightref04_Copied.calls _ _ (rd_L1 l0_0 x4_1) t345 _ ?side1 ?side2 A12.out).mono ?_
      (case side1 => exact Kd.eC HR344_0 HB)
      (case side2 => exact HC344_0.out)
      rintro e w18 ⟨v346, rfl, ho0, hb⟩
      refine ⟨_, rfl, ?_⟩
      have n0_ := c' (Kd.S_elder' (Kd.eS HO_344000) (Kd.R_base ho0) hb)
      have n1_ := c' (Kd.R_lower ho0 (below_size (eH HB)))
      have n2_ := bB BK341 hb
      have n3_ := bB BK342 hb
      have n4_ := bB BK343 hb
      have n5_ := c' (below_step (eH HB) hb)
      clear HO_344000
      clear BK341
      clear BK342
      clear BK343
      clear HB
      have HO_344000 := n0_
      have HO347 := n1_
      have BK341 := n2_
      have BK342 := n3_
      have BK343 := n4_
      have HB := n5_
      clear n0_ n1_ n2_ n3_ n4_ n5_
      (try clear hb)
      (try clear hb2)
      (try clear hk)
      (try clear hi)
      (try clear ho0)
      obtain ⟨Ao20, co20, eo20⟩ := Kd.R_slice HO347.out
      (first | subst eo20 | (injection eo20 with f1_ f2_ f3_; have f4_ := f1_.symm; have f5_ := f3_.symm; clear f1_ f2_ f3_; subst f4_; subst f5_))
      refine hK.out _ _ ⟨(blk_cell BK343.out 0).trans rfl, (blk_cell BK343.out 1).trans rfl, (blk_cell BK341.out 0).trans rfl, (blk_cell BK341.out 1).trans rfl, ((HB.out.cell (World.block_lt_of_cell? w _ hw344_0)).trans hw344_0)⟩ (fun hHeld => ?_)
      clear hK K
      refine norm_ (a' := ?_) ?_ ?_
      rotate_left
      ·
       show Act.put _ (some 22) _ = _
       exact uP
      refine one_ (i := 8) (N := some 23) #[Y,Y,Y,Y,Y,Y,Y,Y,Y,Z,Z,Z] rfl rfl (one_of HT_.out (by kernel_rfl)) (by decide) (fun K hK => ?_)
      refine value_ (w1 := ?_) (v := ?_) (by rfl) rfl ?_ ?_
      rotate_left 2
      ·
       go_simp
       constructor
       ·
        rfl
       ·
        rfl
      refine hK.out _ _ ⟨(blk_cell (blk_alloc BK343.out _) 0).trans rfl, (blk_cell (blk_alloc BK343.out _) 1).trans rfl, (blk_cell (blk_alloc BK341.out _) 0).trans rfl, (blk_cell (blk_alloc BK341.out _) 1).trans rfl, (World.cell?_alloc_lt _ _ _ (World.block_lt_of_cell? _ _ (((HB.out.cell (World.block_lt_of_cell? w _ hw344_0)).trans hw344_0)))).trans (((HB.out.cell (World.block_lt_of_cell? w _ hw344_0)).trans hw344_0))⟩ (fun hHeld => ?_)
      clear hK K
      refine norm_ (a' := ?_) ?_ ?_
      rotate_left
      ·
       show Act.put _ (some 23) _ = _
       exact uP
      refine one_ (i := 9) (N := some 24) #[Y,Y,Y,Y,Y,Y,Y,Y,Y,Y,Z,Z] rfl rfl (one_of HT_.out (by kernel_rfl)) (by decide) (fun K hK => ?_)
      refine Kd.S_append_step (Kd.slice 5 (Kd.int .u8)) (w0 := w) w.heap.size (by rfl) (.tmp 16) (.tmp 23) 22 25 (.slice none 0 0) 24 rfl Try.underlying22 info25 rfl (by decide) (by omega) u344000 x344000_1 t345 [.slice Ao20 t345.length co20] (fun _ => True) (fun k_ => some k_ = (.slice Ao20 t345.length co20 : Value).ownBlock) rfl rfl ?aP (fun k_ hk_ => ((Kd.R_mono (ok' := fun k_ => ((fun _ => True)) k_ ∧ some k_ ≠ (u344000 : Value).ownBlock) (Kd.R_apart' (HO347.out) (Kd.S_typed HO_344000.out) (by decide)) (fun k_ hk => ⟨trivial, hk.2⟩))).1 k_ hk_.symm) ?aF ?aO ?aB ?aS ?aL ?_
      (case aP => exact Kd.M_row (Kd.R_mono (Kd.R_tight rfl (Kd.R_mono (ok' := fun k_ => ((fun _ => True)) k_ ∧ some k_ ≠ (u344000 : Value).ownBlock) (Kd.R_apart' (HO347.out) (Kd.S_typed HO_344000.out) (by decide)) (fun k_ hk => ⟨trivial, hk.2⟩))) (fun _ h_ => h_)))
      (case aB => exact (eH HB))
      (case aF => exact (fun _ _ => trivial))
      (case aO => exact (Kd.kS (Kd.S_mono HO_344000.out (fun k_ hk => ⟨trivial, fun e_ => hk.2 e_⟩))))
      (case aS => exact (below_size (eH HB)))
      (case aL => have := LMc13.out; omega)
      intro v349 w19 ho hb hg hat
      rw [← Ny348.out] at ho
      have n0_ := c' (blk_grown (g := gb341) (o := .cells #[.slice (some ad344) l0_0.length c0_0, .int .i64 a0_1] 24 (0, 0)) (eB BK341) hg (Kd.S_ne HO_344000.out BK341.out (by decide)))
      have n1_ := c' (blk_grown (g := gb342) (o := .cells #[.slice none 0 0, .int .i64 0] 24 (0, 0)) (eB BK342) hg (Kd.S_ne HO_344000.out BK342.out (by decide)))
      have n2_ := c' (blk_grown (g := gb343) (o := .cells #[u344000, .int .i64 a0_1] 24 (0, 0)) (eB BK343) hg (Kd.S_ne HO_344000.out BK343.out (by decide)))
      have n3_ := c' (hb)
      have n4_ := c' (ho)
      clear BK341
      clear BK342
      clear BK343
      clear HB
      clear HO_344000
      clear HO347
      have BK341 := n0_
      have BK342 := n1_
      have BK343 := n2_
      have HB := n3_
      have HO350 := n4_
      clear n0_ n1_ n2_ n3_ n4_
      clear ho hb hg hat
      obtain ⟨Ao21, co21, eo21⟩ := Kd.S_slice HO350.out
      (first | subst eo21 | (injection eo21 with f1_ f2_ f3_; have f4_ := f1_.symm; have f5_ := f3_.symm; clear f1_ f2_ f3_; subst f4_; subst f5_))
      refine hK.out _ _ ⟨(blk_cell BK343.out 0).trans rfl, (blk_cell BK343.out 1).trans rfl, (blk_cell BK341.out 0).trans rfl, (blk_cell BK341.out 1).trans rfl, ((HB.out.cell (World.block_lt_of_cell? w _ hw344_0)).trans hw344_0)⟩ (fun hHeld => ?_)
      clear hK K
      refine norm_ (a' := ?_) ?_ ?_
      rotate_left
      ·
       show Act.put _ (some 24) _ = _
       exact uP
      refine pP 10 25 #[Y,Y,Y,Y,Y,Y,Y,Y,Y,Y,Y,Z] HT_ (h := ?_)
      refine last_ (i := 11) (N := none) #[Y,Y,Y,Y,Y,Y,Y,Y,Y,Y,Y,Y] rfl rfl (one_of HT_.out (by kernel_rfl)) (by decide) (fun K hK => ?_)
      have hs22 : w19.cell? ⟨gb343, 0, none⟩ = some (u344000) := (blk_cell BK343.out 0).trans rfl
      have hfs22 := b' BK343.out 0
      have hns22_0 := NB341_343.out
      have hns22_1 := NB342_343.out
      have hms22_0 := NB343_341.out
      have hms22_1 := NB343_342.out
      refine skip_ (w1 := ?_) (by rfl) rfl ?_ ?_
      rotate_left
      ·
       go_simp
       rfl
      refine hK.out _ _ ?_
      clear hK K
      refine done_ (done_of HT_.out (by kernel_rfl)) ?_
      try go_wp2
      go_roundg k1
      case measure => have := HK1.out; omega
      case rel => exact ⟨(wrap64 (x4_1 + 1)), (y348), (.slice Ao21 y348.length co21), rS, H', ⟨by have := HK1.out; omega⟩, ⟨by (with_reducible repeat (first | apply Kd.S_alloc | apply Kd.S_drewN | apply Kd.S_drew)); exact Kd.S_mono (Kd.S_far (p := ⟨gb343, 0, none⟩) (Kd.S_types HO350.out BK343.out (by decide)) (fun _ hk => hk.2) (.slice Ao21 y348.length co21)) (fun _ hk => trivial)⟩, ⟨by refine eK ?_; refine blk_far ?_ NB341_343.out _; refine eK ?_; exact BK341.out⟩, ⟨by refine eK ?_; refine blk_far ?_ NB342_343.out _; refine eK ?_; exact BK342.out⟩, ⟨by refine eK ?_; refine blk_put (cs := #[u344000, .int .i64 a0_1]) ?_ 0 _ rfl; refine eK ?_; exact BK343.out⟩, ⟨eH HB⟩⟩
     ·
      rw [if_neg c13] at H
      exact absurd H (by simp)
    ·
     rw [if_neg c11] at H
     exact absurd H (by simp)
   ·
    rw [if_neg c10] at H
    have c10b0 := decide_eq_false c10
    clear c10
    simp only [Option.some.injEq, Prod.mk.injEq] at H
    obtain ⟨rfl, rfl⟩ := H
    have hnb23 := NB341_342.out
    have hnc23 := NB342_341.out
    have hnb24 := NB341_343.out
    have hnc24 := NB343_341.out
    have hcz25_0 := bC BK341 0 (.slice A0_0 l0_0.length c0_0)
    have hcz25_1 := bC BK341 1 (.int .i64 a0_1)
    have hfz25_0 := b' BK341.out 0
    have hfz25_1 := b' BK341.out 1
    have hnb26 := NB343_342.out
    have hnc26 := NB342_343.out
    have hcz27_0 := bC BK343 0 (u344000)
    have hcz27_1 := bC BK343 1 (.int .i64 a0_1)
    have hfz27_0 := b' BK343.out 0
    have hfz27_1 := b' BK343.out 1
    obtain ⟨Ao28, co28, eo28⟩ := Kd.S_slice HO_344000.out
    subst eo28
    have hcz29_0 := bC BK342 0 (.slice none 0 0)
    have hcz29_1 := bC BK342 1 (.int .i64 0)
    have hfz29_0 := b' BK342.out 0
    have hfz29_1 := b' BK342.out 1
    go_wp2
    refine bodyPost_ret (results_cell_row rfl _ _ gb342 24 #[.slice Ao28 x344000_1.length co28, .int .i64 a0_1] (0, 0) _ rfl (by refine eK ?_; refine blk_put (cs := #[.slice Ao28 x344000_1.length co28, .int .i64 0]) ?_ 1 _ rfl; refine eK ?_; refine blk_put (cs := #[.slice none 0 0, .int .i64 0]) ?_ 0 _ rfl; refine eK ?_; exact BK342.out) Try.underlying24 rfl (by kernel_rfl)) rfl ?_
    exact ⟨_, eE, by (with_reducible repeat (first | apply Kd.S_alloc | apply Kd.S_drewN | apply Kd.S_drew)); exact Kd.S_mono (Kd.S_far (p := ⟨gb342, 1, none⟩) (Kd.S_far (p := ⟨gb342, 0, none⟩) (Kd.S_types HO_344000.out BK342.out (by decide)) (fun _ hk => hk.2) (.slice Ao28 x344000_1.length co28)) (fun _ hk => hk.2) (.int .i64 a0_1)) (fun _ hk => trivial), eH HB⟩
end Go.Proofs.Ytgmkgobapeencaa.S
