import Derived.Test.YtgmkgobapeencaaYS2
import Derived.Test.YtgmkgobapeencaaYAid3
import Derived.Test.YtgmkgobapeencaaYS20
import Derived.Test.YtgmkgobapeencaaYWalMath
namespace Go.Proofs.Ytgmkgobapeencaa.S
open Go.Proofs.YtgmkgobapeencaaW.PrintWords renaming blk_frozen → b', below_size → c'
open Go.Proofs.YtgmkgobapeencaaW.PrintWords.Aside0 renaming mk → d'
open Bool renaming true → Y, false → Z
open Go.RowKit Go.Proofs.YtgmkgobapeencaaW.PrintWords Go.Proofs.YtgmkgobapeencaaW.PrintLast Go.Proofs.YtgmkgobapeencaaW.PrintMore
attribute [local go_sem] max2_int min2_int max_two min_two max_three min_three max_four min_four   -- for this text's walks alone
set_option linter.unusedVariables false
set_option linter.unusedSimpArgs false
def fanlightref06_Append.j0 : Nat → List Int → Int → Bool → List (List Int) → Int → Option ((List (List Int)) × Int × Int × Int)
 | 0, _, _, _, _, _ => none
 | k + 1, x8, x9, x48, x392000, x392001 => if x48 = true then (if (x392000.length : Int) ≥ 64 then (some (([] : List (List Int)), 0, 0, 51)) else (if x392000.length < 5864062014805 then ((some (x392000 ++ [[]] : List (List Int))).bind fun y396 => (if 0 ≤ (wrap64 (x9 + 1)) then (if (wrap64 (x9 + 1)) < (y396.length : Int) then (if (rd_L1 y396 (wrap64 (x9 + 1))).length + x8.length < 140737488355328 then (some ((y396.set ((wrap64 (x9 + 1)) : Int).toNat ((rd_L1 y396 (wrap64 (x9 + 1))) ++ x8)), wrap64 (x392001 + 1), wrap64 (x9 + 1), 0)) else (none)) else (none)) else (none))) else (none))) else (if 0 ≤ x9 then (if x9 < (x392000.length : Int) then (if (rd_L1 x392000 x9).length + x8.length < 140737488355328 then (some ((x392000.set (x9 : Int).toNat ((rd_L1 x392000 x9) ++ x8)), wrap64 (x392001 + 1), x9, 0)) else (none)) else (none)) else (none))
def fanlightref06_Append.f (k : Nat) (l0_0 : List (List Int)) (a0_1 : Int) (l1 : List Int) : Option ((List (List Int)) × Int × Int × Int) := (fanlightref06_Check.f k l0_0 a0_1).bind fun t386 => (if t386 = 0 then (if (l1.length : Int) > 400 then (some (([] : List (List Int)), 0, 0, 5)) else (if a0_1 ≥ 1099511627776 then (some (([] : List (List Int)), 0, 0, 51)) else ((fanlightref06_Own.f k l0_0 a0_1).bind fun bt387 => ((fanlightref06_framed.f k a0_1 l1).bind fun t392 => (if (wrap64 ((bt387.1.length : Int) - 1)) < 0 then (fanlightref06_Append.j0 k t392 (wrap64 ((bt387.1.length : Int) - 1)) true bt387.1 bt387.2) else (if 0 ≤ (wrap64 ((bt387.1.length : Int) - 1)) then (if (wrap64 ((bt387.1.length : Int) - 1)) < (bt387.1.length : Int) then (fanlightref06_Append.j0 k t392 (wrap64 ((bt387.1.length : Int) - 1)) (decide ((wrap64 (((rd_L1 bt387.1 (wrap64 ((bt387.1.length : Int) - 1))).length : Int) + (t392.length : Int))) > 480)) bt387.1 bt387.2) else (none)) else (none))))))) else (some (([] : List (List Int)), 0, 0, 9)))
theorem fanlightref06_Append.mono_l : ∀ k, (∀ y0 y1 y2 y3 y4, LeO (fanlightref06_Append.j0 k y0 y1 y2 y3 y4) (fanlightref06_Append.j0 (k + 1) y0 y1 y2 y3 y4))
 | 0 => fun _ _ _ _ _ r h => by simp [fanlightref06_Append.j0] at h
 | k + 1 => by
  have ih0 := fanlightref06_Append.mono_l k
  ·
   intro y0 y1 y2 y3 y4
   unfold fanlightref06_Append.j0
   repeat' first
   | (with_reducible exact ih0 _ _ _ _ _)
   | (with_reducible exact fanlightref06_Check.mono _ _ _)
   | (with_reducible exact fanlightref06_Own.mono _ _ _)
   | (with_reducible exact fanlightref06_framed.mono _ _ _)
   | with_reducible first | exact LeO.refl _ | exact LeO.none _ | refine LeO.ite ?_ ?_ | refine LeO.bind ?_ fun _ => ?_
theorem fanlightref06_Append.mono : ∀ a0 a1 a2 k, LeO (fanlightref06_Append.f k a0 a1 a2) (fanlightref06_Append.f (k + 1) a0 a1 a2) := by
 intro a0 a1 a2 k
 have ih0 := fanlightref06_Append.mono_l k
 unfold fanlightref06_Append.f
 repeat' first
   | (with_reducible exact ih0 _ _ _ _ _)
   | (with_reducible exact fanlightref06_Check.mono _ _ _)
   | (with_reducible exact fanlightref06_Own.mono _ _ _)
   | (with_reducible exact fanlightref06_framed.mono _ _ _)
   | with_reducible first | exact LeO.refl _ | exact LeO.none _ | refine LeO.ite ?_ ?_ | refine LeO.bind ?_ fun _ => ?_
def fanlightref06_Append.T15 : Bool × List (List Nat × List Nat) := (true,[([],[]),([0],[0]),([],[]),([],[]),([3],[3]),([],[]),([4,5],[4,5]),([6],[6]),([],[]),([7,8],[7,8]),([1,2,0,1,2,3,4,5,6,7,8,9],[1,2]),([10,9,9,0,1,2,3,4,5,6,7,8,9],[9,10])])
def fanlightref06_Append.B15 : List Nat := [0,1,0,0,8,0,56,120,0,504,1023,2047]
theorem fanlightref06_Append.tab15 : rtab .any (opsOf Try.f12 15) = fanlightref06_Append.T15 := by kernel_rfl
theorem fanlightref06_Append.bits15 : waitsOk fanlightref06_Append.T15.2 fanlightref06_Append.B15 = true := by kernel_rfl
set_option maxHeartbeats 8000000 in
set_option maxRecDepth 100000 in
theorem fanlightref06_Append.calls (k : Nat) (A0_0 : Option Addr) (c0_0 : Nat) (l0_0 : List (List Int)) (a0_1 : Int) (A1 : Option Addr) (c1 : Nat) (l1 : List Int) (r1 : List (List Int)) (r2 : Int) (r3 : Int) (r4 : Int) (w : World) (hr0_0 : Kd.C (Kd.slice 5 (Kd.int .u8)) w A0_0 l0_0.length l0_0) (hc0_0 : l0_0.length ≤ c0_0) (hr1 : Kd.C (Kd.int .u8) w A1 l1.length l1) (hc1 : l1.length ≤ c1) (h : fanlightref06_Append.f k l0_0 a0_1 l1 = some (r1, r2, r3, r4)) :
  Calls Try.prog 12 #[.agg #[.slice A0_0 l0_0.length c0_0, .int .i64 a0_1], .slice A1 l1.length c1] w fun e w' => ∃ v0_ : Value, e = .returned (.tuple #[.agg #[v0_, .int .i64 r2], .int .i64 r3, .int .i64 r4]) ∧ Kd.S (Kd.slice 5 (Kd.int .u8)) 25 w' w.heap.size (fun _ => True) v0_ r1 ∧ Below w.heap.size w w' := by
 have hu24 := Try.underlying24
 have HR0_0 := d' hr0_0
 have HC0_0 := d' hc0_0
 clear hr0_0 hc0_0
 have HR1 := d' hr1
 have HC1 := d' hc1
 clear hr1 hc1
 have HB := d' (Below.refl w.heap.size w)
 have H : ((fanlightref06_Check.f k l0_0 a0_1).bind fun t386 => (if t386 = 0 then (if (l1.length : Int) > 400 then (some (([] : List (List Int)), 0, 0, 5)) else (if a0_1 ≥ 1099511627776 then (some (([] : List (List Int)), 0, 0, 51)) else ((fanlightref06_Own.f k l0_0 a0_1).bind fun bt387 => ((fanlightref06_framed.f k a0_1 l1).bind fun t392 => (if (wrap64 ((bt387.1.length : Int) - 1)) < 0 then (fanlightref06_Append.j0 k t392 (wrap64 ((bt387.1.length : Int) - 1)) true bt387.1 bt387.2) else (if 0 ≤ (wrap64 ((bt387.1.length : Int) - 1)) then (if (wrap64 ((bt387.1.length : Int) - 1)) < (bt387.1.length : Int) then (fanlightref06_Append.j0 k t392 (wrap64 ((bt387.1.length : Int) - 1)) (decide ((wrap64 (((rd_L1 bt387.1 (wrap64 ((bt387.1.length : Int) - 1))).length : Int) + (t392.length : Int))) > 480)) bt387.1 bt387.2) else (none)) else (none))))))) else (some (([] : List (List Int)), 0, 0, 9)))) = some (r1, r2, r3, r4) := h
 clear h
 replace H := Option.bind_eq_some_iff.mp H
 obtain ⟨t386, A30, H⟩ := H
 (try dsimp only at H)
 have A3 := d' A30
 clear A30
 by_cases c4 : t386 = 0
 ·
  rw [if_pos c4] at H
  have c4b0 := beq_iff_eq.mpr c4
  have c4b1 := bne_eq_false_iff_eq.mpr c4
  clear c4
  by_cases c5 : (l1.length : Int) > 400
  ·
   rw [if_pos c5] at H
   have c5b0 := decide_eq_true c5
   have c5b1 : decide (400 < l1.length) = true := decide_eq_true (by omega)
   clear c5
   simp only [Option.some.injEq, Prod.mk.injEq] at H
   obtain ⟨rfl, rfl, rfl, rfl⟩ := H
   go_enter Try.func12, Try.ntmps12
   go_wp2_with (first | ((with_reducible refine gate_dst (N := 2) rfl ?_); (try (refine gate_guard (by rfl) ?_; dsimp only)); refine box_event ?hg (N := 2) ?hd (cs := #[.slice A0_0 l0_0.length c0_0, .int .i64 a0_1]) (t := 24) ?hr ?_; (case hd => rfl); (case hg => rfl); (case hr => go_simp <;> rfl); intro gb384 hg w6 hbox hb; have n0_ := d' (below_step (eH HB) hb); have n1_ := d' (hbox); have n2_ := d' ((by rw [hg]; exact (c' (eH HB)) : w.heap.size ≤ gb384)); have n3_ := d' ((by rw [hg]; exact (c' (eH HB)) : w.heap.size ≤ gb384)); clear HB; have HB := n0_; have BK384 := n1_; have GW384 := n2_; have GE384 := n3_; clear n0_ n1_ n2_ n3_; clear hb hbox hg) | ((with_reducible refine gate_dst (N := 4) rfl ?_); (try (refine gate_guard (by rfl) ?_; dsimp only)); refine box_event ?hg (N := 4) ?hd (cs := #[.slice none 0 0, .int .i64 0]) (t := 24) ?hr ?_; (case hd => rfl); (case hg => rfl); (case hr => go_simp <;> rfl); intro gb385 hg w7 hbox hb; have n0_ := bB BK384 hb; have n1_ := d' (below_step (eH HB) hb); have n2_ := d' (hbox); have n3_ := d' ((by rw [hg]; exact (c' (eH HB)) : w.heap.size ≤ gb385)); have n4_ := d' ((by rw [hg]; exact (c' (eH HB)) : w.heap.size ≤ gb385)); have n5_ := nL hg BK384; have n6_ := nG hg BK384; clear BK384; clear HB; have BK384 := n0_; have HB := n1_; have BK385 := n2_; have GW385 := n3_; have GE385 := n4_; have NB384_385 := n5_; have NB385_384 := n6_; clear n0_ n1_ n2_ n3_ n4_ n5_ n6_; clear hb hbox hg; have hnb8 := NB384_385.out; have hnc8 := NB385_384.out; have hcz9_0 := bC BK384 0 (.slice A0_0 l0_0.length c0_0); have hcz9_1 := bC BK384 1 (.int .i64 a0_1); have hfz9_0 := b' BK384.out 0; have hfz9_1 := b' BK384.out 1) | ((with_reducible refine gate_callee (f := 22) rfl ?_); refine gL 12 Try.func22 #[.agg #[.slice A0_0 l0_0.length c0_0, .int .i64 a0_1]] (h := ?_); (with_reducible refine (fanlightref06_Check.calls k _ _ l0_0 a0_1 t386 _ ?side1 ?side2 A3.out).mono ?_); (case side1 => exact Kd.eC HR0_0 HB); (case side2 => exact HC0_0.out); rintro e w10 ⟨rfl, hb⟩; refine ⟨_, rfl, ?_⟩; have n0_ := bB BK384 hb; have n1_ := bB BK385 hb; have n2_ := d' (below_step (eH HB) hb); clear BK384; clear BK385; clear HB; have BK384 := n0_; have BK385 := n1_; have HB := n2_; clear n0_ n1_ n2_; (try clear hb); (try clear hb2); (try clear hk); (try clear hi); have hcz11_0 := bC BK385 0 (.slice none 0 0); have hcz11_1 := bC BK385 1 (.int .i64 0); have hfz11_0 := b' BK385.out 0; have hfz11_1 := b' BK385.out 1))
   refine bodyPost_ret (results_ctt rfl _ _ gb385 24 #[.slice none 0 0, .int .i64 0] (0, 0) _ rfl (by refine eK ?_; refine blk_put (cs := #[.slice none 0 0, .int .i64 0]) ?_ 1 _ rfl; refine eK ?_; refine blk_put (cs := #[.slice none 0 0, .int .i64 0]) ?_ 0 _ rfl; refine eK ?_; exact BK385.out) Try.underlying24 rfl (by kernel_rfl)) rfl ?_
   exact ⟨_, eE, nS, eH HB⟩
  ·
   rw [if_neg c5] at H
   have c5b0 := decide_eq_false c5
   have c5b1 : decide (400 < l1.length) = false := decide_eq_false (by omega)
   clear c5
   by_cases c12 : a0_1 ≥ 1099511627776
   ·
    rw [if_pos c12] at H
    have c12b0 := decide_eq_true c12
    clear c12
    simp only [Option.some.injEq, Prod.mk.injEq] at H
    obtain ⟨rfl, rfl, rfl, rfl⟩ := H
    go_enter Try.func12, Try.ntmps12
    go_wp2_with (first | ((with_reducible refine gate_dst (N := 2) rfl ?_); (try (refine gate_guard (by rfl) ?_; dsimp only)); refine box_event ?hg (N := 2) ?hd (cs := #[.slice A0_0 l0_0.length c0_0, .int .i64 a0_1]) (t := 24) ?hr ?_; (case hd => rfl); (case hg => rfl); (case hr => go_simp <;> rfl); intro gb384 hg w13 hbox hb; have n0_ := d' (below_step (eH HB) hb); have n1_ := d' (hbox); have n2_ := d' ((by rw [hg]; exact (c' (eH HB)) : w.heap.size ≤ gb384)); have n3_ := d' ((by rw [hg]; exact (c' (eH HB)) : w.heap.size ≤ gb384)); clear HB; have HB := n0_; have BK384 := n1_; have GW384 := n2_; have GE384 := n3_; clear n0_ n1_ n2_ n3_; clear hb hbox hg) | ((with_reducible refine gate_dst (N := 4) rfl ?_); (try (refine gate_guard (by rfl) ?_; dsimp only)); refine box_event ?hg (N := 4) ?hd (cs := #[.slice none 0 0, .int .i64 0]) (t := 24) ?hr ?_; (case hd => rfl); (case hg => rfl); (case hr => go_simp <;> rfl); intro gb385 hg w14 hbox hb; have n0_ := bB BK384 hb; have n1_ := d' (below_step (eH HB) hb); have n2_ := d' (hbox); have n3_ := d' ((by rw [hg]; exact (c' (eH HB)) : w.heap.size ≤ gb385)); have n4_ := d' ((by rw [hg]; exact (c' (eH HB)) : w.heap.size ≤ gb385)); have n5_ := nL hg BK384; have n6_ := nG hg BK384; clear BK384; clear HB; have BK384 := n0_; have HB := n1_; have BK385 := n2_; have GW385 := n3_; have GE385 := n4_; have NB384_385 := n5_; have NB385_384 := n6_; clear n0_ n1_ n2_ n3_ n4_ n5_ n6_; clear hb hbox hg; have hnb15 := NB384_385.out; have hnc15 := NB385_384.out; have hcz16_0 := bC BK384 0 (.slice A0_0 l0_0.length c0_0); have hcz16_1 := bC BK384 1 (.int .i64 a0_1); have hfz16_0 := b' BK384.out 0; have hfz16_1 := b' BK384.out 1) | ((with_reducible refine gate_callee (f := 22) rfl ?_); refine gL 12 Try.func22 #[.agg #[.slice A0_0 l0_0.length c0_0, .int .i64 a0_1]] (h := ?_); (with_reducible refine (fanlightref06_Check.calls k _ _ l0_0 a0_1 t386 _ ?side1 ?side2 A3.out).mono ?_); (case side1 => exact Kd.eC HR0_0 HB); (case side2 => exact HC0_0.out); rintro e w17 ⟨rfl, hb⟩; refine ⟨_, rfl, ?_⟩; have n0_ := bB BK384 hb; have n1_ := bB BK385 hb; have n2_ := d' (below_step (eH HB) hb); clear BK384; clear BK385; clear HB; have BK384 := n0_; have BK385 := n1_; have HB := n2_; clear n0_ n1_ n2_; (try clear hb); (try clear hb2); (try clear hk); (try clear hi); have hcz18_0 := bC BK384 0 (.slice A0_0 l0_0.length c0_0); have hcz18_1 := bC BK384 1 (.int .i64 a0_1); have hfz18_0 := b' BK384.out 0; have hfz18_1 := b' BK384.out 1; have hcz19_0 := bC BK385 0 (.slice none 0 0); have hcz19_1 := bC BK385 1 (.int .i64 0); have hfz19_0 := b' BK385.out 0; have hfz19_1 := b' BK385.out 1))
    refine bodyPost_ret (results_ctt rfl _ _ gb385 24 #[.slice none 0 0, .int .i64 0] (0, 0) _ rfl (by refine eK ?_; refine blk_put (cs := #[.slice none 0 0, .int .i64 0]) ?_ 1 _ rfl; refine eK ?_; refine blk_put (cs := #[.slice none 0 0, .int .i64 0]) ?_ 0 _ rfl; refine eK ?_; exact BK385.out) Try.underlying24 rfl (by kernel_rfl)) rfl ?_
    exact ⟨_, eE, nS, eH HB⟩
   ·
    rw [if_neg c12] at H
    have c12b0 := decide_eq_false c12
    clear c12
    replace H := Option.bind_eq_some_iff.mp H
    obtain ⟨⟨t387, t390⟩, A200, H⟩ := H
    (try dsimp only at H)
    have A20 := d' A200
    clear A200
    replace H := Option.bind_eq_some_iff.mp H
    obtain ⟨t392, A210, H⟩ := H
    (try dsimp only at H)
    have A21 := d' A210
    clear A210
    have HC22 := d' H
    clear H
    go_enter Try.func12, Try.ntmps12
    go_upto_region 10 with (first | ((with_reducible refine gate_dst (N := 2) rfl ?_); (try (refine gate_guard (by rfl) ?_; dsimp only)); refine box_event ?hg (N := 2) ?hd (cs := #[.slice A0_0 l0_0.length c0_0, .int .i64 a0_1]) (t := 24) ?hr ?_; (case hd => rfl); (case hg => rfl); (case hr => go_simp <;> rfl); intro gb384 hg w23 hbox hb; have n0_ := d' (below_step (eH HB) hb); have n1_ := d' (hbox); have n2_ := d' ((by rw [hg]; exact (c' (eH HB)) : w.heap.size ≤ gb384)); have n3_ := d' ((by rw [hg]; exact (c' (eH HB)) : w.heap.size ≤ gb384)); clear HB; have HB := n0_; have BK384 := n1_; have GW384 := n2_; have GE384 := n3_; clear n0_ n1_ n2_ n3_; clear hb hbox hg) | ((with_reducible refine gate_dst (N := 4) rfl ?_); (try (refine gate_guard (by rfl) ?_; dsimp only)); refine box_event ?hg (N := 4) ?hd (cs := #[.slice none 0 0, .int .i64 0]) (t := 24) ?hr ?_; (case hd => rfl); (case hg => rfl); (case hr => go_simp <;> rfl); intro gb385 hg w24 hbox hb; have n0_ := bB BK384 hb; have n1_ := d' (below_step (eH HB) hb); have n2_ := d' (hbox); have n3_ := d' ((by rw [hg]; exact (c' (eH HB)) : w.heap.size ≤ gb385)); have n4_ := d' ((by rw [hg]; exact (c' (eH HB)) : w.heap.size ≤ gb385)); have n5_ := nL hg BK384; have n6_ := nG hg BK384; clear BK384; clear HB; have BK384 := n0_; have HB := n1_; have BK385 := n2_; have GW385 := n3_; have GE385 := n4_; have NB384_385 := n5_; have NB385_384 := n6_; clear n0_ n1_ n2_ n3_ n4_ n5_ n6_; clear hb hbox hg; have hnb25 := NB384_385.out; have hnc25 := NB385_384.out; have hcz26_0 := bC BK384 0 (.slice A0_0 l0_0.length c0_0); have hcz26_1 := bC BK384 1 (.int .i64 a0_1); have hfz26_0 := b' BK384.out 0; have hfz26_1 := b' BK384.out 1) | ((with_reducible refine gate_callee (f := 22) rfl ?_); refine gL 12 Try.func22 #[.agg #[.slice A0_0 l0_0.length c0_0, .int .i64 a0_1]] (h := ?_); (with_reducible refine (fanlightref06_Check.calls k _ _ l0_0 a0_1 t386 _ ?side1 ?side2 A3.out).mono ?_); (case side1 => exact Kd.eC HR0_0 HB); (case side2 => exact HC0_0.out); rintro e w27 ⟨rfl, hb⟩; refine ⟨_, rfl, ?_⟩; have n0_ := bB BK384 hb; have n1_ := bB BK385 hb; have n2_ := d' (below_step (eH HB) hb); clear BK384; clear BK385; clear HB; have BK384 := n0_; have BK385 := n1_; have HB := n2_; clear n0_ n1_ n2_; (try clear hb); (try clear hb2); (try clear hk); (try clear hi); have hcz28_0 := bC BK384 0 (.slice A0_0 l0_0.length c0_0); have hcz28_1 := bC BK384 1 (.int .i64 a0_1); have hfz28_0 := b' BK384.out 0; have hfz28_1 := b' BK384.out 1) | ((with_reducible refine gate_callee (f := 30) rfl ?_); refine gL 26 Try.func30 #[.agg #[.slice A0_0 l0_0.length c0_0, .int .i64 a0_1]] (h := ?_); (with_reducible refine (fanlightref06_Own.calls k _ _ l0_0 a0_1 t387 t390 _ ?side1 ?side2 A20.out).mono ?_); (case side1 => exact Kd.eC HR0_0 HB); (case side2 => exact HC0_0.out); rintro e w29 ⟨v388, rfl, ho0, hb⟩; refine ⟨_, rfl, ?_⟩; have n0_ := d' (Kd.S_lower ho0 (c' (eH HB))); have n1_ := bB BK384 hb; have n2_ := bB BK385 hb; have n3_ := d' (below_step (eH HB) hb); clear BK384; clear BK385; clear HB; have HO389 := n0_; have BK384 := n1_; have BK385 := n2_; have HB := n3_; clear n0_ n1_ n2_ n3_; (try clear hb); (try clear hb2); (try clear hk); (try clear hi); (try clear ho0)) | ((with_reducible refine gate_dst (N := 7) rfl ?_); (try (refine gate_guard (by rfl) ?_; dsimp only)); refine box_event ?hg (N := 7) ?hd (cs := #[.slice none 0 0, .int .i64 0]) (t := 24) ?hr ?_; (case hd => rfl); (case hg => rfl); (case hr => go_simp <;> rfl); intro gb391 hg w30 hbox hb; have n0_ := d' (Kd.S_below (Kd.eS HO389) hb); have n1_ := bB BK384 hb; have n2_ := bB BK385 hb; have n3_ := d' (below_step (eH HB) hb); have n4_ := d' (hbox); have n5_ := d' ((by rw [hg]; exact (c' (eH HB)) : w.heap.size ≤ gb391)); have n6_ := d' ((by rw [hg]; exact (c' (eH HB)) : w.heap.size ≤ gb391)); have n7_ := nL hg BK384; have n8_ := nG hg BK384; have n9_ := nL hg BK385; have n10_ := nG hg BK385; clear HO389; clear BK384; clear BK385; clear HB; have HO389 := n0_; have BK384 := n1_; have BK385 := n2_; have HB := n3_; have BK391 := n4_; have GW391 := n5_; have GE391 := n6_; have NB384_391 := n7_; have NB391_384 := n8_; have NB385_391 := n9_; have NB391_385 := n10_; clear n0_ n1_ n2_ n3_ n4_ n5_ n6_ n7_ n8_ n9_ n10_; clear hb hbox hg; obtain ⟨Ao31, co31, eo31⟩ := Kd.S_slice HO389.out; subst eo31; have hnb32 := NB391_384.out; have hnc32 := NB384_391.out; have hnb33 := NB391_385.out; have hnc33 := NB385_391.out; have hcz34_0 := bC BK391 0 (.slice none 0 0); have hcz34_1 := bC BK391 1 (.int .i64 0); have hfz34_0 := b' BK391.out 0; have hfz34_1 := b' BK391.out 1; have hcz35_0 := bC BK384 0 (.slice A0_0 l0_0.length c0_0); have hcz35_1 := bC BK384 1 (.int .i64 a0_1); have hfz35_0 := b' BK384.out 0; have hfz35_1 := b' BK384.out 1) | ((with_reducible refine gate_callee (f := 31) rfl ?_); refine gL 30 Try.func31 #[.int .i64 a0_1, .slice A1 l1.length c1] (h := ?_); (with_reducible refine (fanlightref06_framed.calls k a0_1 _ _ l1 t392 _ ?side1 ?side2 A21.out).mono ?_); (case side1 => exact Kd.C_below HR1.out (eH HB)); (case side2 => exact HC1.out); rintro e w36 ⟨v393, rfl, ho0, hb⟩; refine ⟨_, rfl, ?_⟩; have n0_ := d' (Kd.S_elder' (Kd.kS (Kd.S_mono (Kd.S_far (p := ⟨gb391, 1, none⟩) (Kd.S_far (p := ⟨gb391, 0, none⟩) (Kd.S_types HO389.out BK391.out (by decide)) (fun _ hk => hk.2) (.slice Ao31 t387.length co31)) (fun _ hk => hk.2) (.int .i64 t390)) (fun _ h_ => h_.1))) (Kd.R_base ho0) hb); have n1_ := d' (Kd.R_lower ho0 (c' (eH HB))); have n2_ := d' (blk_below (g := gb384) (o := .cells #[.slice A0_0 l0_0.length c0_0, .int .i64 a0_1] 24 (0, 0)) (by refine eK ?_; refine blk_far ?_ NB384_391.out _; refine eK ?_; refine blk_far ?_ NB384_391.out _; refine eK ?_; exact BK384.out) hb); have n3_ := d' (blk_below (g := gb385) (o := .cells #[.slice none 0 0, .int .i64 0] 24 (0, 0)) (by refine eK ?_; refine blk_far ?_ NB385_391.out _; refine eK ?_; refine blk_far ?_ NB385_391.out _; refine eK ?_; exact BK385.out) hb); have n4_ := d' (blk_below (g := gb391) (o := .cells #[.slice Ao31 t387.length co31, .int .i64 t390] 24 (0, 0)) (by refine eK ?_; refine blk_put (cs := #[.slice Ao31 t387.length co31, .int .i64 0]) ?_ 1 _ rfl; refine eK ?_; refine blk_put (cs := #[.slice none 0 0, .int .i64 0]) ?_ 0 _ rfl; refine eK ?_; exact BK391.out) hb); have n5_ := d' (below_step (eH HB) hb); clear HO389; clear BK384; clear BK385; clear BK391; clear HB; have HO389 := n0_; have HO394 := n1_; have BK384 := n2_; have BK385 := n3_; have BK391 := n4_; have HB := n5_; clear n0_ n1_ n2_ n3_ n4_ n5_; (try clear hb); (try clear hb2); (try clear hk); (try clear hi); (try clear ho0); have hcz37_0 := bC BK391 0 (.slice Ao31 t387.length co31); have hcz37_1 := bC BK391 1 (.int .i64 t390); have hfz37_0 := b' BK391.out 0; have hfz37_1 := b' BK391.out 1))
    (try simp only [Act.put, List.setIfInBounds_toArray, List.set_cons_zero, List.set_cons_succ])
    go_cut [48] (fun v48 wc => ∃ (kq : Nat) (x48_21 : Bool), v48 = .bool x48_21 ∧ Aside0 (fanlightref06_Append.j0 kq t392 (wrap64 ((t387.length : Int) - 1)) x48_21 t387 t390 = some (r1, r2, r3, r4)) ∧ Aside0 (kq ≤ k) ∧ Aside0 (Kd.R (Kd.int .u8) 5 wc w.heap.size (fun _ => True) v393 t392) ∧ Aside0 (Kd.S (Kd.slice 5 (Kd.int .u8)) 25 wc w.heap.size (fun k_ => some k_ ≠ (v393 : Value).ownBlock) (.slice Ao31 t387.length co31) t387) ∧ Aside0 (wc.heap[gb384]? = some (.cells #[(.slice A0_0 l0_0.length c0_0), .int .i64 a0_1] 24 (0, 0))) ∧ Aside0 (wc.heap[gb385]? = some (.cells #[(.slice none 0 0), .int .i64 0] 24 (0, 0))) ∧ Aside0 (wc.heap[gb391]? = some (.cells #[(.slice Ao31 t387.length co31), .int .i64 t390] 24 (0, 0))) ∧ Aside0 (Below w.heap.size w wc))
    case first =>
     have H := HC22.out
     clear HC22
     by_cases c38 : (wrap64 ((t387.length : Int) - 1)) < 0
     ·
      rw [if_pos c38] at H
      have c38b0 := decide_eq_true c38
      clear c38
      (first | rw [c38b0] | (simp only [i64_w, i32_w]; rw [c38b0]) | rw [c38b1] | skip)
      have H' := d' H
      clear H
      go_wp2
      go_meet
      case rel => exact ⟨_, (true), rS, H', ⟨by first | omega | exact Nat.le_refl _⟩, ⟨Kd.eR HO394⟩, ⟨by (with_reducible repeat (first | apply Kd.S_alloc | apply Kd.S_drewN | apply Kd.S_drew)); exact Kd.S_mono HO389.out (fun _ hk => hk.2)⟩, ⟨eB BK384⟩, ⟨eB BK385⟩, ⟨eB BK391⟩, ⟨eH HB⟩⟩
     ·
      rw [if_neg c38] at H
      have c38b0 := decide_eq_false c38
      clear c38
      (first | rw [c38b0] | (simp only [i64_w, i32_w]; rw [c38b0]) | rw [c38b1] | skip)
      obtain ⟨ji39, hji39⟩ : ∃ j_ : Int, (wrap64 ((t387.length : Int) - 1)) = j_ := ⟨_, rfl⟩
      replace H : (if 0 ≤ (ji39) then (if (ji39) < (t387.length : Int) then (fanlightref06_Append.j0 k t392 ji39 (decide ((wrap64 (((rd_L1 t387 (ji39)).length : Int) + (t392.length : Int))) > 480)) t387 t390) else (none)) else (none)) = some (r1, r2, r3, r4) := by first | (rw [hji39] at H; exact H) | (simp only [hji39] at H ⊢; exact H)
      (try rw [hji39] at c38b0)
      have hji39w : (IntKind.i64.wrap ((t387.length : Int) - 1)) = ji39 := (i64_w _).trans hji39
      by_cases c40 : 0 ≤ (ji39)
      ·
       rw [if_pos c40] at H
       have c40b0 := decide_eq_true c40
       clear c40
       by_cases c41 : (ji39) < (t387.length : Int)
       ·
        rw [if_pos c41] at H
        have c41b0 := decide_eq_true c41
        clear c41
        have H' := d' H
        clear H
        have hnb42 := NB391_384.out
        have hnc42 := NB384_391.out
        have hnb43 := NB391_385.out
        have hnc43 := NB385_391.out
        have hcz44_0 := bC BK391 0 (.slice Ao31 t387.length co31)
        have hcz44_1 := bC BK391 1 (.int .i64 t390)
        have hfz44_0 := b' BK391.out 0
        have hfz44_1 := b' BK391.out 1
        have p395 : 0 ≤ ((ji39) : Int) := oD
        have q395 : (ji39) < (t387.length : Int) := oD
        obtain ⟨ad395, A395_0, c395_0, e395, hx395_0, hl395_0, hi395_0⟩ := at_L1 (Kd.S_reads' HO389.out).2.2 (ji39) p395 q395
        cases e395
        obtain ⟨ce395, hce395, hMe395, hcc395⟩ := Kd.S_get HO389.out [] (ji39) p395 (by first | exact q395 | exact oD | (have e_ := (Kd.S_reads' HO389.out).1; omega))
        obtain ⟨ve395_0, rfl, ge395_0⟩ := hMe395
        have hv395_0 := hcc395 0 _ rfl
        rw [Nat.add_zero, show ((Kd.slice 5 (Kd.int .u8))).sz = 1 from rfl, Nat.mul_one] at hv395_0
        replace hv395_0 := Option.some.inj (hv395_0.symm.trans hx395_0)
        rw [hv395_0] at ge395_0
        have HL395_0 := d' (show Kd.R (Kd.int .u8) 5 _ _ _ _ (rd_L1 t387 (ji39)) from ge395_0)
        clear hv395_0 ge395_0
        have HX395_0 := d' hx395_0
        clear hcc395 hce395
        have HR395_0 := d' hi395_0
        have HC395_0 := d' hl395_0
        clear hi395_0 hl395_0
        replace p395 := eq_true p395
        replace q395 := eq_true q395
        obtain ⟨Ao45, co45, eo45⟩ := Kd.R_slice HO394.out
        subst eo45
        go_wp2
        go_meet
        case rel => exact ⟨_, (decide ((wrap64 (((rd_L1 t387 (ji39)).length : Int) + (t392.length : Int))) > 480)), (by first | rfl | (simp; done) | (simp only [← hji39] <;> (first | rfl | simp)) | (simp [*]; done)), (by first | exact H' | (rw [hji39]; exact H')), ⟨by first | omega | exact Nat.le_refl _⟩, ⟨Kd.eR HO394⟩, ⟨by (with_reducible repeat (first | apply Kd.S_alloc | apply Kd.S_drewN | apply Kd.S_drew)); exact Kd.S_mono HO389.out (fun _ hk => hk.2)⟩, ⟨eB BK384⟩, ⟨eB BK385⟩, ⟨eB BK391⟩, ⟨eH HB⟩⟩
       ·
        rw [if_neg c41] at H
        exact absurd H (by simp)
      ·
       rw [if_neg c40] at H
       exact absurd H (by simp)
    case rest =>
     clear HC22
     try clear c1
     try clear c2
     try clear p2
     try clear c3
     try clear p3
     try clear q3
     try clear hx3
     try clear c4
     try clear c4b0
     try clear c4b1
     try clear c5
     try clear c5b0
     try clear c5b1
     try clear p6
     try clear c8
     try clear c12
     try clear c12b0
     try clear c15
     try clear c22
     try clear c25
     try clear c30
     try clear c31
     try clear c32
     try clear c33
     try clear c38
     try clear c38b0
     try clear c39
     try clear p39
     try clear q39
     try clear hx39
     try clear c40
     try clear c40b0
     try clear c41
     try clear c41b0
     try clear c42
     try clear c43
     try clear hcz11_0
     try clear hcz11_1
     try clear hcz16_0
     try clear hcz16_1
     try clear hcz18_0
     try clear hcz18_1
     try clear hcz19_0
     try clear hcz19_1
     try clear hcz26_0
     try clear hcz26_1
     try clear hcz28_0
     try clear hcz28_1
     try clear hcz34_0
     try clear hcz34_1
     try clear hcz35_0
     try clear hcz35_1
     try clear hcz37_0
     try clear hcz37_1
     try clear hcz44_0
     try clear hcz44_1
     try clear hcz9_0
     try clear hcz9_1
     try clear hfz11_0
     try clear hfz11_1
     try clear hfz16_0
     try clear hfz16_1
     try clear hfz18_0
     try clear hfz18_1
     try clear hfz19_0
     try clear hfz19_1
     try clear hfz26_0
     try clear hfz26_1
     try clear hfz28_0
     try clear hfz28_1
     try clear hfz34_0
     try clear hfz34_1
     try clear hfz35_0
     try clear hfz35_1
     try clear hfz37_0
     try clear hfz37_1
     try clear hfz44_0
     try clear hfz44_1
     try clear hfz9_0
     try clear hfz9_1
     try clear hx395_0
     try clear p395
     try clear q395
     obtain ⟨kq, x48_21, rfl, HA, HJ21, HO_8, HO_392000, BK384, BK385, BK391, HB⟩ := hcut
     cases kq with
     | zero => exact absurd HA.out (by simp [fanlightref06_Append.j0])
     | succ kj21 =>
      have H := HA.out
      clear HA
      simp only [fanlightref06_Append.j0] at H
      by_cases c46 : x48_21 = true
      ·
       subst c46
       have H1 : (if (t387.length : Int) ≥ 64 then (some (([] : List (List Int)), 0, 0, 51)) else (if t387.length < 5864062014805 then ((some (t387 ++ [[]] : List (List Int))).bind fun y396 => (if 0 ≤ (wrap64 ((wrap64 ((t387.length : Int) - 1)) + 1)) then (if (wrap64 ((wrap64 ((t387.length : Int) - 1)) + 1)) < (y396.length : Int) then (if (rd_L1 y396 (wrap64 ((wrap64 ((t387.length : Int) - 1)) + 1))).length + t392.length < 140737488355328 then (some ((y396.set ((wrap64 ((wrap64 ((t387.length : Int) - 1)) + 1)) : Int).toNat ((rd_L1 y396 (wrap64 ((wrap64 ((t387.length : Int) - 1)) + 1))) ++ t392)), wrap64 (t390 + 1), wrap64 ((wrap64 ((t387.length : Int) - 1)) + 1), 0)) else (none)) else (none)) else (none))) else (none))) = some (r1, r2, r3, r4) := by rw [if_pos rfl] at H; exact H
       clear H
       have H := H1
       clear H1
       by_cases c47 : (t387.length : Int) ≥ 64
       ·
        rw [if_pos c47] at H
        have c47b0 := decide_eq_true c47
        have c47b1 : decide (64 ≤ t387.length) = true := decide_eq_true (by omega)
        clear c47
        simp only [Option.some.injEq, Prod.mk.injEq] at H
        obtain ⟨rfl, rfl, rfl, rfl⟩ := H
        have hnb48 := NB391_384.out
        have hnc48 := NB384_391.out
        have hnb49 := NB391_385.out
        have hnc49 := NB385_391.out
        have hcz50_0 := bC BK391 0 (.slice Ao31 t387.length co31)
        have hcz50_1 := bC BK391 1 (.int .i64 t390)
        have hfz50_0 := b' BK391.out 0
        have hfz50_1 := b' BK391.out 1
        have hnb51 := NB385_384.out
        have hnc51 := NB384_385.out
        have hcz52_0 := bC BK385 0 (.slice none 0 0)
        have hcz52_1 := bC BK385 1 (.int .i64 0)
        have hfz52_0 := b' BK385.out 0
        have hfz52_1 := b' BK385.out 1
        go_wp2
        refine bodyPost_ret (results_ctt rfl _ _ gb385 24 #[.slice none 0 0, .int .i64 0] (0, 0) _ rfl (by refine eK ?_; refine blk_put (cs := #[.slice none 0 0, .int .i64 0]) ?_ 1 _ rfl; refine eK ?_; refine blk_put (cs := #[.slice none 0 0, .int .i64 0]) ?_ 0 _ rfl; refine eK ?_; exact BK385.out) Try.underlying24 rfl (by kernel_rfl)) rfl ?_
        exact ⟨_, eE, nS, eH HB⟩
       ·
        rw [if_neg c47] at H
        have c47b0 := decide_eq_false c47
        have c47b1 : decide (64 ≤ t387.length) = false := decide_eq_false (by omega)
        clear c47
        by_cases c53 : t387.length < 5864062014805
        ·
         rw [if_pos c53] at H
         have LMc53 := d' c53
         clear c53
         obtain ⟨y396, hy396⟩ : ∃ y_ : List (List Int), y_ = (t387 ++ [[]]) := ⟨_, rfl⟩
         replace H : (if 0 ≤ (wrap64 ((wrap64 ((t387.length : Int) - 1)) + 1)) then (if (wrap64 ((wrap64 ((t387.length : Int) - 1)) + 1)) < (y396.length : Int) then (if (rd_L1 y396 (wrap64 ((wrap64 ((t387.length : Int) - 1)) + 1))).length + t392.length < 140737488355328 then (some ((y396.set ((wrap64 ((wrap64 ((t387.length : Int) - 1)) + 1)) : Int).toNat ((rd_L1 y396 (wrap64 ((wrap64 ((t387.length : Int) - 1)) + 1))) ++ t392)), wrap64 (t390 + 1), wrap64 ((wrap64 ((t387.length : Int) - 1)) + 1), 0)) else (none)) else (none)) else (none)) = some (r1, r2, r3, r4) := by rw [hy396]; exact H
         have Ny396 := d' hy396
         clear hy396
         obtain ⟨ji54, hji54⟩ : ∃ j_ : Int, (wrap64 ((wrap64 ((t387.length : Int) - 1)) + 1)) = j_ := ⟨_, rfl⟩
         replace H : (if 0 ≤ (ji54) then (if (ji54) < (y396.length : Int) then (if (rd_L1 y396 (ji54)).length + t392.length < 140737488355328 then (some ((y396.set ((ji54) : Int).toNat ((rd_L1 y396 (ji54)) ++ t392)), wrap64 (t390 + 1), ji54, 0)) else (none)) else (none)) else (none)) = some (r1, r2, r3, r4) := by first | (rw [hji54] at H; exact H) | (simp only [hji54] at H ⊢; exact H)
         have hji54w : (IntKind.i64.wrap ((wrap64 ((t387.length : Int) - 1)) + 1)) = ji54 := (i64_w _).trans hji54
         by_cases c55 : 0 ≤ (ji54)
         ·
          rw [if_pos c55] at H
          have c55b0 := decide_eq_true c55
          clear c55
          by_cases c56 : (ji54) < (y396.length : Int)
          ·
           rw [if_pos c56] at H
           have c56b0 := decide_eq_true c56
           clear c56
           by_cases c57 : (rd_L1 y396 (ji54)).length + t392.length < 140737488355328
           ·
            rw [if_pos c57] at H
            have LMc57 := d' c57
            clear c57
            obtain ⟨y400, hy400⟩ : ∃ y_ : List Int, y_ = ((rd_L1 y396 (ji54)) ++ t392) := ⟨_, rfl⟩
            replace H : (some ((y396.set ((ji54) : Int).toNat y400), wrap64 (t390 + 1), ji54, 0)) = some (r1, r2, r3, r4) := by rw [hy400]; exact H
            have Ny400 := d' hy400
            clear hy400
            obtain ⟨y403, hy403⟩ : ∃ y_ : List (List Int), y_ = (y396.set ((ji54) : Int).toNat y400) := ⟨_, rfl⟩
            replace H : (some (y403, wrap64 (t390 + 1), ji54, 0)) = some (r1, r2, r3, r4) := by rw [hy403]; exact H
            have Ny403 := d' hy403
            clear hy403
            simp only [Option.some.injEq, Prod.mk.injEq] at H
            obtain ⟨rfl, rfl, rfl, rfl⟩ := H
            have hnb59 := NB391_384.out
            have hnc59 := NB384_391.out
            have hnb60 := NB391_385.out
            have hnc60 := NB385_391.out
            have hcz61_0 := bC BK391 0 (.slice Ao31 t387.length co31)
            have hcz61_1 := bC BK391 1 (.int .i64 t390)
            have hfz61_0 := b' BK391.out 0
            have hfz61_1 := b' BK391.out 1
            try go_wp2_with (first | ((with_reducible refine gate_builtin (b := .append) (xs := #[.tmp 55, .tmp 56]) rfl ?_); (try (refine gate_guard (by rfl) ?_; dsimp only)); at_builtin; refine Kd.S_append (Kd.slice 5 (Kd.int .u8)) (w0 := w) w.heap.size rfl (.tmp 55) (.tmp 56) 22 25 (.slice none 0 0) 24 rfl Try.underlying22 info25 rfl (by decide) (by omega) (.slice Ao31 t387.length co31) t387 ([] : List Int) [.slice none 0 0] (fun k_ => some k_ ≠ (v393 : Value).ownBlock) (fun _ => False) rfl rfl ?aP (fun _ hk => hk.elim) ?aF ?aO ?aB ?aS ?aL ?_; (case aP => exact ⟨_, rfl, Kd.R_nil _ _ _ _ _⟩); (case aB => exact (eH HB)); (case aF => exact (fun k_ hk => Kd.fresh' (Kd.R_lt (Kd.eR HO_8)) k_ hk)); (case aO => exact (Kd.kS (Kd.S_mono HO_392000.out (fun k_ hk => ⟨hk, fun e_ => e_⟩)))); (case aS => exact (c' (eH HB))); (case aL => have := LMc53.out; omega); intro v397 w62 ho hb hg hat; rw [← Ny396.out] at ho; have n0_ := d' (Kd.R_over' (Kd.eR HO_8) (Kd.S_typed (Kd.eS HO_392000)) (by decide) hg); have n1_ := d' (blk_grown (g := gb384) (o := .cells #[.slice A0_0 l0_0.length c0_0, .int .i64 a0_1] 24 (0, 0)) (eB BK384) hg (Kd.S_ne HO_392000.out BK384.out (by decide))); have n2_ := d' (blk_grown (g := gb385) (o := .cells #[.slice none 0 0, .int .i64 0] 24 (0, 0)) (eB BK385) hg (Kd.S_ne HO_392000.out BK385.out (by decide))); have n3_ := d' (blk_grown (g := gb391) (o := .cells #[.slice Ao31 t387.length co31, .int .i64 t390] 24 (0, 0)) (eB BK391) hg (Kd.S_ne HO_392000.out BK391.out (by decide))); have n4_ := d' (hb); have n5_ := d' (ho); clear HO_8; clear BK384; clear BK385; clear BK391; clear HB; clear HO_392000; have HO_8 := n0_; have BK384 := n1_; have BK385 := n2_; have BK391 := n3_; have HB := n4_; have HO398 := n5_; clear n0_ n1_ n2_ n3_ n4_ n5_; clear ho hb hg hat; obtain ⟨Ao63, co63, eo63⟩ := Kd.S_slice HO398.out; subst eo63; have hcz64_0 := bC BK391 0 (.slice Ao31 t387.length co31); have hcz64_1 := bC BK391 1 (.int .i64 t390); have hfz64_0 := b' BK391.out 0; have hfz64_1 := b' BK391.out 1))
            have n0_ : Aside0 (Kd.R (Kd.int .u8) 5 (w62.setCell ⟨gb391, 0, none⟩ (.slice Ao63 y396.length co63)) w.heap.size (fun _ => True) v393 t392) := ⟨by (with_reducible repeat (first | apply Kd.R_alloc | apply Kd.R_drewN | apply Kd.R_drew)); exact Kd.R_mono (Kd.R_far (p := ⟨gb391, 0, none⟩) (Kd.R_types HO_8.out BK391.out (by decide)) (fun _ hk => hk.2) (.slice Ao63 y396.length co63)) (fun _ hk => trivial)⟩
            have n1_ : Aside0 (Kd.S (Kd.slice 5 (Kd.int .u8)) 25 (w62.setCell ⟨gb391, 0, none⟩ (.slice Ao63 y396.length co63)) w.heap.size (fun k_ => some k_ ≠ (v393 : Value).ownBlock) (.slice Ao63 y396.length co63) y396) := ⟨by (with_reducible repeat (first | apply Kd.S_alloc | apply Kd.S_drewN | apply Kd.S_drew)); exact Kd.S_mono (Kd.S_far (p := ⟨gb391, 0, none⟩) (Kd.S_types HO398.out BK391.out (by decide)) (fun _ hk => hk.2) (.slice Ao63 y396.length co63)) (fun _ hk => hk.1)⟩
            have n2_ : Aside0 ((w62.setCell ⟨gb391, 0, none⟩ (.slice Ao63 y396.length co63)).heap[gb384]? = some (.cells #[.slice A0_0 l0_0.length c0_0, .int .i64 a0_1] 24 (0, 0))) := ⟨by refine eK ?_; refine blk_far ?_ NB384_391.out _; refine eK ?_; exact BK384.out⟩
            have n3_ : Aside0 ((w62.setCell ⟨gb391, 0, none⟩ (.slice Ao63 y396.length co63)).heap[gb385]? = some (.cells #[.slice none 0 0, .int .i64 0] 24 (0, 0))) := ⟨by refine eK ?_; refine blk_far ?_ NB385_391.out _; refine eK ?_; exact BK385.out⟩
            have n4_ : Aside0 ((w62.setCell ⟨gb391, 0, none⟩ (.slice Ao63 y396.length co63)).heap[gb391]? = some (.cells #[.slice Ao63 y396.length co63, .int .i64 t390] 24 (0, 0))) := ⟨by refine eK ?_; refine blk_put (cs := #[.slice Ao31 t387.length co31, .int .i64 t390]) ?_ 0 _ rfl; refine eK ?_; exact BK391.out⟩
            have n5_ : Aside0 (Below w.heap.size w (w62.setCell ⟨gb391, 0, none⟩ (.slice Ao63 y396.length co63))) := ⟨eH HB⟩
            (try clear HO_8)
            (try clear HO398)
            (try clear BK384)
            (try clear BK385)
            (try clear BK391)
            (try clear HB)
            generalize (w62.setCell ⟨gb391, 0, none⟩ (.slice Ao63 y396.length co63)) = w65 at n0_ n1_ n2_ n3_ n4_ n5_ ⊢
            have HO_8 := n0_
            have HO398 := n1_
            have BK384 := n2_
            have BK385 := n3_
            have BK391 := n4_
            have HB := n5_
            clear n0_ n1_ n2_ n3_ n4_ n5_
            have n0_ := d' (Kd.R_drew HO_8.out)
            have n1_ := d' (Kd.S_drew HO398.out)
            have n2_ := d' (blk_drew BK384.out)
            have n3_ := d' (blk_drew BK385.out)
            have n4_ := d' (blk_drew BK391.out)
            have n5_ := d' (below_drew1 HB.out)
            clear HO_8
            clear HO398
            clear BK384
            clear BK385
            clear BK391
            clear HB
            have HO_8 := n0_
            have HO398 := n1_
            have BK384 := n2_
            have BK385 := n3_
            have BK391 := n4_
            have HB := n5_
            clear n0_ n1_ n2_ n3_ n4_ n5_
            have p399 : 0 ≤ ((ji54) : Int) := oD
            have q399 : (ji54) < (y396.length : Int) := oD
            obtain ⟨ad399, A399_0, c399_0, e399, hx399_0, hl399_0, hi399_0⟩ := at_L1 (Kd.S_reads' HO398.out).2.2 (ji54) p399 q399
            cases e399
            obtain ⟨ce399, hce399, hMe399, hcc399⟩ := Kd.S_get HO398.out [] (ji54) p399 (by first | exact q399 | exact oD | (have e_ := (Kd.S_reads' HO398.out).1; omega))
            obtain ⟨ve399_0, rfl, ge399_0⟩ := hMe399
            have hv399_0 := hcc399 0 _ rfl
            rw [Nat.add_zero, show ((Kd.slice 5 (Kd.int .u8))).sz = 1 from rfl, Nat.mul_one] at hv399_0
            replace hv399_0 := Option.some.inj (hv399_0.symm.trans hx399_0)
            rw [hv399_0] at ge399_0
            have HL399_0 := d' (show Kd.R (Kd.int .u8) 5 _ _ _ _ (rd_L1 y396 (ji54)) from ge399_0)
            clear hv399_0 ge399_0
            have HX399_0 := d' hx399_0
            clear hcc399 hce399
            have HR399_0 := d' hi399_0
            have HC399_0 := d' hl399_0
            clear hi399_0 hl399_0
            replace p399 := eq_true p399
            replace q399 := eq_true q399
            obtain ⟨Ao69, co69, eo69⟩ := Kd.R_slice HO_8.out
            (first | subst eo69 | (injection eo69 with f1_ f2_ f3_; have f4_ := f1_.symm; have f5_ := f3_.symm; clear f1_ f2_ f3_; subst f4_; subst f5_))
            obtain ⟨go67, co67, eo67, gb67, gl67, cl67, HG67⟩ := Kd.S_form HO398.out (by have h_ : ((ji54) : Int) < ((y396.length : Int) : Int) := oD; have h2_ : 0 ≤ ((ji54) : Int) := (oD); omega)
            (first | cases eo67 | (injection eo67 with ea_ en_ ec_; (first | subst ea_ | (injection ea_ with ea_; subst ea_)); subst ec_; clear en_))
            have GB67 := d' gb67
            have GG67 := d' HG67
            clear gb67 gl67 HG67
            (first | simp only [add_plain] at hx399_0 | skip)
            obtain ⟨oki67, ce67, hcl67, hM67, hcc67, _, _, hH67⟩ := Kd.S_elem HO398.out [] ((ji54) : Int) (oD) (by have h_ : ((ji54) : Int) < ((y396.length : Int) : Int) := oD; first | exact h_ | (have e_ := (Kd.S_reads' HO398.out).1; omega) | simpa using h_)
            obtain ⟨ve67_0, rfl, ge67_0⟩ := hM67
            have hv67 := hcc67 0 _ rfl
            have hX67 := HX399_0.out
            (try simp only [add_plain] at hX67)
            (try simp only [Nat.add_zero] at hv67)
            (try rw [show ((Kd.slice 5 (Kd.int .u8))).sz = 1 from rfl, Nat.mul_one] at hv67)
            replace hv67 := Option.some.inj (hv67.symm.trans hX67)
            subst hv67
            clear hX67 hcc67 hcl67
            have UU67 := d' (show Kd.R (Kd.int .u8) 5 _ w.heap.size oki67 (.slice A399_0 (rd_L1 y396 (ji54)).length c399_0) (rd_L1 y396 (ji54)) from ge67_0)
            have HH67 := d' hH67
            have HN67 := d' (Kd.S_reads' HO398.out).1
            clear hH67 ge67_0
            refine start_ (n := 12) (S := fun w' => w'.cell? ⟨gb391, 0, none⟩ = some (.slice (some ⟨go67, 0, none⟩) y396.length co63) ∧ w'.cell? ⟨gb391, 1, none⟩ = some (.int .i64 t390) ∧ w'.cell? ⟨go67, ((ji54)).toNat, none⟩ = some (.slice A399_0 (rd_L1 y396 (ji54)).length c399_0)) (ds := [11]) #[Z,Z,Z,Z,Z,Z,Z,Z,Z,Z,Z,Z] (by kernel_rfl) rfl rfl ⟨(blk_cell BK391.out 0).trans rfl, (blk_cell BK391.out 1).trans rfl, hx399_0⟩ (fun hHeld => ?_); refine with_tabW fanlightref06_Append.tab15 fanlightref06_Append.bits15 (fun HT_ HW_ => ?_)
            generalize w65.drew = w66 at HO_8 HO398 BK384 BK385 BK391 HB GG67 HH67 HL399_0 HR399_0 HX399_0 UU67 hx399_0 hHeld ⊢
            refine pP 0 61 #[Y,Z,Z,Z,Z,Z,Z,Z,Z,Z,Z,Z] HT_ (h := ?_)
            refine pP 2 63 #[Y,Z,Y,Z,Z,Z,Z,Z,Z,Z,Z,Z] HT_ (h := ?_)
            refine pP 3 64 #[Y,Z,Y,Y,Z,Z,Z,Z,Z,Z,Z,Z] HT_ (h := ?_)
            refine pP 5 66 #[Y,Z,Y,Y,Z,Y,Z,Z,Z,Z,Z,Z] HT_ (h := ?_)
            refine pP 8 69 #[Y,Z,Y,Y,Z,Y,Z,Z,Y,Z,Z,Z] HT_ (h := ?_)
            refine tP 1 62 #[Y,Y,Y,Y,Z,Y,Z,Z,Y,Z,Z,Z] HT_ HW_ hHeld (hy := by refine Or.inl ⟨by rfl, ?_⟩; rintro w' ⟨s0, s1, s2⟩; go_simp; with_reducible rfl) (h := ?_)
            refine tP 4 65 #[Y,Y,Y,Y,Y,Y,Z,Z,Y,Z,Z,Z] HT_ HW_ hHeld (hy := by refine Or.inl ⟨by rfl, ?_⟩; rintro w' ⟨s0, s1, s2⟩; go_simp; with_reducible rfl) (h := ?_)
            refine pP 6 67 #[Y,Y,Y,Y,Y,Y,Y,Z,Y,Z,Z,Z] HT_ (h := ?_)
            refine tP 7 68 #[Y,Y,Y,Y,Y,Y,Y,Y,Y,Z,Z,Z] HT_ HW_ hHeld (hy := by refine Or.inl ⟨by rfl, ?_⟩; rintro w' ⟨s0, s1, s2⟩; go_simp; with_reducible rfl) (h := ?_)
            refine one_ (i := 9) (N := some 70) #[Y,Y,Y,Y,Y,Y,Y,Y,Y,Y,Z,Z] rfl rfl (one_of HT_.out (by kernel_rfl)) (by decide) (fun K hK => ?_)
            refine Kd.R_append_rows_step (Kd.int .u8) (w0 := w) w.heap.size (by rfl) (.tmp 68) (.tmp 69) 25 5 (.int .u8 0) 1 rfl Try.underlying25 info5 rfl (by decide) (by omega) (.slice A399_0 (rd_L1 y396 (ji54)).length c399_0) (rd_L1 y396 (ji54)) t392 _ _ _ (fun k_ => oki67 k_ ∨ ((fun k_ => some k_ ≠ (.slice Ao69 t392.length co69 : Value).ownBlock)) k_ ∧ w66.heap.size ≤ k_) (fun _ => False) rfl rfl ?aO ?aR (fun _ _ h => h) (fun _ h => h.elim) ?aF ?aB ?aS ?aL ?_
            (case aR => exact Kd.kC (Kd.R_reads' HO_8.out).2.2)
            (case aB => exact (eH HB))
            (case aF => exact (fun k_ hk => .inr ⟨Kd.fresh' (Kd.R_lt (Kd.eR HO_8)) k_ hk, hk⟩))
            (case aO => exact (Kd.kR (Kd.R_mono UU67.out (fun _ hk => .inl hk))))
            (case aS => exact (c' (eH HB)))
            (case aL => have := LMc57.out; omega)
            intro v401 w68 ho hb hg hat
            (first | have HS2_ := cell_grown hg (hHeld.2.2) (by first | (rw [add_block]; exact (fun e_ => ((HL399_0.out.1 _ e_.symm).2) rfl)) | (show some (Addr.add _ _).block ≠ _; rw [add_block]; exact (fun e_ => ((HL399_0.out.1 _ e_.symm).2) rfl)) | exact (fun e_ => ((HL399_0.out.1 _ e_.symm).2) rfl)) | have HS2_ := cell_grown hg (cell_unalloc (hHeld.2.2) (by first | (rw [add_block]; exact Kd.S_lt HO398.out _ rfl) | (show (Addr.add _ _).block < _; rw [add_block]; exact Kd.S_lt HO398.out _ rfl) | exact Kd.S_lt HO398.out _ rfl)) (by first | (rw [add_block]; exact (fun e_ => ((HL399_0.out.1 _ e_.symm).2) rfl)) | (show some (Addr.add _ _).block ≠ _; rw [add_block]; exact (fun e_ => ((HL399_0.out.1 _ e_.symm).2) rfl)) | exact (fun e_ => ((HL399_0.out.1 _ e_.symm).2) rfl)))
            rw [← Ny400.out] at ho
            have n0_ := d' (Kd.R_grown2 (Kd.eR HO_8) rfl hg (fun k_ e_ => (HL399_0.out.1 k_ e_).1))
            have n1_ := d' (blk_grown (g := gb384) (o := .cells #[.slice A0_0 l0_0.length c0_0, .int .i64 a0_1] 24 (0, 0)) (eB BK384) hg (Kd.R_ne HL399_0.out BK384.out (by decide)))
            have n2_ := d' (blk_grown (g := gb385) (o := .cells #[.slice none 0 0, .int .i64 0] 24 (0, 0)) (eB BK385) hg (Kd.R_ne HL399_0.out BK385.out (by decide)))
            have n3_ := d' (blk_grown (g := gb391) (o := .cells #[.slice (some ⟨go67, 0, none⟩) y396.length co63, .int .i64 t390] 24 (0, 0)) (eB BK391) hg (Kd.R_ne HL399_0.out BK391.out (by decide)))
            have n4_ := d' (hb)
            have n5_ := d' (Kd.H_grown (Kd.H_widen (by repeat (first | exact HH67.out | refine Kd.H_alloc ?_ _ | refine Kd.H_drewN ?_ _ | refine Kd.H_drew ?_))) hg (fun k_ e_ => .inl (UU67.out.1 k_ e_)))
            have n6_ := d' (ho)
            clear HO_8
            clear BK384
            clear BK385
            clear BK391
            clear HB
            clear HH67
            clear HO398
            clear UU67
            clear HL399_0
            have HO_8 := n0_
            have BK384 := n1_
            have BK385 := n2_
            have BK391 := n3_
            have HB := n4_
            have HH67 := n5_
            have HO402 := n6_
            clear n0_ n1_ n2_ n3_ n4_ n5_ n6_
            clear ho hb hg hat
            have p58 : 0 ≤ ((ji54) : Int) := oD
            have q58 : ((ji54) : Int) < ((y396.length : Int) : Int) := oD
            replace p58 := eq_true p58
            replace q58 := eq_true q58
            obtain ⟨Ao72, co72, eo72⟩ := Kd.R_slice HO402.out
            (first | subst eo72 | (injection eo72 with f1_ f2_ f3_; have f4_ := f1_.symm; have f5_ := f3_.symm; clear f1_ f2_ f3_; subst f4_; subst f5_))
            obtain ⟨_, _, hraw70, _, _, hcc70, _⟩ := Kd.H_raw HH67.out (oD) (by have h_ : ((ji54) : Int) < ((y396.length : Int) : Int) := oD; first | exact h_ | (have e_ := (HN67.out); omega) | simpa using h_)
            obtain ⟨_, hfr70⟩ := Kd.H_at HH67.out (oD) (by have h_ : ((ji54) : Int) < ((y396.length : Int) : Int) := oD; first | exact h_ | (have e_ := (HN67.out); omega) | simpa using h_)
            have hx70_0 := hcc70 0 _ rfl
            have hf70_0 := hfr70 0
            (try simp only [Nat.add_zero] at hx70_0 hf70_0)
            (try rw [show ((Kd.slice 5 (Kd.int .u8))).sz = 1 from rfl, Nat.mul_one] at hx70_0)
            (try rw [show ((Kd.slice 5 (Kd.int .u8))).sz = 1 from rfl, Nat.mul_one] at hf70_0)
            have HP70 := Kd.S_seg0 HH67.out (oD) (by have h_ : ((ji54) : Int) < ((y396.length : Int) : Int) := oD; first | exact h_ | (have e_ := (HN67.out); omega) | simpa using h_) (seg := [.slice Ao72 y400.length co72]) (j := 0) (show 1 ≤ 1 from by decide) (x' := y400) (Kd.M_row HO402.out) (fun _ hk => hk)
            (try simp only [show ((Kd.slice 5 (Kd.int .u8))).sz = 1 from rfl, Nat.mul_one, Nat.add_zero] at HP70)
            clear hcc70 hfr70
            have HNB384_go67 := d' (show gb384 ≠ go67 from by have h_ := Kd.R_ne hraw70 BK384.out (by decide); intro e_; exact h_ (by rw [e_]; rfl))
            have HNB385_go67 := d' (show gb385 ≠ go67 from by have h_ := Kd.R_ne hraw70 BK385.out (by decide); intro e_; exact h_ (by rw [e_]; rfl))
            have HNB391_go67 := d' (show gb391 ≠ go67 from by have h_ := Kd.R_ne hraw70 BK391.out (by decide); intro e_; exact h_ (by rw [e_]; rfl))
            have HS70 := HP70.1
            rw [← Ny403.out] at HS70
            have HQ70 := d' HS70
            obtain ⟨_, hgg70⟩ := Kd.R_typed hraw70 go67 rfl
            have GG70_ := d' hgg70
            clear HP70 HS70 hgg70
            refine hK.out _ _ ⟨(blk_cell BK391.out 0).trans rfl, (blk_cell BK391.out 1).trans rfl, HS2_⟩ (fun hHeld => ?_)
            clear hK K
            refine norm_ (a' := ?_) ?_ ?_
            rotate_left
            ·
             show Act.put _ (some 70) _ = _
             exact uP
            refine pP 10 71 #[Y,Y,Y,Y,Y,Y,Y,Y,Y,Y,Y,Z] HT_ (h := ?_)
            refine last_ (i := 11) (N := none) #[Y,Y,Y,Y,Y,Y,Y,Y,Y,Y,Y,Y] rfl rfl (one_of HT_.out (by kernel_rfl)) (by decide) (fun K hK => ?_)
            refine skip_ (w1 := ?_) (by rfl) rfl ?_ ?_
            rotate_left
            ·
             go_simp
             rfl
            refine hK.out _ _ ?_
            clear hK K
            refine done_ (done_of HT_.out (by kernel_rfl)) ?_
            have n0_ : Aside0 (Kd.R (Kd.int .u8) 5 (w68.setCell ⟨go67, ((ji54) : Int).toNat, none⟩ (.slice Ao72 y400.length co72)) w.heap.size (fun _ => True) (.slice Ao69 t392.length co69) t392) := ⟨by (with_reducible repeat (first | apply Kd.R_alloc | apply Kd.R_drewN | apply Kd.R_drew)); exact Kd.R_mono (Kd.R_far (p := ⟨go67, ((ji54) : Int).toNat, none⟩) (Kd.R_types HO_8.out GG70_.out (by decide)) (fun _ hk => hk.2) (.slice Ao72 y400.length co72)) (fun _ hk => trivial)⟩
            have n1_ : Aside0 (Kd.S (Kd.slice 5 (Kd.int .u8)) 25 (w68.setCell ⟨go67, ((ji54) : Int).toNat, none⟩ (.slice Ao72 y400.length co72)) w.heap.size (fun k_ => some k_ ≠ (.slice Ao69 t392.length co69 : Value).ownBlock) (.slice (some ⟨go67, 0, none⟩) y396.length co63) y403) := ⟨by (with_reducible repeat (first | apply Kd.S_alloc | apply Kd.S_drewN | apply Kd.S_drew)); exact HQ70.out⟩
            have n2_ : Aside0 ((w68.setCell ⟨go67, ((ji54) : Int).toNat, none⟩ (.slice Ao72 y400.length co72)).heap[gb384]? = some (.cells #[.slice A0_0 l0_0.length c0_0, .int .i64 a0_1] 24 (0, 0))) := ⟨by refine eK ?_; refine blk_far ?_ HNB384_go67.out _; refine eK ?_; exact BK384.out⟩
            have n3_ : Aside0 ((w68.setCell ⟨go67, ((ji54) : Int).toNat, none⟩ (.slice Ao72 y400.length co72)).heap[gb385]? = some (.cells #[.slice none 0 0, .int .i64 0] 24 (0, 0))) := ⟨by refine eK ?_; refine blk_far ?_ HNB385_go67.out _; refine eK ?_; exact BK385.out⟩
            have n4_ : Aside0 ((w68.setCell ⟨go67, ((ji54) : Int).toNat, none⟩ (.slice Ao72 y400.length co72)).heap[gb391]? = some (.cells #[.slice (some ⟨go67, 0, none⟩) y396.length co63, .int .i64 t390] 24 (0, 0))) := ⟨by refine eK ?_; refine blk_far ?_ HNB391_go67.out _; refine eK ?_; exact BK391.out⟩
            have n5_ : Aside0 (Below w.heap.size w (w68.setCell ⟨go67, ((ji54) : Int).toNat, none⟩ (.slice Ao72 y400.length co72))) := ⟨by repeat (first | (with_reducible first | exact HB.out | apply below_alloc | apply pw_below_drewN | apply below_drew1 | refine below_set ?_ GB67.out | refine below_set ?_ GE384.out | refine below_set ?_ GE385.out | refine below_set ?_ GE391.out) | exact HB.out)⟩
            (try clear HO_8)
            (try clear HO398)
            (try clear BK384)
            (try clear BK385)
            (try clear BK391)
            (try clear HB)
            generalize (w68.setCell ⟨go67, ((ji54) : Int).toNat, none⟩ (.slice Ao72 y400.length co72)) = w73 at n0_ n1_ n2_ n3_ n4_ n5_ ⊢
            have HO_8 := n0_
            have HO398 := n1_
            have BK384 := n2_
            have BK385 := n3_
            have BK391 := n4_
            have HB := n5_
            clear n0_ n1_ n2_ n3_ n4_ n5_
            have hcz74_0 := bC BK391 0 (.slice (some ⟨go67, 0, none⟩) y396.length co63)
            have hcz74_1 := bC BK391 1 (.int .i64 t390)
            have hfz74_0 := b' BK391.out 0
            have hfz74_1 := b' BK391.out 1
            have hnb75 := NB385_384.out
            have hnc75 := NB384_385.out
            have hcz76_0 := bC BK385 0 (.slice none 0 0)
            have hcz76_1 := bC BK385 1 (.int .i64 0)
            have hfz76_0 := b' BK385.out 0
            have hfz76_1 := b' BK385.out 1
            try go_wp2
            refine bodyPost_ret (results_ctt rfl _ _ gb385 24 #[.slice (some ⟨go67, 0, none⟩) y396.length co63, .int .i64 (wrap64 (t390 + 1))] (0, 0) _ rfl (by refine eK ?_; refine blk_put (cs := #[.slice (some ⟨go67, 0, none⟩) y396.length co63, .int .i64 0]) ?_ 1 _ rfl; refine eK ?_; refine blk_put (cs := #[.slice none 0 0, .int .i64 0]) ?_ 0 _ rfl; refine eK ?_; refine blk_far ?_ NB385_391.out _; refine eK ?_; exact BK385.out) Try.underlying24 rfl (by kernel_rfl)) rfl ?_
            exact ⟨_, by first | rfl | (simp [errW_none, errW_some] <;> rfl) | (simp only [← hji54]; first | rfl | (simp [errW_none, errW_some] <;> rfl)) | (simp [*, errW_none, errW_some] <;> rfl), by (with_reducible repeat (first | apply Kd.S_alloc | apply Kd.S_drewN | apply Kd.S_drew)); exact Kd.S_mono (Kd.S_far (p := ⟨gb385, 1, none⟩) (Kd.S_far (p := ⟨gb385, 0, none⟩) (Kd.S_far (p := ⟨gb391, 1, none⟩) (Kd.S_types (Kd.S_types HO398.out BK391.out (by decide)) BK385.out (by decide)) (fun _ hk => hk.1.2) (.int .i64 (wrap64 (t390 + 1)))) (fun _ hk => hk.2) (.slice (some ⟨go67, 0, none⟩) y396.length co63)) (fun _ hk => hk.2) (.int .i64 (wrap64 (t390 + 1)))) (fun _ hk => trivial), eH HB⟩
           ·
            rw [if_neg c57] at H
            exact absurd H (by simp)
          ·
           rw [if_neg c56] at H
           exact absurd H (by simp)
         ·
          rw [if_neg c55] at H
          exact absurd H (by simp)
        ·
         rw [if_neg c53] at H
         exact absurd H (by simp)
      ·
       replace c46 := Bool.eq_false_iff.mpr c46
       subst c46
       have H1 : (if 0 ≤ (wrap64 ((t387.length : Int) - 1)) then (if (wrap64 ((t387.length : Int) - 1)) < (t387.length : Int) then (if (rd_L1 t387 (wrap64 ((t387.length : Int) - 1))).length + t392.length < 140737488355328 then (some ((t387.set ((wrap64 ((t387.length : Int) - 1)) : Int).toNat ((rd_L1 t387 (wrap64 ((t387.length : Int) - 1))) ++ t392)), wrap64 (t390 + 1), (wrap64 ((t387.length : Int) - 1)), 0)) else (none)) else (none)) else (none)) = some (r1, r2, r3, r4) := by rw [if_neg (show ¬ (false = true) by decide)] at H; exact H
       clear H
       have H := H1
       clear H1
       obtain ⟨ji77, hji77⟩ : ∃ j_ : Int, (wrap64 ((t387.length : Int) - 1)) = j_ := ⟨_, rfl⟩
       replace H : (if 0 ≤ (ji77) then (if (ji77) < (t387.length : Int) then (if (rd_L1 t387 (ji77)).length + t392.length < 140737488355328 then (some ((t387.set ((ji77) : Int).toNat ((rd_L1 t387 (ji77)) ++ t392)), wrap64 (t390 + 1), (ji77), 0)) else (none)) else (none)) else (none)) = some (r1, r2, r3, r4) := by first | (rw [hji77] at H; exact H) | (simp only [hji77] at H ⊢; exact H)
       have hji77w : (IntKind.i64.wrap ((t387.length : Int) - 1)) = ji77 := (i64_w _).trans hji77
       by_cases c78 : 0 ≤ (ji77)
       ·
        rw [if_pos c78] at H
        have c78b0 := decide_eq_true c78
        clear c78
        by_cases c79 : (ji77) < (t387.length : Int)
        ·
         rw [if_pos c79] at H
         have c79b0 := decide_eq_true c79
         clear c79
         by_cases c80 : (rd_L1 t387 (ji77)).length + t392.length < 140737488355328
         ·
          rw [if_pos c80] at H
          have LMc80 := d' c80
          clear c80
          obtain ⟨y405, hy405⟩ : ∃ y_ : List Int, y_ = ((rd_L1 t387 (ji77)) ++ t392) := ⟨_, rfl⟩
          replace H : (some ((t387.set ((ji77) : Int).toNat y405), wrap64 (t390 + 1), (ji77), 0)) = some (r1, r2, r3, r4) := by rw [hy405]; exact H
          have Ny405 := d' hy405
          clear hy405
          obtain ⟨y408, hy408⟩ : ∃ y_ : List (List Int), y_ = (t387.set ((ji77) : Int).toNat y405) := ⟨_, rfl⟩
          replace H : (some (y408, wrap64 (t390 + 1), (ji77), 0)) = some (r1, r2, r3, r4) := by rw [hy408]; exact H
          have Ny408 := d' hy408
          clear hy408
          simp only [Option.some.injEq, Prod.mk.injEq] at H
          obtain ⟨rfl, rfl, rfl, rfl⟩ := H
          try go_wp2
          have n0_ := d' (Kd.R_drew HO_8.out)
          have n1_ := d' (Kd.S_drew HO_392000.out)
          have n2_ := d' (blk_drew BK384.out)
          have n3_ := d' (blk_drew BK385.out)
          have n4_ := d' (blk_drew BK391.out)
          have n5_ := d' (below_drew1 HB.out)
          clear HO_8
          clear HO_392000
          clear BK384
          clear BK385
          clear BK391
          clear HB
          have HO_8 := n0_
          have HO_392000 := n1_
          have BK384 := n2_
          have BK385 := n3_
          have BK391 := n4_
          have HB := n5_
          clear n0_ n1_ n2_ n3_ n4_ n5_
          have p404 : 0 ≤ ((ji77) : Int) := oD
          have q404 : (ji77) < (t387.length : Int) := oD
          obtain ⟨ad404, A404_0, c404_0, e404, hx404_0, hl404_0, hi404_0⟩ := at_L1 (Kd.S_reads' HO_392000.out).2.2 (ji77) p404 q404
          cases e404
          obtain ⟨ce404, hce404, hMe404, hcc404⟩ := Kd.S_get HO_392000.out [] (ji77) p404 (by first | exact q404 | exact oD | (have e_ := (Kd.S_reads' HO_392000.out).1; omega))
          obtain ⟨ve404_0, rfl, ge404_0⟩ := hMe404
          have hv404_0 := hcc404 0 _ rfl
          rw [Nat.add_zero, show ((Kd.slice 5 (Kd.int .u8))).sz = 1 from rfl, Nat.mul_one] at hv404_0
          replace hv404_0 := Option.some.inj (hv404_0.symm.trans hx404_0)
          rw [hv404_0] at ge404_0
          have HL404_0 := d' (show Kd.R (Kd.int .u8) 5 _ _ _ _ (rd_L1 t387 (ji77)) from ge404_0)
          clear hv404_0 ge404_0
          have HX404_0 := d' hx404_0
          clear hcc404 hce404
          have HR404_0 := d' hi404_0
          have HC404_0 := d' hl404_0
          clear hi404_0 hl404_0
          replace p404 := eq_true p404
          replace q404 := eq_true q404
          obtain ⟨Ao85, co85, eo85⟩ := Kd.R_slice HO_8.out
          (first | subst eo85 | (injection eo85 with f1_ f2_ f3_; have f4_ := f1_.symm; have f5_ := f3_.symm; clear f1_ f2_ f3_; subst f4_; subst f5_))
          obtain ⟨go83, co83, eo83, gb83, gl83, cl83, HG83⟩ := Kd.S_form HO_392000.out (by have h_ : ((ji77) : Int) < ((t387.length : Int) : Int) := oD; have h2_ : 0 ≤ ((ji77) : Int) := (oD); omega)
          (first | cases eo83 | (injection eo83 with ea_ en_ ec_; (first | subst ea_ | (injection ea_ with ea_; subst ea_)); subst ec_; clear en_))
          have GB83 := d' gb83
          have GG83 := d' HG83
          clear gb83 gl83 HG83
          (first | simp only [add_plain] at hx404_0 | skip)
          obtain ⟨oki83, ce83, hcl83, hM83, hcc83, _, _, hH83⟩ := Kd.S_elem HO_392000.out [] ((ji77) : Int) (oD) (by have h_ : ((ji77) : Int) < ((t387.length : Int) : Int) := oD; first | exact h_ | (have e_ := (Kd.S_reads' HO_392000.out).1; omega) | simpa using h_)
          obtain ⟨ve83_0, rfl, ge83_0⟩ := hM83
          have hv83 := hcc83 0 _ rfl
          have hX83 := HX404_0.out
          (try simp only [add_plain] at hX83)
          (try simp only [Nat.add_zero] at hv83)
          (try rw [show ((Kd.slice 5 (Kd.int .u8))).sz = 1 from rfl, Nat.mul_one] at hv83)
          replace hv83 := Option.some.inj (hv83.symm.trans hX83)
          subst hv83
          clear hX83 hcc83 hcl83
          have UU83 := d' (show Kd.R (Kd.int .u8) 5 _ w.heap.size oki83 (.slice A404_0 (rd_L1 t387 (ji77)).length c404_0) (rd_L1 t387 (ji77)) from ge83_0)
          have HH83 := d' hH83
          have HN83 := d' (Kd.S_reads' HO_392000.out).1
          clear hH83 ge83_0
          refine start_ (n := 12) (S := fun w' => w'.cell? ⟨gb391, 0, none⟩ = some (.slice (some ⟨go83, 0, none⟩) t387.length co31) ∧ w'.cell? ⟨gb391, 1, none⟩ = some (.int .i64 t390) ∧ w'.cell? ⟨go83, ((ji77)).toNat, none⟩ = some (.slice A404_0 (rd_L1 t387 (ji77)).length c404_0)) (ds := [11]) #[Z,Z,Z,Z,Z,Z,Z,Z,Z,Z,Z,Z] (by kernel_rfl) rfl rfl ⟨(blk_cell BK391.out 0).trans rfl, (blk_cell BK391.out 1).trans rfl, hx404_0⟩ (fun hHeld => ?_); refine with_tabW fanlightref06_Append.tab15 fanlightref06_Append.bits15 (fun HT_ HW_ => ?_)
          generalize wc.drew = w82 at HO_8 HO_392000 BK384 BK385 BK391 HB GG83 HH83 HL404_0 HR404_0 HX404_0 UU83 hx404_0 hHeld ⊢
          refine pP 0 61 #[Y,Z,Z,Z,Z,Z,Z,Z,Z,Z,Z,Z] HT_ (h := ?_)
          refine pP 2 63 #[Y,Z,Y,Z,Z,Z,Z,Z,Z,Z,Z,Z] HT_ (h := ?_)
          refine pP 3 64 #[Y,Z,Y,Y,Z,Z,Z,Z,Z,Z,Z,Z] HT_ (h := ?_)
          refine pP 5 66 #[Y,Z,Y,Y,Z,Y,Z,Z,Z,Z,Z,Z] HT_ (h := ?_)
          refine pP 8 69 #[Y,Z,Y,Y,Z,Y,Z,Z,Y,Z,Z,Z] HT_ (h := ?_)
          refine tP 1 62 #[Y,Y,Y,Y,Z,Y,Z,Z,Y,Z,Z,Z] HT_ HW_ hHeld (hy := by refine Or.inl ⟨by rfl, ?_⟩; rintro w' ⟨s0, s1, s2⟩; go_simp; with_reducible rfl) (h := ?_)
          refine tP 4 65 #[Y,Y,Y,Y,Y,Y,Z,Z,Y,Z,Z,Z] HT_ HW_ hHeld (hy := by refine Or.inl ⟨by rfl, ?_⟩; rintro w' ⟨s0, s1, s2⟩; go_simp; with_reducible rfl) (h := ?_)
          refine pP 6 67 #[Y,Y,Y,Y,Y,Y,Y,Z,Y,Z,Z,Z] HT_ (h := ?_)
          refine tP 7 68 #[Y,Y,Y,Y,Y,Y,Y,Y,Y,Z,Z,Z] HT_ HW_ hHeld (hy := by refine Or.inl ⟨by rfl, ?_⟩; rintro w' ⟨s0, s1, s2⟩; go_simp; with_reducible rfl) (h := ?_)
          refine one_ (i := 9) (N := some 70) #[Y,Y,Y,Y,Y,Y,Y,Y,Y,Y,Z,Z] rfl rfl (one_of HT_.out (by kernel_rfl)) (by decide) (fun K hK => ?_)
          refine Kd.R_append_rows_step (Kd.int .u8) (w0 := w) w.heap.size (by rfl) (.tmp 68) (.tmp 69) 25 5 (.int .u8 0) 1 rfl Try.underlying25 info5 rfl (by decide) (by omega) (.slice A404_0 (rd_L1 t387 (ji77)).length c404_0) (rd_L1 t387 (ji77)) t392 _ _ _ (fun k_ => oki83 k_ ∨ ((fun k_ => some k_ ≠ (.slice Ao85 t392.length co85 : Value).ownBlock)) k_ ∧ w82.heap.size ≤ k_) (fun _ => False) rfl rfl ?aO ?aR (fun _ _ h => h) (fun _ h => h.elim) ?aF ?aB ?aS ?aL ?_
          (case aR => exact Kd.kC (Kd.R_reads' HO_8.out).2.2)
          (case aB => exact (eH HB))
          (case aF => exact (fun k_ hk => .inr ⟨Kd.fresh' (Kd.R_lt (Kd.eR HO_8)) k_ hk, hk⟩))
          (case aO => exact (Kd.kR (Kd.R_mono UU83.out (fun _ hk => .inl hk))))
          (case aS => exact (c' (eH HB)))
          (case aL => have := LMc80.out; omega)
          intro v406 w84 ho hb hg hat
          (first | have HS2_ := cell_grown hg (hHeld.2.2) (by first | (rw [add_block]; exact (fun e_ => ((HL404_0.out.1 _ e_.symm).2) rfl)) | (show some (Addr.add _ _).block ≠ _; rw [add_block]; exact (fun e_ => ((HL404_0.out.1 _ e_.symm).2) rfl)) | exact (fun e_ => ((HL404_0.out.1 _ e_.symm).2) rfl)) | have HS2_ := cell_grown hg (cell_unalloc (hHeld.2.2) (by first | (rw [add_block]; exact Kd.S_lt HO_392000.out _ rfl) | (show (Addr.add _ _).block < _; rw [add_block]; exact Kd.S_lt HO_392000.out _ rfl) | exact Kd.S_lt HO_392000.out _ rfl)) (by first | (rw [add_block]; exact (fun e_ => ((HL404_0.out.1 _ e_.symm).2) rfl)) | (show some (Addr.add _ _).block ≠ _; rw [add_block]; exact (fun e_ => ((HL404_0.out.1 _ e_.symm).2) rfl)) | exact (fun e_ => ((HL404_0.out.1 _ e_.symm).2) rfl)))
          rw [← Ny405.out] at ho
          have n0_ := d' (Kd.R_grown2 (Kd.eR HO_8) rfl hg (fun k_ e_ => (HL404_0.out.1 k_ e_).1))
          have n1_ := d' (blk_grown (g := gb384) (o := .cells #[.slice A0_0 l0_0.length c0_0, .int .i64 a0_1] 24 (0, 0)) (eB BK384) hg (Kd.R_ne HL404_0.out BK384.out (by decide)))
          have n2_ := d' (blk_grown (g := gb385) (o := .cells #[.slice none 0 0, .int .i64 0] 24 (0, 0)) (eB BK385) hg (Kd.R_ne HL404_0.out BK385.out (by decide)))
          have n3_ := d' (blk_grown (g := gb391) (o := .cells #[.slice (some ⟨go83, 0, none⟩) t387.length co31, .int .i64 t390] 24 (0, 0)) (eB BK391) hg (Kd.R_ne HL404_0.out BK391.out (by decide)))
          have n4_ := d' (hb)
          have n5_ := d' (Kd.H_grown (Kd.H_widen (by repeat (first | exact HH83.out | refine Kd.H_alloc ?_ _ | refine Kd.H_drewN ?_ _ | refine Kd.H_drew ?_))) hg (fun k_ e_ => .inl (UU83.out.1 k_ e_)))
          have n6_ := d' (ho)
          clear HO_8
          clear BK384
          clear BK385
          clear BK391
          clear HB
          clear HH83
          clear HO_392000
          clear UU83
          clear HL404_0
          have HO_8 := n0_
          have BK384 := n1_
          have BK385 := n2_
          have BK391 := n3_
          have HB := n4_
          have HH83 := n5_
          have HO407 := n6_
          clear n0_ n1_ n2_ n3_ n4_ n5_ n6_
          clear ho hb hg hat
          have p81 : 0 ≤ ((ji77) : Int) := oD
          have q81 : ((ji77) : Int) < ((t387.length : Int) : Int) := oD
          replace p81 := eq_true p81
          replace q81 := eq_true q81
          obtain ⟨Ao88, co88, eo88⟩ := Kd.R_slice HO407.out
          (first | subst eo88 | (injection eo88 with f1_ f2_ f3_; have f4_ := f1_.symm; have f5_ := f3_.symm; clear f1_ f2_ f3_; subst f4_; subst f5_))
          obtain ⟨_, _, hraw86, _, _, hcc86, _⟩ := Kd.H_raw HH83.out (oD) (by have h_ : ((ji77) : Int) < ((t387.length : Int) : Int) := oD; first | exact h_ | (have e_ := (HN83.out); omega) | simpa using h_)
          obtain ⟨_, hfr86⟩ := Kd.H_at HH83.out (oD) (by have h_ : ((ji77) : Int) < ((t387.length : Int) : Int) := oD; first | exact h_ | (have e_ := (HN83.out); omega) | simpa using h_)
          have hx86_0 := hcc86 0 _ rfl
          have hf86_0 := hfr86 0
          (try simp only [Nat.add_zero] at hx86_0 hf86_0)
          (try rw [show ((Kd.slice 5 (Kd.int .u8))).sz = 1 from rfl, Nat.mul_one] at hx86_0)
          (try rw [show ((Kd.slice 5 (Kd.int .u8))).sz = 1 from rfl, Nat.mul_one] at hf86_0)
          have HP86 := Kd.S_seg0 HH83.out (oD) (by have h_ : ((ji77) : Int) < ((t387.length : Int) : Int) := oD; first | exact h_ | (have e_ := (HN83.out); omega) | simpa using h_) (seg := [.slice Ao88 y405.length co88]) (j := 0) (show 1 ≤ 1 from by decide) (x' := y405) (Kd.M_row HO407.out) (fun _ hk => hk)
          (try simp only [show ((Kd.slice 5 (Kd.int .u8))).sz = 1 from rfl, Nat.mul_one, Nat.add_zero] at HP86)
          clear hcc86 hfr86
          have HNB384_go83 := d' (show gb384 ≠ go83 from by have h_ := Kd.R_ne hraw86 BK384.out (by decide); intro e_; exact h_ (by rw [e_]; rfl))
          have HNB385_go83 := d' (show gb385 ≠ go83 from by have h_ := Kd.R_ne hraw86 BK385.out (by decide); intro e_; exact h_ (by rw [e_]; rfl))
          have HNB391_go83 := d' (show gb391 ≠ go83 from by have h_ := Kd.R_ne hraw86 BK391.out (by decide); intro e_; exact h_ (by rw [e_]; rfl))
          have HS86 := HP86.1
          rw [← Ny408.out] at HS86
          have HQ86 := d' HS86
          obtain ⟨_, hgg86⟩ := Kd.R_typed hraw86 go83 rfl
          have GG86_ := d' hgg86
          clear HP86 HS86 hgg86
          refine hK.out _ _ ⟨(blk_cell BK391.out 0).trans rfl, (blk_cell BK391.out 1).trans rfl, HS2_⟩ (fun hHeld => ?_)
          clear hK K
          refine norm_ (a' := ?_) ?_ ?_
          rotate_left
          ·
           show Act.put _ (some 70) _ = _
           exact uP
          refine pP 10 71 #[Y,Y,Y,Y,Y,Y,Y,Y,Y,Y,Y,Z] HT_ (h := ?_)
          refine last_ (i := 11) (N := none) #[Y,Y,Y,Y,Y,Y,Y,Y,Y,Y,Y,Y] rfl rfl (one_of HT_.out (by kernel_rfl)) (by decide) (fun K hK => ?_)
          refine skip_ (w1 := ?_) (by rfl) rfl ?_ ?_
          rotate_left
          ·
           go_simp
           rfl
          refine hK.out _ _ ?_
          clear hK K
          refine done_ (done_of HT_.out (by kernel_rfl)) ?_
          have n0_ : Aside0 (Kd.R (Kd.int .u8) 5 (w84.setCell ⟨go83, ((ji77) : Int).toNat, none⟩ (.slice Ao88 y405.length co88)) w.heap.size (fun _ => True) (.slice Ao85 t392.length co85) t392) := ⟨by (with_reducible repeat (first | apply Kd.R_alloc | apply Kd.R_drewN | apply Kd.R_drew)); exact Kd.R_mono (Kd.R_far (p := ⟨go83, ((ji77) : Int).toNat, none⟩) (Kd.R_types HO_8.out GG86_.out (by decide)) (fun _ hk => hk.2) (.slice Ao88 y405.length co88)) (fun _ hk => trivial)⟩
          have n1_ : Aside0 (Kd.S (Kd.slice 5 (Kd.int .u8)) 25 (w84.setCell ⟨go83, ((ji77) : Int).toNat, none⟩ (.slice Ao88 y405.length co88)) w.heap.size (fun k_ => some k_ ≠ (.slice Ao85 t392.length co85 : Value).ownBlock) (.slice (some ⟨go83, 0, none⟩) t387.length co31) y408) := ⟨by (with_reducible repeat (first | apply Kd.S_alloc | apply Kd.S_drewN | apply Kd.S_drew)); exact HQ86.out⟩
          have n2_ : Aside0 ((w84.setCell ⟨go83, ((ji77) : Int).toNat, none⟩ (.slice Ao88 y405.length co88)).heap[gb384]? = some (.cells #[.slice A0_0 l0_0.length c0_0, .int .i64 a0_1] 24 (0, 0))) := ⟨by refine eK ?_; refine blk_far ?_ HNB384_go83.out _; refine eK ?_; exact BK384.out⟩
          have n3_ : Aside0 ((w84.setCell ⟨go83, ((ji77) : Int).toNat, none⟩ (.slice Ao88 y405.length co88)).heap[gb385]? = some (.cells #[.slice none 0 0, .int .i64 0] 24 (0, 0))) := ⟨by refine eK ?_; refine blk_far ?_ HNB385_go83.out _; refine eK ?_; exact BK385.out⟩
          have n4_ : Aside0 ((w84.setCell ⟨go83, ((ji77) : Int).toNat, none⟩ (.slice Ao88 y405.length co88)).heap[gb391]? = some (.cells #[.slice (some ⟨go83, 0, none⟩) t387.length co31, .int .i64 t390] 24 (0, 0))) := ⟨by refine eK ?_; refine blk_far ?_ HNB391_go83.out _; refine eK ?_; exact BK391.out⟩
          have n5_ : Aside0 (Below w.heap.size w (w84.setCell ⟨go83, ((ji77) : Int).toNat, none⟩ (.slice Ao88 y405.length co88))) := ⟨by repeat (first | (with_reducible first | exact HB.out | apply below_alloc | apply pw_below_drewN | apply below_drew1 | refine below_set ?_ GB83.out | refine below_set ?_ GE384.out | refine below_set ?_ GE385.out | refine below_set ?_ GE391.out) | exact HB.out)⟩
          (try clear HO_8)
          (try clear HO_392000)
          (try clear BK384)
          (try clear BK385)
          (try clear BK391)
          (try clear HB)
          generalize (w84.setCell ⟨go83, ((ji77) : Int).toNat, none⟩ (.slice Ao88 y405.length co88)) = w89 at n0_ n1_ n2_ n3_ n4_ n5_ ⊢
          have HO_8 := n0_
          have HO_392000 := n1_
          have BK384 := n2_
          have BK385 := n3_
          have BK391 := n4_
          have HB := n5_
          clear n0_ n1_ n2_ n3_ n4_ n5_
          have hnb90 := NB391_384.out
          have hnc90 := NB384_391.out
          have hnb91 := NB391_385.out
          have hnc91 := NB385_391.out
          have hcz92_0 := bC BK391 0 (.slice (some ⟨go83, 0, none⟩) t387.length co31)
          have hcz92_1 := bC BK391 1 (.int .i64 t390)
          have hfz92_0 := b' BK391.out 0
          have hfz92_1 := b' BK391.out 1
          have hnb93 := NB385_384.out
          have hnc93 := NB384_385.out
          have hcz94_0 := bC BK385 0 (.slice none 0 0)
          have hcz94_1 := bC BK385 1 (.int .i64 0)
          have hfz94_0 := b' BK385.out 0
          have hfz94_1 := b' BK385.out 1
          try go_wp2
          refine bodyPost_ret (results_ctt rfl _ _ gb385 24 #[.slice (some ⟨go83, 0, none⟩) t387.length co31, .int .i64 (wrap64 (t390 + 1))] (0, 0) _ rfl (by refine eK ?_; refine blk_put (cs := #[.slice (some ⟨go83, 0, none⟩) t387.length co31, .int .i64 0]) ?_ 1 _ rfl; refine eK ?_; refine blk_put (cs := #[.slice none 0 0, .int .i64 0]) ?_ 0 _ rfl; refine eK ?_; refine blk_far ?_ NB385_391.out _; refine eK ?_; exact BK385.out) Try.underlying24 rfl (by kernel_rfl)) rfl ?_
          exact ⟨_, by first | rfl | (simp [errW_none, errW_some] <;> rfl) | (simp only [← hji77]; first | rfl | (simp [errW_none, errW_some] <;> rfl)) | (simp [*, errW_none, errW_some] <;> rfl), by (with_reducible repeat (first | apply Kd.S_alloc | apply Kd.S_drewN | apply Kd.S_drew)); exact Kd.S_mono (Kd.S_far (p := ⟨gb385, 1, none⟩) (Kd.S_far (p := ⟨gb385, 0, none⟩) (Kd.S_far (p := ⟨gb391, 1, none⟩) (Kd.S_types (Kd.S_types HO_392000.out BK391.out (by decide)) BK385.out (by decide)) (fun _ hk => hk.1.2) (.int .i64 (wrap64 (t390 + 1)))) (fun _ hk => hk.2) (.slice (some ⟨go83, 0, none⟩) t387.length co31)) (fun _ hk => hk.2) (.int .i64 (wrap64 (t390 + 1)))) (fun _ hk => trivial), eH HB⟩
         ·
          rw [if_neg c80] at H
          exact absurd H (by simp)
        ·
         rw [if_neg c79] at H
         exact absurd H (by simp)
       ·
        rw [if_neg c78] at H
        exact absurd H (by simp)
 ·
  rw [if_neg c4] at H
  have c4b0 := beq_eq_false_iff_ne.mpr c4
  have c4b1 := bne_iff_ne.mpr c4
  simp only [Option.some.injEq, Prod.mk.injEq] at H
  obtain ⟨rfl, rfl, rfl, rfl⟩ := H
  go_enter Try.func12, Try.ntmps12
  go_wp2_with (first | ((with_reducible refine gate_dst (N := 2) rfl ?_); (try (refine gate_guard (by rfl) ?_; dsimp only)); refine box_event ?hg (N := 2) ?hd (cs := #[.slice A0_0 l0_0.length c0_0, .int .i64 a0_1]) (t := 24) ?hr ?_; (case hd => rfl); (case hg => rfl); (case hr => go_simp <;> rfl); intro gb384 hg w95 hbox hb; have n0_ := d' (below_step (eH HB) hb); have n1_ := d' (hbox); have n2_ := d' ((by rw [hg]; exact (c' (eH HB)) : w.heap.size ≤ gb384)); have n3_ := d' ((by rw [hg]; exact (c' (eH HB)) : w.heap.size ≤ gb384)); clear HB; have HB := n0_; have BK384 := n1_; have GW384 := n2_; have GE384 := n3_; clear n0_ n1_ n2_ n3_; clear hb hbox hg) | ((with_reducible refine gate_dst (N := 4) rfl ?_); (try (refine gate_guard (by rfl) ?_; dsimp only)); refine box_event ?hg (N := 4) ?hd (cs := #[.slice none 0 0, .int .i64 0]) (t := 24) ?hr ?_; (case hd => rfl); (case hg => rfl); (case hr => go_simp <;> rfl); intro gb385 hg w96 hbox hb; have n0_ := bB BK384 hb; have n1_ := d' (below_step (eH HB) hb); have n2_ := d' (hbox); have n3_ := d' ((by rw [hg]; exact (c' (eH HB)) : w.heap.size ≤ gb385)); have n4_ := d' ((by rw [hg]; exact (c' (eH HB)) : w.heap.size ≤ gb385)); have n5_ := nL hg BK384; have n6_ := nG hg BK384; clear BK384; clear HB; have BK384 := n0_; have HB := n1_; have BK385 := n2_; have GW385 := n3_; have GE385 := n4_; have NB384_385 := n5_; have NB385_384 := n6_; clear n0_ n1_ n2_ n3_ n4_ n5_ n6_; clear hb hbox hg; have hnb97 := NB384_385.out; have hnc97 := NB385_384.out; have hcz98_0 := bC BK384 0 (.slice A0_0 l0_0.length c0_0); have hcz98_1 := bC BK384 1 (.int .i64 a0_1); have hfz98_0 := b' BK384.out 0; have hfz98_1 := b' BK384.out 1) | ((with_reducible refine gate_callee (f := 22) rfl ?_); refine gL 12 Try.func22 #[.agg #[.slice A0_0 l0_0.length c0_0, .int .i64 a0_1]] (h := ?_); (with_reducible refine (fanlightref06_Check.calls k _ _ l0_0 a0_1 t386 _ ?side1 ?side2 A3.out).mono ?_); (case side1 => exact Kd.eC HR0_0 HB); (case side2 => exact HC0_0.out); rintro e w99 ⟨rfl, hb⟩; refine ⟨_, rfl, ?_⟩; have n0_ := bB BK384 hb; have n1_ := bB BK385 hb; have n2_ := d' (below_step (eH HB) hb); clear BK384; clear BK385; clear HB; have BK384 := n0_; have BK385 := n1_; have HB := n2_; clear n0_ n1_ n2_; (try clear hb); (try clear hb2); (try clear hk); (try clear hi); have hcz100_0 := bC BK385 0 (.slice none 0 0); have hcz100_1 := bC BK385 1 (.int .i64 0); have hfz100_0 := b' BK385.out 0; have hfz100_1 := b' BK385.out 1))
  refine bodyPost_ret (results_ctt rfl _ _ gb385 24 #[.slice none 0 0, .int .i64 0] (0, 0) _ rfl (by refine eK ?_; refine blk_put (cs := #[.slice none 0 0, .int .i64 0]) ?_ 1 _ rfl; refine eK ?_; refine blk_put (cs := #[.slice none 0 0, .int .i64 0]) ?_ 0 _ rfl; refine eK ?_; exact BK385.out) Try.underlying24 rfl (by kernel_rfl)) rfl ?_
  exact ⟨_, eE, nS, eH HB⟩
end Go.Proofs.Ytgmkgobapeencaa.S
