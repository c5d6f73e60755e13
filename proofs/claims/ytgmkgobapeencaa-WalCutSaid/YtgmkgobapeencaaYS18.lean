import Derived.Test.YtgmkgobapeencaaYS2
import Derived.Test.YtgmkgobapeencaaYAid3
import Derived.Test.YtgmkgobapeencaaYS17
namespace Go.Proofs.Ytgmkgobapeencaa.S
open List renaming length_drop → b', length_take → c'
open Go.Proofs.YtgmkgobapeencaaW.PrintWords.Aside0 renaming mk → d'
open Bool renaming true → Y, false → Z
open Go.RowKit Go.Proofs.YtgmkgobapeencaaW.PrintWords Go.Proofs.YtgmkgobapeencaaW.PrintLast Go.Proofs.YtgmkgobapeencaaW.PrintMore
attribute [local go_sem] max2_int min2_int max_two min_two max_three min_three max_four min_four   -- for this text's walks alone
set_option linter.unusedVariables false
set_option linter.unusedSimpArgs false
def fanlightref04_Get.f (k : Nat) (l0 : List Int) : Option (Int × List Int × Int × Int) := if (l0.length : Int) < 8 then (some (0, ([] : List Int), 0, 8)) else (if 0 < (l0.length : Int) then (if (rd l0 0) = 0 then (some (0, ([] : List Int), 0, 22)) else (if 1 ≤ 4 then (if 4 ≤ (l0.length : Int) then ((fanlightref03_Number.f k ((l0.take 4).drop 1)).bind fun t271 => (if (wrap64 (t271)) > 65536 then (some (0, ([] : List Int), 0, 5)) else (if (l0.length : Int) < (wrap64 ((wrap64 (t271)) + 8)) then (some (0, ([] : List Int), 0, 8)) else (if 0 ≤ (wrap64 (4 + (wrap64 (t271)))) then (if (wrap64 (4 + (wrap64 (t271)))) ≤ (wrap64 (8 + (wrap64 (t271)))) then (if (wrap64 (8 + (wrap64 (t271)))) ≤ (l0.length : Int) then (if (wrap64 (4 + (wrap64 (t271)))) ≤ (l0.length : Int) then ((fanlightref04_Sum.f k (l0.take ((wrap64 (4 + (wrap64 (t271)))) : Int).toNat)).bind fun t277 => ((fanlightref04_laid.f t277).bind fun t278 => (if (strOfNums ((l0.take ((wrap64 (8 + (wrap64 (t271)))) : Int).toNat).drop ((wrap64 (4 + (wrap64 (t271)))) : Int).toNat)).toList = (strOfNums t278).toList then (if 4 ≤ (wrap64 (4 + (wrap64 (t271)))) then ((fanlightref04_Copied.f ((l0.take ((wrap64 (4 + (wrap64 (t271)))) : Int).toNat).drop 4)).bind fun t286 => (some (wrap64 (rd l0 0), t286, wrap64 ((wrap64 (t271)) + 8), 0))) else (none)) else (some (0, ([] : List Int), 0, 21))))) else (none)) else (none)) else (none)) else (none))))) else (none)) else (none))) else (none))
theorem fanlightref04_Get.mono : ∀ a0 k, LeO (fanlightref04_Get.f k a0) (fanlightref04_Get.f (k + 1) a0) := by
 intro a0 k
 unfold fanlightref04_Get.f
 repeat' first
   | (with_reducible exact fanlightref03_Number.mono _ _)
   | (with_reducible exact fanlightref04_Sum.mono _ _)
   | with_reducible first | exact LeO.refl _ | exact LeO.none _ | refine LeO.ite ?_ ?_ | refine LeO.bind ?_ fun _ => ?_
def fanlightref04_Get.T10 : Bool × List (List Nat × List Nat) := (true,[([],[]),([],[]),([1],[1]),([],[]),([3],[3]),([0,2,4],[0,2,4]),([5],[5]),([],[]),([],[]),([8],[8]),([7,9],[7,9]),([10],[10]),([11,11],[11]),([12],[12]),([6,13],[6,13]),([14,12],[14])])
def fanlightref04_Get.B10 : List Nat := [0,0,2,0,8,31,63,0,0,256,896,1920,3968,8064,16383,32767]
theorem fanlightref04_Get.tab10 : rtab .any (opsOf Try.f48 10) = fanlightref04_Get.T10 := by kernel_rfl
theorem fanlightref04_Get.bits10 : waitsOk fanlightref04_Get.T10.2 fanlightref04_Get.B10 = true := by kernel_rfl
def fanlightref04_Get.T12 : Bool × List (List Nat × List Nat) := (true,[([],[]),([0],[0]),([1],[1]),([2],[2]),([],[]),([],[]),([5],[5]),([4,6],[4,6]),([7],[7]),([3,8],[3,8]),([],[]),([10],[10]),([9,8,0,1,2,3,4,5,6,7,8,9],[9]),([11,12,0,1,2,3,4,5,6,7,8,9,10,11,12],[11]),([13,0,1,2,3,4,5,6,7,8,9,10,11,12,13],[])])
def fanlightref04_Get.B12 : List Nat := [0,1,3,7,0,0,32,112,240,511,0,1024,1023,8191,16383]
theorem fanlightref04_Get.tab12 : rtab .any (opsOf Try.f48 12) = fanlightref04_Get.T12 := by kernel_rfl
theorem fanlightref04_Get.bits12 : waitsOk fanlightref04_Get.T12.2 fanlightref04_Get.B12 = true := by kernel_rfl
set_option maxHeartbeats 8000000 in
set_option maxRecDepth 100000 in
theorem fanlightref04_Get.calls (k : Nat) (A0 : Option Addr) (c0 : Nat) (l0 : List Int) (r1 : Int) (r2 : List Int) (r3 : Int) (r4 : Int) (w : World) (hr0 : Kd.C (Kd.int .u8) w A0 l0.length l0) (hc0 : l0.length ≤ c0) (h : fanlightref04_Get.f k l0 = some (r1, r2, r3, r4)) :
  Calls Try.prog 48 #[.slice A0 l0.length c0] w fun e w' => ∃ v1_ : Value, e = .returned (.tuple #[.agg #[.int .i64 r1, v1_], .int .i64 r3, .int .i64 r4]) ∧ Kd.R (Kd.int .u8) 5 w' w.heap.size (fun _ => True) v1_ r2 ∧ Below w.heap.size w w' := by
 have hu89 := Try.underlying89
 have HR0 := d' hr0
 have HC0 := d' hc0
 clear hr0 hc0
 have HB := d' (Below.refl w.heap.size w)
 have H : (if (l0.length : Int) < 8 then (some (0, ([] : List Int), 0, 8)) else (if 0 < (l0.length : Int) then (if (rd l0 0) = 0 then (some (0, ([] : List Int), 0, 22)) else (if 1 ≤ 4 then (if 4 ≤ (l0.length : Int) then ((fanlightref03_Number.f k ((l0.take 4).drop 1)).bind fun t271 => (if (wrap64 (t271)) > 65536 then (some (0, ([] : List Int), 0, 5)) else (if (l0.length : Int) < (wrap64 ((wrap64 (t271)) + 8)) then (some (0, ([] : List Int), 0, 8)) else (if 0 ≤ (wrap64 (4 + (wrap64 (t271)))) then (if (wrap64 (4 + (wrap64 (t271)))) ≤ (wrap64 (8 + (wrap64 (t271)))) then (if (wrap64 (8 + (wrap64 (t271)))) ≤ (l0.length : Int) then (if (wrap64 (4 + (wrap64 (t271)))) ≤ (l0.length : Int) then ((fanlightref04_Sum.f k (l0.take ((wrap64 (4 + (wrap64 (t271)))) : Int).toNat)).bind fun t277 => ((fanlightref04_laid.f t277).bind fun t278 => (if (strOfNums ((l0.take ((wrap64 (8 + (wrap64 (t271)))) : Int).toNat).drop ((wrap64 (4 + (wrap64 (t271)))) : Int).toNat)).toList = (strOfNums t278).toList then (if 4 ≤ (wrap64 (4 + (wrap64 (t271)))) then ((fanlightref04_Copied.f ((l0.take ((wrap64 (4 + (wrap64 (t271)))) : Int).toNat).drop 4)).bind fun t286 => (some (wrap64 (rd l0 0), t286, wrap64 ((wrap64 (t271)) + 8), 0))) else (none)) else (some (0, ([] : List Int), 0, 21))))) else (none)) else (none)) else (none)) else (none))))) else (none)) else (none))) else (none))) = some (r1, r2, r3, r4) := h
 clear h
 by_cases c2 : (l0.length : Int) < 8
 ·
  rw [if_pos c2] at H
  have c2b0 := decide_eq_true c2
  have c2b1 : decide (l0.length < 8) = true := decide_eq_true (by omega)
  clear c2
  simp only [Option.some.injEq, Prod.mk.injEq] at H
  obtain ⟨rfl, rfl, rfl, rfl⟩ := H
  go_enter Try.func48, Try.ntmps48
  go_wp2_with (first | ((with_reducible refine gate_dst (N := 2) rfl ?_); refine box_event ?hg (N := 2) ?hd (cs := #[.int .i64 0, .slice none 0 0]) (t := 89) ?hr ?_; (case hd => rfl); (case hg => rfl); (case hr => go_simp <;> rfl); intro gb265 hg w3 hbox hb; have n0_ := d' (below_step (eH HB) hb); have n1_ := d' (hbox); have n2_ := d' ((by rw [hg]; exact (below_size (eH HB)) : w.heap.size ≤ gb265)); have n3_ := d' ((by rw [hg]; exact (below_size (eH HB)) : w.heap.size ≤ gb265)); clear HB; have HB := n0_; have BK265 := n1_; have GW265 := n2_; have GE265 := n3_; clear n0_ n1_ n2_ n3_; clear hb hbox hg; have hcz4_0 := bC BK265 0 (.int .i64 0); have hcz4_1 := bC BK265 1 (.slice none 0 0); have hfz4_0 := blk_frozen BK265.out 0; have hfz4_1 := blk_frozen BK265.out 1))
  refine bodyPost_ret (results_ctt rfl _ _ gb265 89 #[.int .i64 0, .slice none 0 0] (0, 0) _ rfl (by refine eK ?_; refine blk_put (cs := #[.int .i64 0, .slice none 0 0]) ?_ 1 _ rfl; refine eK ?_; refine blk_put (cs := #[.int .i64 0, .slice none 0 0]) ?_ 0 _ rfl; refine eK ?_; exact BK265.out) Try.underlying89 rfl (by kernel_rfl)) rfl ?_
  exact ⟨_, eE, by first | exact Kd.R_nil _ _ _ _ _ | exact Kd.N_nil _ _ _ _ _ | exact Kd.V_nil _ _ _ _ _ | exact Kd.Q_nil _ _ _ _ _ | exact Kd.S_nil _ _ _ _ _, eH HB⟩
 ·
  rw [if_neg c2] at H
  have c2b0 := decide_eq_false c2
  have c2b1 : decide (l0.length < 8) = false := decide_eq_false (by omega)
  clear c2
  by_cases c5 : 0 < (l0.length : Int)
  ·
   rw [if_pos c5] at H
   have c5b0 := decide_eq_true c5
   have c5b1 : decide (0 < l0.length) = true := decide_eq_true (by omega)
   clear c5
   by_cases c6 : (rd l0 0) = 0
   ·
    rw [if_pos c6] at H
    have c6b0 := beq_iff_eq.mpr c6
    have c6b1 := bne_eq_false_iff_eq.mpr c6
    clear c6
    simp only [Option.some.injEq, Prod.mk.injEq] at H
    obtain ⟨rfl, rfl, rfl, rfl⟩ := H
    go_enter Try.func48, Try.ntmps48
    go_wp2_with (first | ((with_reducible refine gate_dst (N := 2) rfl ?_); refine box_event ?hg (N := 2) ?hd (cs := #[.int .i64 0, .slice none 0 0]) (t := 89) ?hr ?_; (case hd => rfl); (case hg => rfl); (case hr => go_simp <;> rfl); intro gb265 hg w7 hbox hb; have n0_ := d' (below_step (eH HB) hb); have n1_ := d' (hbox); have n2_ := d' ((by rw [hg]; exact (below_size (eH HB)) : w.heap.size ≤ gb265)); have n3_ := d' ((by rw [hg]; exact (below_size (eH HB)) : w.heap.size ≤ gb265)); clear HB; have HB := n0_; have BK265 := n1_; have GW265 := n2_; have GE265 := n3_; clear n0_ n1_ n2_ n3_; clear hb hbox hg; have p266 : 0 ≤ (0 : Int) := (by omega); have q266 : 0 < (l0.length : Int) := oD; obtain ⟨ad266, e266, hx266_0⟩ := Kd.at_int HR0.out 0 p266 q266; cases e266; have qi266 : (0 < l0.length) = True := eq_true (by omega); (try rw [show ((0 : Int)).toNat = 0 from rfl] at hx266_0); (try rw [Addr.add_zero'] at hx266_0); replace hx266_0 := (HB.out.cell (World.block_lt_of_cell? w _ hx266_0)).trans hx266_0; replace p266 := eq_true p266; replace q266 := eq_true q266; have hcz8_0 := bC BK265 0 (.int .i64 0); have hcz8_1 := bC BK265 1 (.slice none 0 0); have hfz8_0 := blk_frozen BK265.out 0; have hfz8_1 := blk_frozen BK265.out 1))
    refine bodyPost_ret (results_ctt rfl _ _ gb265 89 #[.int .i64 0, .slice none 0 0] (0, 0) _ rfl (by refine eK ?_; refine blk_put (cs := #[.int .i64 0, .slice none 0 0]) ?_ 1 _ rfl; refine eK ?_; refine blk_put (cs := #[.int .i64 0, .slice none 0 0]) ?_ 0 _ rfl; refine eK ?_; exact BK265.out) Try.underlying89 rfl (by kernel_rfl)) rfl ?_
    exact ⟨_, eE, by first | exact Kd.R_nil _ _ _ _ _ | exact Kd.N_nil _ _ _ _ _ | exact Kd.V_nil _ _ _ _ _ | exact Kd.Q_nil _ _ _ _ _ | exact Kd.S_nil _ _ _ _ _, eH HB⟩
   ·
    rw [if_neg c6] at H
    have c6b0 := beq_eq_false_iff_ne.mpr c6
    have c6b1 := bne_iff_ne.mpr c6
    by_cases c9 : 1 ≤ 4
    ·
     rw [if_pos c9] at H
     have c9b0 := eq_true c9
     have c9b1 := decide_eq_true c9
     clear c9
     by_cases c10 : 4 ≤ (l0.length : Int)
     ·
      rw [if_pos c10] at H
      have c10b0 := eq_true c10
      have c10b1 := decide_eq_true c10
      clear c10
      obtain ⟨y267, hy267⟩ : ∃ y_ : List Int, y_ = ((l0.take 4).drop 1) := ⟨_, rfl⟩
      replace H : ((fanlightref03_Number.f k y267).bind fun t271 => (if (wrap64 (t271)) > 65536 then (some (0, ([] : List Int), 0, 5)) else (if (l0.length : Int) < (wrap64 ((wrap64 (t271)) + 8)) then (some (0, ([] : List Int), 0, 8)) else (if 0 ≤ (wrap64 (4 + (wrap64 (t271)))) then (if (wrap64 (4 + (wrap64 (t271)))) ≤ (wrap64 (8 + (wrap64 (t271)))) then (if (wrap64 (8 + (wrap64 (t271)))) ≤ (l0.length : Int) then (if (wrap64 (4 + (wrap64 (t271)))) ≤ (l0.length : Int) then ((fanlightref04_Sum.f k (l0.take ((wrap64 (4 + (wrap64 (t271)))) : Int).toNat)).bind fun t277 => ((fanlightref04_laid.f t277).bind fun t278 => (if (strOfNums ((l0.take ((wrap64 (8 + (wrap64 (t271)))) : Int).toNat).drop ((wrap64 (4 + (wrap64 (t271)))) : Int).toNat)).toList = (strOfNums t278).toList then (if 4 ≤ (wrap64 (4 + (wrap64 (t271)))) then ((fanlightref04_Copied.f ((l0.take ((wrap64 (4 + (wrap64 (t271)))) : Int).toNat).drop 4)).bind fun t286 => (some (wrap64 (rd l0 0), t286, wrap64 ((wrap64 (t271)) + 8), 0))) else (none)) else (some (0, ([] : List Int), 0, 21))))) else (none)) else (none)) else (none)) else (none))))) = some (r1, r2, r3, r4) := by rw [hy267]; exact H
      have Ny267 := d' hy267
      clear hy267
      replace H := Option.bind_eq_some_iff.mp H
      obtain ⟨t271, A110, H⟩ := H
      (try dsimp only at H)
      have A11 := d' A110
      clear A110
      by_cases c12 : (wrap64 (t271)) > 65536
      ·
       rw [if_pos c12] at H
       have c12b0 := decide_eq_true c12
       clear c12
       simp only [Option.some.injEq, Prod.mk.injEq] at H
       obtain ⟨rfl, rfl, rfl, rfl⟩ := H
       go_enter Try.func48, Try.ntmps48
       go_wp2_with (first | ((with_reducible refine gate_dst (N := 2) rfl ?_); refine box_event ?hg (N := 2) ?hd (cs := #[.int .i64 0, .slice none 0 0]) (t := 89) ?hr ?_; (case hd => rfl); (case hg => rfl); (case hr => go_simp <;> rfl); intro gb265 hg w13 hbox hb; have n0_ := d' (below_step (eH HB) hb); have n1_ := d' (hbox); have n2_ := d' ((by rw [hg]; exact (below_size (eH HB)) : w.heap.size ≤ gb265)); have n3_ := d' ((by rw [hg]; exact (below_size (eH HB)) : w.heap.size ≤ gb265)); clear HB; have HB := n0_; have BK265 := n1_; have GW265 := n2_; have GE265 := n3_; clear n0_ n1_ n2_ n3_; clear hb hbox hg; have p266 : 0 ≤ (0 : Int) := (by omega); have q266 : 0 < (l0.length : Int) := oD; obtain ⟨ad266, e266, hx266_0⟩ := Kd.at_int HR0.out 0 p266 q266; cases e266; have qi266 : (0 < l0.length) = True := eq_true (by omega); (try rw [show ((0 : Int)).toNat = 0 from rfl] at hx266_0); (try rw [Addr.add_zero'] at hx266_0); replace hx266_0 := (HB.out.cell (World.block_lt_of_cell? w _ hx266_0)).trans hx266_0; replace p266 := eq_true p266; replace q266 := eq_true q266; have q14 : (4 : Int) ≤ ((l0.length : Int) : Int) := oD; obtain ⟨i014, hi014, _, hsz14, _⟩ := info_parts info5; have hroom14 : l0.length ≤ c0 := HC0.out; have hC14 : Kd.C (Kd.int .u8) _ (some ad266) l0.length l0 := HR0.out; have ql14 : (1 : Int) ≤ (4 : Int) := (by omega); have hcut14 := cut_mid (P := Try.prog) 25 5 .i64 .i64 Try.underlying25 hi014 1 hsz14 (some ad266) l0.length c0 1 4 (by omega) ql14 q14 hroom14; have hr14 := Kd.C_mid (lo := (1 : Int).toNat) (hi := (4 : Int).toNat) (c := c0) hC14 (by omega) (by omega) hroom14; obtain ⟨A14, hA14⟩ : ∃ A1, A1 = (if c0 = (1 : Int).toNat then (some ad266) else ((some ad266) : Option Addr).map (·.add ((1 : Int).toNat * 1))) := ⟨_, rfl⟩; obtain ⟨c14, hc14⟩ : ∃ c1, c1 = c0 - (1 : Int).toNat := ⟨_, rfl⟩; have hy14 : y267.length = (4 : Int).toNat - (1 : Int).toNat := (by rw [Ny267.out, b', c'] <;> omega); rw [show ((l0).take (4 : Int).toNat).drop (1 : Int).toNat = y267 from Ny267.out.symm] at hr14; replace hr14 : Kd.C (Kd.int .u8) _ A14 y267.length y267 := (by rw [hA14]; exact hr14); rw [← hy14, ← hA14, ← hc14] at hcut14; have HR270 := d' hr14; have HC270 := d' (show y267.length ≤ c14 from by rw [hy14, hc14]; exact Nat.sub_le_sub_right (Nat.le_trans (by omega) hroom14) _); clear hr14 hC14 hroom14 hi014 hsz14 hc14; have KY14 := d' hy14; have KA14 := d' hA14; clear hy14 hA14; replace q14 := eq_true q14) | ((with_reducible refine gate_callee (f := 49) rfl ?_); refine gL 19 Try.func49 #[.slice A14 y267.length c14] (h := ?_); (with_reducible refine (fanlightref03_Number.calls k _ _ y267 t271 _ ?side1 ?side2 A11.out).mono ?_); (case side1 => exact Kd.eC HR270 HB); (case side2 => exact HC270.out); rintro e w' ⟨rfl, ⟨nd, rfl⟩⟩; refine ⟨_, rfl, ?_⟩; (try (rw [drewN_self w13]; generalize hq_ : World.drewN w13 _ = w13; have n0_ : Aside0 (w13.heap[gb265]? = some (.cells #[.int .i64 0, .slice none 0 0] 89 (0, 0))) := ⟨by rw [← hq_]; exact (eB BK265)⟩; have n1_ : Aside0 (Below w.heap.size w w13) := ⟨by rw [← hq_]; exact (eH HB)⟩; clear BK265 HB hq_; have BK265 := n0_; have HB := n1_; clear n0_ n1_)); have hcz15_0 := bC BK265 0 (.int .i64 0); have hcz15_1 := bC BK265 1 (.slice none 0 0); have hfz15_0 := blk_frozen BK265.out 0; have hfz15_1 := blk_frozen BK265.out 1))
       refine bodyPost_ret (results_ctt rfl _ _ gb265 89 #[.int .i64 0, .slice none 0 0] (0, 0) _ rfl (by refine eK ?_; refine blk_put (cs := #[.int .i64 0, .slice none 0 0]) ?_ 1 _ rfl; refine eK ?_; refine blk_put (cs := #[.int .i64 0, .slice none 0 0]) ?_ 0 _ rfl; refine eK ?_; exact BK265.out) Try.underlying89 rfl (by kernel_rfl)) rfl ?_
       exact ⟨_, eE, by first | exact Kd.R_nil _ _ _ _ _ | exact Kd.N_nil _ _ _ _ _ | exact Kd.V_nil _ _ _ _ _ | exact Kd.Q_nil _ _ _ _ _ | exact Kd.S_nil _ _ _ _ _, eH HB⟩
      ·
       rw [if_neg c12] at H
       have c12b0 := decide_eq_false c12
       clear c12
       by_cases c16 : (l0.length : Int) < (wrap64 ((wrap64 (t271)) + 8))
       ·
        rw [if_pos c16] at H
        have c16b0 := decide_eq_true c16
        clear c16
        simp only [Option.some.injEq, Prod.mk.injEq] at H
        obtain ⟨rfl, rfl, rfl, rfl⟩ := H
        go_enter Try.func48, Try.ntmps48
        go_wp2_with (first | ((with_reducible refine gate_dst (N := 2) rfl ?_); refine box_event ?hg (N := 2) ?hd (cs := #[.int .i64 0, .slice none 0 0]) (t := 89) ?hr ?_; (case hd => rfl); (case hg => rfl); (case hr => go_simp <;> rfl); intro gb265 hg w17 hbox hb; have n0_ := d' (below_step (eH HB) hb); have n1_ := d' (hbox); have n2_ := d' ((by rw [hg]; exact (below_size (eH HB)) : w.heap.size ≤ gb265)); have n3_ := d' ((by rw [hg]; exact (below_size (eH HB)) : w.heap.size ≤ gb265)); clear HB; have HB := n0_; have BK265 := n1_; have GW265 := n2_; have GE265 := n3_; clear n0_ n1_ n2_ n3_; clear hb hbox hg; have p266 : 0 ≤ (0 : Int) := (by omega); have q266 : 0 < (l0.length : Int) := oD; obtain ⟨ad266, e266, hx266_0⟩ := Kd.at_int HR0.out 0 p266 q266; cases e266; have qi266 : (0 < l0.length) = True := eq_true (by omega); (try rw [show ((0 : Int)).toNat = 0 from rfl] at hx266_0); (try rw [Addr.add_zero'] at hx266_0); replace hx266_0 := (HB.out.cell (World.block_lt_of_cell? w _ hx266_0)).trans hx266_0; replace p266 := eq_true p266; replace q266 := eq_true q266; have q18 : (4 : Int) ≤ ((l0.length : Int) : Int) := oD; obtain ⟨i018, hi018, _, hsz18, _⟩ := info_parts info5; have hroom18 : l0.length ≤ c0 := HC0.out; have hC18 : Kd.C (Kd.int .u8) _ (some ad266) l0.length l0 := HR0.out; have ql18 : (1 : Int) ≤ (4 : Int) := (by omega); have hcut18 := cut_mid (P := Try.prog) 25 5 .i64 .i64 Try.underlying25 hi018 1 hsz18 (some ad266) l0.length c0 1 4 (by omega) ql18 q18 hroom18; have hr18 := Kd.C_mid (lo := (1 : Int).toNat) (hi := (4 : Int).toNat) (c := c0) hC18 (by omega) (by omega) hroom18; obtain ⟨A18, hA18⟩ : ∃ A1, A1 = (if c0 = (1 : Int).toNat then (some ad266) else ((some ad266) : Option Addr).map (·.add ((1 : Int).toNat * 1))) := ⟨_, rfl⟩; obtain ⟨c18, hc18⟩ : ∃ c1, c1 = c0 - (1 : Int).toNat := ⟨_, rfl⟩; have hy18 : y267.length = (4 : Int).toNat - (1 : Int).toNat := (by rw [Ny267.out, b', c'] <;> omega); rw [show ((l0).take (4 : Int).toNat).drop (1 : Int).toNat = y267 from Ny267.out.symm] at hr18; replace hr18 : Kd.C (Kd.int .u8) _ A18 y267.length y267 := (by rw [hA18]; exact hr18); rw [← hy18, ← hA18, ← hc18] at hcut18; have HR270 := d' hr18; have HC270 := d' (show y267.length ≤ c18 from by rw [hy18, hc18]; exact Nat.sub_le_sub_right (Nat.le_trans (by omega) hroom18) _); clear hr18 hC18 hroom18 hi018 hsz18 hc18; have KY18 := d' hy18; have KA18 := d' hA18; clear hy18 hA18; replace q18 := eq_true q18) | ((with_reducible refine gate_callee (f := 49) rfl ?_); refine gL 19 Try.func49 #[.slice A18 y267.length c18] (h := ?_); (with_reducible refine (fanlightref03_Number.calls k _ _ y267 t271 _ ?side1 ?side2 A11.out).mono ?_); (case side1 => exact Kd.eC HR270 HB); (case side2 => exact HC270.out); rintro e w' ⟨rfl, ⟨nd, rfl⟩⟩; refine ⟨_, rfl, ?_⟩; (try (rw [drewN_self w17]; generalize hq_ : World.drewN w17 _ = w17; have n0_ : Aside0 (w17.heap[gb265]? = some (.cells #[.int .i64 0, .slice none 0 0] 89 (0, 0))) := ⟨by rw [← hq_]; exact (eB BK265)⟩; have n1_ : Aside0 (Below w.heap.size w w17) := ⟨by rw [← hq_]; exact (eH HB)⟩; clear BK265 HB hq_; have BK265 := n0_; have HB := n1_; clear n0_ n1_)); have hcz19_0 := bC BK265 0 (.int .i64 0); have hcz19_1 := bC BK265 1 (.slice none 0 0); have hfz19_0 := blk_frozen BK265.out 0; have hfz19_1 := blk_frozen BK265.out 1))
        refine bodyPost_ret (results_ctt rfl _ _ gb265 89 #[.int .i64 0, .slice none 0 0] (0, 0) _ rfl (by refine eK ?_; refine blk_put (cs := #[.int .i64 0, .slice none 0 0]) ?_ 1 _ rfl; refine eK ?_; refine blk_put (cs := #[.int .i64 0, .slice none 0 0]) ?_ 0 _ rfl; refine eK ?_; exact BK265.out) Try.underlying89 rfl (by kernel_rfl)) rfl ?_
        exact ⟨_, eE, by first | exact Kd.R_nil _ _ _ _ _ | exact Kd.N_nil _ _ _ _ _ | exact Kd.V_nil _ _ _ _ _ | exact Kd.Q_nil _ _ _ _ _ | exact Kd.S_nil _ _ _ _ _, eH HB⟩
       ·
        rw [if_neg c16] at H
        have c16b0 := decide_eq_false c16
        clear c16
        obtain ⟨ji20, hji20⟩ : ∃ j_ : Int, (wrap64 (4 + (wrap64 (t271)))) = j_ := ⟨_, rfl⟩
        replace H : (if 0 ≤ (ji20) then (if (ji20) ≤ (wrap64 (8 + (wrap64 (t271)))) then (if (wrap64 (8 + (wrap64 (t271)))) ≤ (l0.length : Int) then (if (ji20) ≤ (l0.length : Int) then ((fanlightref04_Sum.f k (l0.take ((ji20) : Int).toNat)).bind fun t277 => ((fanlightref04_laid.f t277).bind fun t278 => (if (strOfNums ((l0.take ((wrap64 (8 + (wrap64 (t271)))) : Int).toNat).drop ((ji20) : Int).toNat)).toList = (strOfNums t278).toList then (if 4 ≤ (ji20) then ((fanlightref04_Copied.f ((l0.take ((ji20) : Int).toNat).drop 4)).bind fun t286 => (some (wrap64 (rd l0 0), t286, wrap64 ((wrap64 (t271)) + 8), 0))) else (none)) else (some (0, ([] : List Int), 0, 21))))) else (none)) else (none)) else (none)) else (none)) = some (r1, r2, r3, r4) := by first | (rw [hji20] at H; exact H) | (simp only [hji20] at H ⊢; exact H)
        (try rw [hji20] at A11)
        have hji20w : (IntKind.i64.wrap (4 + (wrap64 (t271)))) = ji20 := (i64_w _).trans hji20
        by_cases c21 : 0 ≤ (ji20)
        ·
         rw [if_pos c21] at H
         have c21b0 := eq_true c21
         have c21b1 := decide_eq_true c21
         clear c21
         by_cases c22 : (ji20) ≤ (wrap64 (8 + (wrap64 (t271))))
         ·
          rw [if_pos c22] at H
          have c22b0 := eq_true c22
          have c22b1 := decide_eq_true c22
          by_cases c23 : (wrap64 (8 + (wrap64 (t271)))) ≤ (l0.length : Int)
          ·
           rw [if_pos c23] at H
           have c23b0 := eq_true c23
           have c23b1 := decide_eq_true c23
           have c24b0 := eq_true (oD : 0 ≤ (ji20))
           by_cases c25 : (ji20) ≤ (l0.length : Int)
           ·
            rw [if_pos c25] at H
            have c25b0 := eq_true c25
            have c25b1 := decide_eq_true c25
            clear c25
            obtain ⟨y273, hy273⟩ : ∃ y_ : List Int, y_ = (l0.take ((ji20) : Int).toNat) := ⟨_, rfl⟩
            replace H : ((fanlightref04_Sum.f k y273).bind fun t277 => ((fanlightref04_laid.f t277).bind fun t278 => (if (strOfNums ((l0.take ((wrap64 (8 + (wrap64 (t271)))) : Int).toNat).drop ((ji20) : Int).toNat)).toList = (strOfNums t278).toList then (if 4 ≤ (ji20) then ((fanlightref04_Copied.f ((l0.take ((ji20) : Int).toNat).drop 4)).bind fun t286 => (some (wrap64 (rd l0 0), t286, wrap64 ((wrap64 (t271)) + 8), 0))) else (none)) else (some (0, ([] : List Int), 0, 21))))) = some (r1, r2, r3, r4) := by rw [hy273]; exact H
            have Ny273 := d' hy273
            clear hy273
            replace H := Option.bind_eq_some_iff.mp H
            obtain ⟨t277, A260, H⟩ := H
            (try dsimp only at H)
            have A26 := d' A260
            clear A260
            replace H := Option.bind_eq_some_iff.mp H
            obtain ⟨t278, A270, H⟩ := H
            (try dsimp only at H)
            have A27 := d' A270
            clear A270
            by_cases c28 : (strOfNums ((l0.take ((wrap64 (8 + (wrap64 (t271)))) : Int).toNat).drop ((ji20) : Int).toNat)).toList = (strOfNums t278).toList
            ·
             rw [if_pos c28] at H
             have c28b0 := beq_iff_eq.mpr c28
             have c28b1 := bne_eq_false_iff_eq.mpr c28
             clear c28
             by_cases c29 : 4 ≤ (ji20)
             ·
              rw [if_pos c29] at H
              have c29b0 := eq_true c29
              have c29b1 := decide_eq_true c29
              clear c29
              have c30b0 := eq_true (oD : (ji20) ≤ (l0.length : Int))
              obtain ⟨y282, hy282⟩ : ∃ y_ : List Int, y_ = ((l0.take ((ji20) : Int).toNat).drop 4) := ⟨_, rfl⟩
              replace H : ((fanlightref04_Copied.f y282).bind fun t286 => (some (wrap64 (rd l0 0), t286, wrap64 ((wrap64 (t271)) + 8), 0))) = some (r1, r2, r3, r4) := by rw [hy282]; exact H
              have Ny282 := d' hy282
              clear hy282
              replace H := Option.bind_eq_some_iff.mp H
              obtain ⟨t286, A310, H⟩ := H
              (try dsimp only at H)
              have A31 := d' A310
              clear A310
              simp only [Option.some.injEq, Prod.mk.injEq] at H
              obtain ⟨rfl, rfl, rfl, rfl⟩ := H
              go_enter Try.func48, Try.ntmps48
              try go_wp2_with (first | ((with_reducible refine gate_dst (N := 2) rfl ?_); refine box_event ?hg (N := 2) ?hd (cs := #[.int .i64 0, .slice none 0 0]) (t := 89) ?hr ?_; (case hd => rfl); (case hg => rfl); (case hr => go_simp <;> rfl); intro gb265 hg w32 hbox hb; have n0_ := d' (below_step (eH HB) hb); have n1_ := d' (hbox); have n2_ := d' ((by rw [hg]; exact (below_size (eH HB)) : w.heap.size ≤ gb265)); have n3_ := d' ((by rw [hg]; exact (below_size (eH HB)) : w.heap.size ≤ gb265)); clear HB; have HB := n0_; have BK265 := n1_; have GW265 := n2_; have GE265 := n3_; clear n0_ n1_ n2_ n3_; clear hb hbox hg; have p266 : 0 ≤ (0 : Int) := (by omega); have q266 : 0 < (l0.length : Int) := oD; obtain ⟨ad266, e266, hx266_0⟩ := Kd.at_int HR0.out 0 p266 q266; cases e266; have qi266 : (0 < l0.length) = True := eq_true (by omega); (try rw [show ((0 : Int)).toNat = 0 from rfl] at hx266_0); (try rw [Addr.add_zero'] at hx266_0); replace hx266_0 := (HB.out.cell (World.block_lt_of_cell? w _ hx266_0)).trans hx266_0; replace p266 := eq_true p266; replace q266 := eq_true q266; have q33 : (4 : Int) ≤ ((l0.length : Int) : Int) := oD; obtain ⟨i033, hi033, _, hsz33, _⟩ := info_parts info5; have hroom33 : l0.length ≤ c0 := HC0.out; have hC33 : Kd.C (Kd.int .u8) _ (some ad266) l0.length l0 := HR0.out; have ql33 : (1 : Int) ≤ (4 : Int) := (by omega); have hcut33 := cut_mid (P := Try.prog) 25 5 .i64 .i64 Try.underlying25 hi033 1 hsz33 (some ad266) l0.length c0 1 4 (by omega) ql33 q33 hroom33; have hr33 := Kd.C_mid (lo := (1 : Int).toNat) (hi := (4 : Int).toNat) (c := c0) hC33 (by omega) (by omega) hroom33; obtain ⟨A33, hA33⟩ : ∃ A1, A1 = (if c0 = (1 : Int).toNat then (some ad266) else ((some ad266) : Option Addr).map (·.add ((1 : Int).toNat * 1))) := ⟨_, rfl⟩; obtain ⟨c33, hc33⟩ : ∃ c1, c1 = c0 - (1 : Int).toNat := ⟨_, rfl⟩; have hy33 : y267.length = (4 : Int).toNat - (1 : Int).toNat := (by rw [Ny267.out, b', c'] <;> omega); rw [show ((l0).take (4 : Int).toNat).drop (1 : Int).toNat = y267 from Ny267.out.symm] at hr33; replace hr33 : Kd.C (Kd.int .u8) _ A33 y267.length y267 := (by rw [hA33]; exact hr33); rw [← hy33, ← hA33, ← hc33] at hcut33; have HR270 := d' hr33; have HC270 := d' (show y267.length ≤ c33 from by rw [hy33, hc33]; exact Nat.sub_le_sub_right (Nat.le_trans (by omega) hroom33) _); clear hr33 hC33 hroom33 hi033 hsz33 hc33; have KY33 := d' hy33; have KA33 := d' hA33; clear hy33 hA33; replace q33 := eq_true q33) | ((with_reducible refine gate_callee (f := 49) rfl ?_); refine gL 19 Try.func49 #[.slice A33 y267.length c33] (h := ?_); (with_reducible refine (fanlightref03_Number.calls k _ _ y267 t271 _ ?side1 ?side2 A11.out).mono ?_); (case side1 => exact Kd.eC HR270 HB); (case side2 => exact HC270.out); rintro e w' ⟨rfl, ⟨nd, rfl⟩⟩; refine ⟨_, rfl, ?_⟩; (try (rw [drewN_self w32]; generalize hq_ : World.drewN w32 _ = w32; have n0_ : Aside0 (w32.heap[gb265]? = some (.cells #[.int .i64 0, .slice none 0 0] 89 (0, 0))) := ⟨by rw [← hq_]; exact (eB BK265)⟩; have n1_ : Aside0 (Below w.heap.size w w32) := ⟨by rw [← hq_]; exact (eH HB)⟩; clear BK265 HB hq_; have BK265 := n0_; have HB := n1_; clear n0_ n1_))))
              have n0_ := d' (blk_drew BK265.out)
              have n1_ := d' (below_drew1 HB.out)
              clear BK265
              clear HB
              have BK265 := n0_
              have HB := n1_
              clear n0_ n1_
              obtain ⟨i035, hi035, _, hsz35, _⟩ := info_parts info5
              obtain ⟨A35, hcut35, hA35, hC35⟩ := print_mid_of (P := Try.prog) (Value.int .u8) 0 25 5 .i64 .i64 Try.underlying25 hi035 hsz35 (some ad266) c0 l0 (ji20) (wrap64 (8 + (wrap64 (t271)))) (oD) (by first | omega | exact oD) (oD) HC0.out
              have HR272 := d' (Kd.C_of_reads (h1 := fun _ => rfl) (hA35 _ (Kd.reads_of_C HR0.out)))
              have HC272 := d' hC35
              clear hA35 hC35 hi035 hsz35
              have q36 : ((ji20) : Int) ≤ ((l0.length : Int) : Int) := oD
              obtain ⟨i036, hi036, _, hsz36, _⟩ := info_parts info5
              have hroom36 : l0.length ≤ c0 := HC0.out
              have hC36 : Kd.C (Kd.int .u8) _ (some ad266) l0.length l0 := HR0.out
              have hcut36 := cut_to (P := Try.prog) 25 5 .i64 Try.underlying25 hi036 (some ad266) l0.length c0 (ji20) (oD) q36 hroom36
              have hr36 := Kd.C_take (m := ((ji20) : Int).toNat) hC36 (by omega)
              have hy36 : y273.length = ((ji20) : Int).toNat := (by rw [Ny273.out, c']; omega)
              rw [← Ny273.out] at hr36
              rw [← hy36] at hcut36
              have HR276 := d' hr36
              have HC276 := d' (show y273.length ≤ c0 from by omega)
              clear hr36 hC36 hroom36 hi036 hsz36
              have KY36 := d' hy36
              clear hy36
              replace q36 := eq_true q36
              have hcv37 := Kd.C_string (P := Try.prog) (A := A35) (c := (c0 - (ji20).toNat)) Try.underlying25 Try.underlying5 Try.underlying9 (Kd.C_below HR272.out HB.out)
              refine start_ (n := 16) (S := fun w' => Kd.C (Kd.int .u8) w' A35 _ _) (ds := []) #[Z,Z,Z,Z,Z,Z,Z,Z,Z,Z,Z,Z,Z,Z,Z,Z] (by kernel_rfl) rfl rfl (by first | exact (Kd.C_below HR272.out HB.out) | exact Kd.C_drew (Kd.C_below HR272.out HB.out)) (fun hHeld => ?_); refine with_tabW fanlightref04_Get.tab10 fanlightref04_Get.bits10 (fun HT_ HW_ => ?_)
              generalize w32.drew = w34 at BK265 HB HR272 HR276 hHeld ⊢
              refine pP 0 33 #[Y,Z,Z,Z,Z,Z,Z,Z,Z,Z,Z,Z,Z,Z,Z,Z] HT_ (h := ?_)
              refine pP 1 34 #[Y,Y,Z,Z,Z,Z,Z,Z,Z,Z,Z,Z,Z,Z,Z,Z] HT_ (h := ?_)
              refine pP 2 35 #[Y,Y,Y,Z,Z,Z,Z,Z,Z,Z,Z,Z,Z,Z,Z,Z] HT_ (h := ?_)
              refine pP 3 36 #[Y,Y,Y,Y,Z,Z,Z,Z,Z,Z,Z,Z,Z,Z,Z,Z] HT_ (h := ?_)
              refine pP 4 37 #[Y,Y,Y,Y,Y,Z,Z,Z,Z,Z,Z,Z,Z,Z,Z,Z] HT_ (h := ?_)
              refine pP 5 38 #[Y,Y,Y,Y,Y,Y,Z,Z,Z,Z,Z,Z,Z,Z,Z,Z] HT_ (h := ?_)
              refine take_ (i := 6) (N := some 39) (v := ?_) (a' := ?_) #[Y,Y,Y,Y,Y,Y,Y,Z,Z,Z,Z,Z,Z,Z,Z,Z] rfl rfl (take_ofW HT_.out HW_.out (by kernel_rfl)) (fun _ _ _ h => h) (Or.inl ⟨by rfl, ?_⟩) hHeld ?_ ?_
              rotate_left
              ·
               intro w' s0
               have hcvS := Kd.C_string (P := Try.prog) (A := A35) (c := (c0 - (ji20).toNat)) Try.underlying25 Try.underlying5 Try.underlying9 s0
               (try rw [b', c', Nat.min_eq_left (by omega)] at hcvS)
               go_simp
               with_reducible rfl
              rotate_left
              ·
               exact uP
              refine pP 7 40 #[Y,Y,Y,Y,Y,Y,Y,Y,Z,Z,Z,Z,Z,Z,Z,Z] HT_ (h := ?_)
              refine pP 8 41 #[Y,Y,Y,Y,Y,Y,Y,Y,Y,Z,Z,Z,Z,Z,Z,Z] HT_ (h := ?_)
              refine pP 9 42 #[Y,Y,Y,Y,Y,Y,Y,Y,Y,Y,Z,Z,Z,Z,Z,Z] HT_ (h := ?_)
              refine pP 10 43 #[Y,Y,Y,Y,Y,Y,Y,Y,Y,Y,Y,Z,Z,Z,Z,Z] HT_ (h := ?_)
              refine one_ (i := 11) (N := some 44) #[Y,Y,Y,Y,Y,Y,Y,Y,Y,Y,Y,Y,Z,Z,Z,Z] rfl rfl (one_of HT_.out (by kernel_rfl)) (by decide) (fun K hK => ?_)
              refine goes_ Try.func55 (by kernel_rfl) rfl #[.slice (some ad266) y273.length c0] (by rfl) rfl rfl (by (try simp only [List.map_toArray, List.map_cons, List.map_nil]); first | done | rfl | (simp only [b', c']; rfl)) ?_
              with_reducible refine (fanlightref04_Sum.calls k _ _ y273 t277 _ ?side1 ?side2 A26.out).mono ?_
              (case side1 => exact Kd.eC HR276 HB)
              (case side2 => exact HC276.out)
              rintro e w' ⟨rfl, ⟨nd, rfl⟩⟩
              refine ⟨_, rfl, ?_⟩
              refine hK.out _ _ (by first | assumption | ((with_reducible repeat (first | refine Kd.C_drewN ?_ _ | refine Kd.C_drew ?_ | refine Kd.C_alloc ?_ _)); first | exact hHeld | exact (Kd.C_below HR272.out HB.out))) (fun hHeld => ?_)
              clear hK K
              refine norm_ (a' := ?_) ?_ ?_
              rotate_left
              ·
               show Act.put _ (some 44) _ = _
               exact uP
              refine one_ (i := 12) (N := some 45) #[Y,Y,Y,Y,Y,Y,Y,Y,Y,Y,Y,Y,Y,Z,Z,Z] rfl rfl (one_of HT_.out (by kernel_rfl)) (by decide) (fun K hK => ?_)
              refine goes_ Try.func54 (by kernel_rfl) rfl #[.int .u32 t277] (by rfl) rfl rfl (by (try simp only [List.map_toArray, List.map_cons, List.map_nil]); first | done | rfl | (simp only [b', c']; rfl)) ?_
              with_reducible refine (fanlightref04_laid.calls t277 t278 _ A27.out).mono ?_
              rintro e w38 ⟨v279, rfl, ho0, hb⟩
              refine ⟨_, rfl, ?_⟩
              have n0_ := d' (Kd.R_lower ho0 (below_size (eH HB)))
              have n1_ := bB BK265 hb
              have n2_ := d' (below_step (eH HB) hb)
              clear BK265
              clear HB
              have HO280 := n0_
              have BK265 := n1_
              have HB := n2_
              clear n0_ n1_ n2_
              (try clear hb)
              (try clear hb2)
              (try clear hk)
              (try clear hi)
              (try clear ho0)
              refine hK.out _ _ (by first | assumption | ((with_reducible repeat (first | refine Kd.C_drewN ?_ _ | refine Kd.C_drew ?_ | refine Kd.C_alloc ?_ _)); first | exact hHeld | exact (Kd.C_below HR272.out HB.out))) (fun hHeld => ?_)
              clear hK K
              refine norm_ (a' := ?_) ?_ ?_
              rotate_left
              ·
               show Act.put _ (some 45) _ = _
               exact uP
              refine one_ (i := 13) (N := some 46) #[Y,Y,Y,Y,Y,Y,Y,Y,Y,Y,Y,Y,Y,Y,Z,Z] rfl rfl (one_of HT_.out (by kernel_rfl)) (by decide) (fun K hK => ?_)
              have hcv39 := own_string (P := Try.prog) Try.underlying25 Try.underlying5 Try.underlying9 (Kd.own_of_R HO280.out)
              refine value_ (w1 := ?_) (v := ?_) (by rfl) rfl ?_ ?_
              rotate_left 2
              ·
               go_simp
               constructor
               ·
                rfl
               ·
                rfl
              clear hcv39
              refine hK.out _ _ (by first | assumption | ((with_reducible repeat (first | refine Kd.C_drewN ?_ _ | refine Kd.C_drew ?_ | refine Kd.C_alloc ?_ _)); first | exact hHeld | exact (Kd.C_below HR272.out HB.out))) (fun hHeld => ?_)
              clear hK K
              refine norm_ (a' := ?_) ?_ ?_
              rotate_left
              ·
               show Act.put _ (some 46) _ = _
               exact uP
              refine pP 14 47 #[Y,Y,Y,Y,Y,Y,Y,Y,Y,Y,Y,Y,Y,Y,Y,Z] HT_ (h := ?_)
              refine pP 15 32 #[Y,Y,Y,Y,Y,Y,Y,Y,Y,Y,Y,Y,Y,Y,Y,Y] HT_ (h := ?_)
              refine done_ (done_of HT_.out (by kernel_rfl)) ?_
              try go_wp2
              have n0_ := d' (Kd.R_drew HO280.out)
              have n1_ := d' (blk_drew BK265.out)
              have n2_ := d' (below_drew1 HB.out)
              clear HO280
              clear BK265
              clear HB
              have HO280 := n0_
              have BK265 := n1_
              have HB := n2_
              clear n0_ n1_ n2_
              have p281 : 0 ≤ (0 : Int) := (by omega)
              have q281 : 0 < (l0.length : Int) := oD
              obtain ⟨ad281, e281, hx281_0⟩ := Kd.at_int HR0.out 0 p281 q281
              have hw281_0 := hx281_0
              (try rw [show ((0 : Int)).toNat = 0 from rfl] at hw281_0)
              (try rw [show 0 * 1 = 0 from rfl] at hw281_0)
              (try rw [Addr.add_zero'] at hw281_0)
              obtain rfl : ad266 = ad281 := (by injection e281)
              have qi281 : (0 < l0.length) = True := eq_true (by omega)
              (try rw [show ((0 : Int)).toNat = 0 from rfl] at hx281_0)
              (try rw [Addr.add_zero'] at hx281_0)
              replace hx281_0 := (HB.out.cell (World.block_lt_of_cell? w _ hx281_0)).trans hx281_0
              replace p281 := eq_true p281
              replace q281 := eq_true q281
              have q42 : ((ji20) : Int) ≤ ((l0.length : Int) : Int) := oD
              obtain ⟨i042, hi042, _, hsz42, _⟩ := info_parts info5
              have hroom42 : l0.length ≤ c0 := HC0.out
              have hC42 : Kd.C (Kd.int .u8) _ (some ad266) l0.length l0 := HR0.out
              have ql42 : (4 : Int) ≤ ((ji20) : Int) := oD
              have hcut42 := cut_mid (P := Try.prog) 25 5 .i64 .i64 Try.underlying25 hi042 1 hsz42 (some ad266) l0.length c0 4 (ji20) (by omega) ql42 q42 hroom42
              have hr42 := Kd.C_mid (lo := (4 : Int).toNat) (hi := ((ji20) : Int).toNat) (c := c0) hC42 (by omega) (by omega) hroom42
              obtain ⟨A42, hA42⟩ : ∃ A1, A1 = (if c0 = (4 : Int).toNat then (some ad266) else ((some ad266) : Option Addr).map (·.add ((4 : Int).toNat * 1))) := ⟨_, rfl⟩
              obtain ⟨c42, hc42⟩ : ∃ c1, c1 = c0 - (4 : Int).toNat := ⟨_, rfl⟩
              have hy42 : y282.length = ((ji20) : Int).toNat - (4 : Int).toNat := (by rw [Ny282.out, b', c'] <;> omega)
              rw [show ((l0).take ((ji20) : Int).toNat).drop (4 : Int).toNat = y282 from Ny282.out.symm] at hr42
              replace hr42 : Kd.C (Kd.int .u8) _ A42 y282.length y282 := (by rw [hA42]; exact hr42)
              rw [← hy42, ← hA42, ← hc42] at hcut42
              have HR285 := d' hr42
              have HC285 := d' (show y282.length ≤ c42 from by rw [hy42, hc42]; exact Nat.sub_le_sub_right (Nat.le_trans (by omega) hroom42) _)
              clear hr42 hC42 hroom42 hi042 hsz42 hc42
              have KY42 := d' hy42
              have KA42 := d' hA42
              clear hy42 hA42
              replace q42 := eq_true q42
              refine start_ (n := 15) (S := fun w' => w'.cell? ad266 = some (.int .u8 (rd l0 0))) (ds := []) #[Z,Z,Z,Z,Z,Z,Z,Z,Z,Z,Z,Z,Z,Z,Z] (by kernel_rfl) rfl rfl (((HB.out.cell (World.block_lt_of_cell? w _ hw281_0)).trans hw281_0)) (fun hHeld => ?_); refine with_tabW fanlightref04_Get.tab12 fanlightref04_Get.bits12 (fun HT_ HW_ => ?_)
              generalize w38.drew = w41 at HO280 BK265 HB HR285 hx281_0 hHeld ⊢
              refine pP 0 49 #[Y,Z,Z,Z,Z,Z,Z,Z,Z,Z,Z,Z,Z,Z,Z] HT_ (h := ?_)
              refine pP 1 50 #[Y,Y,Z,Z,Z,Z,Z,Z,Z,Z,Z,Z,Z,Z,Z] HT_ (h := ?_)
              refine pP 4 53 #[Y,Y,Z,Z,Y,Z,Z,Z,Z,Z,Z,Z,Z,Z,Z] HT_ (h := ?_)
              refine pP 5 54 #[Y,Y,Z,Z,Y,Y,Z,Z,Z,Z,Z,Z,Z,Z,Z] HT_ (h := ?_)
              refine pP 6 55 #[Y,Y,Z,Z,Y,Y,Y,Z,Z,Z,Z,Z,Z,Z,Z] HT_ (h := ?_)
              refine pP 7 56 #[Y,Y,Z,Z,Y,Y,Y,Y,Z,Z,Z,Z,Z,Z,Z] HT_ (h := ?_)
              refine pP 10 59 #[Y,Y,Z,Z,Y,Y,Y,Y,Z,Z,Y,Z,Z,Z,Z] HT_ (h := ?_)
              refine pP 11 60 #[Y,Y,Z,Z,Y,Y,Y,Y,Z,Z,Y,Y,Z,Z,Z] HT_ (h := ?_)
              refine tP 2 51 #[Y,Y,Y,Z,Y,Y,Y,Y,Z,Z,Y,Y,Z,Z,Z] HT_ HW_ hHeld (hy := by refine Or.inl ⟨by rfl, ?_⟩; intro w' s0; go_simp; with_reducible rfl) (h := ?_)
              refine pP 3 52 #[Y,Y,Y,Y,Y,Y,Y,Y,Z,Z,Y,Y,Z,Z,Z] HT_ (h := ?_)
              refine one_ (i := 8) (N := some 57) #[Y,Y,Y,Y,Y,Y,Y,Y,Y,Z,Y,Y,Z,Z,Z] rfl rfl (one_of HT_.out (by kernel_rfl)) (by decide) (fun K hK => ?_)
              refine goes_ Try.func45 (by kernel_rfl) rfl #[.slice A42 y282.length c42] (by rfl) rfl rfl (by (try simp only [List.map_toArray, List.map_cons, List.map_nil]); first | done | rfl | (simp only [b', c']; rfl)) ?_
              with_reducible refine (fanlightref04_Copied.calls _ _ y282 t286 _ ?side1 ?side2 A31.out).mono ?_
              (case side1 => exact Kd.eC HR285 HB)
              (case side2 => exact HC285.out)
              rintro e w43 ⟨v287, rfl, ho0, hb⟩
              refine ⟨_, rfl, ?_⟩
              have n0_ := d' (Kd.R_elder' (Kd.eR HO280) (Kd.R_base ho0) hb)
              have n1_ := d' (Kd.R_lower (Kd.R_new' ho0 (Kd.R_lt (Kd.eR HO280))) (below_size (eH HB)))
              have n2_ := bB BK265 hb
              have n3_ := d' (below_step (eH HB) hb)
              clear HO280
              clear BK265
              clear HB
              have HO280 := n0_
              have HO288 := n1_
              have BK265 := n2_
              have HB := n3_
              clear n0_ n1_ n2_ n3_
              (try clear hb)
              (try clear hb2)
              (try clear hk)
              (try clear hi)
              (try clear ho0)
              obtain ⟨Ao44, co44, eo44⟩ := Kd.R_slice HO288.out
              (first | subst eo44 | (injection eo44 with f1_ f2_ f3_; have f4_ := f1_.symm; have f5_ := f3_.symm; clear f1_ f2_ f3_; subst f4_; subst f5_))
              refine hK.out _ _ (((HB.out.cell (World.block_lt_of_cell? w _ hw281_0)).trans hw281_0)) (fun hHeld => ?_)
              clear hK K
              refine norm_ (a' := ?_) ?_ ?_
              rotate_left
              ·
               show Act.put _ (some 57) _ = _
               exact uP
              refine pP 9 58 #[Y,Y,Y,Y,Y,Y,Y,Y,Y,Y,Y,Y,Z,Z,Z] HT_ (h := ?_)
              refine one_ (i := 12) (N := none) #[Y,Y,Y,Y,Y,Y,Y,Y,Y,Y,Y,Y,Y,Z,Z] rfl rfl (one_of HT_.out (by kernel_rfl)) (by decide) (fun K hK => ?_)
              have hs45 : w43.cell? ⟨gb265, 0, none⟩ = some (.int .i64 0) := (blk_cell BK265.out 0).trans rfl
              have hfs45 := blk_frozen BK265.out 0
              have hs46 : w43.cell? ⟨gb265, 1, none⟩ = some (.slice none 0 0) := (blk_cell BK265.out 1).trans rfl
              have hfs46 := blk_frozen BK265.out 1
              refine skip_ (w1 := ?_) (by rfl) rfl ?_ ?_
              rotate_left
              ·
               go_simp
               rfl
              refine hK.out _ _ (((cell_far (p := ⟨gb265, _, none⟩) (by first | exact Nat.ne_of_lt (Nat.lt_of_lt_of_le (by have := World.block_lt_of_cell? _ _ hw281_0; first | rwa [add_block] at this | exact this) GW265.out) | (rw [add_block]; exact Nat.ne_of_lt (Nat.lt_of_lt_of_le (by have := World.block_lt_of_cell? _ _ hw281_0; first | rwa [add_block] at this | exact this) GW265.out)) | (show (Addr.add _ _).block ≠ _; rw [add_block]; exact Nat.ne_of_lt (Nat.lt_of_lt_of_le (by have := World.block_lt_of_cell? _ _ hw281_0; first | rwa [add_block] at this | exact this) GW265.out)) | (dsimp only; exact Nat.ne_of_lt (Nat.lt_of_lt_of_le (by have := World.block_lt_of_cell? _ _ hw281_0; first | rwa [add_block] at this | exact this) GW265.out))) _).trans (((cell_far (p := ⟨gb265, _, none⟩) (by first | exact Nat.ne_of_lt (Nat.lt_of_lt_of_le (by have := World.block_lt_of_cell? _ _ hw281_0; first | rwa [add_block] at this | exact this) GW265.out) | (rw [add_block]; exact Nat.ne_of_lt (Nat.lt_of_lt_of_le (by have := World.block_lt_of_cell? _ _ hw281_0; first | rwa [add_block] at this | exact this) GW265.out)) | (show (Addr.add _ _).block ≠ _; rw [add_block]; exact Nat.ne_of_lt (Nat.lt_of_lt_of_le (by have := World.block_lt_of_cell? _ _ hw281_0; first | rwa [add_block] at this | exact this) GW265.out)) | (dsimp only; exact Nat.ne_of_lt (Nat.lt_of_lt_of_le (by have := World.block_lt_of_cell? _ _ hw281_0; first | rwa [add_block] at this | exact this) GW265.out))) _).trans (hHeld))))) (fun hHeld => ?_)
              clear hK K
              refine pP 13 3 #[Y,Y,Y,Y,Y,Y,Y,Y,Y,Y,Y,Y,Y,Y,Z] HT_ (h := ?_)
              refine pP 14 4 #[Y,Y,Y,Y,Y,Y,Y,Y,Y,Y,Y,Y,Y,Y,Y] HT_ (h := ?_)
              refine done_ (done_of HT_.out (by kernel_rfl)) ?_
              try go_wp2
              refine bodyPost_ret (results_ctt rfl _ _ gb265 89 #[.int .i64 (wrap64 (rd l0 0)), .slice Ao44 t286.length co44] (0, 0) _ rfl (by refine eK ?_; refine blk_put (cs := #[.int .i64 (wrap64 (rd l0 0)), .slice none 0 0]) ?_ 1 _ rfl; refine eK ?_; refine blk_put (cs := #[.int .i64 0, .slice none 0 0]) ?_ 0 _ rfl; refine eK ?_; exact BK265.out) Try.underlying89 rfl (by kernel_rfl)) rfl ?_
              exact ⟨_, by first | rfl | (simp [errW_none, errW_some] <;> rfl) | (simp only [← hji20]; first | rfl | (simp [errW_none, errW_some] <;> rfl)) | (simp [*, errW_none, errW_some] <;> rfl), by (with_reducible repeat (first | apply Kd.R_alloc | apply Kd.R_drewN | apply Kd.R_drew)); exact Kd.R_mono (Kd.R_far (p := ⟨gb265, 1, none⟩) (Kd.R_far (p := ⟨gb265, 0, none⟩) (Kd.R_types HO288.out BK265.out (by decide)) (fun _ hk => hk.2) (.int .i64 (wrap64 (rd l0 0)))) (fun _ hk => hk.2) (.slice Ao44 t286.length co44)) (fun _ hk => trivial), eH HB⟩
             ·
              rw [if_neg c29] at H
              exact absurd H (by simp)
            ·
             rw [if_neg c28] at H
             have c28b0 := beq_eq_false_iff_ne.mpr c28
             have c28b1 := bne_iff_ne.mpr c28
             simp only [Option.some.injEq, Prod.mk.injEq] at H
             obtain ⟨rfl, rfl, rfl, rfl⟩ := H
             go_enter Try.func48, Try.ntmps48
             try go_wp2_with (first | ((with_reducible refine gate_dst (N := 2) rfl ?_); refine box_event ?hg (N := 2) ?hd (cs := #[.int .i64 0, .slice none 0 0]) (t := 89) ?hr ?_; (case hd => rfl); (case hg => rfl); (case hr => go_simp <;> rfl); intro gb265 hg w47 hbox hb; have n0_ := d' (below_step (eH HB) hb); have n1_ := d' (hbox); have n2_ := d' ((by rw [hg]; exact (below_size (eH HB)) : w.heap.size ≤ gb265)); have n3_ := d' ((by rw [hg]; exact (below_size (eH HB)) : w.heap.size ≤ gb265)); clear HB; have HB := n0_; have BK265 := n1_; have GW265 := n2_; have GE265 := n3_; clear n0_ n1_ n2_ n3_; clear hb hbox hg; have p266 : 0 ≤ (0 : Int) := (by omega); have q266 : 0 < (l0.length : Int) := oD; obtain ⟨ad266, e266, hx266_0⟩ := Kd.at_int HR0.out 0 p266 q266; cases e266; have qi266 : (0 < l0.length) = True := eq_true (by omega); (try rw [show ((0 : Int)).toNat = 0 from rfl] at hx266_0); (try rw [Addr.add_zero'] at hx266_0); replace hx266_0 := (HB.out.cell (World.block_lt_of_cell? w _ hx266_0)).trans hx266_0; replace p266 := eq_true p266; replace q266 := eq_true q266; have q48 : (4 : Int) ≤ ((l0.length : Int) : Int) := oD; obtain ⟨i048, hi048, _, hsz48, _⟩ := info_parts info5; have hroom48 : l0.length ≤ c0 := HC0.out; have hC48 : Kd.C (Kd.int .u8) _ (some ad266) l0.length l0 := HR0.out; have ql48 : (1 : Int) ≤ (4 : Int) := (by omega); have hcut48 := cut_mid (P := Try.prog) 25 5 .i64 .i64 Try.underlying25 hi048 1 hsz48 (some ad266) l0.length c0 1 4 (by omega) ql48 q48 hroom48; have hr48 := Kd.C_mid (lo := (1 : Int).toNat) (hi := (4 : Int).toNat) (c := c0) hC48 (by omega) (by omega) hroom48; obtain ⟨A48, hA48⟩ : ∃ A1, A1 = (if c0 = (1 : Int).toNat then (some ad266) else ((some ad266) : Option Addr).map (·.add ((1 : Int).toNat * 1))) := ⟨_, rfl⟩; obtain ⟨c48, hc48⟩ : ∃ c1, c1 = c0 - (1 : Int).toNat := ⟨_, rfl⟩; have hy48 : y267.length = (4 : Int).toNat - (1 : Int).toNat := (by rw [Ny267.out, b', c'] <;> omega); rw [show ((l0).take (4 : Int).toNat).drop (1 : Int).toNat = y267 from Ny267.out.symm] at hr48; replace hr48 : Kd.C (Kd.int .u8) _ A48 y267.length y267 := (by rw [hA48]; exact hr48); rw [← hy48, ← hA48, ← hc48] at hcut48; have HR270 := d' hr48; have HC270 := d' (show y267.length ≤ c48 from by rw [hy48, hc48]; exact Nat.sub_le_sub_right (Nat.le_trans (by omega) hroom48) _); clear hr48 hC48 hroom48 hi048 hsz48 hc48; have KY48 := d' hy48; have KA48 := d' hA48; clear hy48 hA48; replace q48 := eq_true q48) | ((with_reducible refine gate_callee (f := 49) rfl ?_); refine gL 19 Try.func49 #[.slice A48 y267.length c48] (h := ?_); (with_reducible refine (fanlightref03_Number.calls k _ _ y267 t271 _ ?side1 ?side2 A11.out).mono ?_); (case side1 => exact Kd.eC HR270 HB); (case side2 => exact HC270.out); rintro e w' ⟨rfl, ⟨nd, rfl⟩⟩; refine ⟨_, rfl, ?_⟩; (try (rw [drewN_self w47]; generalize hq_ : World.drewN w47 _ = w47; have n0_ : Aside0 (w47.heap[gb265]? = some (.cells #[.int .i64 0, .slice none 0 0] 89 (0, 0))) := ⟨by rw [← hq_]; exact (eB BK265)⟩; have n1_ : Aside0 (Below w.heap.size w w47) := ⟨by rw [← hq_]; exact (eH HB)⟩; clear BK265 HB hq_; have BK265 := n0_; have HB := n1_; clear n0_ n1_))))
             have n0_ := d' (blk_drew BK265.out)
             have n1_ := d' (below_drew1 HB.out)
             clear BK265
             clear HB
             have BK265 := n0_
             have HB := n1_
             clear n0_ n1_
             obtain ⟨i050, hi050, _, hsz50, _⟩ := info_parts info5
             obtain ⟨A50, hcut50, hA50, hC50⟩ := print_mid_of (P := Try.prog) (Value.int .u8) 0 25 5 .i64 .i64 Try.underlying25 hi050 hsz50 (some ad266) c0 l0 (ji20) (wrap64 (8 + (wrap64 (t271)))) (oD) (by first | omega | exact oD) (oD) HC0.out
             have HR272 := d' (Kd.C_of_reads (h1 := fun _ => rfl) (hA50 _ (Kd.reads_of_C HR0.out)))
             have HC272 := d' hC50
             clear hA50 hC50 hi050 hsz50
             have q51 : ((ji20) : Int) ≤ ((l0.length : Int) : Int) := oD
             obtain ⟨i051, hi051, _, hsz51, _⟩ := info_parts info5
             have hroom51 : l0.length ≤ c0 := HC0.out
             have hC51 : Kd.C (Kd.int .u8) _ (some ad266) l0.length l0 := HR0.out
             have hcut51 := cut_to (P := Try.prog) 25 5 .i64 Try.underlying25 hi051 (some ad266) l0.length c0 (ji20) (oD) q51 hroom51
             have hr51 := Kd.C_take (m := ((ji20) : Int).toNat) hC51 (by omega)
             have hy51 : y273.length = ((ji20) : Int).toNat := (by rw [Ny273.out, c']; omega)
             rw [← Ny273.out] at hr51
             rw [← hy51] at hcut51
             have HR276 := d' hr51
             have HC276 := d' (show y273.length ≤ c0 from by omega)
             clear hr51 hC51 hroom51 hi051 hsz51
             have KY51 := d' hy51
             clear hy51
             replace q51 := eq_true q51
             have hcv52 := Kd.C_string (P := Try.prog) (A := A50) (c := (c0 - (ji20).toNat)) Try.underlying25 Try.underlying5 Try.underlying9 (Kd.C_below HR272.out HB.out)
             refine start_ (n := 16) (S := fun w' => Kd.C (Kd.int .u8) w' A50 _ _) (ds := []) #[Z,Z,Z,Z,Z,Z,Z,Z,Z,Z,Z,Z,Z,Z,Z,Z] (by kernel_rfl) rfl rfl (by first | exact (Kd.C_below HR272.out HB.out) | exact Kd.C_drew (Kd.C_below HR272.out HB.out)) (fun hHeld => ?_); refine with_tabW fanlightref04_Get.tab10 fanlightref04_Get.bits10 (fun HT_ HW_ => ?_)
             generalize w47.drew = w49 at BK265 HB HR272 HR276 hHeld ⊢
             refine pP 0 33 #[Y,Z,Z,Z,Z,Z,Z,Z,Z,Z,Z,Z,Z,Z,Z,Z] HT_ (h := ?_)
             refine pP 1 34 #[Y,Y,Z,Z,Z,Z,Z,Z,Z,Z,Z,Z,Z,Z,Z,Z] HT_ (h := ?_)
             refine pP 2 35 #[Y,Y,Y,Z,Z,Z,Z,Z,Z,Z,Z,Z,Z,Z,Z,Z] HT_ (h := ?_)
             refine pP 3 36 #[Y,Y,Y,Y,Z,Z,Z,Z,Z,Z,Z,Z,Z,Z,Z,Z] HT_ (h := ?_)
             refine pP 4 37 #[Y,Y,Y,Y,Y,Z,Z,Z,Z,Z,Z,Z,Z,Z,Z,Z] HT_ (h := ?_)
             refine pP 5 38 #[Y,Y,Y,Y,Y,Y,Z,Z,Z,Z,Z,Z,Z,Z,Z,Z] HT_ (h := ?_)
             refine take_ (i := 6) (N := some 39) (v := ?_) (a' := ?_) #[Y,Y,Y,Y,Y,Y,Y,Z,Z,Z,Z,Z,Z,Z,Z,Z] rfl rfl (take_ofW HT_.out HW_.out (by kernel_rfl)) (fun _ _ _ h => h) (Or.inl ⟨by rfl, ?_⟩) hHeld ?_ ?_
             rotate_left
             ·
              intro w' s0
              have hcvS := Kd.C_string (P := Try.prog) (A := A50) (c := (c0 - (ji20).toNat)) Try.underlying25 Try.underlying5 Try.underlying9 s0
              (try rw [b', c', Nat.min_eq_left (by omega)] at hcvS)
              go_simp
              with_reducible rfl
             rotate_left
             ·
              exact uP
             refine pP 7 40 #[Y,Y,Y,Y,Y,Y,Y,Y,Z,Z,Z,Z,Z,Z,Z,Z] HT_ (h := ?_)
             refine pP 8 41 #[Y,Y,Y,Y,Y,Y,Y,Y,Y,Z,Z,Z,Z,Z,Z,Z] HT_ (h := ?_)
             refine pP 9 42 #[Y,Y,Y,Y,Y,Y,Y,Y,Y,Y,Z,Z,Z,Z,Z,Z] HT_ (h := ?_)
             refine pP 10 43 #[Y,Y,Y,Y,Y,Y,Y,Y,Y,Y,Y,Z,Z,Z,Z,Z] HT_ (h := ?_)
             refine one_ (i := 11) (N := some 44) #[Y,Y,Y,Y,Y,Y,Y,Y,Y,Y,Y,Y,Z,Z,Z,Z] rfl rfl (one_of HT_.out (by kernel_rfl)) (by decide) (fun K hK => ?_)
             refine goes_ Try.func55 (by kernel_rfl) rfl #[.slice (some ad266) y273.length c0] (by rfl) rfl rfl (by (try simp only [List.map_toArray, List.map_cons, List.map_nil]); first | done | rfl | (simp only [b', c']; rfl)) ?_
             with_reducible refine (fanlightref04_Sum.calls k _ _ y273 t277 _ ?side1 ?side2 A26.out).mono ?_
             (case side1 => exact Kd.eC HR276 HB)
             (case side2 => exact HC276.out)
             rintro e w' ⟨rfl, ⟨nd, rfl⟩⟩
             refine ⟨_, rfl, ?_⟩
             refine hK.out _ _ (by first | assumption | ((with_reducible repeat (first | refine Kd.C_drewN ?_ _ | refine Kd.C_drew ?_ | refine Kd.C_alloc ?_ _)); first | exact hHeld | exact (Kd.C_below HR272.out HB.out))) (fun hHeld => ?_)
             clear hK K
             refine norm_ (a' := ?_) ?_ ?_
             rotate_left
             ·
              show Act.put _ (some 44) _ = _
              exact uP
             refine one_ (i := 12) (N := some 45) #[Y,Y,Y,Y,Y,Y,Y,Y,Y,Y,Y,Y,Y,Z,Z,Z] rfl rfl (one_of HT_.out (by kernel_rfl)) (by decide) (fun K hK => ?_)
             refine goes_ Try.func54 (by kernel_rfl) rfl #[.int .u32 t277] (by rfl) rfl rfl (by (try simp only [List.map_toArray, List.map_cons, List.map_nil]); first | done | rfl | (simp only [b', c']; rfl)) ?_
             with_reducible refine (fanlightref04_laid.calls t277 t278 _ A27.out).mono ?_
             rintro e w53 ⟨v279, rfl, ho0, hb⟩
             refine ⟨_, rfl, ?_⟩
             have n0_ := d' (Kd.R_lower ho0 (below_size (eH HB)))
             have n1_ := bB BK265 hb
             have n2_ := d' (below_step (eH HB) hb)
             clear BK265
             clear HB
             have HO280 := n0_
             have BK265 := n1_
             have HB := n2_
             clear n0_ n1_ n2_
             (try clear hb)
             (try clear hb2)
             (try clear hk)
             (try clear hi)
             (try clear ho0)
             refine hK.out _ _ (by first | assumption | ((with_reducible repeat (first | refine Kd.C_drewN ?_ _ | refine Kd.C_drew ?_ | refine Kd.C_alloc ?_ _)); first | exact hHeld | exact (Kd.C_below HR272.out HB.out))) (fun hHeld => ?_)
             clear hK K
             refine norm_ (a' := ?_) ?_ ?_
             rotate_left
             ·
              show Act.put _ (some 45) _ = _
              exact uP
             refine one_ (i := 13) (N := some 46) #[Y,Y,Y,Y,Y,Y,Y,Y,Y,Y,Y,Y,Y,Y,Z,Z] rfl rfl (one_of HT_.out (by kernel_rfl)) (by decide) (fun K hK => ?_)
             have hcv54 := own_string (P := Try.prog) Try.underlying25 Try.underlying5 Try.underlying9 (Kd.own_of_R HO280.out)
             refine value_ (w1 := ?_) (v := ?_) (by rfl) rfl ?_ ?_
             rotate_left 2
             ·
              go_simp
              constructor
              ·
               rfl
              ·
               rfl
             clear hcv54
             refine hK.out _ _ (by first | assumption | ((with_reducible repeat (first | refine Kd.C_drewN ?_ _ | refine Kd.C_drew ?_ | refine Kd.C_alloc ?_ _)); first | exact hHeld | exact (Kd.C_below HR272.out HB.out))) (fun hHeld => ?_)
             clear hK K
             refine norm_ (a' := ?_) ?_ ?_
             rotate_left
             ·
              show Act.put _ (some 46) _ = _
              exact uP
             refine pP 14 47 #[Y,Y,Y,Y,Y,Y,Y,Y,Y,Y,Y,Y,Y,Y,Y,Z] HT_ (h := ?_)
             refine pP 15 32 #[Y,Y,Y,Y,Y,Y,Y,Y,Y,Y,Y,Y,Y,Y,Y,Y] HT_ (h := ?_)
             refine done_ (done_of HT_.out (by kernel_rfl)) ?_
             have hcz56_0 := bC BK265 0 (.int .i64 0)
             have hcz56_1 := bC BK265 1 (.slice none 0 0)
             have hfz56_0 := blk_frozen BK265.out 0
             have hfz56_1 := blk_frozen BK265.out 1
             try go_wp2
             refine bodyPost_ret (results_ctt rfl _ _ gb265 89 #[.int .i64 0, .slice none 0 0] (0, 0) _ rfl (by refine eK ?_; refine blk_put (cs := #[.int .i64 0, .slice none 0 0]) ?_ 1 _ rfl; refine eK ?_; refine blk_put (cs := #[.int .i64 0, .slice none 0 0]) ?_ 0 _ rfl; refine eK ?_; exact BK265.out) Try.underlying89 rfl (by kernel_rfl)) rfl ?_
             exact ⟨_, by first | rfl | (simp [errW_none, errW_some] <;> rfl) | (simp only [← hji20]; first | rfl | (simp [errW_none, errW_some] <;> rfl)) | (simp [*, errW_none, errW_some] <;> rfl), by first | exact Kd.R_nil _ _ _ _ _ | exact Kd.N_nil _ _ _ _ _ | exact Kd.V_nil _ _ _ _ _ | exact Kd.Q_nil _ _ _ _ _ | exact Kd.S_nil _ _ _ _ _, eH HB⟩
           ·
            rw [if_neg c25] at H
            exact absurd H (by simp)
          ·
           rw [if_neg c23] at H
           exact absurd H (by simp)
         ·
          rw [if_neg c22] at H
          exact absurd H (by simp)
        ·
         rw [if_neg c21] at H
         exact absurd H (by simp)
     ·
      rw [if_neg c10] at H
      exact absurd H (by simp)
    ·
     rw [if_neg c9] at H
     exact absurd H (by simp)
  ·
   rw [if_neg c5] at H
   exact absurd H (by simp)
end Go.Proofs.Ytgmkgobapeencaa.S
