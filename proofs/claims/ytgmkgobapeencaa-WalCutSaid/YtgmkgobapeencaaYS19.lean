import Derived.Test.YtgmkgobapeencaaYS2
import Derived.Test.YtgmkgobapeencaaYAid3
import Derived.Test.YtgmkgobapeencaaYS17
import Derived.Test.YtgmkgobapeencaaYS18
namespace Go.Proofs.Ytgmkgobapeencaa.S
open Go.Proofs.YtgmkgobapeencaaW.PrintWords renaming below_size → a', blk_frozen → b', below_step → c'
open Go.Proofs.YtgmkgobapeencaaW.PrintWords.Aside0 renaming mk → d'
open Go.RowKit Go.Proofs.YtgmkgobapeencaaW.PrintWords Go.Proofs.YtgmkgobapeencaaW.PrintLast Go.Proofs.YtgmkgobapeencaaW.PrintMore
attribute [local go_sem] max2_int min2_int max_two min_two max_three min_three max_four min_four   -- for this text's walks alone
set_option linter.unusedVariables false
set_option linter.unusedSimpArgs false
def fanlightref06_Scan.l0 : Nat → List Int → Int → List (S57) → Int → Option ((List (S57)) × Int)
 | 0, _, _, _, _ => none
 | k + 1, x0, x1, x6, x7 => if 0 ≤ x7 then (if x7 ≤ (x0.length : Int) then ((fanlightref04_Get.f k (x0.drop (x7 : Int).toNat)).bind fun bt293 => (if bt293.2.2.2 = 0 then (if bt293.1 = 2 then (if (bt293.2.1.length : Int) < 8 then (some (x6, x7)) else (if (bt293.2.1.length : Int) > 408 then (some (x6, x7)) else (if x1 < 0 then (some (x6, x7)) else (if 8 ≤ (bt293.2.1.length : Int) then ((fanlightref03_Number.f k (bt293.2.1.take 8)).bind fun t304 => (if t304 = (IntKind.u64.wrap (x1)) then ((fanlightref04_Copied.f (bt293.2.1.drop 8)).bind fun t309 => (if x6.length < 4398046511104 then (fanlightref06_Scan.l0 k x0 (wrap64 (x1 + 1)) (x6 ++ [(⟨x1, t309⟩ : S57)]) (wrap64 (x7 + bt293.2.2.1))) else (none))) else (some (x6, x7)))) else (none))))) else (some (x6, x7))) else (some (x6, x7)))) else (none)) else (none)
def fanlightref06_Scan.f (k : Nat) (l0 : List Int) (a1 : Int) : Option ((List (S57)) × Int) := fanlightref06_Scan.l0 k l0 a1 ([] : List (S57)) 0
theorem fanlightref06_Scan.mono_l : ∀ k, (∀ y0 y1 y2 y3, LeO (fanlightref06_Scan.l0 k y0 y1 y2 y3) (fanlightref06_Scan.l0 (k + 1) y0 y1 y2 y3))
 | 0 => fun _ _ _ _ r h => by simp [fanlightref06_Scan.l0] at h
 | k + 1 => by
  have ih0 := fanlightref06_Scan.mono_l k
  ·
   intro y0 y1 y2 y3
   unfold fanlightref06_Scan.l0
   repeat' first
   | (with_reducible exact ih0 _ _ _ _)
   | (with_reducible exact fanlightref03_Number.mono _ _)
   | (with_reducible exact fanlightref04_Get.mono _ _)
   | with_reducible first | exact LeO.refl _ | exact LeO.none _ | refine LeO.ite ?_ ?_ | refine LeO.bind ?_ fun _ => ?_
theorem fanlightref06_Scan.mono : ∀ a0 a1 k, LeO (fanlightref06_Scan.f k a0 a1) (fanlightref06_Scan.f (k + 1) a0 a1) := by
 intro a0 a1 k
 have ih0 := fanlightref06_Scan.mono_l k
 unfold fanlightref06_Scan.f
 repeat' first
   | (with_reducible exact ih0 _ _ _ _)
   | (with_reducible exact fanlightref03_Number.mono _ _)
   | (with_reducible exact fanlightref04_Get.mono _ _)
   | with_reducible first | exact LeO.refl _ | exact LeO.none _ | refine LeO.ite ?_ ?_ | refine LeO.bind ?_ fun _ => ?_
set_option maxHeartbeats 8000000 in
set_option maxRecDepth 100000 in
theorem fanlightref06_Scan.calls (k : Nat) (A0 : Option Addr) (c0 : Nat) (l0 : List Int) (a1 : Int) (r1 : List (S57)) (r2 : Int) (w : World) (hr0 : Kd.C (Kd.int .u8) w A0 l0.length l0) (hc0 : l0.length ≤ c0) (h : fanlightref06_Scan.f k l0 a1 = some (r1, r2)) :
  Calls Try.prog 33 #[.slice A0 l0.length c0, .int .i64 a1] w fun e w' => ∃ v0_ : Value, e = .returned (.tuple #[v0_, .int .i64 r2]) ∧ Kd.S k57 57 w' w.heap.size (fun _ => True) v0_ r1 ∧ Below w.heap.size w w' := by
 have hu89 := Try.underlying89
 have hu57 := Try.underlying57
 have HR0 := d' hr0
 have HC0 := d' hc0
 clear hr0 hc0
 have HB := d' (Below.refl w.heap.size w)
 have H : (fanlightref06_Scan.l0 k l0 a1 ([] : List (S57)) 0) = some (r1, r2) := h
 clear h
 have H' := d' H
 clear H
 go_enter Try.func33, Try.ntmps33
 go_wp2
 go_loopg [1, 6, 7] k (fun kq v1 v6 v7 w' => ∃ (x1_1 : Int) (x6_1 : List (S57)) (x7_1 : Int), v1 = .int .i64 x1_1 ∧ v7 = .int .i64 x7_1 ∧ Aside0 (fanlightref06_Scan.l0 kq l0 x1_1 x6_1 x7_1 = some (r1, r2)) ∧ Aside0 (kq ≤ k) ∧ Aside0 (Kd.S k57 57 w' w.heap.size (fun _ => True) v6 x6_1) ∧ Aside0 (Below w.heap.size w w'))
 case atStart => exact ⟨(a1), (([] : List (S57))), (0), rS, rS, H', ⟨Nat.le_refl _⟩, ⟨nS⟩, ⟨eH HB⟩⟩
 case round =>
  clear H'
  try clear p2
  obtain ⟨x1_1, x6_1, x7_1, rfl, rfl, HA, HK1, HO_6, HB⟩ := hrel
  cases gk with
  | zero => exact absurd HA.out (by simp [fanlightref06_Scan.l0])
  | succ k1 =>
   have H := HA.out
   clear HA
   simp only [fanlightref06_Scan.l0] at H
   by_cases c3 : 0 ≤ x7_1
   ·
    rw [if_pos c3] at H
    have c3b0 := eq_true c3
    have c3b1 := decide_eq_true c3
    clear c3
    by_cases c4 : x7_1 ≤ (l0.length : Int)
    ·
     rw [if_pos c4] at H
     have c4b0 := eq_true c4
     have c4b1 := decide_eq_true c4
     clear c4
     obtain ⟨y289, hy289⟩ : ∃ y_ : List Int, y_ = (l0.drop (x7_1 : Int).toNat) := ⟨_, rfl⟩
     replace H : ((fanlightref04_Get.f k1 y289).bind fun bt293 => (if bt293.2.2.2 = 0 then (if bt293.1 = 2 then (if (bt293.2.1.length : Int) < 8 then (some (x6_1, x7_1)) else (if (bt293.2.1.length : Int) > 408 then (some (x6_1, x7_1)) else (if x1_1 < 0 then (some (x6_1, x7_1)) else (if 8 ≤ (bt293.2.1.length : Int) then ((fanlightref03_Number.f k1 (bt293.2.1.take 8)).bind fun t304 => (if t304 = (IntKind.u64.wrap (x1_1)) then ((fanlightref04_Copied.f (bt293.2.1.drop 8)).bind fun t309 => (if x6_1.length < 4398046511104 then (fanlightref06_Scan.l0 k1 l0 (wrap64 (x1_1 + 1)) (x6_1 ++ [(⟨x1_1, t309⟩ : S57)]) (wrap64 (x7_1 + bt293.2.2.1))) else (none))) else (some (x6_1, x7_1)))) else (none))))) else (some (x6_1, x7_1))) else (some (x6_1, x7_1)))) = some (r1, r2) := by rw [hy289]; exact H
     have Ny289 := d' hy289
     clear hy289
     replace H := Option.bind_eq_some_iff.mp H
     obtain ⟨⟨t293, t294, t297, t298⟩, A50, H⟩ := H
     (try dsimp only at H)
     have A5 := d' A50
     clear A50
     by_cases c6 : t298 = 0
     ·
      rw [if_pos c6] at H
      have c6b0 := beq_iff_eq.mpr c6
      have c6b1 := bne_eq_false_iff_eq.mpr c6
      clear c6
      by_cases c7 : t293 = 2
      ·
       rw [if_pos c7] at H
       have c7b0 := beq_iff_eq.mpr c7
       have c7b1 := bne_eq_false_iff_eq.mpr c7
       clear c7
       by_cases c8 : (t294.length : Int) < 8
       ·
        rw [if_pos c8] at H
        have c8b0 := decide_eq_true c8
        have c8b1 : decide (t294.length < 8) = true := decide_eq_true (by omega)
        clear c8
        simp only [Option.some.injEq, Prod.mk.injEq] at H
        obtain ⟨rfl, rfl⟩ := H
        have q9 : (x7_1 : Int) ≤ ((l0.length : Int) : Int) := oD
        obtain ⟨i09, hi09, _, hsz9, _⟩ := info_parts info5
        have hroom9 : l0.length ≤ c0 := HC0.out
        have hC9 : Kd.C (Kd.int .u8) _ A0 l0.length l0 := HR0.out
        have q09 : (0 : Int) ≤ (x7_1 : Int) := oD
        have hcut9 := cut_from (P := Try.prog) 25 5 .i64 Try.underlying25 hi09 1 hsz9 A0 l0.length c0 x7_1 q09 q9
        have hr9 := Kd.C_drop (m := (x7_1 : Int).toNat) (c := c0) hC9 (by omega) hroom9
        obtain ⟨A9, hA9⟩ : ∃ A1, A1 = (if c0 = (x7_1 : Int).toNat then A0 else (A0 : Option Addr).map (·.add ((x7_1 : Int).toNat * 1))) := ⟨_, rfl⟩
        obtain ⟨c9, hc9⟩ : ∃ c1, c1 = c0 - (x7_1 : Int).toNat := ⟨_, rfl⟩
        have hy9 : y289.length = l0.length - (x7_1 : Int).toNat := (by rw [Ny289.out, List.length_drop] <;> omega)
        rw [show (l0).drop (x7_1 : Int).toNat = y289 from Ny289.out.symm] at hr9
        replace hr9 : Kd.C (Kd.int .u8) _ A9 y289.length y289 := (by rw [hA9]; exact hr9)
        rw [← hy9, ← hA9, ← hc9] at hcut9
        have HR292 := d' hr9
        have HC292 := d' (show y289.length ≤ c9 from by rw [hy9, hc9]; exact Nat.sub_le_sub_right hroom9 _)
        clear hr9 hC9 hroom9 hi09 hsz9 hc9
        have KY9 := d' hy9
        have KA9 := d' hA9
        clear hy9 hA9
        replace q9 := eq_true q9
        go_wp2_with (first | ((with_reducible refine gate_callee (f := 48) rfl ?_); refine gL 15 Try.func48 #[.slice A9 y289.length c9] (h := ?_); (with_reducible refine (fanlightref04_Get.calls k1 _ _ y289 t293 t294 t297 t298 _ ?side1 ?side2 A5.out).mono ?_); (case side1 => exact Kd.eC HR292 HB); (case side2 => exact HC292.out); rintro e w10 ⟨v295, rfl, ho0, hb⟩; refine ⟨_, rfl, ?_⟩; have n0_ := d' (Kd.S_elder' (Kd.eS HO_6) (Kd.R_base ho0) hb); have n1_ := d' (Kd.R_lower ho0 (a' (eH HB))); have n2_ := d' (c' (eH HB) hb); clear HO_6; clear HB; have HO_6 := n0_; have HO296 := n1_; have HB := n2_; clear n0_ n1_ n2_; (try clear hb); (try clear hb2); (try clear hk); (try clear hi); (try clear ho0)) | ((with_reducible refine gate_dst (N := 8) rfl ?_); (try (refine gate_guard (by rfl) ?_; dsimp only)); refine box_event ?hg (N := 8) ?hd (cs := #[.int .i64 0, .slice none 0 0]) (t := 89) ?hr ?_; (case hd => rfl); (case hg => rfl); (case hr => go_simp <;> rfl); intro gb299 hg w11 hbox hb; have n0_ := d' (Kd.S_below (Kd.eS HO_6) hb); have n1_ := d' (Kd.R_below (Kd.eR HO296) hb); have n2_ := d' (c' (eH HB) hb); have n3_ := d' (hbox); have n4_ := d' ((by rw [hg]; exact (a' (eH HB)) : w.heap.size ≤ gb299)); have n5_ := d' ((by rw [hg]; exact (a' (eH HB)) : w.heap.size ≤ gb299)); clear HO_6; clear HO296; clear HB; have HO_6 := n0_; have HO296 := n1_; have HB := n2_; have BK299 := n3_; have GW299 := n4_; have GE299 := n5_; clear n0_ n1_ n2_ n3_ n4_ n5_; clear hb hbox hg; have hcz12_0 := bC BK299 0 (.int .i64 0); have hcz12_1 := bC BK299 1 (.slice none 0 0); have hfz12_0 := b' BK299.out 0; have hfz12_1 := b' BK299.out 1; obtain ⟨Ao13, co13, eo13⟩ := Kd.R_slice HO296.out; subst eo13))
        go_ret2
        exact ⟨_, eE, by (with_reducible repeat (first | apply Kd.S_alloc | apply Kd.S_drewN | apply Kd.S_drew)); exact Kd.S_mono (Kd.S_far (p := ⟨gb299, 1, none⟩) (Kd.S_far (p := ⟨gb299, 0, none⟩) (Kd.S_types HO_6.out BK299.out (by decide)) (fun _ hk => hk.2) (.int .i64 t293)) (fun _ hk => hk.2) (.slice Ao13 t294.length co13)) (fun _ hk => trivial), eH HB⟩
       ·
        rw [if_neg c8] at H
        have c8b0 := decide_eq_false c8
        have c8b1 : decide (t294.length < 8) = false := decide_eq_false (by omega)
        clear c8
        by_cases c14 : (t294.length : Int) > 408
        ·
         rw [if_pos c14] at H
         have c14b0 := decide_eq_true c14
         have c14b1 : decide (408 < t294.length) = true := decide_eq_true (by omega)
         clear c14
         simp only [Option.some.injEq, Prod.mk.injEq] at H
         obtain ⟨rfl, rfl⟩ := H
         have q15 : (x7_1 : Int) ≤ ((l0.length : Int) : Int) := oD
         obtain ⟨i015, hi015, _, hsz15, _⟩ := info_parts info5
         have hroom15 : l0.length ≤ c0 := HC0.out
         have hC15 : Kd.C (Kd.int .u8) _ A0 l0.length l0 := HR0.out
         have q015 : (0 : Int) ≤ (x7_1 : Int) := oD
         have hcut15 := cut_from (P := Try.prog) 25 5 .i64 Try.underlying25 hi015 1 hsz15 A0 l0.length c0 x7_1 q015 q15
         have hr15 := Kd.C_drop (m := (x7_1 : Int).toNat) (c := c0) hC15 (by omega) hroom15
         obtain ⟨A15, hA15⟩ : ∃ A1, A1 = (if c0 = (x7_1 : Int).toNat then A0 else (A0 : Option Addr).map (·.add ((x7_1 : Int).toNat * 1))) := ⟨_, rfl⟩
         obtain ⟨c15, hc15⟩ : ∃ c1, c1 = c0 - (x7_1 : Int).toNat := ⟨_, rfl⟩
         have hy15 : y289.length = l0.length - (x7_1 : Int).toNat := (by rw [Ny289.out, List.length_drop] <;> omega)
         rw [show (l0).drop (x7_1 : Int).toNat = y289 from Ny289.out.symm] at hr15
         replace hr15 : Kd.C (Kd.int .u8) _ A15 y289.length y289 := (by rw [hA15]; exact hr15)
         rw [← hy15, ← hA15, ← hc15] at hcut15
         have HR292 := d' hr15
         have HC292 := d' (show y289.length ≤ c15 from by rw [hy15, hc15]; exact Nat.sub_le_sub_right hroom15 _)
         clear hr15 hC15 hroom15 hi015 hsz15 hc15
         have KY15 := d' hy15
         have KA15 := d' hA15
         clear hy15 hA15
         replace q15 := eq_true q15
         go_wp2_with (first | ((with_reducible refine gate_callee (f := 48) rfl ?_); refine gL 15 Try.func48 #[.slice A15 y289.length c15] (h := ?_); (with_reducible refine (fanlightref04_Get.calls k1 _ _ y289 t293 t294 t297 t298 _ ?side1 ?side2 A5.out).mono ?_); (case side1 => exact Kd.eC HR292 HB); (case side2 => exact HC292.out); rintro e w16 ⟨v295, rfl, ho0, hb⟩; refine ⟨_, rfl, ?_⟩; have n0_ := d' (Kd.S_elder' (Kd.eS HO_6) (Kd.R_base ho0) hb); have n1_ := d' (Kd.R_lower ho0 (a' (eH HB))); have n2_ := d' (c' (eH HB) hb); clear HO_6; clear HB; have HO_6 := n0_; have HO296 := n1_; have HB := n2_; clear n0_ n1_ n2_; (try clear hb); (try clear hb2); (try clear hk); (try clear hi); (try clear ho0)) | ((with_reducible refine gate_dst (N := 8) rfl ?_); (try (refine gate_guard (by rfl) ?_; dsimp only)); refine box_event ?hg (N := 8) ?hd (cs := #[.int .i64 0, .slice none 0 0]) (t := 89) ?hr ?_; (case hd => rfl); (case hg => rfl); (case hr => go_simp <;> rfl); intro gb299 hg w17 hbox hb; have n0_ := d' (Kd.S_below (Kd.eS HO_6) hb); have n1_ := d' (Kd.R_below (Kd.eR HO296) hb); have n2_ := d' (c' (eH HB) hb); have n3_ := d' (hbox); have n4_ := d' ((by rw [hg]; exact (a' (eH HB)) : w.heap.size ≤ gb299)); have n5_ := d' ((by rw [hg]; exact (a' (eH HB)) : w.heap.size ≤ gb299)); clear HO_6; clear HO296; clear HB; have HO_6 := n0_; have HO296 := n1_; have HB := n2_; have BK299 := n3_; have GW299 := n4_; have GE299 := n5_; clear n0_ n1_ n2_ n3_ n4_ n5_; clear hb hbox hg; have hcz18_0 := bC BK299 0 (.int .i64 0); have hcz18_1 := bC BK299 1 (.slice none 0 0); have hfz18_0 := b' BK299.out 0; have hfz18_1 := b' BK299.out 1; obtain ⟨Ao19, co19, eo19⟩ := Kd.R_slice HO296.out; subst eo19))
         go_ret2
         exact ⟨_, eE, by (with_reducible repeat (first | apply Kd.S_alloc | apply Kd.S_drewN | apply Kd.S_drew)); exact Kd.S_mono (Kd.S_far (p := ⟨gb299, 1, none⟩) (Kd.S_far (p := ⟨gb299, 0, none⟩) (Kd.S_types HO_6.out BK299.out (by decide)) (fun _ hk => hk.2) (.int .i64 t293)) (fun _ hk => hk.2) (.slice Ao19 t294.length co19)) (fun _ hk => trivial), eH HB⟩
        ·
         rw [if_neg c14] at H
         have c14b0 := decide_eq_false c14
         have c14b1 : decide (408 < t294.length) = false := decide_eq_false (by omega)
         clear c14
         by_cases c20 : x1_1 < 0
         ·
          rw [if_pos c20] at H
          have c20b0 := decide_eq_true c20
          clear c20
          simp only [Option.some.injEq, Prod.mk.injEq] at H
          obtain ⟨rfl, rfl⟩ := H
          have q21 : (x7_1 : Int) ≤ ((l0.length : Int) : Int) := oD
          obtain ⟨i021, hi021, _, hsz21, _⟩ := info_parts info5
          have hroom21 : l0.length ≤ c0 := HC0.out
          have hC21 : Kd.C (Kd.int .u8) _ A0 l0.length l0 := HR0.out
          have q021 : (0 : Int) ≤ (x7_1 : Int) := oD
          have hcut21 := cut_from (P := Try.prog) 25 5 .i64 Try.underlying25 hi021 1 hsz21 A0 l0.length c0 x7_1 q021 q21
          have hr21 := Kd.C_drop (m := (x7_1 : Int).toNat) (c := c0) hC21 (by omega) hroom21
          obtain ⟨A21, hA21⟩ : ∃ A1, A1 = (if c0 = (x7_1 : Int).toNat then A0 else (A0 : Option Addr).map (·.add ((x7_1 : Int).toNat * 1))) := ⟨_, rfl⟩
          obtain ⟨c21, hc21⟩ : ∃ c1, c1 = c0 - (x7_1 : Int).toNat := ⟨_, rfl⟩
          have hy21 : y289.length = l0.length - (x7_1 : Int).toNat := (by rw [Ny289.out, List.length_drop] <;> omega)
          rw [show (l0).drop (x7_1 : Int).toNat = y289 from Ny289.out.symm] at hr21
          replace hr21 : Kd.C (Kd.int .u8) _ A21 y289.length y289 := (by rw [hA21]; exact hr21)
          rw [← hy21, ← hA21, ← hc21] at hcut21
          have HR292 := d' hr21
          have HC292 := d' (show y289.length ≤ c21 from by rw [hy21, hc21]; exact Nat.sub_le_sub_right hroom21 _)
          clear hr21 hC21 hroom21 hi021 hsz21 hc21
          have KY21 := d' hy21
          have KA21 := d' hA21
          clear hy21 hA21
          replace q21 := eq_true q21
          go_wp2_with (first | ((with_reducible refine gate_callee (f := 48) rfl ?_); refine gL 15 Try.func48 #[.slice A21 y289.length c21] (h := ?_); (with_reducible refine (fanlightref04_Get.calls k1 _ _ y289 t293 t294 t297 t298 _ ?side1 ?side2 A5.out).mono ?_); (case side1 => exact Kd.eC HR292 HB); (case side2 => exact HC292.out); rintro e w22 ⟨v295, rfl, ho0, hb⟩; refine ⟨_, rfl, ?_⟩; have n0_ := d' (Kd.S_elder' (Kd.eS HO_6) (Kd.R_base ho0) hb); have n1_ := d' (Kd.R_lower ho0 (a' (eH HB))); have n2_ := d' (c' (eH HB) hb); clear HO_6; clear HB; have HO_6 := n0_; have HO296 := n1_; have HB := n2_; clear n0_ n1_ n2_; (try clear hb); (try clear hb2); (try clear hk); (try clear hi); (try clear ho0)) | ((with_reducible refine gate_dst (N := 8) rfl ?_); (try (refine gate_guard (by rfl) ?_; dsimp only)); refine box_event ?hg (N := 8) ?hd (cs := #[.int .i64 0, .slice none 0 0]) (t := 89) ?hr ?_; (case hd => rfl); (case hg => rfl); (case hr => go_simp <;> rfl); intro gb299 hg w23 hbox hb; have n0_ := d' (Kd.S_below (Kd.eS HO_6) hb); have n1_ := d' (Kd.R_below (Kd.eR HO296) hb); have n2_ := d' (c' (eH HB) hb); have n3_ := d' (hbox); have n4_ := d' ((by rw [hg]; exact (a' (eH HB)) : w.heap.size ≤ gb299)); have n5_ := d' ((by rw [hg]; exact (a' (eH HB)) : w.heap.size ≤ gb299)); clear HO_6; clear HO296; clear HB; have HO_6 := n0_; have HO296 := n1_; have HB := n2_; have BK299 := n3_; have GW299 := n4_; have GE299 := n5_; clear n0_ n1_ n2_ n3_ n4_ n5_; clear hb hbox hg; have hcz24_0 := bC BK299 0 (.int .i64 0); have hcz24_1 := bC BK299 1 (.slice none 0 0); have hfz24_0 := b' BK299.out 0; have hfz24_1 := b' BK299.out 1; obtain ⟨Ao25, co25, eo25⟩ := Kd.R_slice HO296.out; subst eo25))
          go_ret2
          exact ⟨_, eE, by (with_reducible repeat (first | apply Kd.S_alloc | apply Kd.S_drewN | apply Kd.S_drew)); exact Kd.S_mono (Kd.S_far (p := ⟨gb299, 1, none⟩) (Kd.S_far (p := ⟨gb299, 0, none⟩) (Kd.S_types HO_6.out BK299.out (by decide)) (fun _ hk => hk.2) (.int .i64 t293)) (fun _ hk => hk.2) (.slice Ao25 t294.length co25)) (fun _ hk => trivial), eH HB⟩
         ·
          rw [if_neg c20] at H
          have c20b0 := decide_eq_false c20
          clear c20
          by_cases c26 : 8 ≤ (t294.length : Int)
          ·
           rw [if_pos c26] at H
           have c26b0 := eq_true c26
           have c26b1 := decide_eq_true c26
           clear c26
           obtain ⟨y300, hy300⟩ : ∃ y_ : List Int, y_ = (t294.take 8) := ⟨_, rfl⟩
           replace H : ((fanlightref03_Number.f k1 y300).bind fun t304 => (if t304 = (IntKind.u64.wrap (x1_1)) then ((fanlightref04_Copied.f (t294.drop 8)).bind fun t309 => (if x6_1.length < 4398046511104 then (fanlightref06_Scan.l0 k1 l0 (wrap64 (x1_1 + 1)) (x6_1 ++ [(⟨x1_1, t309⟩ : S57)]) (wrap64 (x7_1 + t297))) else (none))) else (some (x6_1, x7_1)))) = some (r1, r2) := by rw [hy300]; exact H
           have Ny300 := d' hy300
           clear hy300
           replace H := Option.bind_eq_some_iff.mp H
           obtain ⟨t304, A270, H⟩ := H
           (try dsimp only at H)
           have A27 := d' A270
           clear A270
           by_cases c28 : t304 = (IntKind.u64.wrap (x1_1))
           ·
            rw [if_pos c28] at H
            have c28b0 := beq_iff_eq.mpr c28
            have c28b1 := bne_eq_false_iff_eq.mpr c28
            clear c28
            have c29b0 := eq_true (oD : 8 ≤ (t294.length : Int))
            obtain ⟨y305, hy305⟩ : ∃ y_ : List Int, y_ = (t294.drop 8) := ⟨_, rfl⟩
            replace H : ((fanlightref04_Copied.f y305).bind fun t309 => (if x6_1.length < 4398046511104 then (fanlightref06_Scan.l0 k1 l0 (wrap64 (x1_1 + 1)) (x6_1 ++ [(⟨x1_1, t309⟩ : S57)]) (wrap64 (x7_1 + t297))) else (none))) = some (r1, r2) := by rw [hy305]; exact H
            have Ny305 := d' hy305
            clear hy305
            replace H := Option.bind_eq_some_iff.mp H
            obtain ⟨t309, A300, H⟩ := H
            (try dsimp only at H)
            have A30 := d' A300
            clear A300
            by_cases c31 : x6_1.length < 4398046511104
            ·
             rw [if_pos c31] at H
             have LMc31 := d' c31
             clear c31
             obtain ⟨y312, hy312⟩ : ∃ y_ : List (S57), y_ = (x6_1 ++ [(⟨x1_1, t309⟩ : S57)]) := ⟨_, rfl⟩
             replace H : (fanlightref06_Scan.l0 k1 l0 (wrap64 (x1_1 + 1)) y312 (wrap64 (x7_1 + t297))) = some (r1, r2) := by rw [hy312]; exact H
             have Ny312 := d' hy312
             clear hy312
             have H' := d' H
             clear H
             have q32 : (x7_1 : Int) ≤ ((l0.length : Int) : Int) := oD
             obtain ⟨i032, hi032, _, hsz32, _⟩ := info_parts info5
             have hroom32 : l0.length ≤ c0 := HC0.out
             have hC32 : Kd.C (Kd.int .u8) _ A0 l0.length l0 := HR0.out
             have q032 : (0 : Int) ≤ (x7_1 : Int) := oD
             have hcut32 := cut_from (P := Try.prog) 25 5 .i64 Try.underlying25 hi032 1 hsz32 A0 l0.length c0 x7_1 q032 q32
             have hr32 := Kd.C_drop (m := (x7_1 : Int).toNat) (c := c0) hC32 (by omega) hroom32
             obtain ⟨A32, hA32⟩ : ∃ A1, A1 = (if c0 = (x7_1 : Int).toNat then A0 else (A0 : Option Addr).map (·.add ((x7_1 : Int).toNat * 1))) := ⟨_, rfl⟩
             obtain ⟨c32, hc32⟩ : ∃ c1, c1 = c0 - (x7_1 : Int).toNat := ⟨_, rfl⟩
             have hy32 : y289.length = l0.length - (x7_1 : Int).toNat := (by rw [Ny289.out, List.length_drop] <;> omega)
             rw [show (l0).drop (x7_1 : Int).toNat = y289 from Ny289.out.symm] at hr32
             replace hr32 : Kd.C (Kd.int .u8) _ A32 y289.length y289 := (by rw [hA32]; exact hr32)
             rw [← hy32, ← hA32, ← hc32] at hcut32
             have HR292 := d' hr32
             have HC292 := d' (show y289.length ≤ c32 from by rw [hy32, hc32]; exact Nat.sub_le_sub_right hroom32 _)
             clear hr32 hC32 hroom32 hi032 hsz32 hc32
             have KY32 := d' hy32
             have KA32 := d' hA32
             clear hy32 hA32
             replace q32 := eq_true q32
             go_wp2_with (first | ((with_reducible refine gate_callee (f := 48) rfl ?_); refine gL 15 Try.func48 #[.slice A32 y289.length c32] (h := ?_); (with_reducible refine (fanlightref04_Get.calls k1 _ _ y289 t293 t294 t297 t298 _ ?side1 ?side2 A5.out).mono ?_); (case side1 => exact Kd.eC HR292 HB); (case side2 => exact HC292.out); rintro e w33 ⟨v295, rfl, ho0, hb⟩; refine ⟨_, rfl, ?_⟩; have n0_ := d' (Kd.S_elder' (Kd.eS HO_6) (Kd.R_base ho0) hb); have n1_ := d' (Kd.R_lower ho0 (a' (eH HB))); have n2_ := d' (c' (eH HB) hb); clear HO_6; clear HB; have HO_6 := n0_; have HO296 := n1_; have HB := n2_; clear n0_ n1_ n2_; (try clear hb); (try clear hb2); (try clear hk); (try clear hi); (try clear ho0)) | ((with_reducible refine gate_dst (N := 8) rfl ?_); (try (refine gate_guard (by rfl) ?_; dsimp only)); refine box_event ?hg (N := 8) ?hd (cs := #[.int .i64 0, .slice none 0 0]) (t := 89) ?hr ?_; (case hd => rfl); (case hg => rfl); (case hr => go_simp <;> rfl); intro gb299 hg w34 hbox hb; have n0_ := d' (Kd.S_below (Kd.eS HO_6) hb); have n1_ := d' (Kd.R_below (Kd.eR HO296) hb); have n2_ := d' (c' (eH HB) hb); have n3_ := d' (hbox); have n4_ := d' ((by rw [hg]; exact (a' (eH HB)) : w.heap.size ≤ gb299)); have n5_ := d' ((by rw [hg]; exact (a' (eH HB)) : w.heap.size ≤ gb299)); clear HO_6; clear HO296; clear HB; have HO_6 := n0_; have HO296 := n1_; have HB := n2_; have BK299 := n3_; have GW299 := n4_; have GE299 := n5_; clear n0_ n1_ n2_ n3_ n4_ n5_; clear hb hbox hg; have hcz35_0 := bC BK299 0 (.int .i64 0); have hcz35_1 := bC BK299 1 (.slice none 0 0); have hfz35_0 := b' BK299.out 0; have hfz35_1 := b' BK299.out 1; obtain ⟨Ao36, co36, eo36⟩ := Kd.R_slice HO296.out; subst eo36) | ((with_reducible refine gate_store (t := 89) (p := 8) rfl ?_); refine store_event (t := 89) (p := 8) (v := ?vo_w37) (w1 := ((w34.setCell ⟨gb299, 0, none⟩ (.int .i64 t293)).setCell ⟨gb299, 1, none⟩ (.slice Ao36 t294.length co36))) ?hg ?ho ?hn ?hr ?_; (case ho => rfl); (case hg => rfl); (case hn => rfl); (case hr => go_simp <;> rfl); intro w37 hw; have n0_ : Aside0 (Kd.S k57 57 w37 w.heap.size (fun k_ => some k_ ≠ (.slice Ao36 t294.length co36 : Value).ownBlock) u6 x6_1) := ⟨(by rw [hw]; exact (Kd.kS (Kd.S_mono (Kd.S_far (p := ⟨gb299, 1, none⟩) (Kd.S_far (p := ⟨gb299, 0, none⟩) (Kd.S_types HO_6.out BK299.out (by decide)) (fun _ hk => hk.2) (.int .i64 t293)) (fun _ hk => hk.2) (.slice Ao36 t294.length co36)) (fun _ hk => hk.1.2))))⟩; have n1_ : Aside0 (Kd.R (Kd.int .u8) 5 w37 w.heap.size (fun _ => True) (.slice Ao36 t294.length co36) t294) := ⟨(by rw [hw]; exact (Kd.kR (Kd.R_mono (Kd.R_far (p := ⟨gb299, 1, none⟩) (Kd.R_far (p := ⟨gb299, 0, none⟩) (Kd.R_types HO296.out BK299.out (by decide)) (fun _ hk => hk.2) (.int .i64 t293)) (fun _ hk => hk.2) (.slice Ao36 t294.length co36)) (fun _ hk => trivial))))⟩; have n2_ : Aside0 (w37.heap[gb299]? = some (.cells #[.int .i64 t293, .slice Ao36 t294.length co36] 89 (0, 0))) := ⟨(by rw [hw]; exact (by refine eK ?_; refine blk_put (cs := #[.int .i64 t293, .slice none 0 0]) ?_ 1 _ rfl; refine eK ?_; refine blk_put (cs := #[.int .i64 0, .slice none 0 0]) ?_ 0 _ rfl; refine eK ?_; exact BK299.out))⟩; have n3_ : Aside0 (Below w.heap.size w w37) := ⟨(by rw [hw]; exact (eH HB))⟩; clear hw; clear HO_6; clear HO296; clear BK299; clear HB; have HO_6 := n0_; have HO296 := n1_; have BK299 := n2_; have HB := n3_; clear n0_ n1_ n2_ n3_; have hcz38_0 := bC BK299 0 (.int .i64 t293); have hcz38_1 := bC BK299 1 (.slice Ao36 t294.length co36); have hfz38_0 := b' BK299.out 0; have hfz38_1 := b' BK299.out 1; have q39 : (8 : Int) ≤ ((t294.length : Int) : Int) := oD; obtain ⟨i039, hi039, _, hsz39, _⟩ := info_parts info5; have hroom39 : t294.length ≤ co36 := (Kd.R_reads' HO296.out).2.1; have hC39 : Kd.C (Kd.int .u8) _ Ao36 t294.length t294 := (Kd.R_reads' HO296.out).2.2; have hcut39 := cut_to (P := Try.prog) 25 5 .i64 Try.underlying25 hi039 Ao36 t294.length co36 8 (by omega) q39 hroom39; have hr39 := Kd.C_take (m := 8) hC39 (by omega); have hy39 : y300.length = (8 : Int).toNat := (by rw [Ny300.out, List.length_take]; omega); rw [← Ny300.out] at hr39; rw [← hy39] at hcut39; have HR303 := d' hr39; have HC303 := d' (show y300.length ≤ co36 from by omega); clear hr39 hC39 hroom39 hi039 hsz39; have KY39 := d' hy39; clear hy39; have KL39 := d' (show 8 ≤ t294.length from by omega); replace q39 := eq_true q39) | (go_at_call 49; (with_reducible refine (fanlightref03_Number.calls k1 _ _ y300 t304 _ ?side1 ?side2 A27.out).mono ?_); (case side1 => exact Kd.cC HR303); (case side2 => exact HC303.out); rintro e w' ⟨rfl, ⟨nd, rfl⟩⟩; have q40 : (8 : Int) ≤ ((t294.length : Int) : Int) := oD; obtain ⟨i040, hi040, _, hsz40, _⟩ := info_parts info5; have hroom40 : t294.length ≤ co36 := (Kd.R_reads' HO296.out).2.1; have hC40 : Kd.C (Kd.int .u8) _ Ao36 t294.length t294 := (Kd.R_reads' HO296.out).2.2; have hcut40 := cut_from (P := Try.prog) 25 5 .i64 Try.underlying25 hi040 1 hsz40 Ao36 t294.length co36 8 (by omega) q40; have hr40 := Kd.C_drop (m := (8 : Int).toNat) (c := co36) hC40 (by omega) hroom40; obtain ⟨A40, hA40⟩ : ∃ A1, A1 = (if co36 = (8 : Int).toNat then Ao36 else (Ao36 : Option Addr).map (·.add ((8 : Int).toNat * 1))) := ⟨_, rfl⟩; obtain ⟨c40, hc40⟩ : ∃ c1, c1 = co36 - (8 : Int).toNat := ⟨_, rfl⟩; have hy40 : y305.length = t294.length - (8 : Int).toNat := (by rw [Ny305.out, List.length_drop] <;> omega); rw [show (t294).drop (8 : Int).toNat = y305 from Ny305.out.symm] at hr40; replace hr40 : Kd.C (Kd.int .u8) _ A40 y305.length y305 := (by rw [hA40]; exact hr40); rw [← hy40, ← hA40, ← hc40] at hcut40; have HR308 := d' hr40; have HC308 := d' (show y305.length ≤ c40 from by rw [hy40, hc40]; exact Nat.sub_le_sub_right hroom40 _); clear hr40 hC40 hroom40 hi040 hsz40 hc40; have KY40 := d' hy40; have KA40 := d' hA40; clear hy40 hA40; have KL40 := d' (show 8 ≤ t294.length from by omega); replace q40 := eq_true q40) | ((with_reducible refine gate_callee (f := 45) rfl ?_); refine gL 58 Try.func45 #[.slice A40 y305.length c40] (h := ?_); (with_reducible refine (fanlightref04_Copied.calls _ _ y305 t309 _ ?side1 ?side2 A30.out).mono ?_); (case side1 => exact Kd.cC HR308); (case side2 => exact HC308.out); rintro e w41 ⟨v310, rfl, ho0, hb⟩; refine ⟨_, rfl, ?_⟩; have n0_ := d' (Kd.S_elder' (Kd.eS HO_6) (Kd.R_base ho0) hb); have n1_ := d' (Kd.R_elder' (Kd.eR HO296) (Kd.R_base ho0) hb); have n2_ := d' (Kd.R_lower (Kd.R_new' ho0 (Kd.R_lt (Kd.eR HO296))) (a' (eH HB))); have n3_ := bB BK299 hb; have n4_ := d' (Kd.C_below (Kd.cC HR303) hb); have n5_ := d' (Kd.C_below (Kd.cC HR308) hb); have n6_ := d' (c' (eH HB) hb); clear HO_6; clear HO296; clear BK299; clear HR303; clear HR308; clear HB; have HO_6 := n0_; have HO296 := n1_; have HO311 := n2_; have BK299 := n3_; have HR303 := n4_; have HR308 := n5_; have HB := n6_; clear n0_ n1_ n2_ n3_ n4_ n5_ n6_; (try clear hb); (try clear hb2); (try clear hk); (try clear hi); (try clear ho0); obtain ⟨Ao42, co42, eo42⟩ := Kd.R_slice HO311.out; subst eo42) | ((with_reducible refine gate_builtin (b := .append) (xs := #[.tmp 53, .tmp 60]) rfl ?_); (try (refine gate_guard (by rfl) ?_; dsimp only)); at_builtin; refine Kd.S_append k57 (w0 := w) w.heap.size rfl (.tmp 53) (.tmp 60) 42 57 (.agg #[(.int .i64 0), (.slice none 0 0)]) 32 rfl Try.underlying42 info57 rfl (by decide) (by omega) u6 x6_1 (⟨x1_1, t309⟩ : S57) [.int .i64 x1_1, .slice Ao42 t309.length co42] (fun k_ => some k_ ≠ (.slice Ao36 t294.length co36 : Value).ownBlock) (fun k_ => some k_ = (.slice Ao42 t309.length co42 : Value).ownBlock) rfl rfl ?aP (fun k_ hk_ => ((Kd.R_mono (ok' := fun k_ => ((fun k_ => some k_ ≠ (.slice Ao36 t294.length co36 : Value).ownBlock)) k_ ∧ some k_ ≠ (u6 : Value).ownBlock) (Kd.R_apart' (HO311.out) (Kd.S_typed HO_6.out) (by decide)) (fun k_ hk => ⟨hk.1.2, hk.2⟩))).1 k_ hk_.symm) ?aF ?aO ?aB ?aS ?aL ?_; (case aP => exact k57_mkM _ _ _ (⟨x1_1, t309⟩ : S57) (Kd.R_mono (Kd.R_tight rfl (Kd.R_mono (ok' := fun k_ => ((fun k_ => some k_ ≠ (.slice Ao36 t294.length co36 : Value).ownBlock)) k_ ∧ some k_ ≠ (u6 : Value).ownBlock) (Kd.R_apart' (HO311.out) (Kd.S_typed HO_6.out) (by decide)) (fun k_ hk => ⟨hk.1.2, hk.2⟩))) (fun _ h_ => h_))); (case aB => exact (eH HB)); (case aF => exact (fun k_ hk => Kd.fresh' (Kd.R_lt (Kd.eR HO296)) k_ hk)); (case aO => exact (Kd.kS (Kd.S_mono HO_6.out (fun k_ hk => ⟨hk.1, fun e_ => hk.2 e_⟩)))); (case aS => exact (a' (eH HB))); (case aL => have := LMc31.out; omega); intro v313 w43 ho hb hg hat; rw [← Ny312.out] at ho; have n0_ := d' (Kd.R_over' (Kd.eR HO296) (Kd.S_typed (Kd.eS HO_6)) (by decide) hg); have n1_ := d' (blk_grown (g := gb299) (o := .cells #[.int .i64 t293, .slice Ao36 t294.length co36] 89 (0, 0)) (eB BK299) hg (Kd.S_ne HO_6.out BK299.out (by decide))); have n2_ := d' (hb); have n3_ := d' ((show Kd.C (Kd.int .u8) w43 Ao36 y300.length y300 from by rw [Ny300.out]; exact Kd.C_take (m := 8) ((Kd.R_reads' (Kd.R_over' (Kd.eR HO296) (Kd.S_typed (Kd.eS HO_6)) (by decide) hg)).2.2) KL39.out)); have n4_ := d' ((show Kd.C (Kd.int .u8) w43 A40 y305.length y305 from by rw [Ny305.out, KA40.out]; exact Kd.C_drop (m := 8) (c := co36) ((Kd.R_reads' (Kd.R_over' (Kd.eR HO296) (Kd.S_typed (Kd.eS HO_6)) (by decide) hg)).2.2) KL40.out ((Kd.R_reads' (Kd.R_over' (Kd.eR HO296) (Kd.S_typed (Kd.eS HO_6)) (by decide) hg)).2.1))); have n5_ := d' (ho); clear HO296; clear BK299; clear HB; clear HR303; clear HR308; clear HO_6; clear HO311; have HO296 := n0_; have BK299 := n1_; have HB := n2_; have HR303 := n3_; have HR308 := n4_; have HO314 := n5_; clear n0_ n1_ n2_ n3_ n4_ n5_; clear ho hb hg hat))
             go_roundg k1
             case measure => have := HK1.out; omega
             case rel => exact ⟨(wrap64 (x1_1 + 1)), (y312), (wrap64 (x7_1 + t297)), rS, rS, H', ⟨by have := HK1.out; omega⟩, ⟨by (with_reducible repeat (first | apply Kd.S_alloc | apply Kd.S_drewN | apply Kd.S_drew)); exact Kd.S_mono HO314.out (fun _ hk => trivial)⟩, ⟨eH HB⟩⟩
            ·
             rw [if_neg c31] at H
             exact absurd H (by simp)
           ·
            rw [if_neg c28] at H
            have c28b0 := beq_eq_false_iff_ne.mpr c28
            have c28b1 := bne_iff_ne.mpr c28
            simp only [Option.some.injEq, Prod.mk.injEq] at H
            obtain ⟨rfl, rfl⟩ := H
            have q44 : (x7_1 : Int) ≤ ((l0.length : Int) : Int) := oD
            obtain ⟨i044, hi044, _, hsz44, _⟩ := info_parts info5
            have hroom44 : l0.length ≤ c0 := HC0.out
            have hC44 : Kd.C (Kd.int .u8) _ A0 l0.length l0 := HR0.out
            have q044 : (0 : Int) ≤ (x7_1 : Int) := oD
            have hcut44 := cut_from (P := Try.prog) 25 5 .i64 Try.underlying25 hi044 1 hsz44 A0 l0.length c0 x7_1 q044 q44
            have hr44 := Kd.C_drop (m := (x7_1 : Int).toNat) (c := c0) hC44 (by omega) hroom44
            obtain ⟨A44, hA44⟩ : ∃ A1, A1 = (if c0 = (x7_1 : Int).toNat then A0 else (A0 : Option Addr).map (·.add ((x7_1 : Int).toNat * 1))) := ⟨_, rfl⟩
            obtain ⟨c44, hc44⟩ : ∃ c1, c1 = c0 - (x7_1 : Int).toNat := ⟨_, rfl⟩
            have hy44 : y289.length = l0.length - (x7_1 : Int).toNat := (by rw [Ny289.out, List.length_drop] <;> omega)
            rw [show (l0).drop (x7_1 : Int).toNat = y289 from Ny289.out.symm] at hr44
            replace hr44 : Kd.C (Kd.int .u8) _ A44 y289.length y289 := (by rw [hA44]; exact hr44)
            rw [← hy44, ← hA44, ← hc44] at hcut44
            have HR292 := d' hr44
            have HC292 := d' (show y289.length ≤ c44 from by rw [hy44, hc44]; exact Nat.sub_le_sub_right hroom44 _)
            clear hr44 hC44 hroom44 hi044 hsz44 hc44
            have KY44 := d' hy44
            have KA44 := d' hA44
            clear hy44 hA44
            replace q44 := eq_true q44
            go_wp2_with (first | ((with_reducible refine gate_callee (f := 48) rfl ?_); refine gL 15 Try.func48 #[.slice A44 y289.length c44] (h := ?_); (with_reducible refine (fanlightref04_Get.calls k1 _ _ y289 t293 t294 t297 t298 _ ?side1 ?side2 A5.out).mono ?_); (case side1 => exact Kd.eC HR292 HB); (case side2 => exact HC292.out); rintro e w45 ⟨v295, rfl, ho0, hb⟩; refine ⟨_, rfl, ?_⟩; have n0_ := d' (Kd.S_elder' (Kd.eS HO_6) (Kd.R_base ho0) hb); have n1_ := d' (Kd.R_lower ho0 (a' (eH HB))); have n2_ := d' (c' (eH HB) hb); clear HO_6; clear HB; have HO_6 := n0_; have HO296 := n1_; have HB := n2_; clear n0_ n1_ n2_; (try clear hb); (try clear hb2); (try clear hk); (try clear hi); (try clear ho0)) | ((with_reducible refine gate_dst (N := 8) rfl ?_); (try (refine gate_guard (by rfl) ?_; dsimp only)); refine box_event ?hg (N := 8) ?hd (cs := #[.int .i64 0, .slice none 0 0]) (t := 89) ?hr ?_; (case hd => rfl); (case hg => rfl); (case hr => go_simp <;> rfl); intro gb299 hg w46 hbox hb; have n0_ := d' (Kd.S_below (Kd.eS HO_6) hb); have n1_ := d' (Kd.R_below (Kd.eR HO296) hb); have n2_ := d' (c' (eH HB) hb); have n3_ := d' (hbox); have n4_ := d' ((by rw [hg]; exact (a' (eH HB)) : w.heap.size ≤ gb299)); have n5_ := d' ((by rw [hg]; exact (a' (eH HB)) : w.heap.size ≤ gb299)); clear HO_6; clear HO296; clear HB; have HO_6 := n0_; have HO296 := n1_; have HB := n2_; have BK299 := n3_; have GW299 := n4_; have GE299 := n5_; clear n0_ n1_ n2_ n3_ n4_ n5_; clear hb hbox hg; have hcz47_0 := bC BK299 0 (.int .i64 0); have hcz47_1 := bC BK299 1 (.slice none 0 0); have hfz47_0 := b' BK299.out 0; have hfz47_1 := b' BK299.out 1; obtain ⟨Ao48, co48, eo48⟩ := Kd.R_slice HO296.out; subst eo48) | ((with_reducible refine gate_store (t := 89) (p := 8) rfl ?_); refine store_event (t := 89) (p := 8) (v := ?vo_w49) (w1 := ((w46.setCell ⟨gb299, 0, none⟩ (.int .i64 t293)).setCell ⟨gb299, 1, none⟩ (.slice Ao48 t294.length co48))) ?hg ?ho ?hn ?hr ?_; (case ho => rfl); (case hg => rfl); (case hn => rfl); (case hr => go_simp <;> rfl); intro w49 hw; have n0_ : Aside0 (Kd.S k57 57 w49 w.heap.size (fun k_ => some k_ ≠ (.slice Ao48 t294.length co48 : Value).ownBlock) u6 x6_1) := ⟨(by rw [hw]; exact (Kd.kS (Kd.S_mono (Kd.S_far (p := ⟨gb299, 1, none⟩) (Kd.S_far (p := ⟨gb299, 0, none⟩) (Kd.S_types HO_6.out BK299.out (by decide)) (fun _ hk => hk.2) (.int .i64 t293)) (fun _ hk => hk.2) (.slice Ao48 t294.length co48)) (fun _ hk => hk.1.2))))⟩; have n1_ : Aside0 (Kd.R (Kd.int .u8) 5 w49 w.heap.size (fun _ => True) (.slice Ao48 t294.length co48) t294) := ⟨(by rw [hw]; exact (Kd.kR (Kd.R_mono (Kd.R_far (p := ⟨gb299, 1, none⟩) (Kd.R_far (p := ⟨gb299, 0, none⟩) (Kd.R_types HO296.out BK299.out (by decide)) (fun _ hk => hk.2) (.int .i64 t293)) (fun _ hk => hk.2) (.slice Ao48 t294.length co48)) (fun _ hk => trivial))))⟩; have n2_ : Aside0 (w49.heap[gb299]? = some (.cells #[.int .i64 t293, .slice Ao48 t294.length co48] 89 (0, 0))) := ⟨(by rw [hw]; exact (by refine eK ?_; refine blk_put (cs := #[.int .i64 t293, .slice none 0 0]) ?_ 1 _ rfl; refine eK ?_; refine blk_put (cs := #[.int .i64 0, .slice none 0 0]) ?_ 0 _ rfl; refine eK ?_; exact BK299.out))⟩; have n3_ : Aside0 (Below w.heap.size w w49) := ⟨(by rw [hw]; exact (eH HB))⟩; clear hw; clear HO_6; clear HO296; clear BK299; clear HB; have HO_6 := n0_; have HO296 := n1_; have BK299 := n2_; have HB := n3_; clear n0_ n1_ n2_ n3_; have hcz50_0 := bC BK299 0 (.int .i64 t293); have hcz50_1 := bC BK299 1 (.slice Ao48 t294.length co48); have hfz50_0 := b' BK299.out 0; have hfz50_1 := b' BK299.out 1; have q51 : (8 : Int) ≤ ((t294.length : Int) : Int) := oD; obtain ⟨i051, hi051, _, hsz51, _⟩ := info_parts info5; have hroom51 : t294.length ≤ co48 := (Kd.R_reads' HO296.out).2.1; have hC51 : Kd.C (Kd.int .u8) _ Ao48 t294.length t294 := (Kd.R_reads' HO296.out).2.2; have hcut51 := cut_to (P := Try.prog) 25 5 .i64 Try.underlying25 hi051 Ao48 t294.length co48 8 (by omega) q51 hroom51; have hr51 := Kd.C_take (m := 8) hC51 (by omega); have hy51 : y300.length = (8 : Int).toNat := (by rw [Ny300.out, List.length_take]; omega); rw [← Ny300.out] at hr51; rw [← hy51] at hcut51; have HR303 := d' hr51; have HC303 := d' (show y300.length ≤ co48 from by omega); clear hr51 hC51 hroom51 hi051 hsz51; have KY51 := d' hy51; clear hy51; have KL51 := d' (show 8 ≤ t294.length from by omega); replace q51 := eq_true q51) | (go_at_call 49; (with_reducible refine (fanlightref03_Number.calls k1 _ _ y300 t304 _ ?side1 ?side2 A27.out).mono ?_); (case side1 => exact Kd.cC HR303); (case side2 => exact HC303.out); rintro e w' ⟨rfl, ⟨nd, rfl⟩⟩))
            go_ret2
            exact ⟨_, eE, by (with_reducible repeat (first | apply Kd.S_alloc | apply Kd.S_drewN | apply Kd.S_drew)); exact Kd.S_mono HO_6.out (fun _ hk => trivial), eH HB⟩
          ·
           rw [if_neg c26] at H
           exact absurd H (by simp)
      ·
       rw [if_neg c7] at H
       have c7b0 := beq_eq_false_iff_ne.mpr c7
       have c7b1 := bne_iff_ne.mpr c7
       simp only [Option.some.injEq, Prod.mk.injEq] at H
       obtain ⟨rfl, rfl⟩ := H
       have q52 : (x7_1 : Int) ≤ ((l0.length : Int) : Int) := oD
       obtain ⟨i052, hi052, _, hsz52, _⟩ := info_parts info5
       have hroom52 : l0.length ≤ c0 := HC0.out
       have hC52 : Kd.C (Kd.int .u8) _ A0 l0.length l0 := HR0.out
       have q052 : (0 : Int) ≤ (x7_1 : Int) := oD
       have hcut52 := cut_from (P := Try.prog) 25 5 .i64 Try.underlying25 hi052 1 hsz52 A0 l0.length c0 x7_1 q052 q52
       have hr52 := Kd.C_drop (m := (x7_1 : Int).toNat) (c := c0) hC52 (by omega) hroom52
       obtain ⟨A52, hA52⟩ : ∃ A1, A1 = (if c0 = (x7_1 : Int).toNat then A0 else (A0 : Option Addr).map (·.add ((x7_1 : Int).toNat * 1))) := ⟨_, rfl⟩
       obtain ⟨c52, hc52⟩ : ∃ c1, c1 = c0 - (x7_1 : Int).toNat := ⟨_, rfl⟩
       have hy52 : y289.length = l0.length - (x7_1 : Int).toNat := (by rw [Ny289.out, List.length_drop] <;> omega)
       rw [show (l0).drop (x7_1 : Int).toNat = y289 from Ny289.out.symm] at hr52
       replace hr52 : Kd.C (Kd.int .u8) _ A52 y289.length y289 := (by rw [hA52]; exact hr52)
       rw [← hy52, ← hA52, ← hc52] at hcut52
       have HR292 := d' hr52
       have HC292 := d' (show y289.length ≤ c52 from by rw [hy52, hc52]; exact Nat.sub_le_sub_right hroom52 _)
       clear hr52 hC52 hroom52 hi052 hsz52 hc52
       have KY52 := d' hy52
       have KA52 := d' hA52
       clear hy52 hA52
       replace q52 := eq_true q52
       go_wp2_with (first | ((with_reducible refine gate_callee (f := 48) rfl ?_); refine gL 15 Try.func48 #[.slice A52 y289.length c52] (h := ?_); (with_reducible refine (fanlightref04_Get.calls k1 _ _ y289 t293 t294 t297 t298 _ ?side1 ?side2 A5.out).mono ?_); (case side1 => exact Kd.eC HR292 HB); (case side2 => exact HC292.out); rintro e w53 ⟨v295, rfl, ho0, hb⟩; refine ⟨_, rfl, ?_⟩; have n0_ := d' (Kd.S_elder' (Kd.eS HO_6) (Kd.R_base ho0) hb); have n1_ := d' (Kd.R_lower ho0 (a' (eH HB))); have n2_ := d' (c' (eH HB) hb); clear HO_6; clear HB; have HO_6 := n0_; have HO296 := n1_; have HB := n2_; clear n0_ n1_ n2_; (try clear hb); (try clear hb2); (try clear hk); (try clear hi); (try clear ho0)) | ((with_reducible refine gate_dst (N := 8) rfl ?_); (try (refine gate_guard (by rfl) ?_; dsimp only)); refine box_event ?hg (N := 8) ?hd (cs := #[.int .i64 0, .slice none 0 0]) (t := 89) ?hr ?_; (case hd => rfl); (case hg => rfl); (case hr => go_simp <;> rfl); intro gb299 hg w54 hbox hb; have n0_ := d' (Kd.S_below (Kd.eS HO_6) hb); have n1_ := d' (Kd.R_below (Kd.eR HO296) hb); have n2_ := d' (c' (eH HB) hb); have n3_ := d' (hbox); have n4_ := d' ((by rw [hg]; exact (a' (eH HB)) : w.heap.size ≤ gb299)); have n5_ := d' ((by rw [hg]; exact (a' (eH HB)) : w.heap.size ≤ gb299)); clear HO_6; clear HO296; clear HB; have HO_6 := n0_; have HO296 := n1_; have HB := n2_; have BK299 := n3_; have GW299 := n4_; have GE299 := n5_; clear n0_ n1_ n2_ n3_ n4_ n5_; clear hb hbox hg; have hcz55_0 := bC BK299 0 (.int .i64 0); have hcz55_1 := bC BK299 1 (.slice none 0 0); have hfz55_0 := b' BK299.out 0; have hfz55_1 := b' BK299.out 1; obtain ⟨Ao56, co56, eo56⟩ := Kd.R_slice HO296.out; subst eo56))
       go_ret2
       exact ⟨_, eE, by (with_reducible repeat (first | apply Kd.S_alloc | apply Kd.S_drewN | apply Kd.S_drew)); exact Kd.S_mono (Kd.S_far (p := ⟨gb299, 1, none⟩) (Kd.S_far (p := ⟨gb299, 0, none⟩) (Kd.S_types HO_6.out BK299.out (by decide)) (fun _ hk => hk.2) (.int .i64 t293)) (fun _ hk => hk.2) (.slice Ao56 t294.length co56)) (fun _ hk => trivial), eH HB⟩
     ·
      rw [if_neg c6] at H
      have c6b0 := beq_eq_false_iff_ne.mpr c6
      have c6b1 := bne_iff_ne.mpr c6
      simp only [Option.some.injEq, Prod.mk.injEq] at H
      obtain ⟨rfl, rfl⟩ := H
      have q57 : (x7_1 : Int) ≤ ((l0.length : Int) : Int) := oD
      obtain ⟨i057, hi057, _, hsz57, _⟩ := info_parts info5
      have hroom57 : l0.length ≤ c0 := HC0.out
      have hC57 : Kd.C (Kd.int .u8) _ A0 l0.length l0 := HR0.out
      have q057 : (0 : Int) ≤ (x7_1 : Int) := oD
      have hcut57 := cut_from (P := Try.prog) 25 5 .i64 Try.underlying25 hi057 1 hsz57 A0 l0.length c0 x7_1 q057 q57
      have hr57 := Kd.C_drop (m := (x7_1 : Int).toNat) (c := c0) hC57 (by omega) hroom57
      obtain ⟨A57, hA57⟩ : ∃ A1, A1 = (if c0 = (x7_1 : Int).toNat then A0 else (A0 : Option Addr).map (·.add ((x7_1 : Int).toNat * 1))) := ⟨_, rfl⟩
      obtain ⟨c57, hc57⟩ : ∃ c1, c1 = c0 - (x7_1 : Int).toNat := ⟨_, rfl⟩
      have hy57 : y289.length = l0.length - (x7_1 : Int).toNat := (by rw [Ny289.out, List.length_drop] <;> omega)
      rw [show (l0).drop (x7_1 : Int).toNat = y289 from Ny289.out.symm] at hr57
      replace hr57 : Kd.C (Kd.int .u8) _ A57 y289.length y289 := (by rw [hA57]; exact hr57)
      rw [← hy57, ← hA57, ← hc57] at hcut57
      have HR292 := d' hr57
      have HC292 := d' (show y289.length ≤ c57 from by rw [hy57, hc57]; exact Nat.sub_le_sub_right hroom57 _)
      clear hr57 hC57 hroom57 hi057 hsz57 hc57
      have KY57 := d' hy57
      have KA57 := d' hA57
      clear hy57 hA57
      replace q57 := eq_true q57
      go_wp2_with (first | ((with_reducible refine gate_callee (f := 48) rfl ?_); refine gL 15 Try.func48 #[.slice A57 y289.length c57] (h := ?_); (with_reducible refine (fanlightref04_Get.calls k1 _ _ y289 t293 t294 t297 t298 _ ?side1 ?side2 A5.out).mono ?_); (case side1 => exact Kd.eC HR292 HB); (case side2 => exact HC292.out); rintro e w58 ⟨v295, rfl, ho0, hb⟩; refine ⟨_, rfl, ?_⟩; have n0_ := d' (Kd.S_elder' (Kd.eS HO_6) (Kd.R_base ho0) hb); have n1_ := d' (Kd.R_lower ho0 (a' (eH HB))); have n2_ := d' (c' (eH HB) hb); clear HO_6; clear HB; have HO_6 := n0_; have HO296 := n1_; have HB := n2_; clear n0_ n1_ n2_; (try clear hb); (try clear hb2); (try clear hk); (try clear hi); (try clear ho0)) | ((with_reducible refine gate_dst (N := 8) rfl ?_); (try (refine gate_guard (by rfl) ?_; dsimp only)); refine box_event ?hg (N := 8) ?hd (cs := #[.int .i64 0, .slice none 0 0]) (t := 89) ?hr ?_; (case hd => rfl); (case hg => rfl); (case hr => go_simp <;> rfl); intro gb299 hg w59 hbox hb; have n0_ := d' (Kd.S_below (Kd.eS HO_6) hb); have n1_ := d' (Kd.R_below (Kd.eR HO296) hb); have n2_ := d' (c' (eH HB) hb); have n3_ := d' (hbox); have n4_ := d' ((by rw [hg]; exact (a' (eH HB)) : w.heap.size ≤ gb299)); have n5_ := d' ((by rw [hg]; exact (a' (eH HB)) : w.heap.size ≤ gb299)); clear HO_6; clear HO296; clear HB; have HO_6 := n0_; have HO296 := n1_; have HB := n2_; have BK299 := n3_; have GW299 := n4_; have GE299 := n5_; clear n0_ n1_ n2_ n3_ n4_ n5_; clear hb hbox hg; have hcz60_0 := bC BK299 0 (.int .i64 0); have hcz60_1 := bC BK299 1 (.slice none 0 0); have hfz60_0 := b' BK299.out 0; have hfz60_1 := b' BK299.out 1; obtain ⟨Ao61, co61, eo61⟩ := Kd.R_slice HO296.out; subst eo61))
      go_ret2
      exact ⟨_, eE, by (with_reducible repeat (first | apply Kd.S_alloc | apply Kd.S_drewN | apply Kd.S_drew)); exact Kd.S_mono (Kd.S_far (p := ⟨gb299, 1, none⟩) (Kd.S_far (p := ⟨gb299, 0, none⟩) (Kd.S_types HO_6.out BK299.out (by decide)) (fun _ hk => hk.2) (.int .i64 t293)) (fun _ hk => hk.2) (.slice Ao61 t294.length co61)) (fun _ hk => trivial), eH HB⟩
    ·
     rw [if_neg c4] at H
     exact absurd H (by simp)
   ·
    rw [if_neg c3] at H
    exact absurd H (by simp)
def fanlightref06_first.f (k : Nat) (l0 : List Int) : Option (Int) := (fanlightref04_Get.f k l0).bind fun bt315 => (if bt315.2.2.2 = 0 then (if (bt315.2.1.length : Int) < 8 then (some 0) else (if 8 ≤ (bt315.2.1.length : Int) then ((fanlightref03_Number.f k (bt315.2.1.take 8)).bind fun t326 => (if t326 > 1099511627776 then (some 0) else ((fanlightref03_Number.f k (bt315.2.1.take 8)).bind fun t331 => (some (wrap64 (t331)))))) else (none))) else (some 0))
theorem fanlightref06_first.mono : ∀ a0 k, LeO (fanlightref06_first.f k a0) (fanlightref06_first.f (k + 1) a0) := by
 intro a0 k
 unfold fanlightref06_first.f
 repeat' first
   | (with_reducible exact fanlightref03_Number.mono _ _)
   | (with_reducible exact fanlightref04_Get.mono _ _)
   | with_reducible first | exact LeO.refl _ | exact LeO.none _ | refine LeO.ite ?_ ?_ | refine LeO.bind ?_ fun _ => ?_
set_option maxHeartbeats 8000000 in
set_option maxRecDepth 100000 in
theorem fanlightref06_first.calls (k : Nat) (A0 : Option Addr) (c0 : Nat) (l0 : List Int) (r : Int) (w : World) (hr0 : Kd.C (Kd.int .u8) w A0 l0.length l0) (hc0 : l0.length ≤ c0) (h : fanlightref06_first.f k l0 = some r) :
  Calls Try.prog 34 #[.slice A0 l0.length c0] w fun e w' => e = .returned (.int .i64 r) ∧ Below w.heap.size w w' := by
 have hu89 := Try.underlying89
 have HR0 := d' hr0
 have HC0 := d' hc0
 clear hr0 hc0
 have HB := d' (Below.refl w.heap.size w)
 have H : ((fanlightref04_Get.f k l0).bind fun bt315 => (if bt315.2.2.2 = 0 then (if (bt315.2.1.length : Int) < 8 then (some 0) else (if 8 ≤ (bt315.2.1.length : Int) then ((fanlightref03_Number.f k (bt315.2.1.take 8)).bind fun t326 => (if t326 > 1099511627776 then (some 0) else ((fanlightref03_Number.f k (bt315.2.1.take 8)).bind fun t331 => (some (wrap64 (t331)))))) else (none))) else (some 0))) = some r := h
 clear h
 replace H := Option.bind_eq_some_iff.mp H
 obtain ⟨⟨t315, t316, t319, t320⟩, A20, H⟩ := H
 (try dsimp only at H)
 have A2 := d' A20
 clear A20
 by_cases c3 : t320 = 0
 ·
  rw [if_pos c3] at H
  have c3b0 := beq_iff_eq.mpr c3
  have c3b1 := bne_eq_false_iff_eq.mpr c3
  clear c3
  by_cases c4 : (t316.length : Int) < 8
  ·
   rw [if_pos c4] at H
   have c4b0 := decide_eq_true c4
   have c4b1 : decide (t316.length < 8) = true := decide_eq_true (by omega)
   clear c4
   obtain rfl := Option.some.inj H
   go_enter Try.func34, Try.ntmps34
   go_wp2_with (first | ((with_reducible refine gate_callee (f := 48) rfl ?_); refine gL 8 Try.func48 #[.slice A0 l0.length c0] (h := ?_); (with_reducible refine (fanlightref04_Get.calls k _ _ l0 t315 t316 t319 t320 _ ?side1 ?side2 A2.out).mono ?_); (case side1 => exact Kd.cC HR0); (case side2 => exact HC0.out); rintro e w5 ⟨v317, rfl, ho0, hb⟩; refine ⟨_, rfl, ?_⟩; have n0_ := d' (Kd.R_lower ho0 (a' (eH HB))); have n1_ := d' (c' (eH HB) hb); clear HB; have HO318 := n0_; have HB := n1_; clear n0_ n1_; (try clear hb); (try clear hb2); (try clear hk); (try clear hi); (try clear ho0)) | ((with_reducible refine gate_dst (N := 3) rfl ?_); (try (refine gate_guard (by rfl) ?_; dsimp only)); refine box_event ?hg (N := 3) ?hd (cs := #[.int .i64 0, .slice none 0 0]) (t := 89) ?hr ?_; (case hd => rfl); (case hg => rfl); (case hr => go_simp <;> rfl); intro gb321 hg w6 hbox hb; have n0_ := d' (Kd.R_below (Kd.eR HO318) hb); have n1_ := d' (c' (eH HB) hb); have n2_ := d' (hbox); have n3_ := d' ((by rw [hg]; exact (a' (eH HB)) : w.heap.size ≤ gb321)); have n4_ := d' ((by rw [hg]; exact (a' (eH HB)) : w.heap.size ≤ gb321)); clear HO318; clear HB; have HO318 := n0_; have HB := n1_; have BK321 := n2_; have GW321 := n3_; have GE321 := n4_; clear n0_ n1_ n2_ n3_ n4_; clear hb hbox hg; have hcz7_0 := bC BK321 0 (.int .i64 0); have hcz7_1 := bC BK321 1 (.slice none 0 0); have hfz7_0 := b' BK321.out 0; have hfz7_1 := b' BK321.out 1; obtain ⟨Ao8, co8, eo8⟩ := Kd.R_slice HO318.out; subst eo8))
   go_ret
   exact ⟨eE, eH HB⟩
  ·
   rw [if_neg c4] at H
   have c4b0 := decide_eq_false c4
   have c4b1 : decide (t316.length < 8) = false := decide_eq_false (by omega)
   clear c4
   by_cases c9 : 8 ≤ (t316.length : Int)
   ·
    rw [if_pos c9] at H
    have c9b0 := eq_true c9
    have c9b1 := decide_eq_true c9
    clear c9
    obtain ⟨y322, hy322⟩ : ∃ y_ : List Int, y_ = (t316.take 8) := ⟨_, rfl⟩
    replace H : ((fanlightref03_Number.f k y322).bind fun t326 => (if t326 > 1099511627776 then (some 0) else ((fanlightref03_Number.f k (t316.take 8)).bind fun t331 => (some (wrap64 (t331)))))) = some r := by rw [hy322]; exact H
    have Ny322 := d' hy322
    clear hy322
    replace H := Option.bind_eq_some_iff.mp H
    obtain ⟨t326, A100, H⟩ := H
    (try dsimp only at H)
    have A10 := d' A100
    clear A100
    by_cases c11 : t326 > 1099511627776
    ·
     rw [if_pos c11] at H
     have c11b0 := decide_eq_true c11
     clear c11
     obtain rfl := Option.some.inj H
     go_enter Try.func34, Try.ntmps34
     go_wp2_with (first | ((with_reducible refine gate_callee (f := 48) rfl ?_); refine gL 8 Try.func48 #[.slice A0 l0.length c0] (h := ?_); (with_reducible refine (fanlightref04_Get.calls k _ _ l0 t315 t316 t319 t320 _ ?side1 ?side2 A2.out).mono ?_); (case side1 => exact Kd.cC HR0); (case side2 => exact HC0.out); rintro e w12 ⟨v317, rfl, ho0, hb⟩; refine ⟨_, rfl, ?_⟩; have n0_ := d' (Kd.R_lower ho0 (a' (eH HB))); have n1_ := d' (c' (eH HB) hb); clear HB; have HO318 := n0_; have HB := n1_; clear n0_ n1_; (try clear hb); (try clear hb2); (try clear hk); (try clear hi); (try clear ho0)) | ((with_reducible refine gate_dst (N := 3) rfl ?_); (try (refine gate_guard (by rfl) ?_; dsimp only)); refine box_event ?hg (N := 3) ?hd (cs := #[.int .i64 0, .slice none 0 0]) (t := 89) ?hr ?_; (case hd => rfl); (case hg => rfl); (case hr => go_simp <;> rfl); intro gb321 hg w13 hbox hb; have n0_ := d' (Kd.R_below (Kd.eR HO318) hb); have n1_ := d' (c' (eH HB) hb); have n2_ := d' (hbox); have n3_ := d' ((by rw [hg]; exact (a' (eH HB)) : w.heap.size ≤ gb321)); have n4_ := d' ((by rw [hg]; exact (a' (eH HB)) : w.heap.size ≤ gb321)); clear HO318; clear HB; have HO318 := n0_; have HB := n1_; have BK321 := n2_; have GW321 := n3_; have GE321 := n4_; clear n0_ n1_ n2_ n3_ n4_; clear hb hbox hg; have hcz14_0 := bC BK321 0 (.int .i64 0); have hcz14_1 := bC BK321 1 (.slice none 0 0); have hfz14_0 := b' BK321.out 0; have hfz14_1 := b' BK321.out 1; obtain ⟨Ao15, co15, eo15⟩ := Kd.R_slice HO318.out; subst eo15) | ((with_reducible refine gate_store (t := 89) (p := 3) rfl ?_); refine store_event (t := 89) (p := 3) (v := ?vo_w16) (w1 := ((w13.setCell ⟨gb321, 0, none⟩ (.int .i64 t315)).setCell ⟨gb321, 1, none⟩ (.slice Ao15 t316.length co15))) ?hg ?ho ?hn ?hr ?_; (case ho => rfl); (case hg => rfl); (case hn => rfl); (case hr => go_simp <;> rfl); intro w16 hw; have n0_ : Aside0 (Kd.R (Kd.int .u8) 5 w16 w.heap.size (fun _ => True) (.slice Ao15 t316.length co15) t316) := ⟨(by rw [hw]; exact (Kd.kR (Kd.R_mono (Kd.R_far (p := ⟨gb321, 1, none⟩) (Kd.R_far (p := ⟨gb321, 0, none⟩) (Kd.R_types HO318.out BK321.out (by decide)) (fun _ hk => hk.2) (.int .i64 t315)) (fun _ hk => hk.2) (.slice Ao15 t316.length co15)) (fun _ hk => trivial))))⟩; have n1_ : Aside0 (w16.heap[gb321]? = some (.cells #[.int .i64 t315, .slice Ao15 t316.length co15] 89 (0, 0))) := ⟨(by rw [hw]; exact (by refine eK ?_; refine blk_put (cs := #[.int .i64 t315, .slice none 0 0]) ?_ 1 _ rfl; refine eK ?_; refine blk_put (cs := #[.int .i64 0, .slice none 0 0]) ?_ 0 _ rfl; refine eK ?_; exact BK321.out))⟩; have n2_ : Aside0 (Below w.heap.size w w16) := ⟨(by rw [hw]; exact (eH HB))⟩; clear hw; clear HO318; clear BK321; clear HB; have HO318 := n0_; have BK321 := n1_; have HB := n2_; clear n0_ n1_ n2_; have hcz17_0 := bC BK321 0 (.int .i64 t315); have hcz17_1 := bC BK321 1 (.slice Ao15 t316.length co15); have hfz17_0 := b' BK321.out 0; have hfz17_1 := b' BK321.out 1; have q18 : (8 : Int) ≤ ((t316.length : Int) : Int) := oD; obtain ⟨i018, hi018, _, hsz18, _⟩ := info_parts info5; have hroom18 : t316.length ≤ co15 := (Kd.R_reads' HO318.out).2.1; have hC18 : Kd.C (Kd.int .u8) _ Ao15 t316.length t316 := (Kd.R_reads' HO318.out).2.2; have hcut18 := cut_to (P := Try.prog) 25 5 .i64 Try.underlying25 hi018 Ao15 t316.length co15 8 (by omega) q18 hroom18; have hr18 := Kd.C_take (m := 8) hC18 (by omega); have hy18 : y322.length = (8 : Int).toNat := (by rw [Ny322.out, List.length_take]; omega); rw [← Ny322.out] at hr18; rw [← hy18] at hcut18; have HR325 := d' hr18; have HC325 := d' (show y322.length ≤ co15 from by omega); clear hr18 hC18 hroom18 hi018 hsz18; have KY18 := d' hy18; clear hy18; have KL18 := d' (show 8 ≤ t316.length from by omega); replace q18 := eq_true q18) | (go_at_call 49; (with_reducible refine (fanlightref03_Number.calls k _ _ y322 t326 _ ?side1 ?side2 A10.out).mono ?_); (case side1 => exact Kd.cC HR325); (case side2 => exact HC325.out); rintro e w' ⟨rfl, ⟨nd, rfl⟩⟩))
     go_ret
     exact ⟨eE, eH HB⟩
    ·
     rw [if_neg c11] at H
     have c11b0 := decide_eq_false c11
     clear c11
     have c19b0 := eq_true (oD : 8 ≤ (t316.length : Int))
     obtain ⟨y327, hy327⟩ : ∃ y_ : List Int, y_ = (t316.take 8) := ⟨_, rfl⟩
     replace H : ((fanlightref03_Number.f k y327).bind fun t331 => (some (wrap64 (t331)))) = some r := by rw [hy327]; exact H
     have Ny327 := d' hy327
     clear hy327
     replace H := Option.bind_eq_some_iff.mp H
     obtain ⟨t331, A200, H⟩ := H
     (try dsimp only at H)
     have A20 := d' A200
     clear A200
     have Et331 := Lib.hid (show t331 = t326 from Option.some.inj (by rw [← A20.out, ← A10.out, Ny327.out, Ny322.out]))
     obtain rfl := Option.some.inj H
     go_enter Try.func34, Try.ntmps34
     go_wp2_with (first | ((with_reducible refine gate_callee (f := 48) rfl ?_); refine gL 8 Try.func48 #[.slice A0 l0.length c0] (h := ?_); (with_reducible refine (fanlightref04_Get.calls k _ _ l0 t315 t316 t319 t320 _ ?side1 ?side2 A2.out).mono ?_); (case side1 => exact Kd.cC HR0); (case side2 => exact HC0.out); rintro e w21 ⟨v317, rfl, ho0, hb⟩; refine ⟨_, rfl, ?_⟩; have n0_ := d' (Kd.R_lower ho0 (a' (eH HB))); have n1_ := d' (c' (eH HB) hb); clear HB; have HO318 := n0_; have HB := n1_; clear n0_ n1_; (try clear hb); (try clear hb2); (try clear hk); (try clear hi); (try clear ho0)) | ((with_reducible refine gate_dst (N := 3) rfl ?_); (try (refine gate_guard (by rfl) ?_; dsimp only)); refine box_event ?hg (N := 3) ?hd (cs := #[.int .i64 0, .slice none 0 0]) (t := 89) ?hr ?_; (case hd => rfl); (case hg => rfl); (case hr => go_simp <;> rfl); intro gb321 hg w22 hbox hb; have n0_ := d' (Kd.R_below (Kd.eR HO318) hb); have n1_ := d' (c' (eH HB) hb); have n2_ := d' (hbox); have n3_ := d' ((by rw [hg]; exact (a' (eH HB)) : w.heap.size ≤ gb321)); have n4_ := d' ((by rw [hg]; exact (a' (eH HB)) : w.heap.size ≤ gb321)); clear HO318; clear HB; have HO318 := n0_; have HB := n1_; have BK321 := n2_; have GW321 := n3_; have GE321 := n4_; clear n0_ n1_ n2_ n3_ n4_; clear hb hbox hg; have hcz23_0 := bC BK321 0 (.int .i64 0); have hcz23_1 := bC BK321 1 (.slice none 0 0); have hfz23_0 := b' BK321.out 0; have hfz23_1 := b' BK321.out 1; obtain ⟨Ao24, co24, eo24⟩ := Kd.R_slice HO318.out; subst eo24) | ((with_reducible refine gate_store (t := 89) (p := 3) rfl ?_); refine store_event (t := 89) (p := 3) (v := ?vo_w25) (w1 := ((w22.setCell ⟨gb321, 0, none⟩ (.int .i64 t315)).setCell ⟨gb321, 1, none⟩ (.slice Ao24 t316.length co24))) ?hg ?ho ?hn ?hr ?_; (case ho => rfl); (case hg => rfl); (case hn => rfl); (case hr => go_simp <;> rfl); intro w25 hw; have n0_ : Aside0 (Kd.R (Kd.int .u8) 5 w25 w.heap.size (fun _ => True) (.slice Ao24 t316.length co24) t316) := ⟨(by rw [hw]; exact (Kd.kR (Kd.R_mono (Kd.R_far (p := ⟨gb321, 1, none⟩) (Kd.R_far (p := ⟨gb321, 0, none⟩) (Kd.R_types HO318.out BK321.out (by decide)) (fun _ hk => hk.2) (.int .i64 t315)) (fun _ hk => hk.2) (.slice Ao24 t316.length co24)) (fun _ hk => trivial))))⟩; have n1_ : Aside0 (w25.heap[gb321]? = some (.cells #[.int .i64 t315, .slice Ao24 t316.length co24] 89 (0, 0))) := ⟨(by rw [hw]; exact (by refine eK ?_; refine blk_put (cs := #[.int .i64 t315, .slice none 0 0]) ?_ 1 _ rfl; refine eK ?_; refine blk_put (cs := #[.int .i64 0, .slice none 0 0]) ?_ 0 _ rfl; refine eK ?_; exact BK321.out))⟩; have n2_ : Aside0 (Below w.heap.size w w25) := ⟨(by rw [hw]; exact (eH HB))⟩; clear hw; clear HO318; clear BK321; clear HB; have HO318 := n0_; have BK321 := n1_; have HB := n2_; clear n0_ n1_ n2_; have hcz26_0 := bC BK321 0 (.int .i64 t315); have hcz26_1 := bC BK321 1 (.slice Ao24 t316.length co24); have hfz26_0 := b' BK321.out 0; have hfz26_1 := b' BK321.out 1; have q27 : (8 : Int) ≤ ((t316.length : Int) : Int) := oD; obtain ⟨i027, hi027, _, hsz27, _⟩ := info_parts info5; have hroom27 : t316.length ≤ co24 := (Kd.R_reads' HO318.out).2.1; have hC27 : Kd.C (Kd.int .u8) _ Ao24 t316.length t316 := (Kd.R_reads' HO318.out).2.2; have hcut27 := cut_to (P := Try.prog) 25 5 .i64 Try.underlying25 hi027 Ao24 t316.length co24 8 (by omega) q27 hroom27; have hr27 := Kd.C_take (m := 8) hC27 (by omega); have hy27 : y322.length = (8 : Int).toNat := (by rw [Ny322.out, List.length_take]; omega); rw [← Ny322.out] at hr27; rw [← hy27] at hcut27; have HR325 := d' hr27; have HC325 := d' (show y322.length ≤ co24 from by omega); clear hr27 hC27 hroom27 hi027 hsz27; have KY27 := d' hy27; clear hy27; have KL27 := d' (show 8 ≤ t316.length from by omega); replace q27 := eq_true q27) | (go_at_call 49; (with_reducible refine (fanlightref03_Number.calls k _ _ y322 t326 _ ?side1 ?side2 A10.out).mono ?_); (case side1 => exact Kd.cC HR325); (case side2 => exact HC325.out); rintro e w' ⟨rfl, ⟨nd, rfl⟩⟩; have q28 : (8 : Int) ≤ ((t316.length : Int) : Int) := oD; obtain ⟨i028, hi028, _, hsz28, _⟩ := info_parts info5; have hroom28 : t316.length ≤ co24 := (Kd.R_reads' HO318.out).2.1; have hC28 : Kd.C (Kd.int .u8) _ Ao24 t316.length t316 := (Kd.R_reads' HO318.out).2.2; have hcut28 := cut_to (P := Try.prog) 25 5 .i64 Try.underlying25 hi028 Ao24 t316.length co24 8 (by omega) q28 hroom28; have hr28 := Kd.C_take (m := 8) hC28 (by omega); have hy28 : y327.length = (8 : Int).toNat := (by rw [Ny327.out, List.length_take]; omega); rw [← Ny327.out] at hr28; rw [← hy28] at hcut28; have HR330 := d' hr28; have HC330 := d' (show y327.length ≤ co24 from by omega); clear hr28 hC28 hroom28 hi028 hsz28; have KY28 := d' hy28; clear hy28; have KL28 := d' (show 8 ≤ t316.length from by omega); replace q28 := eq_true q28) | ((with_reducible refine gate_callee (f := 49) rfl ?_); refine gL 30 Try.func49 #[.slice Ao24 y327.length co24] (h := ?_); (with_reducible refine (fanlightref03_Number.calls k _ _ y327 t331 _ ?side1 ?side2 A20.out).mono ?_); (case side1 => exact Kd.cC HR330); (case side2 => exact HC330.out); rintro e w' ⟨rfl, ⟨nd, rfl⟩⟩; refine ⟨_, rfl, ?_⟩))
     go_ret
     exact ⟨by first | rfl | (rw [Et331.out]; rfl) | (simp [errW_none, errW_some] <;> rfl) | (simp [*, errW_none, errW_some] <;> rfl), eH HB⟩
   ·
    rw [if_neg c9] at H
    exact absurd H (by simp)
 ·
  rw [if_neg c3] at H
  have c3b0 := beq_eq_false_iff_ne.mpr c3
  have c3b1 := bne_iff_ne.mpr c3
  obtain rfl := Option.some.inj H
  go_enter Try.func34, Try.ntmps34
  go_wp2_with (first | ((with_reducible refine gate_callee (f := 48) rfl ?_); refine gL 8 Try.func48 #[.slice A0 l0.length c0] (h := ?_); (with_reducible refine (fanlightref04_Get.calls k _ _ l0 t315 t316 t319 t320 _ ?side1 ?side2 A2.out).mono ?_); (case side1 => exact Kd.cC HR0); (case side2 => exact HC0.out); rintro e w29 ⟨v317, rfl, ho0, hb⟩; refine ⟨_, rfl, ?_⟩; have n0_ := d' (Kd.R_lower ho0 (a' (eH HB))); have n1_ := d' (c' (eH HB) hb); clear HB; have HO318 := n0_; have HB := n1_; clear n0_ n1_; (try clear hb); (try clear hb2); (try clear hk); (try clear hi); (try clear ho0)) | ((with_reducible refine gate_dst (N := 3) rfl ?_); (try (refine gate_guard (by rfl) ?_; dsimp only)); refine box_event ?hg (N := 3) ?hd (cs := #[.int .i64 0, .slice none 0 0]) (t := 89) ?hr ?_; (case hd => rfl); (case hg => rfl); (case hr => go_simp <;> rfl); intro gb321 hg w30 hbox hb; have n0_ := d' (Kd.R_below (Kd.eR HO318) hb); have n1_ := d' (c' (eH HB) hb); have n2_ := d' (hbox); have n3_ := d' ((by rw [hg]; exact (a' (eH HB)) : w.heap.size ≤ gb321)); have n4_ := d' ((by rw [hg]; exact (a' (eH HB)) : w.heap.size ≤ gb321)); clear HO318; clear HB; have HO318 := n0_; have HB := n1_; have BK321 := n2_; have GW321 := n3_; have GE321 := n4_; clear n0_ n1_ n2_ n3_ n4_; clear hb hbox hg; have hcz31_0 := bC BK321 0 (.int .i64 0); have hcz31_1 := bC BK321 1 (.slice none 0 0); have hfz31_0 := b' BK321.out 0; have hfz31_1 := b' BK321.out 1; obtain ⟨Ao32, co32, eo32⟩ := Kd.R_slice HO318.out; subst eo32))
  go_ret
  exact ⟨eE, eH HB⟩
end Go.Proofs.Ytgmkgobapeencaa.S
