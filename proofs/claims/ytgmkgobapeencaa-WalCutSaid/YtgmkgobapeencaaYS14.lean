import Derived.Test.YtgmkgobapeencaaYS2
import Derived.Test.YtgmkgobapeencaaYAid3
import Derived.Test.YtgmkgobapeencaaYS8
import Derived.Test.YtgmkgobapeencaaYS9
import Derived.Test.YtgmkgobapeencaaYS12
namespace Go.Proofs.Ytgmkgobapeencaa.S
open Go.Proofs.YtgmkgobapeencaaW.PrintWords renaming blk_frozen → b', below_size → c', below_step → d'
open Go.Proofs.YtgmkgobapeencaaW.PrintWords.Aside0 renaming mk → e'
open Bool renaming true → Y, false → Z
open Go.RowKit Go.Proofs.YtgmkgobapeencaaW.PrintWords Go.Proofs.YtgmkgobapeencaaW.PrintLast Go.Proofs.YtgmkgobapeencaaW.PrintMore
attribute [local go_sem] max2_int min2_int max_two min_two max_three min_three max_four min_four   -- for this text's walks alone
set_option linter.unusedVariables false
set_option linter.unusedSimpArgs false
def wal_Append.j0 : Nat → List Int → Int → Bool → List (List Int) → Int → Option ((List (List Int)) × Int × Int × Int)
 | 0, _, _, _, _, _ => none
 | k + 1, x1, x8, x48, x166000, x166001 => if x48 = true then (if (wrap64 (x8 + 1)) = 64 then (some (([] : List (List Int)), 0, 0, 51)) else (if x166000.length < 5864062014805 then ((some (x166000 ++ [[]] : List (List Int))).bind fun y173 => ((wal_put.f k x166001).bind fun t176 => ((slices_Concat_byte_byte.f (([t176, x1] : List (List Int)))).bind fun t182 => ((seal_Put.f 2 t182).bind fun bt185 => (if 0 ≤ (wrap64 (x8 + 1)) then (if (wrap64 (x8 + 1)) < (y173.length : Int) then (if (rd_L1 y173 (wrap64 (x8 + 1))).length + bt185.1.length < 140737488355328 then (some ((y173.set ((wrap64 (x8 + 1)) : Int).toNat ((rd_L1 y173 (wrap64 (x8 + 1))) ++ bt185.1)), wrap64 (x166001 + 1), wrap64 (x8 + 1), 0)) else (none)) else (none)) else (none)))))) else (none))) else ((wal_put.f k x166001).bind fun t194 => ((slices_Concat_byte_byte.f (([t194, x1] : List (List Int)))).bind fun t200 => ((seal_Put.f 2 t200).bind fun bt203 => (if 0 ≤ x8 then (if x8 < (x166000.length : Int) then (if (rd_L1 x166000 x8).length + bt203.1.length < 140737488355328 then (some ((x166000.set (x8 : Int).toNat ((rd_L1 x166000 x8) ++ bt203.1)), wrap64 (x166001 + 1), x8, 0)) else (none)) else (none)) else (none)))))
def wal_Append.f (k : Nat) (l0_0 : List (List Int)) (a0_1 : Int) (l1 : List Int) : Option ((List (List Int)) × Int × Int × Int) := (wal_Check.f k l0_0 a0_1).bind fun t167 => (if t167 = 0 then (if (l1.length : Int) > 400 then (some (([] : List (List Int)), 0, 0, 5)) else (if a0_1 = 1099511627776 then (some (([] : List (List Int)), 0, 0, 51)) else ((wal_Log_clone.f l0_0 a0_1).bind fun bt168 => (if (wrap64 ((bt168.1.length : Int) - 1)) < 0 then (wal_Append.j0 k l1 (wrap64 ((bt168.1.length : Int) - 1)) true bt168.1 bt168.2) else (if 0 ≤ (wrap64 ((bt168.1.length : Int) - 1)) then (if (wrap64 ((bt168.1.length : Int) - 1)) < (bt168.1.length : Int) then (wal_Append.j0 k l1 (wrap64 ((bt168.1.length : Int) - 1)) (decide ((wrap64 ((wrap64 (((rd_L1 bt168.1 (wrap64 ((bt168.1.length : Int) - 1))).length : Int) + 16)) + (l1.length : Int))) > 480)) bt168.1 bt168.2) else (none)) else (none)))))) else (some (([] : List (List Int)), 0, 0, t167)))
theorem wal_Append.mono_l : ∀ k, (∀ y0 y1 y2 y3 y4, LeO (wal_Append.j0 k y0 y1 y2 y3 y4) (wal_Append.j0 (k + 1) y0 y1 y2 y3 y4))
 | 0 => fun _ _ _ _ _ r h => by simp [wal_Append.j0] at h
 | k + 1 => by
  have ih0 := wal_Append.mono_l k
  ·
   intro y0 y1 y2 y3 y4
   unfold wal_Append.j0
   repeat' first
   | (with_reducible exact ih0 _ _ _ _ _)
   | (with_reducible exact wal_Check.mono _ _ _)
   | (with_reducible exact wal_put.mono _ _)
   | with_reducible first | exact LeO.refl _ | exact LeO.none _ | refine LeO.ite ?_ ?_ | refine LeO.bind ?_ fun _ => ?_
theorem wal_Append.mono : ∀ a0 a1 a2 k, LeO (wal_Append.f k a0 a1 a2) (wal_Append.f (k + 1) a0 a1 a2) := by
 intro a0 a1 a2 k
 have ih0 := wal_Append.mono_l k
 unfold wal_Append.f
 repeat' first
   | (with_reducible exact ih0 _ _ _ _ _)
   | (with_reducible exact wal_Check.mono _ _ _)
   | (with_reducible exact wal_put.mono _ _)
   | with_reducible first | exact LeO.refl _ | exact LeO.none _ | refine LeO.ite ?_ ?_ | refine LeO.bind ?_ fun _ => ?_
def wal_Append.T16 : Bool × List (List Nat × List Nat) := (true,[([],[]),([0],[0]),([],[]),([],[]),([3],[3]),([],[]),([4,5],[4,5]),([6],[6]),([],[]),([7,8],[7,8]),([1,2,0,1,2,3,4,5,6,7,8,9],[1,2]),([10,9,9,0,1,2,3,4,5,6,7,8,9],[9,10])])
def wal_Append.B16 : List Nat := [0,1,0,0,8,0,56,120,0,504,1023,2047]
theorem wal_Append.tab16 : rtab .any (opsOf Try.f11 16) = wal_Append.T16 := by kernel_rfl
theorem wal_Append.bits16 : waitsOk wal_Append.T16.2 wal_Append.B16 = true := by kernel_rfl
set_option maxHeartbeats 8000000 in
set_option maxRecDepth 100000 in
theorem wal_Append.calls (k : Nat) (A0_0 : Option Addr) (c0_0 : Nat) (l0_0 : List (List Int)) (a0_1 : Int) (A1 : Option Addr) (c1 : Nat) (l1 : List Int) (r1 : List (List Int)) (r2 : Int) (r3 : Int) (r4 : Int) (w : World) (hr0_0 : Kd.C (Kd.slice 5 (Kd.int .u8)) w A0_0 l0_0.length l0_0) (hc0_0 : l0_0.length ≤ c0_0) (hr1 : Kd.C (Kd.int .u8) w A1 l1.length l1) (hc1 : l1.length ≤ c1) (h : wal_Append.f k l0_0 a0_1 l1 = some (r1, r2, r3, r4)) :
  Calls Try.prog 11 #[.agg #[.slice A0_0 l0_0.length c0_0, .int .i64 a0_1], .slice A1 l1.length c1] w fun e w' => ∃ v0_ : Value, e = .returned (.tuple #[.agg #[v0_, .int .i64 r2], .int .i64 r3, .int .i64 r4]) ∧ Kd.S (Kd.slice 5 (Kd.int .u8)) 25 w' w.heap.size (fun _ => True) v0_ r1 ∧ Below w.heap.size w w' := by
 have hu27 := Try.underlying27
 have hu67 := Try.underlying67
 have HR0_0 := e' hr0_0
 have HC0_0 := e' hc0_0
 clear hr0_0 hc0_0
 have HR1 := e' hr1
 have HC1 := e' hc1
 clear hr1 hc1
 have HB := e' (Below.refl w.heap.size w)
 have H : ((wal_Check.f k l0_0 a0_1).bind fun t167 => (if t167 = 0 then (if (l1.length : Int) > 400 then (some (([] : List (List Int)), 0, 0, 5)) else (if a0_1 = 1099511627776 then (some (([] : List (List Int)), 0, 0, 51)) else ((wal_Log_clone.f l0_0 a0_1).bind fun bt168 => (if (wrap64 ((bt168.1.length : Int) - 1)) < 0 then (wal_Append.j0 k l1 (wrap64 ((bt168.1.length : Int) - 1)) true bt168.1 bt168.2) else (if 0 ≤ (wrap64 ((bt168.1.length : Int) - 1)) then (if (wrap64 ((bt168.1.length : Int) - 1)) < (bt168.1.length : Int) then (wal_Append.j0 k l1 (wrap64 ((bt168.1.length : Int) - 1)) (decide ((wrap64 ((wrap64 (((rd_L1 bt168.1 (wrap64 ((bt168.1.length : Int) - 1))).length : Int) + 16)) + (l1.length : Int))) > 480)) bt168.1 bt168.2) else (none)) else (none)))))) else (some (([] : List (List Int)), 0, 0, t167)))) = some (r1, r2, r3, r4) := h
 clear h
 replace H := Option.bind_eq_some_iff.mp H
 obtain ⟨t167, A30, H⟩ := H
 (try dsimp only at H)
 have A3 := e' A30
 clear A30
 by_cases c4 : t167 = 0
 ·
  rw [if_pos c4] at H
  have c4b0 := beq_iff_eq.mpr c4
  have c4b1 := bne_eq_false_iff_eq.mpr c4
  clear c4
  by_cases c5 : (l1.length : Int) > 400
  ·
   rw [if_pos c5] at H
   have c5b0 := decide_eq_true c5
   have c5b1 : decide (400 < l1.length) = true := decide_eq_true (by omega)
   clear c5
   simp only [Option.some.injEq, Prod.mk.injEq] at H
   obtain ⟨rfl, rfl, rfl, rfl⟩ := H
   go_enter Try.func11, Try.ntmps11
   go_wp2_with (first | ((with_reducible refine gate_dst (N := 2) rfl ?_); (try (refine gate_guard (by rfl) ?_; dsimp only)); refine box_event ?hg (N := 2) ?hd (cs := #[.slice A0_0 l0_0.length c0_0, .int .i64 a0_1]) (t := 27) ?hr ?_; (case hd => rfl); (case hg => rfl); (case hr => go_simp <;> rfl); intro gb165 hg w6 hbox hb; have n0_ := e' (d' (eH HB) hb); have n1_ := e' (hbox); have n2_ := e' ((by rw [hg]; exact (c' (eH HB)) : w.heap.size ≤ gb165)); have n3_ := e' ((by rw [hg]; exact (c' (eH HB)) : w.heap.size ≤ gb165)); clear HB; have HB := n0_; have BK165 := n1_; have GW165 := n2_; have GE165 := n3_; clear n0_ n1_ n2_ n3_; clear hb hbox hg) | ((with_reducible refine gate_dst (N := 4) rfl ?_); (try (refine gate_guard (by rfl) ?_; dsimp only)); refine box_event ?hg (N := 4) ?hd (cs := #[.slice none 0 0, .int .i64 0]) (t := 27) ?hr ?_; (case hd => rfl); (case hg => rfl); (case hr => go_simp <;> rfl); intro gb166 hg w7 hbox hb; have n0_ := bB BK165 hb; have n1_ := e' (d' (eH HB) hb); have n2_ := e' (hbox); have n3_ := e' ((by rw [hg]; exact (c' (eH HB)) : w.heap.size ≤ gb166)); have n4_ := e' ((by rw [hg]; exact (c' (eH HB)) : w.heap.size ≤ gb166)); have n5_ := nL hg BK165; have n6_ := nG hg BK165; clear BK165; clear HB; have BK165 := n0_; have HB := n1_; have BK166 := n2_; have GW166 := n3_; have GE166 := n4_; have NB165_166 := n5_; have NB166_165 := n6_; clear n0_ n1_ n2_ n3_ n4_ n5_ n6_; clear hb hbox hg; have hnb8 := NB165_166.out; have hnc8 := NB166_165.out; have hcz9_0 := bC BK165 0 (.slice A0_0 l0_0.length c0_0); have hcz9_1 := bC BK165 1 (.int .i64 a0_1); have hfz9_0 := b' BK165.out 0; have hfz9_1 := b' BK165.out 1) | ((with_reducible refine gate_callee (f := 21) rfl ?_); refine gL 12 Try.func21 #[.agg #[.slice A0_0 l0_0.length c0_0, .int .i64 a0_1]] (h := ?_); (with_reducible refine (wal_Check.calls k _ _ l0_0 a0_1 t167 _ ?side1 ?side2 A3.out).mono ?_); (case side1 => exact Kd.eC HR0_0 HB); (case side2 => exact HC0_0.out); rintro e w10 ⟨rfl, hb⟩; refine ⟨_, rfl, ?_⟩; have n0_ := bB BK165 hb; have n1_ := bB BK166 hb; have n2_ := e' (d' (eH HB) hb); clear BK165; clear BK166; clear HB; have BK165 := n0_; have BK166 := n1_; have HB := n2_; clear n0_ n1_ n2_; (try clear hb); (try clear hb2); (try clear hk); (try clear hi); have hcz11_0 := bC BK166 0 (.slice none 0 0); have hcz11_1 := bC BK166 1 (.int .i64 0); have hfz11_0 := b' BK166.out 0; have hfz11_1 := b' BK166.out 1))
   refine bodyPost_ret (results_ctt rfl _ _ gb166 27 #[.slice none 0 0, .int .i64 0] (0, 0) _ rfl (by refine eK ?_; refine blk_put (cs := #[.slice none 0 0, .int .i64 0]) ?_ 1 _ rfl; refine eK ?_; refine blk_put (cs := #[.slice none 0 0, .int .i64 0]) ?_ 0 _ rfl; refine eK ?_; exact BK166.out) Try.underlying27 rfl (by kernel_rfl)) rfl ?_
   exact ⟨_, eE, nS, eH HB⟩
  ·
   rw [if_neg c5] at H
   have c5b0 := decide_eq_false c5
   have c5b1 : decide (400 < l1.length) = false := decide_eq_false (by omega)
   clear c5
   by_cases c12 : a0_1 = 1099511627776
   ·
    rw [if_pos c12] at H
    have c12b0 := beq_iff_eq.mpr c12
    have c12b1 := bne_eq_false_iff_eq.mpr c12
    clear c12
    simp only [Option.some.injEq, Prod.mk.injEq] at H
    obtain ⟨rfl, rfl, rfl, rfl⟩ := H
    go_enter Try.func11, Try.ntmps11
    go_wp2_with (first | ((with_reducible refine gate_dst (N := 2) rfl ?_); (try (refine gate_guard (by rfl) ?_; dsimp only)); refine box_event ?hg (N := 2) ?hd (cs := #[.slice A0_0 l0_0.length c0_0, .int .i64 a0_1]) (t := 27) ?hr ?_; (case hd => rfl); (case hg => rfl); (case hr => go_simp <;> rfl); intro gb165 hg w13 hbox hb; have n0_ := e' (d' (eH HB) hb); have n1_ := e' (hbox); have n2_ := e' ((by rw [hg]; exact (c' (eH HB)) : w.heap.size ≤ gb165)); have n3_ := e' ((by rw [hg]; exact (c' (eH HB)) : w.heap.size ≤ gb165)); clear HB; have HB := n0_; have BK165 := n1_; have GW165 := n2_; have GE165 := n3_; clear n0_ n1_ n2_ n3_; clear hb hbox hg) | ((with_reducible refine gate_dst (N := 4) rfl ?_); (try (refine gate_guard (by rfl) ?_; dsimp only)); refine box_event ?hg (N := 4) ?hd (cs := #[.slice none 0 0, .int .i64 0]) (t := 27) ?hr ?_; (case hd => rfl); (case hg => rfl); (case hr => go_simp <;> rfl); intro gb166 hg w14 hbox hb; have n0_ := bB BK165 hb; have n1_ := e' (d' (eH HB) hb); have n2_ := e' (hbox); have n3_ := e' ((by rw [hg]; exact (c' (eH HB)) : w.heap.size ≤ gb166)); have n4_ := e' ((by rw [hg]; exact (c' (eH HB)) : w.heap.size ≤ gb166)); have n5_ := nL hg BK165; have n6_ := nG hg BK165; clear BK165; clear HB; have BK165 := n0_; have HB := n1_; have BK166 := n2_; have GW166 := n3_; have GE166 := n4_; have NB165_166 := n5_; have NB166_165 := n6_; clear n0_ n1_ n2_ n3_ n4_ n5_ n6_; clear hb hbox hg; have hnb15 := NB165_166.out; have hnc15 := NB166_165.out; have hcz16_0 := bC BK165 0 (.slice A0_0 l0_0.length c0_0); have hcz16_1 := bC BK165 1 (.int .i64 a0_1); have hfz16_0 := b' BK165.out 0; have hfz16_1 := b' BK165.out 1) | ((with_reducible refine gate_callee (f := 21) rfl ?_); refine gL 12 Try.func21 #[.agg #[.slice A0_0 l0_0.length c0_0, .int .i64 a0_1]] (h := ?_); (with_reducible refine (wal_Check.calls k _ _ l0_0 a0_1 t167 _ ?side1 ?side2 A3.out).mono ?_); (case side1 => exact Kd.eC HR0_0 HB); (case side2 => exact HC0_0.out); rintro e w17 ⟨rfl, hb⟩; refine ⟨_, rfl, ?_⟩; have n0_ := bB BK165 hb; have n1_ := bB BK166 hb; have n2_ := e' (d' (eH HB) hb); clear BK165; clear BK166; clear HB; have BK165 := n0_; have BK166 := n1_; have HB := n2_; clear n0_ n1_ n2_; (try clear hb); (try clear hb2); (try clear hk); (try clear hi); have hcz18_0 := bC BK165 0 (.slice A0_0 l0_0.length c0_0); have hcz18_1 := bC BK165 1 (.int .i64 a0_1); have hfz18_0 := b' BK165.out 0; have hfz18_1 := b' BK165.out 1; have hcz19_0 := bC BK166 0 (.slice none 0 0); have hcz19_1 := bC BK166 1 (.int .i64 0); have hfz19_0 := b' BK166.out 0; have hfz19_1 := b' BK166.out 1))
    refine bodyPost_ret (results_ctt rfl _ _ gb166 27 #[.slice none 0 0, .int .i64 0] (0, 0) _ rfl (by refine eK ?_; refine blk_put (cs := #[.slice none 0 0, .int .i64 0]) ?_ 1 _ rfl; refine eK ?_; refine blk_put (cs := #[.slice none 0 0, .int .i64 0]) ?_ 0 _ rfl; refine eK ?_; exact BK166.out) Try.underlying27 rfl (by kernel_rfl)) rfl ?_
    exact ⟨_, eE, nS, eH HB⟩
   ·
    rw [if_neg c12] at H
    have c12b0 := beq_eq_false_iff_ne.mpr c12
    have c12b1 := bne_iff_ne.mpr c12
    replace H := Option.bind_eq_some_iff.mp H
    obtain ⟨⟨t168, t171⟩, A200, H⟩ := H
    (try dsimp only at H)
    have A20 := e' A200
    clear A200
    have HC21 := e' H
    clear H
    go_enter Try.func11, Try.ntmps11
    go_upto_region 10 with (first | ((with_reducible refine gate_dst (N := 2) rfl ?_); (try (refine gate_guard (by rfl) ?_; dsimp only)); refine box_event ?hg (N := 2) ?hd (cs := #[.slice A0_0 l0_0.length c0_0, .int .i64 a0_1]) (t := 27) ?hr ?_; (case hd => rfl); (case hg => rfl); (case hr => go_simp <;> rfl); intro gb165 hg w22 hbox hb; have n0_ := e' (d' (eH HB) hb); have n1_ := e' (hbox); have n2_ := e' ((by rw [hg]; exact (c' (eH HB)) : w.heap.size ≤ gb165)); have n3_ := e' ((by rw [hg]; exact (c' (eH HB)) : w.heap.size ≤ gb165)); clear HB; have HB := n0_; have BK165 := n1_; have GW165 := n2_; have GE165 := n3_; clear n0_ n1_ n2_ n3_; clear hb hbox hg) | ((with_reducible refine gate_dst (N := 4) rfl ?_); (try (refine gate_guard (by rfl) ?_; dsimp only)); refine box_event ?hg (N := 4) ?hd (cs := #[.slice none 0 0, .int .i64 0]) (t := 27) ?hr ?_; (case hd => rfl); (case hg => rfl); (case hr => go_simp <;> rfl); intro gb166 hg w23 hbox hb; have n0_ := bB BK165 hb; have n1_ := e' (d' (eH HB) hb); have n2_ := e' (hbox); have n3_ := e' ((by rw [hg]; exact (c' (eH HB)) : w.heap.size ≤ gb166)); have n4_ := e' ((by rw [hg]; exact (c' (eH HB)) : w.heap.size ≤ gb166)); have n5_ := nL hg BK165; have n6_ := nG hg BK165; clear BK165; clear HB; have BK165 := n0_; have HB := n1_; have BK166 := n2_; have GW166 := n3_; have GE166 := n4_; have NB165_166 := n5_; have NB166_165 := n6_; clear n0_ n1_ n2_ n3_ n4_ n5_ n6_; clear hb hbox hg; have hnb24 := NB165_166.out; have hnc24 := NB166_165.out; have hcz25_0 := bC BK165 0 (.slice A0_0 l0_0.length c0_0); have hcz25_1 := bC BK165 1 (.int .i64 a0_1); have hfz25_0 := b' BK165.out 0; have hfz25_1 := b' BK165.out 1) | ((with_reducible refine gate_callee (f := 21) rfl ?_); refine gL 12 Try.func21 #[.agg #[.slice A0_0 l0_0.length c0_0, .int .i64 a0_1]] (h := ?_); (with_reducible refine (wal_Check.calls k _ _ l0_0 a0_1 t167 _ ?side1 ?side2 A3.out).mono ?_); (case side1 => exact Kd.eC HR0_0 HB); (case side2 => exact HC0_0.out); rintro e w26 ⟨rfl, hb⟩; refine ⟨_, rfl, ?_⟩; have n0_ := bB BK165 hb; have n1_ := bB BK166 hb; have n2_ := e' (d' (eH HB) hb); clear BK165; clear BK166; clear HB; have BK165 := n0_; have BK166 := n1_; have HB := n2_; clear n0_ n1_ n2_; (try clear hb); (try clear hb2); (try clear hk); (try clear hi); have hcz27_0 := bC BK165 0 (.slice A0_0 l0_0.length c0_0); have hcz27_1 := bC BK165 1 (.int .i64 a0_1); have hfz27_0 := b' BK165.out 0; have hfz27_1 := b' BK165.out 1) | ((with_reducible refine gate_callee (f := 26) rfl ?_); refine gL 29 Try.func26 #[.agg #[.slice A0_0 l0_0.length c0_0, .int .i64 a0_1]] (h := ?_); (with_reducible refine (wal_Log_clone.calls _ _ l0_0 a0_1 t168 t171 _ ?side1 ?side2 A20.out).mono ?_); (case side1 => exact Kd.eC HR0_0 HB); (case side2 => exact HC0_0.out); rintro e w28 ⟨v169, rfl, ho0, hb⟩; refine ⟨_, rfl, ?_⟩; have n0_ := e' (Kd.S_lower ho0 (c' (eH HB))); have n1_ := bB BK165 hb; have n2_ := bB BK166 hb; have n3_ := e' (d' (eH HB) hb); clear BK165; clear BK166; clear HB; have HO170 := n0_; have BK165 := n1_; have BK166 := n2_; have HB := n3_; clear n0_ n1_ n2_ n3_; (try clear hb); (try clear hb2); (try clear hk); (try clear hi); (try clear ho0); obtain ⟨Ao29, co29, eo29⟩ := Kd.S_slice HO170.out; subst eo29; have hcz30_0 := bC BK165 0 (.slice A0_0 l0_0.length c0_0); have hcz30_1 := bC BK165 1 (.int .i64 a0_1); have hfz30_0 := b' BK165.out 0; have hfz30_1 := b' BK165.out 1))
    (try simp only [Act.put, List.setIfInBounds_toArray, List.set_cons_zero, List.set_cons_succ])
    go_cut [48] (fun v48 wc => ∃ (kq : Nat) (x48_20 : Bool), v48 = .bool x48_20 ∧ Aside0 (wal_Append.j0 kq l1 (wrap64 ((t168.length : Int) - 1)) x48_20 t168 t171 = some (r1, r2, r3, r4)) ∧ Aside0 (kq ≤ k) ∧ Aside0 (Kd.S (Kd.slice 5 (Kd.int .u8)) 25 wc w.heap.size (fun _ => True) (.slice Ao29 t168.length co29) t168) ∧ Aside0 (wc.heap[gb165]? = some (.cells #[(.slice Ao29 t168.length co29), .int .i64 t171] 27 (0, 0))) ∧ Aside0 (wc.heap[gb166]? = some (.cells #[(.slice none 0 0), .int .i64 0] 27 (0, 0))) ∧ Aside0 (Below w.heap.size w wc))
    case first =>
     have H := HC21.out
     clear HC21
     by_cases c31 : (wrap64 ((t168.length : Int) - 1)) < 0
     ·
      rw [if_pos c31] at H
      have c31b0 := decide_eq_true c31
      clear c31
      (first | rw [c31b0] | (simp only [i64_w, i32_w]; rw [c31b0]) | rw [c31b1] | skip)
      have H' := e' H
      clear H
      go_wp2
      go_meet
      case rel => exact ⟨_, (true), rS, H', ⟨by first | omega | exact Nat.le_refl _⟩, ⟨by (with_reducible repeat (first | apply Kd.S_alloc | apply Kd.S_drewN | apply Kd.S_drew)); exact Kd.S_mono (Kd.S_far (p := ⟨gb165, 1, none⟩) (Kd.S_far (p := ⟨gb165, 0, none⟩) (Kd.S_types HO170.out BK165.out (by decide)) (fun _ hk => hk.2) (.slice Ao29 t168.length co29)) (fun _ hk => hk.2) (.int .i64 t171)) (fun _ hk => trivial)⟩, ⟨by refine eK ?_; refine blk_put (cs := #[.slice Ao29 t168.length co29, .int .i64 a0_1]) ?_ 1 _ rfl; refine eK ?_; refine blk_put (cs := #[.slice A0_0 l0_0.length c0_0, .int .i64 a0_1]) ?_ 0 _ rfl; refine eK ?_; exact BK165.out⟩, ⟨by refine eK ?_; refine blk_far ?_ NB166_165.out _; refine eK ?_; refine blk_far ?_ NB166_165.out _; refine eK ?_; exact BK166.out⟩, ⟨eH HB⟩⟩
     ·
      rw [if_neg c31] at H
      have c31b0 := decide_eq_false c31
      clear c31
      (first | rw [c31b0] | (simp only [i64_w, i32_w]; rw [c31b0]) | rw [c31b1] | skip)
      obtain ⟨ji32, hji32⟩ : ∃ j_ : Int, (wrap64 ((t168.length : Int) - 1)) = j_ := ⟨_, rfl⟩
      replace H : (if 0 ≤ (ji32) then (if (ji32) < (t168.length : Int) then (wal_Append.j0 k l1 ji32 (decide ((wrap64 ((wrap64 (((rd_L1 t168 (ji32)).length : Int) + 16)) + (l1.length : Int))) > 480)) t168 t171) else (none)) else (none)) = some (r1, r2, r3, r4) := by first | (rw [hji32] at H; exact H) | (simp only [hji32] at H ⊢; exact H)
      (try rw [hji32] at c31b0)
      have hji32w : (IntKind.i64.wrap ((t168.length : Int) - 1)) = ji32 := (i64_w _).trans hji32
      by_cases c33 : 0 ≤ (ji32)
      ·
       rw [if_pos c33] at H
       have c33b0 := decide_eq_true c33
       clear c33
       by_cases c34 : (ji32) < (t168.length : Int)
       ·
        rw [if_pos c34] at H
        have c34b0 := decide_eq_true c34
        clear c34
        have H' := e' H
        clear H
        have hnb35 := NB165_166.out
        have hnc35 := NB166_165.out
        have hcz36_0 := bC BK165 0 (.slice A0_0 l0_0.length c0_0)
        have hcz36_1 := bC BK165 1 (.int .i64 a0_1)
        have hfz36_0 := b' BK165.out 0
        have hfz36_1 := b' BK165.out 1
        have p172 : 0 ≤ ((ji32) : Int) := oD
        have q172 : (ji32) < (t168.length : Int) := oD
        obtain ⟨ad172, A172_0, c172_0, e172, hx172_0, hl172_0, hi172_0⟩ := at_L1 (Kd.S_reads' HO170.out).2.2 (ji32) p172 q172
        cases e172
        have hn172_0 : ad172.block ≠ gb165 := Kd.own_blk (Kd.S_ne HO170.out BK165.out (by decide))
        have hn172_1 : ad172.block ≠ gb165 := Kd.own_blk (Kd.S_ne HO170.out BK165.out (by decide))
        have HR172_0 := e' hi172_0
        have HC172_0 := e' hl172_0
        clear hi172_0 hl172_0
        replace hx172_0 := (cell_far (p := ⟨gb165, 0, none⟩) (by first | (rw [add_block]; exact hn172_0) | (show (Addr.add _ _).block ≠ _; rw [add_block]; exact hn172_0) | exact hn172_0) (.slice (some ad172) t168.length co29)).trans hx172_0
        replace hx172_0 := (cell_far (p := ⟨gb165, 1, none⟩) (by first | (rw [add_block]; exact hn172_1) | (show (Addr.add _ _).block ≠ _; rw [add_block]; exact hn172_1) | exact hn172_1) (.int .i64 t171)).trans hx172_0
        clear hn172_0
        clear hn172_1
        replace p172 := eq_true p172
        replace q172 := eq_true q172
        go_wp2
        go_meet
        case rel => exact ⟨_, (decide ((wrap64 ((wrap64 (((rd_L1 t168 (ji32)).length : Int) + 16)) + (l1.length : Int))) > 480)), (by first | rfl | (simp; done) | (simp only [← hji32] <;> (first | rfl | simp)) | (simp [*]; done)), (by first | exact H' | (rw [hji32]; exact H')), ⟨by first | omega | exact Nat.le_refl _⟩, ⟨by (with_reducible repeat (first | apply Kd.S_alloc | apply Kd.S_drewN | apply Kd.S_drew)); exact Kd.S_mono (Kd.S_far (p := ⟨gb165, 1, none⟩) (Kd.S_far (p := ⟨gb165, 0, none⟩) (Kd.S_types HO170.out BK165.out (by decide)) (fun _ hk => hk.2) (.slice (some ad172) t168.length co29)) (fun _ hk => hk.2) (.int .i64 t171)) (fun _ hk => trivial)⟩, ⟨by refine eK ?_; refine blk_put (cs := #[.slice (some ad172) t168.length co29, .int .i64 a0_1]) ?_ 1 _ rfl; refine eK ?_; refine blk_put (cs := #[.slice A0_0 l0_0.length c0_0, .int .i64 a0_1]) ?_ 0 _ rfl; refine eK ?_; exact BK165.out⟩, ⟨by refine eK ?_; refine blk_far ?_ NB166_165.out _; refine eK ?_; refine blk_far ?_ NB166_165.out _; refine eK ?_; exact BK166.out⟩, ⟨eH HB⟩⟩
       ·
        rw [if_neg c34] at H
        exact absurd H (by simp)
      ·
       rw [if_neg c33] at H
       exact absurd H (by simp)
    case rest =>
     clear HC21
     try clear c1
     try clear p1
     try clear q1
     try clear hx1
     try clear c2
     try clear p2
     try clear c3
     try clear c4
     try clear c4b0
     try clear c4b1
     try clear c5
     try clear c5b0
     try clear c5b1
     try clear p6
     try clear c8
     try clear c11
     try clear c12
     try clear c12b0
     try clear c12b1
     try clear c15
     try clear c17
     try clear p17
     try clear q17
     try clear hx17
     try clear c21
     try clear c24
     try clear c26
     try clear c31
     try clear c31b0
     try clear c33
     try clear c33b0
     try clear c34
     try clear c34b0
     try clear c35
     try clear hcz11_0
     try clear hcz11_1
     try clear hcz16_0
     try clear hcz16_1
     try clear hcz18_0
     try clear hcz18_1
     try clear hcz19_0
     try clear hcz19_1
     try clear hcz25_0
     try clear hcz25_1
     try clear hcz27_0
     try clear hcz27_1
     try clear hcz30_0
     try clear hcz30_1
     try clear hcz36_0
     try clear hcz36_1
     try clear hcz9_0
     try clear hcz9_1
     try clear hfz11_0
     try clear hfz11_1
     try clear hfz16_0
     try clear hfz16_1
     try clear hfz18_0
     try clear hfz18_1
     try clear hfz19_0
     try clear hfz19_1
     try clear hfz25_0
     try clear hfz25_1
     try clear hfz27_0
     try clear hfz27_1
     try clear hfz30_0
     try clear hfz30_1
     try clear hfz36_0
     try clear hfz36_1
     try clear hfz9_0
     try clear hfz9_1
     try clear hx172_0
     try clear p172
     try clear q172
     obtain ⟨kq, x48_20, rfl, HA, HJ20, HO_166000, BK165, BK166, HB⟩ := hcut
     cases kq with
     | zero => exact absurd HA.out (by simp [wal_Append.j0])
     | succ kj20 =>
      have H := HA.out
      clear HA
      simp only [wal_Append.j0] at H
      by_cases c37 : x48_20 = true
      ·
       subst c37
       have H1 : (if (wrap64 ((wrap64 ((t168.length : Int) - 1)) + 1)) = 64 then (some (([] : List (List Int)), 0, 0, 51)) else (if t168.length < 5864062014805 then ((some (t168 ++ [[]] : List (List Int))).bind fun y173 => ((wal_put.f kj20 t171).bind fun t176 => ((slices_Concat_byte_byte.f (([t176, l1] : List (List Int)))).bind fun t182 => ((seal_Put.f 2 t182).bind fun bt185 => (if 0 ≤ (wrap64 ((wrap64 ((t168.length : Int) - 1)) + 1)) then (if (wrap64 ((wrap64 ((t168.length : Int) - 1)) + 1)) < (y173.length : Int) then (if (rd_L1 y173 (wrap64 ((wrap64 ((t168.length : Int) - 1)) + 1))).length + bt185.1.length < 140737488355328 then (some ((y173.set ((wrap64 ((wrap64 ((t168.length : Int) - 1)) + 1)) : Int).toNat ((rd_L1 y173 (wrap64 ((wrap64 ((t168.length : Int) - 1)) + 1))) ++ bt185.1)), wrap64 (t171 + 1), wrap64 ((wrap64 ((t168.length : Int) - 1)) + 1), 0)) else (none)) else (none)) else (none)))))) else (none))) = some (r1, r2, r3, r4) := by rw [if_pos rfl] at H; exact H
       clear H
       have H := H1
       clear H1
       by_cases c38 : (wrap64 ((wrap64 ((t168.length : Int) - 1)) + 1)) = 64
       ·
        rw [if_pos c38] at H
        have c38b0 := beq_iff_eq.mpr c38
        have c38b1 := bne_eq_false_iff_eq.mpr c38
        clear c38
        simp only [Option.some.injEq, Prod.mk.injEq] at H
        obtain ⟨rfl, rfl, rfl, rfl⟩ := H
        have hnb39 := NB166_165.out
        have hnc39 := NB165_166.out
        have hcz40_0 := bC BK166 0 (.slice none 0 0)
        have hcz40_1 := bC BK166 1 (.int .i64 0)
        have hfz40_0 := b' BK166.out 0
        have hfz40_1 := b' BK166.out 1
        go_wp2
        refine bodyPost_ret (results_ctt rfl _ _ gb166 27 #[.slice none 0 0, .int .i64 0] (0, 0) _ rfl (by refine eK ?_; refine blk_put (cs := #[.slice none 0 0, .int .i64 0]) ?_ 1 _ rfl; refine eK ?_; refine blk_put (cs := #[.slice none 0 0, .int .i64 0]) ?_ 0 _ rfl; refine eK ?_; exact BK166.out) Try.underlying27 rfl (by kernel_rfl)) rfl ?_
        exact ⟨_, eE, nS, eH HB⟩
       ·
        rw [if_neg c38] at H
        have c38b0 := beq_eq_false_iff_ne.mpr c38
        have c38b1 := bne_iff_ne.mpr c38
        by_cases c41 : t168.length < 5864062014805
        ·
         rw [if_pos c41] at H
         have LMc41 := e' c41
         clear c41
         obtain ⟨y173, hy173⟩ : ∃ y_ : List (List Int), y_ = (t168 ++ [[]]) := ⟨_, rfl⟩
         replace H : ((wal_put.f kj20 t171).bind fun t176 => ((slices_Concat_byte_byte.f (([t176, l1] : List (List Int)))).bind fun t182 => ((seal_Put.f 2 t182).bind fun bt185 => (if 0 ≤ (wrap64 ((wrap64 ((t168.length : Int) - 1)) + 1)) then (if (wrap64 ((wrap64 ((t168.length : Int) - 1)) + 1)) < (y173.length : Int) then (if (rd_L1 y173 (wrap64 ((wrap64 ((t168.length : Int) - 1)) + 1))).length + bt185.1.length < 140737488355328 then (some ((y173.set ((wrap64 ((wrap64 ((t168.length : Int) - 1)) + 1)) : Int).toNat ((rd_L1 y173 (wrap64 ((wrap64 ((t168.length : Int) - 1)) + 1))) ++ bt185.1)), wrap64 (t171 + 1), wrap64 ((wrap64 ((t168.length : Int) - 1)) + 1), 0)) else (none)) else (none)) else (none))))) = some (r1, r2, r3, r4) := by rw [hy173]; exact H
         have Ny173 := e' hy173
         clear hy173
         replace H := Option.bind_eq_some_iff.mp H
         obtain ⟨t176, A420, H⟩ := H
         (try dsimp only at H)
         have A42 := e' A420
         clear A420
         obtain ⟨y179, hy179⟩ : ∃ y_ : List (List Int), y_ = (([t176, l1] : List (List Int))) := ⟨_, rfl⟩
         replace H : ((slices_Concat_byte_byte.f y179).bind fun t182 => ((seal_Put.f 2 t182).bind fun bt185 => (if 0 ≤ (wrap64 ((wrap64 ((t168.length : Int) - 1)) + 1)) then (if (wrap64 ((wrap64 ((t168.length : Int) - 1)) + 1)) < (y173.length : Int) then (if (rd_L1 y173 (wrap64 ((wrap64 ((t168.length : Int) - 1)) + 1))).length + bt185.1.length < 140737488355328 then (some ((y173.set ((wrap64 ((wrap64 ((t168.length : Int) - 1)) + 1)) : Int).toNat ((rd_L1 y173 (wrap64 ((wrap64 ((t168.length : Int) - 1)) + 1))) ++ bt185.1)), wrap64 (t171 + 1), wrap64 ((wrap64 ((t168.length : Int) - 1)) + 1), 0)) else (none)) else (none)) else (none)))) = some (r1, r2, r3, r4) := by rw [hy179]; exact H
         have Ny179 := e' hy179
         clear hy179
         replace H := Option.bind_eq_some_iff.mp H
         obtain ⟨t182, A430, H⟩ := H
         (try dsimp only at H)
         have A43 := e' A430
         clear A430
         replace H := Option.bind_eq_some_iff.mp H
         obtain ⟨⟨t185, t188⟩, A440, H⟩ := H
         (try dsimp only at H)
         have A44 := e' A440
         clear A440
         obtain ⟨ji45, hji45⟩ : ∃ j_ : Int, (wrap64 ((wrap64 ((t168.length : Int) - 1)) + 1)) = j_ := ⟨_, rfl⟩
         replace H : (if 0 ≤ (ji45) then (if (ji45) < (y173.length : Int) then (if (rd_L1 y173 (ji45)).length + t185.length < 140737488355328 then (some ((y173.set ((ji45) : Int).toNat ((rd_L1 y173 (ji45)) ++ t185)), wrap64 (t171 + 1), ji45, 0)) else (none)) else (none)) else (none)) = some (r1, r2, r3, r4) := by first | (rw [hji45] at H; exact H) | (simp only [hji45] at H ⊢; exact H)
         (try rw [hji45] at c38b0)
         (try rw [hji45] at c38b1)
         (try rw [hji45] at A42)
         (try rw [hji45] at A43)
         (try rw [hji45] at A44)
         have hji45w : (IntKind.i64.wrap ((wrap64 ((t168.length : Int) - 1)) + 1)) = ji45 := (i64_w _).trans hji45
         by_cases c46 : 0 ≤ (ji45)
         ·
          rw [if_pos c46] at H
          have c46b0 := decide_eq_true c46
          clear c46
          by_cases c47 : (ji45) < (y173.length : Int)
          ·
           rw [if_pos c47] at H
           have c47b0 := decide_eq_true c47
           clear c47
           by_cases c48 : (rd_L1 y173 (ji45)).length + t185.length < 140737488355328
           ·
            rw [if_pos c48] at H
            have LMc48 := e' c48
            clear c48
            obtain ⟨y190, hy190⟩ : ∃ y_ : List Int, y_ = ((rd_L1 y173 (ji45)) ++ t185) := ⟨_, rfl⟩
            replace H : (some ((y173.set ((ji45) : Int).toNat y190), wrap64 (t171 + 1), ji45, 0)) = some (r1, r2, r3, r4) := by rw [hy190]; exact H
            have Ny190 := e' hy190
            clear hy190
            obtain ⟨y193, hy193⟩ : ∃ y_ : List (List Int), y_ = (y173.set ((ji45) : Int).toNat y190) := ⟨_, rfl⟩
            replace H : (some (y193, wrap64 (t171 + 1), ji45, 0)) = some (r1, r2, r3, r4) := by rw [hy193]; exact H
            have Ny193 := e' hy193
            clear hy193
            simp only [Option.some.injEq, Prod.mk.injEq] at H
            obtain ⟨rfl, rfl, rfl, rfl⟩ := H
            have hnb50 := NB165_166.out
            have hnc50 := NB166_165.out
            have hcz51_0 := bC BK165 0 (.slice Ao29 t168.length co29)
            have hcz51_1 := bC BK165 1 (.int .i64 t171)
            have hfz51_0 := b' BK165.out 0
            have hfz51_1 := b' BK165.out 1
            try go_wp2_with (first | ((with_reducible refine gate_builtin (b := .append) (xs := #[.tmp 55, .tmp 56]) rfl ?_); (try (refine gate_guard (by rfl) ?_; dsimp only)); at_builtin; refine Kd.S_append (Kd.slice 5 (Kd.int .u8)) (w0 := w) w.heap.size rfl (.tmp 55) (.tmp 56) 22 25 (.slice none 0 0) 24 rfl Try.underlying22 info25 rfl (by decide) (by omega) (.slice Ao29 t168.length co29) t168 ([] : List Int) [.slice none 0 0] (fun _ => True) (fun _ => False) rfl rfl ?aP (fun _ hk => hk.elim) ?aF ?aO ?aB ?aS ?aL ?_; (case aP => exact ⟨_, rfl, Kd.R_nil _ _ _ _ _⟩); (case aB => exact (eH HB)); (case aF => exact (fun _ _ => trivial)); (case aO => exact (Kd.kS (Kd.S_mono HO_166000.out (fun k_ hk => ⟨trivial, fun e_ => e_⟩)))); (case aS => exact (c' (eH HB))); (case aL => have := LMc41.out; omega); intro v174 w52 ho hb hg hat; rw [← Ny173.out] at ho; have n0_ := e' (blk_grown (g := gb165) (o := .cells #[.slice Ao29 t168.length co29, .int .i64 t171] 27 (0, 0)) (eB BK165) hg (Kd.S_ne HO_166000.out BK165.out (by decide))); have n1_ := e' (blk_grown (g := gb166) (o := .cells #[.slice none 0 0, .int .i64 0] 27 (0, 0)) (eB BK166) hg (Kd.S_ne HO_166000.out BK166.out (by decide))); have n2_ := e' (hb); have n3_ := e' (ho); clear BK165; clear BK166; clear HB; clear HO_166000; have BK165 := n0_; have BK166 := n1_; have HB := n2_; have HO175 := n3_; clear n0_ n1_ n2_ n3_; clear ho hb hg hat; obtain ⟨Ao53, co53, eo53⟩ := Kd.S_slice HO175.out; subst eo53; have hcz54_0 := bC BK165 0 (.slice Ao29 t168.length co29); have hcz54_1 := bC BK165 1 (.int .i64 t171); have hfz54_0 := b' BK165.out 0; have hfz54_1 := b' BK165.out 1) | ((with_reducible refine gate_callee (f := 29) rfl ?_); refine gL 62 Try.func29 #[.int .i64 t171] (h := ?_); (with_reducible refine (wal_put.calls kj20 t171 t176 _ A42.out).mono ?_); rintro e w55 ⟨v177, rfl, ho0, hb⟩; refine ⟨_, rfl, ?_⟩; have n0_ := e' (Kd.S_elder' (Kd.kS (Kd.S_mono (Kd.S_far (p := ⟨gb165, 0, none⟩) (Kd.S_types HO175.out BK165.out (by decide)) (fun _ hk => hk.2) (.slice Ao53 y173.length co53)) (fun _ h_ => h_.1))) (Kd.R_base ho0) hb); have n1_ := e' (Kd.R_lower ho0 (c' (eH HB))); have n2_ := e' (blk_below (g := gb165) (o := .cells #[.slice Ao53 y173.length co53, .int .i64 t171] 27 (0, 0)) (by refine eK ?_; refine blk_put (cs := #[.slice Ao29 t168.length co29, .int .i64 t171]) ?_ 0 _ rfl; refine eK ?_; exact BK165.out) hb); have n3_ := e' (blk_below (g := gb166) (o := .cells #[.slice none 0 0, .int .i64 0] 27 (0, 0)) (by refine eK ?_; refine blk_far ?_ NB166_165.out _; refine eK ?_; exact BK166.out) hb); have n4_ := e' (d' (eH HB) hb); clear HO175; clear BK165; clear BK166; clear HB; have HO175 := n0_; have HO178 := n1_; have BK165 := n2_; have BK166 := n3_; have HB := n4_; clear n0_ n1_ n2_ n3_ n4_; (try clear hb); (try clear hb2); (try clear hk); (try clear hi); (try clear ho0); obtain ⟨Ao56, co56, eo56⟩ := Kd.R_slice HO178.out; subst eo56) | ((with_reducible refine gate_dst (N := 64) rfl ?_); (try (refine gate_guard (by rfl) ?_; dsimp only)); refine Kd.N_lit (Kd.slice 5 (Kd.int .u8)) _ 25 ?hg (N' := 64) ?hd (xs := ([t176, l1] : List (List Int))) (inner := [.slice Ao56 t176.length co56, .slice A1 l1.length c1]) (ok := fun _ => True) (okp := fun _ => True) ?hr ?hp (fun _ hk => hk) trivial (Below.refl _ _) (Nat.le_refl _) (by simp) ?_; (case hd => rfl); (case hg => rfl); (case hr => go_simp <;> rfl); (case hp => exact (Reps.one (show Kd.FK (Kd.slice 5 (Kd.int .u8)) _ _ t176 [.slice Ao56 t176.length co56] from (Kd.FK_slice_mk (by exact (Kd.R_reads' HO178.out).2.1) (Kd.F_mono (Kd.C_F (Kd.heap_int .u8) (by exact Kd.kC (Kd.R_reads' HO178.out).2.2)) (fun _ _ => trivial)))) (Reps.one (show Kd.FK (Kd.slice 5 (Kd.int .u8)) _ _ l1 [.slice A1 l1.length c1] from (Kd.FK_slice_mk (by exact HC1.out) (Kd.F_mono (Kd.C_F (Kd.heap_int .u8) (by repeat (first | exact (Kd.C_below HR1.out HB.out) | (with_reducible refine Kd.C_alloc ?_ _) | (with_reducible refine Kd.C_drewN ?_ _) | (with_reducible refine Kd.C_drew ?_)))) (fun _ _ => trivial)))) (Reps.none _ _)))); intro v180 w57 ho58 hb hg_ hnew_; clear hg_ hnew_; (first | rw [← Ny179.out] at ho58 | (simp only [Int.reduceToNat] at ho58; rw [← Ny179.out] at ho58)); have n0_ := e' (Kd.S_elder' (Kd.eS HO175) (Kd.N_base ho58) hb); have n1_ := e' (Kd.R_below (Kd.eR HO178) hb); have n2_ := e' (Kd.N_lower ho58 (c' (eH HB))); have n3_ := bB BK165 hb; have n4_ := bB BK166 hb; have n5_ := e' (d' (eH HB) hb); clear HO175; clear HO178; clear BK165; clear BK166; clear HB; have HO175 := n0_; have HO178 := n1_; have HO181 := n2_; have BK165 := n3_; have BK166 := n4_; have HB := n5_; clear n0_ n1_ n2_ n3_ n4_ n5_; clear hb ho58; obtain ⟨Ao59, co59, eo59⟩ := Kd.N_slice HO181.out; subst eo59) | ((with_reducible refine gate_callee (f := 28) rfl ?_); refine gL 65 Try.func28 #[.slice Ao59 y179.length co59] (h := ?_); (with_reducible refine (slices_Concat_byte_byte.calls _ _ y179 t182 _ ?side1 ?side2 A43.out).mono ?_); (case side1 => exact Kd.kC (Kd.N_reads' HO181.out).2.2); (case side2 => exact (Kd.N_reads' HO181.out).2.1); rintro e w60 ⟨v183, rfl, ho0, hb⟩; refine ⟨_, rfl, ?_⟩; have n0_ := e' (Kd.S_elder' (Kd.eS HO175) (Kd.R_base ho0) hb); have n1_ := e' (Kd.R_elder' (Kd.eR HO178) (Kd.R_base ho0) hb); have n2_ := e' (Kd.N_elder' (Kd.eN HO181) (Kd.R_base ho0) hb); have n3_ := e' (Kd.R_lower (Kd.R_new' ho0 (Kd.R_lt (Kd.eR HO178))) (c' (eH HB))); have n4_ := bB BK165 hb; have n5_ := bB BK166 hb; have n6_ := e' (d' (eH HB) hb); clear HO175; clear HO178; clear HO181; clear BK165; clear BK166; clear HB; have HO175 := n0_; have HO178 := n1_; have HO181 := n2_; have HO184 := n3_; have BK165 := n4_; have BK166 := n5_; have HB := n6_; clear n0_ n1_ n2_ n3_ n4_ n5_ n6_; (try clear hb); (try clear hb2); (try clear hk); (try clear hi); (try clear ho0); obtain ⟨Ao61, co61, eo61⟩ := Kd.R_slice HO184.out; subst eo61) | ((with_reducible refine gate_callee (f := 27) rfl ?_); refine gL 67 Try.func27 #[.agg #[.int .i64 2, .slice Ao61 t182.length co61]] (h := ?_); (with_reducible refine (seal_Put.calls 2 _ _ t182 t185 t188 _ ?side1 ?side2 A44.out).mono ?_); (case side1 => exact Kd.kC (Kd.R_reads' HO184.out).2.2); (case side2 => exact (Kd.R_reads' HO184.out).2.1); rintro e w62 ⟨v186, rfl, ho0, hb⟩; refine ⟨_, rfl, ?_⟩; have n0_ := e' (Kd.S_elder' (Kd.eS HO175) (Kd.R_base ho0) hb); have n1_ := e' (Kd.R_elder' (Kd.eR HO178) (Kd.R_base ho0) hb); have n2_ := e' (Kd.N_elder' (Kd.eN HO181) (Kd.R_base ho0) hb); have n3_ := e' (Kd.R_elder' (Kd.eR HO184) (Kd.R_base ho0) hb); have n4_ := e' (Kd.R_lower (Kd.R_new' (Kd.R_new' ho0 (Kd.R_lt (Kd.eR HO178))) (Kd.R_lt (Kd.eR HO184))) (c' (eH HB))); have n5_ := bB BK165 hb; have n6_ := bB BK166 hb; have n7_ := e' (d' (eH HB) hb); clear HO175; clear HO178; clear HO181; clear HO184; clear BK165; clear BK166; clear HB; have HO175 := n0_; have HO178 := n1_; have HO181 := n2_; have HO184 := n3_; have HO187 := n4_; have BK165 := n5_; have BK166 := n6_; have HB := n7_; clear n0_ n1_ n2_ n3_ n4_ n5_ n6_ n7_; (try clear hb); (try clear hb2); (try clear hk); (try clear hi); (try clear ho0)))
            have n0_ := e' (Kd.S_drew HO175.out)
            have n1_ := e' (Kd.R_drew HO178.out)
            have n2_ := e' (Kd.N_drew HO181.out)
            have n3_ := e' (Kd.R_drew HO184.out)
            have n4_ := e' (Kd.R_drew HO187.out)
            have n5_ := e' (blk_drew BK165.out)
            have n6_ := e' (blk_drew BK166.out)
            have n7_ := e' (below_drew1 HB.out)
            clear HO175
            clear HO178
            clear HO181
            clear HO184
            clear HO187
            clear BK165
            clear BK166
            clear HB
            have HO175 := n0_
            have HO178 := n1_
            have HO181 := n2_
            have HO184 := n3_
            have HO187 := n4_
            have BK165 := n5_
            have BK166 := n6_
            have HB := n7_
            clear n0_ n1_ n2_ n3_ n4_ n5_ n6_ n7_
            have p189 : 0 ≤ ((ji45) : Int) := oD
            have q189 : (ji45) < (y173.length : Int) := oD
            obtain ⟨ad189, A189_0, c189_0, e189, hx189_0, hl189_0, hi189_0⟩ := at_L1 (Kd.S_reads' HO175.out).2.2 (ji45) p189 q189
            cases e189
            obtain ⟨ce189, hce189, hMe189, hcc189⟩ := Kd.S_get HO175.out [] (ji45) p189 (by first | exact q189 | exact oD | (have e_ := (Kd.S_reads' HO175.out).1; omega))
            obtain ⟨ve189_0, rfl, ge189_0⟩ := hMe189
            have hv189_0 := hcc189 0 _ rfl
            rw [Nat.add_zero, show ((Kd.slice 5 (Kd.int .u8))).sz = 1 from rfl, Nat.mul_one] at hv189_0
            replace hv189_0 := Option.some.inj (hv189_0.symm.trans hx189_0)
            rw [hv189_0] at ge189_0
            have HL189_0 := e' (show Kd.R (Kd.int .u8) 5 _ _ _ _ (rd_L1 y173 (ji45)) from ge189_0)
            clear hv189_0 ge189_0
            have HX189_0 := e' hx189_0
            clear hcc189 hce189
            have HR189_0 := e' hi189_0
            have HC189_0 := e' hl189_0
            clear hi189_0 hl189_0
            replace p189 := eq_true p189
            replace q189 := eq_true q189
            have n_ := e' (Kd.S_mono (ok' := (fun k_ => some k_ ≠ (.slice Ao56 t176.length co56 : Value).ownBlock ∧ some k_ ≠ (.slice Ao61 t182.length co61 : Value).ownBlock ∧ some k_ ≠ (v186 : Value).ownBlock)) HO175.out (fun k_ hk => ⟨hk.1.1.1.2, ⟨hk.1.2, hk.2⟩⟩))
            clear HO175
            have HO175 := n_
            clear n_
            obtain ⟨Ao66, co66, eo66⟩ := Kd.R_slice HO187.out
            (first | subst eo66 | (injection eo66 with f1_ f2_ f3_; have f4_ := f1_.symm; have f5_ := f3_.symm; clear f1_ f2_ f3_; subst f4_; subst f5_))
            obtain ⟨go64, co64, eo64, gb64, gl64, cl64, HG64⟩ := Kd.S_form HO175.out (by have h_ : ((ji45) : Int) < ((y173.length : Int) : Int) := oD; have h2_ : 0 ≤ ((ji45) : Int) := (oD); omega)
            (first | cases eo64 | (injection eo64 with ea_ en_ ec_; (first | subst ea_ | (injection ea_ with ea_; subst ea_)); subst ec_; clear en_))
            have GB64 := e' gb64
            have GG64 := e' HG64
            clear gb64 gl64 HG64
            (first | simp only [add_plain] at hx189_0 | skip)
            obtain ⟨oki64, ce64, hcl64, hM64, hcc64, _, _, hH64⟩ := Kd.S_elem HO175.out [] ((ji45) : Int) (oD) (by have h_ : ((ji45) : Int) < ((y173.length : Int) : Int) := oD; first | exact h_ | (have e_ := (Kd.S_reads' HO175.out).1; omega) | simpa using h_)
            obtain ⟨ve64_0, rfl, ge64_0⟩ := hM64
            have hv64 := hcc64 0 _ rfl
            have hX64 := HX189_0.out
            (try simp only [add_plain] at hX64)
            (try simp only [Nat.add_zero] at hv64)
            (try rw [show ((Kd.slice 5 (Kd.int .u8))).sz = 1 from rfl, Nat.mul_one] at hv64)
            replace hv64 := Option.some.inj (hv64.symm.trans hX64)
            subst hv64
            clear hX64 hcc64 hcl64
            have UU64 := e' (show Kd.R (Kd.int .u8) 5 _ w.heap.size oki64 (.slice A189_0 (rd_L1 y173 (ji45)).length c189_0) (rd_L1 y173 (ji45)) from ge64_0)
            have HH64 := e' hH64
            have HN64 := e' (Kd.S_reads' HO175.out).1
            clear hH64 ge64_0
            refine start_ (n := 12) (S := fun w' => w'.cell? ⟨gb165, 0, none⟩ = some (.slice (some ⟨go64, 0, none⟩) y173.length co53) ∧ w'.cell? ⟨gb165, 1, none⟩ = some (.int .i64 t171) ∧ w'.cell? ⟨go64, ((ji45)).toNat, none⟩ = some (.slice A189_0 (rd_L1 y173 (ji45)).length c189_0)) (ds := [11]) #[Z,Z,Z,Z,Z,Z,Z,Z,Z,Z,Z,Z] (by kernel_rfl) rfl rfl ⟨(blk_cell BK165.out 0).trans rfl, (blk_cell BK165.out 1).trans rfl, hx189_0⟩ (fun hHeld => ?_); refine with_tabW wal_Append.tab16 wal_Append.bits16 (fun HT_ HW_ => ?_)
            generalize w62.drew = w63 at HO175 HO178 HO181 HO184 HO187 BK165 BK166 HB GG64 HH64 HL189_0 HR189_0 HX189_0 UU64 hx189_0 hHeld ⊢
            refine pP 0 70 #[Y,Z,Z,Z,Z,Z,Z,Z,Z,Z,Z,Z] HT_ (h := ?_)
            refine pP 2 72 #[Y,Z,Y,Z,Z,Z,Z,Z,Z,Z,Z,Z] HT_ (h := ?_)
            refine pP 3 73 #[Y,Z,Y,Y,Z,Z,Z,Z,Z,Z,Z,Z] HT_ (h := ?_)
            refine pP 5 75 #[Y,Z,Y,Y,Z,Y,Z,Z,Z,Z,Z,Z] HT_ (h := ?_)
            refine pP 8 78 #[Y,Z,Y,Y,Z,Y,Z,Z,Y,Z,Z,Z] HT_ (h := ?_)
            refine tP 1 71 #[Y,Y,Y,Y,Z,Y,Z,Z,Y,Z,Z,Z] HT_ HW_ hHeld (hy := by refine Or.inl ⟨by rfl, ?_⟩; rintro w' ⟨s0, s1, s2⟩; go_simp; with_reducible rfl) (h := ?_)
            refine tP 4 74 #[Y,Y,Y,Y,Y,Y,Z,Z,Y,Z,Z,Z] HT_ HW_ hHeld (hy := by refine Or.inl ⟨by rfl, ?_⟩; rintro w' ⟨s0, s1, s2⟩; go_simp; with_reducible rfl) (h := ?_)
            refine pP 6 76 #[Y,Y,Y,Y,Y,Y,Y,Z,Y,Z,Z,Z] HT_ (h := ?_)
            refine tP 7 77 #[Y,Y,Y,Y,Y,Y,Y,Y,Y,Z,Z,Z] HT_ HW_ hHeld (hy := by refine Or.inl ⟨by rfl, ?_⟩; rintro w' ⟨s0, s1, s2⟩; go_simp; with_reducible rfl) (h := ?_)
            refine one_ (i := 9) (N := some 79) #[Y,Y,Y,Y,Y,Y,Y,Y,Y,Y,Z,Z] rfl rfl (one_of HT_.out (by kernel_rfl)) (by decide) (fun K hK => ?_)
            refine Kd.R_append_rows_step (Kd.int .u8) (w0 := w) w.heap.size (by rfl) (.tmp 77) (.tmp 78) 25 5 (.int .u8 0) 1 rfl Try.underlying25 info5 rfl (by decide) (by omega) (.slice A189_0 (rd_L1 y173 (ji45)).length c189_0) (rd_L1 y173 (ji45)) t185 _ _ _ (fun k_ => oki64 k_ ∨ ((fun k_ => some k_ ≠ (.slice Ao56 t176.length co56 : Value).ownBlock ∧ some k_ ≠ (.slice Ao61 t182.length co61 : Value).ownBlock ∧ some k_ ≠ (.slice Ao66 t185.length co66 : Value).ownBlock)) k_ ∧ w63.heap.size ≤ k_) (fun _ => False) rfl rfl ?aO ?aR (fun _ _ h => h) (fun _ h => h.elim) ?aF ?aB ?aS ?aL ?_
            (case aR => exact Kd.kC (Kd.R_reads' HO187.out).2.2)
            (case aB => exact (eH HB))
            (case aF => exact (fun k_ hk => .inr ⟨⟨Kd.fresh' (Kd.R_lt (Kd.eR HO178)) k_ hk, Kd.fresh' (Kd.R_lt (Kd.eR HO184)) k_ hk, Kd.fresh' (Kd.R_lt (Kd.eR HO187)) k_ hk⟩, hk⟩))
            (case aO => exact (Kd.kR (Kd.R_mono UU64.out (fun _ hk => .inl hk))))
            (case aS => exact (c' (eH HB)))
            (case aL => have := LMc48.out; omega)
            intro v191 w65 ho hb hg hat
            (first | have HS2_ := cell_grown hg (hHeld.2.2) (by first | (rw [add_block]; exact (fun e_ => ((HL189_0.out.1 _ e_.symm).2) rfl)) | (show some (Addr.add _ _).block ≠ _; rw [add_block]; exact (fun e_ => ((HL189_0.out.1 _ e_.symm).2) rfl)) | exact (fun e_ => ((HL189_0.out.1 _ e_.symm).2) rfl)) | have HS2_ := cell_grown hg (cell_unalloc (hHeld.2.2) (by first | (rw [add_block]; exact Kd.S_lt HO175.out _ rfl) | (show (Addr.add _ _).block < _; rw [add_block]; exact Kd.S_lt HO175.out _ rfl) | exact Kd.S_lt HO175.out _ rfl)) (by first | (rw [add_block]; exact (fun e_ => ((HL189_0.out.1 _ e_.symm).2) rfl)) | (show some (Addr.add _ _).block ≠ _; rw [add_block]; exact (fun e_ => ((HL189_0.out.1 _ e_.symm).2) rfl)) | exact (fun e_ => ((HL189_0.out.1 _ e_.symm).2) rfl)))
            rw [← Ny190.out] at ho
            have n0_ := e' (blk_grown (g := gb165) (o := .cells #[.slice (some ⟨go64, 0, none⟩) y173.length co53, .int .i64 t171] 27 (0, 0)) (eB BK165) hg (Kd.R_ne HL189_0.out BK165.out (by decide)))
            have n1_ := e' (blk_grown (g := gb166) (o := .cells #[.slice none 0 0, .int .i64 0] 27 (0, 0)) (eB BK166) hg (Kd.R_ne HL189_0.out BK166.out (by decide)))
            have n2_ := e' (Kd.R_grown2 (Kd.eR HO178) rfl hg (fun k_ e_ => (HL189_0.out.1 k_ e_).1.1.1.1.2))
            have n3_ := e' (Kd.R_grown2 (Kd.eR HO184) rfl hg (fun k_ e_ => (HL189_0.out.1 k_ e_).1.1.2))
            have n4_ := e' (Kd.R_grown2 (Kd.eR HO187) rfl hg (fun k_ e_ => (HL189_0.out.1 k_ e_).1.2))
            have n5_ := e' (hb)
            have n6_ := e' (Kd.H_grown (Kd.H_widen (by repeat (first | exact HH64.out | refine Kd.H_alloc ?_ _ | refine Kd.H_drewN ?_ _ | refine Kd.H_drew ?_))) hg (fun k_ e_ => .inl (UU64.out.1 k_ e_)))
            have n7_ := e' (ho)
            clear BK165
            clear BK166
            clear HO178
            clear HO184
            clear HO187
            clear HB
            clear HH64
            clear HO175
            clear UU64
            clear HL189_0
            have BK165 := n0_
            have BK166 := n1_
            have HO178 := n2_
            have HO184 := n3_
            have HO187 := n4_
            have HB := n5_
            have HH64 := n6_
            have HO192 := n7_
            clear n0_ n1_ n2_ n3_ n4_ n5_ n6_ n7_
            clear ho hb hg hat
            have p49 : 0 ≤ ((ji45) : Int) := oD
            have q49 : ((ji45) : Int) < ((y173.length : Int) : Int) := oD
            replace p49 := eq_true p49
            replace q49 := eq_true q49
            obtain ⟨Ao69, co69, eo69⟩ := Kd.R_slice HO192.out
            (first | subst eo69 | (injection eo69 with f1_ f2_ f3_; have f4_ := f1_.symm; have f5_ := f3_.symm; clear f1_ f2_ f3_; subst f4_; subst f5_))
            obtain ⟨_, _, hraw67, _, _, hcc67, _⟩ := Kd.H_raw HH64.out (oD) (by have h_ : ((ji45) : Int) < ((y173.length : Int) : Int) := oD; first | exact h_ | (have e_ := (HN64.out); omega) | simpa using h_)
            obtain ⟨_, hfr67⟩ := Kd.H_at HH64.out (oD) (by have h_ : ((ji45) : Int) < ((y173.length : Int) : Int) := oD; first | exact h_ | (have e_ := (HN64.out); omega) | simpa using h_)
            have hx67_0 := hcc67 0 _ rfl
            have hf67_0 := hfr67 0
            (try simp only [Nat.add_zero] at hx67_0 hf67_0)
            (try rw [show ((Kd.slice 5 (Kd.int .u8))).sz = 1 from rfl, Nat.mul_one] at hx67_0)
            (try rw [show ((Kd.slice 5 (Kd.int .u8))).sz = 1 from rfl, Nat.mul_one] at hf67_0)
            have HP67 := Kd.S_seg0 HH64.out (oD) (by have h_ : ((ji45) : Int) < ((y173.length : Int) : Int) := oD; first | exact h_ | (have e_ := (HN64.out); omega) | simpa using h_) (seg := [.slice Ao69 y190.length co69]) (j := 0) (show 1 ≤ 1 from by decide) (x' := y190) (Kd.M_row HO192.out) (fun _ hk => hk)
            (try simp only [show ((Kd.slice 5 (Kd.int .u8))).sz = 1 from rfl, Nat.mul_one, Nat.add_zero] at HP67)
            clear hcc67 hfr67
            have HNB165_go64 := e' (show gb165 ≠ go64 from by have h_ := Kd.R_ne hraw67 BK165.out (by decide); intro e_; exact h_ (by rw [e_]; rfl))
            have HNB166_go64 := e' (show gb166 ≠ go64 from by have h_ := Kd.R_ne hraw67 BK166.out (by decide); intro e_; exact h_ (by rw [e_]; rfl))
            have HS67 := HP67.1
            rw [← Ny193.out] at HS67
            have HQ67 := e' HS67
            obtain ⟨_, hgg67⟩ := Kd.R_typed hraw67 go64 rfl
            have GG67_ := e' hgg67
            clear HP67 HS67 hgg67
            refine hK.out _ _ ⟨(blk_cell BK165.out 0).trans rfl, (blk_cell BK165.out 1).trans rfl, HS2_⟩ (fun hHeld => ?_)
            clear hK K
            refine norm_ (a' := ?_) ?_ ?_
            rotate_left
            ·
             show Act.put _ (some 79) _ = _
             exact uP
            refine pP 10 80 #[Y,Y,Y,Y,Y,Y,Y,Y,Y,Y,Y,Z] HT_ (h := ?_)
            refine last_ (i := 11) (N := none) #[Y,Y,Y,Y,Y,Y,Y,Y,Y,Y,Y,Y] rfl rfl (one_of HT_.out (by kernel_rfl)) (by decide) (fun K hK => ?_)
            refine skip_ (w1 := ?_) (by rfl) rfl ?_ ?_
            rotate_left
            ·
             go_simp
             rfl
            refine hK.out _ _ ?_
            clear hK K
            refine done_ (done_of HT_.out (by kernel_rfl)) ?_
            have n0_ : Aside0 (Kd.R (Kd.int .u8) 5 (w65.setCell ⟨go64, ((ji45) : Int).toNat, none⟩ (.slice Ao69 y190.length co69)) w.heap.size (fun k_ => some k_ ≠ (.slice Ao61 t182.length co61 : Value).ownBlock ∧ some k_ ≠ (.slice Ao66 t185.length co66 : Value).ownBlock) (.slice Ao56 t176.length co56) t176) := ⟨by (with_reducible repeat (first | apply Kd.R_alloc | apply Kd.R_drewN | apply Kd.R_drew)); exact Kd.R_mono (Kd.R_far (p := ⟨go64, ((ji45) : Int).toNat, none⟩) (Kd.R_types HO178.out GG67_.out (by decide)) (fun _ hk => hk.2) (.slice Ao69 y190.length co69)) (fun _ hk => ⟨hk.1.1.2, hk.1.2⟩)⟩
            have n1_ : Aside0 (Kd.R (Kd.int .u8) 5 (w65.setCell ⟨go64, ((ji45) : Int).toNat, none⟩ (.slice Ao69 y190.length co69)) w.heap.size (fun k_ => some k_ ≠ (.slice Ao56 t176.length co56 : Value).ownBlock ∧ some k_ ≠ (.slice Ao66 t185.length co66 : Value).ownBlock) (.slice Ao61 t182.length co61) t182) := ⟨by (with_reducible repeat (first | apply Kd.R_alloc | apply Kd.R_drewN | apply Kd.R_drew)); exact Kd.R_mono (Kd.R_far (p := ⟨go64, ((ji45) : Int).toNat, none⟩) (Kd.R_types HO184.out GG67_.out (by decide)) (fun _ hk => hk.2) (.slice Ao69 y190.length co69)) (fun _ hk => ⟨hk.1.1.2, hk.1.2⟩)⟩
            have n2_ : Aside0 (Kd.R (Kd.int .u8) 5 (w65.setCell ⟨go64, ((ji45) : Int).toNat, none⟩ (.slice Ao69 y190.length co69)) w.heap.size (fun k_ => some k_ ≠ (.slice Ao56 t176.length co56 : Value).ownBlock ∧ some k_ ≠ (.slice Ao61 t182.length co61 : Value).ownBlock) (.slice Ao66 t185.length co66) t185) := ⟨by (with_reducible repeat (first | apply Kd.R_alloc | apply Kd.R_drewN | apply Kd.R_drew)); exact Kd.R_mono (Kd.R_far (p := ⟨go64, ((ji45) : Int).toNat, none⟩) (Kd.R_types HO187.out GG67_.out (by decide)) (fun _ hk => hk.2) (.slice Ao69 y190.length co69)) (fun _ hk => ⟨hk.1.1.2, hk.1.2⟩)⟩
            have n3_ : Aside0 (Kd.S (Kd.slice 5 (Kd.int .u8)) 25 (w65.setCell ⟨go64, ((ji45) : Int).toNat, none⟩ (.slice Ao69 y190.length co69)) w.heap.size (fun k_ => some k_ ≠ (.slice Ao56 t176.length co56 : Value).ownBlock ∧ some k_ ≠ (.slice Ao61 t182.length co61 : Value).ownBlock ∧ some k_ ≠ (.slice Ao66 t185.length co66 : Value).ownBlock) (.slice (some ⟨go64, 0, none⟩) y173.length co53) y193) := ⟨by (with_reducible repeat (first | apply Kd.S_alloc | apply Kd.S_drewN | apply Kd.S_drew)); exact HQ67.out⟩
            have n4_ : Aside0 ((w65.setCell ⟨go64, ((ji45) : Int).toNat, none⟩ (.slice Ao69 y190.length co69)).heap[gb165]? = some (.cells #[.slice (some ⟨go64, 0, none⟩) y173.length co53, .int .i64 t171] 27 (0, 0))) := ⟨by refine eK ?_; refine blk_far ?_ HNB165_go64.out _; refine eK ?_; exact BK165.out⟩
            have n5_ : Aside0 ((w65.setCell ⟨go64, ((ji45) : Int).toNat, none⟩ (.slice Ao69 y190.length co69)).heap[gb166]? = some (.cells #[.slice none 0 0, .int .i64 0] 27 (0, 0))) := ⟨by refine eK ?_; refine blk_far ?_ HNB166_go64.out _; refine eK ?_; exact BK166.out⟩
            have n6_ : Aside0 (Below w.heap.size w (w65.setCell ⟨go64, ((ji45) : Int).toNat, none⟩ (.slice Ao69 y190.length co69))) := ⟨by repeat (first | (with_reducible first | exact HB.out | apply below_alloc | apply pw_below_drewN | apply below_drew1 | refine below_set ?_ GB64.out | refine below_set ?_ GE165.out | refine below_set ?_ GE166.out) | exact HB.out)⟩
            (try clear HO178)
            (try clear HO184)
            (try clear HO187)
            (try clear HO175)
            (try clear BK165)
            (try clear BK166)
            (try clear HB)
            generalize (w65.setCell ⟨go64, ((ji45) : Int).toNat, none⟩ (.slice Ao69 y190.length co69)) = w70 at n0_ n1_ n2_ n3_ n4_ n5_ n6_ ⊢
            have HO178 := n0_
            have HO184 := n1_
            have HO187 := n2_
            have HO175 := n3_
            have BK165 := n4_
            have BK166 := n5_
            have HB := n6_
            clear n0_ n1_ n2_ n3_ n4_ n5_ n6_
            have hcz71_0 := bC BK165 0 (.slice (some ⟨go64, 0, none⟩) y173.length co53)
            have hcz71_1 := bC BK165 1 (.int .i64 t171)
            have hfz71_0 := b' BK165.out 0
            have hfz71_1 := b' BK165.out 1
            have hcz72_0 := bC BK166 0 (.slice none 0 0)
            have hcz72_1 := bC BK166 1 (.int .i64 0)
            have hfz72_0 := b' BK166.out 0
            have hfz72_1 := b' BK166.out 1
            try go_wp2
            refine bodyPost_ret (results_ctt rfl _ _ gb166 27 #[.slice (some ⟨go64, 0, none⟩) y173.length co53, .int .i64 (wrap64 (t171 + 1))] (0, 0) _ rfl (by refine eK ?_; refine blk_put (cs := #[.slice (some ⟨go64, 0, none⟩) y173.length co53, .int .i64 0]) ?_ 1 _ rfl; refine eK ?_; refine blk_put (cs := #[.slice none 0 0, .int .i64 0]) ?_ 0 _ rfl; refine eK ?_; refine blk_far ?_ NB166_165.out _; refine eK ?_; exact BK166.out) Try.underlying27 rfl (by kernel_rfl)) rfl ?_
            exact ⟨_, by first | rfl | (simp [errW_none, errW_some] <;> rfl) | (simp only [← hji45]; first | rfl | (simp [errW_none, errW_some] <;> rfl)) | (simp [*, errW_none, errW_some] <;> rfl), by (with_reducible repeat (first | apply Kd.S_alloc | apply Kd.S_drewN | apply Kd.S_drew)); exact Kd.S_mono (Kd.S_far (p := ⟨gb166, 1, none⟩) (Kd.S_far (p := ⟨gb166, 0, none⟩) (Kd.S_far (p := ⟨gb165, 1, none⟩) (Kd.S_types (Kd.S_types HO175.out BK165.out (by decide)) BK166.out (by decide)) (fun _ hk => hk.1.2) (.int .i64 (wrap64 (t171 + 1)))) (fun _ hk => hk.2) (.slice (some ⟨go64, 0, none⟩) y173.length co53)) (fun _ hk => hk.2) (.int .i64 (wrap64 (t171 + 1)))) (fun _ hk => trivial), eH HB⟩
           ·
            rw [if_neg c48] at H
            exact absurd H (by simp)
          ·
           rw [if_neg c47] at H
           exact absurd H (by simp)
         ·
          rw [if_neg c46] at H
          exact absurd H (by simp)
        ·
         rw [if_neg c41] at H
         exact absurd H (by simp)
      ·
       replace c37 := Bool.eq_false_iff.mpr c37
       subst c37
       have H1 : ((wal_put.f kj20 t171).bind fun t194 => ((slices_Concat_byte_byte.f (([t194, l1] : List (List Int)))).bind fun t200 => ((seal_Put.f 2 t200).bind fun bt203 => (if 0 ≤ (wrap64 ((t168.length : Int) - 1)) then (if (wrap64 ((t168.length : Int) - 1)) < (t168.length : Int) then (if (rd_L1 t168 (wrap64 ((t168.length : Int) - 1))).length + bt203.1.length < 140737488355328 then (some ((t168.set ((wrap64 ((t168.length : Int) - 1)) : Int).toNat ((rd_L1 t168 (wrap64 ((t168.length : Int) - 1))) ++ bt203.1)), wrap64 (t171 + 1), (wrap64 ((t168.length : Int) - 1)), 0)) else (none)) else (none)) else (none))))) = some (r1, r2, r3, r4) := by rw [if_neg (show ¬ (false = true) by decide)] at H; exact H
       clear H
       have H := H1
       clear H1
       replace H := Option.bind_eq_some_iff.mp H
       obtain ⟨t194, A730, H⟩ := H
       (try dsimp only at H)
       have A73 := e' A730
       clear A730
       obtain ⟨y197, hy197⟩ : ∃ y_ : List (List Int), y_ = (([t194, l1] : List (List Int))) := ⟨_, rfl⟩
       replace H : ((slices_Concat_byte_byte.f y197).bind fun t200 => ((seal_Put.f 2 t200).bind fun bt203 => (if 0 ≤ (wrap64 ((t168.length : Int) - 1)) then (if (wrap64 ((t168.length : Int) - 1)) < (t168.length : Int) then (if (rd_L1 t168 (wrap64 ((t168.length : Int) - 1))).length + bt203.1.length < 140737488355328 then (some ((t168.set ((wrap64 ((t168.length : Int) - 1)) : Int).toNat ((rd_L1 t168 (wrap64 ((t168.length : Int) - 1))) ++ bt203.1)), wrap64 (t171 + 1), (wrap64 ((t168.length : Int) - 1)), 0)) else (none)) else (none)) else (none)))) = some (r1, r2, r3, r4) := by rw [hy197]; exact H
       have Ny197 := e' hy197
       clear hy197
       replace H := Option.bind_eq_some_iff.mp H
       obtain ⟨t200, A740, H⟩ := H
       (try dsimp only at H)
       have A74 := e' A740
       clear A740
       replace H := Option.bind_eq_some_iff.mp H
       obtain ⟨⟨t203, t206⟩, A750, H⟩ := H
       (try dsimp only at H)
       have A75 := e' A750
       clear A750
       obtain ⟨ji76, hji76⟩ : ∃ j_ : Int, (wrap64 ((t168.length : Int) - 1)) = j_ := ⟨_, rfl⟩
       replace H : (if 0 ≤ (ji76) then (if (ji76) < (t168.length : Int) then (if (rd_L1 t168 (ji76)).length + t203.length < 140737488355328 then (some ((t168.set ((ji76) : Int).toNat ((rd_L1 t168 (ji76)) ++ t203)), wrap64 (t171 + 1), (ji76), 0)) else (none)) else (none)) else (none)) = some (r1, r2, r3, r4) := by first | (rw [hji76] at H; exact H) | (simp only [hji76] at H ⊢; exact H)
       (try rw [hji76] at A73)
       (try rw [hji76] at A74)
       (try rw [hji76] at A75)
       have hji76w : (IntKind.i64.wrap ((t168.length : Int) - 1)) = ji76 := (i64_w _).trans hji76
       by_cases c77 : 0 ≤ (ji76)
       ·
        rw [if_pos c77] at H
        have c77b0 := decide_eq_true c77
        clear c77
        by_cases c78 : (ji76) < (t168.length : Int)
        ·
         rw [if_pos c78] at H
         have c78b0 := decide_eq_true c78
         clear c78
         by_cases c79 : (rd_L1 t168 (ji76)).length + t203.length < 140737488355328
         ·
          rw [if_pos c79] at H
          have LMc79 := e' c79
          clear c79
          obtain ⟨y208, hy208⟩ : ∃ y_ : List Int, y_ = ((rd_L1 t168 (ji76)) ++ t203) := ⟨_, rfl⟩
          replace H : (some ((t168.set ((ji76) : Int).toNat y208), wrap64 (t171 + 1), (ji76), 0)) = some (r1, r2, r3, r4) := by rw [hy208]; exact H
          have Ny208 := e' hy208
          clear hy208
          obtain ⟨y211, hy211⟩ : ∃ y_ : List (List Int), y_ = (t168.set ((ji76) : Int).toNat y208) := ⟨_, rfl⟩
          replace H : (some (y211, wrap64 (t171 + 1), (ji76), 0)) = some (r1, r2, r3, r4) := by rw [hy211]; exact H
          have Ny211 := e' hy211
          clear hy211
          simp only [Option.some.injEq, Prod.mk.injEq] at H
          obtain ⟨rfl, rfl, rfl, rfl⟩ := H
          have hnb81 := NB165_166.out
          have hnc81 := NB166_165.out
          have hcz82_0 := bC BK165 0 (.slice Ao29 t168.length co29)
          have hcz82_1 := bC BK165 1 (.int .i64 t171)
          have hfz82_0 := b' BK165.out 0
          have hfz82_1 := b' BK165.out 1
          try go_wp2_with (first | ((with_reducible refine gate_callee (f := 29) rfl ?_); refine gL 62 Try.func29 #[.int .i64 t171] (h := ?_); (with_reducible refine (wal_put.calls kj20 t171 t194 _ A73.out).mono ?_); rintro e w83 ⟨v195, rfl, ho0, hb⟩; refine ⟨_, rfl, ?_⟩; have n0_ := e' (Kd.S_elder' (Kd.eS HO_166000) (Kd.R_base ho0) hb); have n1_ := e' (Kd.R_lower ho0 (c' (eH HB))); have n2_ := bB BK165 hb; have n3_ := bB BK166 hb; have n4_ := e' (d' (eH HB) hb); clear HO_166000; clear BK165; clear BK166; clear HB; have HO_166000 := n0_; have HO196 := n1_; have BK165 := n2_; have BK166 := n3_; have HB := n4_; clear n0_ n1_ n2_ n3_ n4_; (try clear hb); (try clear hb2); (try clear hk); (try clear hi); (try clear ho0); obtain ⟨Ao84, co84, eo84⟩ := Kd.R_slice HO196.out; subst eo84) | ((with_reducible refine gate_dst (N := 64) rfl ?_); (try (refine gate_guard (by rfl) ?_; dsimp only)); refine Kd.N_lit (Kd.slice 5 (Kd.int .u8)) _ 25 ?hg (N' := 64) ?hd (xs := ([t194, l1] : List (List Int))) (inner := [.slice Ao84 t194.length co84, .slice A1 l1.length c1]) (ok := fun _ => True) (okp := fun _ => True) ?hr ?hp (fun _ hk => hk) trivial (Below.refl _ _) (Nat.le_refl _) (by simp) ?_; (case hd => rfl); (case hg => rfl); (case hr => go_simp <;> rfl); (case hp => exact (Reps.one (show Kd.FK (Kd.slice 5 (Kd.int .u8)) _ _ t194 [.slice Ao84 t194.length co84] from (Kd.FK_slice_mk (by exact (Kd.R_reads' HO196.out).2.1) (Kd.F_mono (Kd.C_F (Kd.heap_int .u8) (by exact Kd.kC (Kd.R_reads' HO196.out).2.2)) (fun _ _ => trivial)))) (Reps.one (show Kd.FK (Kd.slice 5 (Kd.int .u8)) _ _ l1 [.slice A1 l1.length c1] from (Kd.FK_slice_mk (by exact HC1.out) (Kd.F_mono (Kd.C_F (Kd.heap_int .u8) (by repeat (first | exact (Kd.C_below HR1.out HB.out) | (with_reducible refine Kd.C_alloc ?_ _) | (with_reducible refine Kd.C_drewN ?_ _) | (with_reducible refine Kd.C_drew ?_)))) (fun _ _ => trivial)))) (Reps.none _ _)))); intro v198 w85 ho86 hb hg_ hnew_; clear hg_ hnew_; (first | rw [← Ny197.out] at ho86 | (simp only [Int.reduceToNat] at ho86; rw [← Ny197.out] at ho86)); have n0_ := e' (Kd.S_elder' (Kd.eS HO_166000) (Kd.N_base ho86) hb); have n1_ := e' (Kd.R_below (Kd.eR HO196) hb); have n2_ := e' (Kd.N_lower ho86 (c' (eH HB))); have n3_ := bB BK165 hb; have n4_ := bB BK166 hb; have n5_ := e' (d' (eH HB) hb); clear HO_166000; clear HO196; clear BK165; clear BK166; clear HB; have HO_166000 := n0_; have HO196 := n1_; have HO199 := n2_; have BK165 := n3_; have BK166 := n4_; have HB := n5_; clear n0_ n1_ n2_ n3_ n4_ n5_; clear hb ho86; obtain ⟨Ao87, co87, eo87⟩ := Kd.N_slice HO199.out; subst eo87) | ((with_reducible refine gate_callee (f := 28) rfl ?_); refine gL 65 Try.func28 #[.slice Ao87 y197.length co87] (h := ?_); (with_reducible refine (slices_Concat_byte_byte.calls _ _ y197 t200 _ ?side1 ?side2 A74.out).mono ?_); (case side1 => exact Kd.kC (Kd.N_reads' HO199.out).2.2); (case side2 => exact (Kd.N_reads' HO199.out).2.1); rintro e w88 ⟨v201, rfl, ho0, hb⟩; refine ⟨_, rfl, ?_⟩; have n0_ := e' (Kd.S_elder' (Kd.eS HO_166000) (Kd.R_base ho0) hb); have n1_ := e' (Kd.R_elder' (Kd.eR HO196) (Kd.R_base ho0) hb); have n2_ := e' (Kd.N_elder' (Kd.eN HO199) (Kd.R_base ho0) hb); have n3_ := e' (Kd.R_lower (Kd.R_new' ho0 (Kd.R_lt (Kd.eR HO196))) (c' (eH HB))); have n4_ := bB BK165 hb; have n5_ := bB BK166 hb; have n6_ := e' (d' (eH HB) hb); clear HO_166000; clear HO196; clear HO199; clear BK165; clear BK166; clear HB; have HO_166000 := n0_; have HO196 := n1_; have HO199 := n2_; have HO202 := n3_; have BK165 := n4_; have BK166 := n5_; have HB := n6_; clear n0_ n1_ n2_ n3_ n4_ n5_ n6_; (try clear hb); (try clear hb2); (try clear hk); (try clear hi); (try clear ho0); obtain ⟨Ao89, co89, eo89⟩ := Kd.R_slice HO202.out; subst eo89) | ((with_reducible refine gate_callee (f := 27) rfl ?_); refine gL 67 Try.func27 #[.agg #[.int .i64 2, .slice Ao89 t200.length co89]] (h := ?_); (with_reducible refine (seal_Put.calls 2 _ _ t200 t203 t206 _ ?side1 ?side2 A75.out).mono ?_); (case side1 => exact Kd.kC (Kd.R_reads' HO202.out).2.2); (case side2 => exact (Kd.R_reads' HO202.out).2.1); rintro e w90 ⟨v204, rfl, ho0, hb⟩; refine ⟨_, rfl, ?_⟩; have n0_ := e' (Kd.S_elder' (Kd.eS HO_166000) (Kd.R_base ho0) hb); have n1_ := e' (Kd.R_elder' (Kd.eR HO196) (Kd.R_base ho0) hb); have n2_ := e' (Kd.N_elder' (Kd.eN HO199) (Kd.R_base ho0) hb); have n3_ := e' (Kd.R_elder' (Kd.eR HO202) (Kd.R_base ho0) hb); have n4_ := e' (Kd.R_lower (Kd.R_new' (Kd.R_new' ho0 (Kd.R_lt (Kd.eR HO196))) (Kd.R_lt (Kd.eR HO202))) (c' (eH HB))); have n5_ := bB BK165 hb; have n6_ := bB BK166 hb; have n7_ := e' (d' (eH HB) hb); clear HO_166000; clear HO196; clear HO199; clear HO202; clear BK165; clear BK166; clear HB; have HO_166000 := n0_; have HO196 := n1_; have HO199 := n2_; have HO202 := n3_; have HO205 := n4_; have BK165 := n5_; have BK166 := n6_; have HB := n7_; clear n0_ n1_ n2_ n3_ n4_ n5_ n6_ n7_; (try clear hb); (try clear hb2); (try clear hk); (try clear hi); (try clear ho0)))
          have n0_ := e' (Kd.S_drew HO_166000.out)
          have n1_ := e' (Kd.R_drew HO196.out)
          have n2_ := e' (Kd.N_drew HO199.out)
          have n3_ := e' (Kd.R_drew HO202.out)
          have n4_ := e' (Kd.R_drew HO205.out)
          have n5_ := e' (blk_drew BK165.out)
          have n6_ := e' (blk_drew BK166.out)
          have n7_ := e' (below_drew1 HB.out)
          clear HO_166000
          clear HO196
          clear HO199
          clear HO202
          clear HO205
          clear BK165
          clear BK166
          clear HB
          have HO_166000 := n0_
          have HO196 := n1_
          have HO199 := n2_
          have HO202 := n3_
          have HO205 := n4_
          have BK165 := n5_
          have BK166 := n6_
          have HB := n7_
          clear n0_ n1_ n2_ n3_ n4_ n5_ n6_ n7_
          have p207 : 0 ≤ ((ji76) : Int) := oD
          have q207 : (ji76) < (t168.length : Int) := oD
          obtain ⟨ad207, A207_0, c207_0, e207, hx207_0, hl207_0, hi207_0⟩ := at_L1 (Kd.S_reads' HO_166000.out).2.2 (ji76) p207 q207
          cases e207
          obtain ⟨ce207, hce207, hMe207, hcc207⟩ := Kd.S_get HO_166000.out [] (ji76) p207 (by first | exact q207 | exact oD | (have e_ := (Kd.S_reads' HO_166000.out).1; omega))
          obtain ⟨ve207_0, rfl, ge207_0⟩ := hMe207
          have hv207_0 := hcc207 0 _ rfl
          rw [Nat.add_zero, show ((Kd.slice 5 (Kd.int .u8))).sz = 1 from rfl, Nat.mul_one] at hv207_0
          replace hv207_0 := Option.some.inj (hv207_0.symm.trans hx207_0)
          rw [hv207_0] at ge207_0
          have HL207_0 := e' (show Kd.R (Kd.int .u8) 5 _ _ _ _ (rd_L1 t168 (ji76)) from ge207_0)
          clear hv207_0 ge207_0
          have HX207_0 := e' hx207_0
          clear hcc207 hce207
          have HR207_0 := e' hi207_0
          have HC207_0 := e' hl207_0
          clear hi207_0 hl207_0
          replace p207 := eq_true p207
          replace q207 := eq_true q207
          have n_ := e' (Kd.S_mono (ok' := (fun k_ => some k_ ≠ (.slice Ao84 t194.length co84 : Value).ownBlock ∧ some k_ ≠ (.slice Ao89 t200.length co89 : Value).ownBlock ∧ some k_ ≠ (v204 : Value).ownBlock)) HO_166000.out (fun k_ hk => ⟨hk.1.1.1.2, ⟨hk.1.2, hk.2⟩⟩))
          clear HO_166000
          have HO_166000 := n_
          clear n_
          obtain ⟨Ao94, co94, eo94⟩ := Kd.R_slice HO205.out
          (first | subst eo94 | (injection eo94 with f1_ f2_ f3_; have f4_ := f1_.symm; have f5_ := f3_.symm; clear f1_ f2_ f3_; subst f4_; subst f5_))
          obtain ⟨go92, co92, eo92, gb92, gl92, cl92, HG92⟩ := Kd.S_form HO_166000.out (by have h_ : ((ji76) : Int) < ((t168.length : Int) : Int) := oD; have h2_ : 0 ≤ ((ji76) : Int) := (oD); omega)
          (first | cases eo92 | (injection eo92 with ea_ en_ ec_; (first | subst ea_ | (injection ea_ with ea_; subst ea_)); subst ec_; clear en_))
          have GB92 := e' gb92
          have GG92 := e' HG92
          clear gb92 gl92 HG92
          (first | simp only [add_plain] at hx207_0 | skip)
          obtain ⟨oki92, ce92, hcl92, hM92, hcc92, _, _, hH92⟩ := Kd.S_elem HO_166000.out [] ((ji76) : Int) (oD) (by have h_ : ((ji76) : Int) < ((t168.length : Int) : Int) := oD; first | exact h_ | (have e_ := (Kd.S_reads' HO_166000.out).1; omega) | simpa using h_)
          obtain ⟨ve92_0, rfl, ge92_0⟩ := hM92
          have hv92 := hcc92 0 _ rfl
          have hX92 := HX207_0.out
          (try simp only [add_plain] at hX92)
          (try simp only [Nat.add_zero] at hv92)
          (try rw [show ((Kd.slice 5 (Kd.int .u8))).sz = 1 from rfl, Nat.mul_one] at hv92)
          replace hv92 := Option.some.inj (hv92.symm.trans hX92)
          subst hv92
          clear hX92 hcc92 hcl92
          have UU92 := e' (show Kd.R (Kd.int .u8) 5 _ w.heap.size oki92 (.slice A207_0 (rd_L1 t168 (ji76)).length c207_0) (rd_L1 t168 (ji76)) from ge92_0)
          have HH92 := e' hH92
          have HN92 := e' (Kd.S_reads' HO_166000.out).1
          clear hH92 ge92_0
          refine start_ (n := 12) (S := fun w' => w'.cell? ⟨gb165, 0, none⟩ = some (.slice (some ⟨go92, 0, none⟩) t168.length co29) ∧ w'.cell? ⟨gb165, 1, none⟩ = some (.int .i64 t171) ∧ w'.cell? ⟨go92, ((ji76)).toNat, none⟩ = some (.slice A207_0 (rd_L1 t168 (ji76)).length c207_0)) (ds := [11]) #[Z,Z,Z,Z,Z,Z,Z,Z,Z,Z,Z,Z] (by kernel_rfl) rfl rfl ⟨(blk_cell BK165.out 0).trans rfl, (blk_cell BK165.out 1).trans rfl, hx207_0⟩ (fun hHeld => ?_); refine with_tabW wal_Append.tab16 wal_Append.bits16 (fun HT_ HW_ => ?_)
          generalize w90.drew = w91 at HO_166000 HO196 HO199 HO202 HO205 BK165 BK166 HB GG92 HH92 HL207_0 HR207_0 HX207_0 UU92 hx207_0 hHeld ⊢
          refine pP 0 70 #[Y,Z,Z,Z,Z,Z,Z,Z,Z,Z,Z,Z] HT_ (h := ?_)
          refine pP 2 72 #[Y,Z,Y,Z,Z,Z,Z,Z,Z,Z,Z,Z] HT_ (h := ?_)
          refine pP 3 73 #[Y,Z,Y,Y,Z,Z,Z,Z,Z,Z,Z,Z] HT_ (h := ?_)
          refine pP 5 75 #[Y,Z,Y,Y,Z,Y,Z,Z,Z,Z,Z,Z] HT_ (h := ?_)
          refine pP 8 78 #[Y,Z,Y,Y,Z,Y,Z,Z,Y,Z,Z,Z] HT_ (h := ?_)
          refine tP 1 71 #[Y,Y,Y,Y,Z,Y,Z,Z,Y,Z,Z,Z] HT_ HW_ hHeld (hy := by refine Or.inl ⟨by rfl, ?_⟩; rintro w' ⟨s0, s1, s2⟩; go_simp; with_reducible rfl) (h := ?_)
          refine tP 4 74 #[Y,Y,Y,Y,Y,Y,Z,Z,Y,Z,Z,Z] HT_ HW_ hHeld (hy := by refine Or.inl ⟨by rfl, ?_⟩; rintro w' ⟨s0, s1, s2⟩; go_simp; with_reducible rfl) (h := ?_)
          refine pP 6 76 #[Y,Y,Y,Y,Y,Y,Y,Z,Y,Z,Z,Z] HT_ (h := ?_)
          refine tP 7 77 #[Y,Y,Y,Y,Y,Y,Y,Y,Y,Z,Z,Z] HT_ HW_ hHeld (hy := by refine Or.inl ⟨by rfl, ?_⟩; rintro w' ⟨s0, s1, s2⟩; go_simp; with_reducible rfl) (h := ?_)
          refine one_ (i := 9) (N := some 79) #[Y,Y,Y,Y,Y,Y,Y,Y,Y,Y,Z,Z] rfl rfl (one_of HT_.out (by kernel_rfl)) (by decide) (fun K hK => ?_)
          refine Kd.R_append_rows_step (Kd.int .u8) (w0 := w) w.heap.size (by rfl) (.tmp 77) (.tmp 78) 25 5 (.int .u8 0) 1 rfl Try.underlying25 info5 rfl (by decide) (by omega) (.slice A207_0 (rd_L1 t168 (ji76)).length c207_0) (rd_L1 t168 (ji76)) t203 _ _ _ (fun k_ => oki92 k_ ∨ ((fun k_ => some k_ ≠ (.slice Ao84 t194.length co84 : Value).ownBlock ∧ some k_ ≠ (.slice Ao89 t200.length co89 : Value).ownBlock ∧ some k_ ≠ (.slice Ao94 t203.length co94 : Value).ownBlock)) k_ ∧ w91.heap.size ≤ k_) (fun _ => False) rfl rfl ?aO ?aR (fun _ _ h => h) (fun _ h => h.elim) ?aF ?aB ?aS ?aL ?_
          (case aR => exact Kd.kC (Kd.R_reads' HO205.out).2.2)
          (case aB => exact (eH HB))
          (case aF => exact (fun k_ hk => .inr ⟨⟨Kd.fresh' (Kd.R_lt (Kd.eR HO196)) k_ hk, Kd.fresh' (Kd.R_lt (Kd.eR HO202)) k_ hk, Kd.fresh' (Kd.R_lt (Kd.eR HO205)) k_ hk⟩, hk⟩))
          (case aO => exact (Kd.kR (Kd.R_mono UU92.out (fun _ hk => .inl hk))))
          (case aS => exact (c' (eH HB)))
          (case aL => have := LMc79.out; omega)
          intro v209 w93 ho hb hg hat
          (first | have HS2_ := cell_grown hg (hHeld.2.2) (by first | (rw [add_block]; exact (fun e_ => ((HL207_0.out.1 _ e_.symm).2) rfl)) | (show some (Addr.add _ _).block ≠ _; rw [add_block]; exact (fun e_ => ((HL207_0.out.1 _ e_.symm).2) rfl)) | exact (fun e_ => ((HL207_0.out.1 _ e_.symm).2) rfl)) | have HS2_ := cell_grown hg (cell_unalloc (hHeld.2.2) (by first | (rw [add_block]; exact Kd.S_lt HO_166000.out _ rfl) | (show (Addr.add _ _).block < _; rw [add_block]; exact Kd.S_lt HO_166000.out _ rfl) | exact Kd.S_lt HO_166000.out _ rfl)) (by first | (rw [add_block]; exact (fun e_ => ((HL207_0.out.1 _ e_.symm).2) rfl)) | (show some (Addr.add _ _).block ≠ _; rw [add_block]; exact (fun e_ => ((HL207_0.out.1 _ e_.symm).2) rfl)) | exact (fun e_ => ((HL207_0.out.1 _ e_.symm).2) rfl)))
          rw [← Ny208.out] at ho
          have n0_ := e' (blk_grown (g := gb165) (o := .cells #[.slice (some ⟨go92, 0, none⟩) t168.length co29, .int .i64 t171] 27 (0, 0)) (eB BK165) hg (Kd.R_ne HL207_0.out BK165.out (by decide)))
          have n1_ := e' (blk_grown (g := gb166) (o := .cells #[.slice none 0 0, .int .i64 0] 27 (0, 0)) (eB BK166) hg (Kd.R_ne HL207_0.out BK166.out (by decide)))
          have n2_ := e' (Kd.R_grown2 (Kd.eR HO196) rfl hg (fun k_ e_ => (HL207_0.out.1 k_ e_).1.1.1.1.2))
          have n3_ := e' (Kd.R_grown2 (Kd.eR HO202) rfl hg (fun k_ e_ => (HL207_0.out.1 k_ e_).1.1.2))
          have n4_ := e' (Kd.R_grown2 (Kd.eR HO205) rfl hg (fun k_ e_ => (HL207_0.out.1 k_ e_).1.2))
          have n5_ := e' (hb)
          have n6_ := e' (Kd.H_grown (Kd.H_widen (by repeat (first | exact HH92.out | refine Kd.H_alloc ?_ _ | refine Kd.H_drewN ?_ _ | refine Kd.H_drew ?_))) hg (fun k_ e_ => .inl (UU92.out.1 k_ e_)))
          have n7_ := e' (ho)
          clear BK165
          clear BK166
          clear HO196
          clear HO202
          clear HO205
          clear HB
          clear HH92
          clear HO_166000
          clear UU92
          clear HL207_0
          have BK165 := n0_
          have BK166 := n1_
          have HO196 := n2_
          have HO202 := n3_
          have HO205 := n4_
          have HB := n5_
          have HH92 := n6_
          have HO210 := n7_
          clear n0_ n1_ n2_ n3_ n4_ n5_ n6_ n7_
          clear ho hb hg hat
          have p80 : 0 ≤ ((ji76) : Int) := oD
          have q80 : ((ji76) : Int) < ((t168.length : Int) : Int) := oD
          replace p80 := eq_true p80
          replace q80 := eq_true q80
          obtain ⟨Ao97, co97, eo97⟩ := Kd.R_slice HO210.out
          (first | subst eo97 | (injection eo97 with f1_ f2_ f3_; have f4_ := f1_.symm; have f5_ := f3_.symm; clear f1_ f2_ f3_; subst f4_; subst f5_))
          obtain ⟨_, _, hraw95, _, _, hcc95, _⟩ := Kd.H_raw HH92.out (oD) (by have h_ : ((ji76) : Int) < ((t168.length : Int) : Int) := oD; first | exact h_ | (have e_ := (HN92.out); omega) | simpa using h_)
          obtain ⟨_, hfr95⟩ := Kd.H_at HH92.out (oD) (by have h_ : ((ji76) : Int) < ((t168.length : Int) : Int) := oD; first | exact h_ | (have e_ := (HN92.out); omega) | simpa using h_)
          have hx95_0 := hcc95 0 _ rfl
          have hf95_0 := hfr95 0
          (try simp only [Nat.add_zero] at hx95_0 hf95_0)
          (try rw [show ((Kd.slice 5 (Kd.int .u8))).sz = 1 from rfl, Nat.mul_one] at hx95_0)
          (try rw [show ((Kd.slice 5 (Kd.int .u8))).sz = 1 from rfl, Nat.mul_one] at hf95_0)
          have HP95 := Kd.S_seg0 HH92.out (oD) (by have h_ : ((ji76) : Int) < ((t168.length : Int) : Int) := oD; first | exact h_ | (have e_ := (HN92.out); omega) | simpa using h_) (seg := [.slice Ao97 y208.length co97]) (j := 0) (show 1 ≤ 1 from by decide) (x' := y208) (Kd.M_row HO210.out) (fun _ hk => hk)
          (try simp only [show ((Kd.slice 5 (Kd.int .u8))).sz = 1 from rfl, Nat.mul_one, Nat.add_zero] at HP95)
          clear hcc95 hfr95
          have HNB165_go92 := e' (show gb165 ≠ go92 from by have h_ := Kd.R_ne hraw95 BK165.out (by decide); intro e_; exact h_ (by rw [e_]; rfl))
          have HNB166_go92 := e' (show gb166 ≠ go92 from by have h_ := Kd.R_ne hraw95 BK166.out (by decide); intro e_; exact h_ (by rw [e_]; rfl))
          have HS95 := HP95.1
          rw [← Ny211.out] at HS95
          have HQ95 := e' HS95
          obtain ⟨_, hgg95⟩ := Kd.R_typed hraw95 go92 rfl
          have GG95_ := e' hgg95
          clear HP95 HS95 hgg95
          refine hK.out _ _ ⟨(blk_cell BK165.out 0).trans rfl, (blk_cell BK165.out 1).trans rfl, HS2_⟩ (fun hHeld => ?_)
          clear hK K
          refine norm_ (a' := ?_) ?_ ?_
          rotate_left
          ·
           show Act.put _ (some 79) _ = _
           exact uP
          refine pP 10 80 #[Y,Y,Y,Y,Y,Y,Y,Y,Y,Y,Y,Z] HT_ (h := ?_)
          refine last_ (i := 11) (N := none) #[Y,Y,Y,Y,Y,Y,Y,Y,Y,Y,Y,Y] rfl rfl (one_of HT_.out (by kernel_rfl)) (by decide) (fun K hK => ?_)
          refine skip_ (w1 := ?_) (by rfl) rfl ?_ ?_
          rotate_left
          ·
           go_simp
           rfl
          refine hK.out _ _ ?_
          clear hK K
          refine done_ (done_of HT_.out (by kernel_rfl)) ?_
          have n0_ : Aside0 (Kd.R (Kd.int .u8) 5 (w93.setCell ⟨go92, ((ji76) : Int).toNat, none⟩ (.slice Ao97 y208.length co97)) w.heap.size (fun k_ => some k_ ≠ (.slice Ao89 t200.length co89 : Value).ownBlock ∧ some k_ ≠ (.slice Ao94 t203.length co94 : Value).ownBlock) (.slice Ao84 t194.length co84) t194) := ⟨by (with_reducible repeat (first | apply Kd.R_alloc | apply Kd.R_drewN | apply Kd.R_drew)); exact Kd.R_mono (Kd.R_far (p := ⟨go92, ((ji76) : Int).toNat, none⟩) (Kd.R_types HO196.out GG95_.out (by decide)) (fun _ hk => hk.2) (.slice Ao97 y208.length co97)) (fun _ hk => ⟨hk.1.1.2, hk.1.2⟩)⟩
          have n1_ : Aside0 (Kd.R (Kd.int .u8) 5 (w93.setCell ⟨go92, ((ji76) : Int).toNat, none⟩ (.slice Ao97 y208.length co97)) w.heap.size (fun k_ => some k_ ≠ (.slice Ao84 t194.length co84 : Value).ownBlock ∧ some k_ ≠ (.slice Ao94 t203.length co94 : Value).ownBlock) (.slice Ao89 t200.length co89) t200) := ⟨by (with_reducible repeat (first | apply Kd.R_alloc | apply Kd.R_drewN | apply Kd.R_drew)); exact Kd.R_mono (Kd.R_far (p := ⟨go92, ((ji76) : Int).toNat, none⟩) (Kd.R_types HO202.out GG95_.out (by decide)) (fun _ hk => hk.2) (.slice Ao97 y208.length co97)) (fun _ hk => ⟨hk.1.1.2, hk.1.2⟩)⟩
          have n2_ : Aside0 (Kd.R (Kd.int .u8) 5 (w93.setCell ⟨go92, ((ji76) : Int).toNat, none⟩ (.slice Ao97 y208.length co97)) w.heap.size (fun k_ => some k_ ≠ (.slice Ao84 t194.length co84 : Value).ownBlock ∧ some k_ ≠ (.slice Ao89 t200.length co89 : Value).ownBlock) (.slice Ao94 t203.length co94) t203) := ⟨by (with_reducible repeat (first | apply Kd.R_alloc | apply Kd.R_drewN | apply Kd.R_drew)); exact Kd.R_mono (Kd.R_far (p := ⟨go92, ((ji76) : Int).toNat, none⟩) (Kd.R_types HO205.out GG95_.out (by decide)) (fun _ hk => hk.2) (.slice Ao97 y208.length co97)) (fun _ hk => ⟨hk.1.1.2, hk.1.2⟩)⟩
          have n3_ : Aside0 (Kd.S (Kd.slice 5 (Kd.int .u8)) 25 (w93.setCell ⟨go92, ((ji76) : Int).toNat, none⟩ (.slice Ao97 y208.length co97)) w.heap.size (fun k_ => some k_ ≠ (.slice Ao84 t194.length co84 : Value).ownBlock ∧ some k_ ≠ (.slice Ao89 t200.length co89 : Value).ownBlock ∧ some k_ ≠ (.slice Ao94 t203.length co94 : Value).ownBlock) (.slice (some ⟨go92, 0, none⟩) t168.length co29) y211) := ⟨by (with_reducible repeat (first | apply Kd.S_alloc | apply Kd.S_drewN | apply Kd.S_drew)); exact HQ95.out⟩
          have n4_ : Aside0 ((w93.setCell ⟨go92, ((ji76) : Int).toNat, none⟩ (.slice Ao97 y208.length co97)).heap[gb165]? = some (.cells #[.slice (some ⟨go92, 0, none⟩) t168.length co29, .int .i64 t171] 27 (0, 0))) := ⟨by refine eK ?_; refine blk_far ?_ HNB165_go92.out _; refine eK ?_; exact BK165.out⟩
          have n5_ : Aside0 ((w93.setCell ⟨go92, ((ji76) : Int).toNat, none⟩ (.slice Ao97 y208.length co97)).heap[gb166]? = some (.cells #[.slice none 0 0, .int .i64 0] 27 (0, 0))) := ⟨by refine eK ?_; refine blk_far ?_ HNB166_go92.out _; refine eK ?_; exact BK166.out⟩
          have n6_ : Aside0 (Below w.heap.size w (w93.setCell ⟨go92, ((ji76) : Int).toNat, none⟩ (.slice Ao97 y208.length co97))) := ⟨by repeat (first | (with_reducible first | exact HB.out | apply below_alloc | apply pw_below_drewN | apply below_drew1 | refine below_set ?_ GB92.out | refine below_set ?_ GE165.out | refine below_set ?_ GE166.out) | exact HB.out)⟩
          (try clear HO196)
          (try clear HO202)
          (try clear HO205)
          (try clear HO_166000)
          (try clear BK165)
          (try clear BK166)
          (try clear HB)
          generalize (w93.setCell ⟨go92, ((ji76) : Int).toNat, none⟩ (.slice Ao97 y208.length co97)) = w98 at n0_ n1_ n2_ n3_ n4_ n5_ n6_ ⊢
          have HO196 := n0_
          have HO202 := n1_
          have HO205 := n2_
          have HO_166000 := n3_
          have BK165 := n4_
          have BK166 := n5_
          have HB := n6_
          clear n0_ n1_ n2_ n3_ n4_ n5_ n6_
          have hcz99_0 := bC BK165 0 (.slice (some ⟨go92, 0, none⟩) t168.length co29)
          have hcz99_1 := bC BK165 1 (.int .i64 t171)
          have hfz99_0 := b' BK165.out 0
          have hfz99_1 := b' BK165.out 1
          have hcz100_0 := bC BK166 0 (.slice none 0 0)
          have hcz100_1 := bC BK166 1 (.int .i64 0)
          have hfz100_0 := b' BK166.out 0
          have hfz100_1 := b' BK166.out 1
          try go_wp2
          refine bodyPost_ret (results_ctt rfl _ _ gb166 27 #[.slice (some ⟨go92, 0, none⟩) t168.length co29, .int .i64 (wrap64 (t171 + 1))] (0, 0) _ rfl (by refine eK ?_; refine blk_put (cs := #[.slice (some ⟨go92, 0, none⟩) t168.length co29, .int .i64 0]) ?_ 1 _ rfl; refine eK ?_; refine blk_put (cs := #[.slice none 0 0, .int .i64 0]) ?_ 0 _ rfl; refine eK ?_; refine blk_far ?_ NB166_165.out _; refine eK ?_; exact BK166.out) Try.underlying27 rfl (by kernel_rfl)) rfl ?_
          exact ⟨_, by first | rfl | (simp [errW_none, errW_some] <;> rfl) | (simp only [← hji76]; first | rfl | (simp [errW_none, errW_some] <;> rfl)) | (simp [*, errW_none, errW_some] <;> rfl), by (with_reducible repeat (first | apply Kd.S_alloc | apply Kd.S_drewN | apply Kd.S_drew)); exact Kd.S_mono (Kd.S_far (p := ⟨gb166, 1, none⟩) (Kd.S_far (p := ⟨gb166, 0, none⟩) (Kd.S_far (p := ⟨gb165, 1, none⟩) (Kd.S_types (Kd.S_types HO_166000.out BK165.out (by decide)) BK166.out (by decide)) (fun _ hk => hk.1.2) (.int .i64 (wrap64 (t171 + 1)))) (fun _ hk => hk.2) (.slice (some ⟨go92, 0, none⟩) t168.length co29)) (fun _ hk => hk.2) (.int .i64 (wrap64 (t171 + 1)))) (fun _ hk => trivial), eH HB⟩
         ·
          rw [if_neg c79] at H
          exact absurd H (by simp)
        ·
         rw [if_neg c78] at H
         exact absurd H (by simp)
       ·
        rw [if_neg c77] at H
        exact absurd H (by simp)
 ·
  rw [if_neg c4] at H
  have c4b0 := beq_eq_false_iff_ne.mpr c4
  have c4b1 := bne_iff_ne.mpr c4
  simp only [Option.some.injEq, Prod.mk.injEq] at H
  obtain ⟨rfl, rfl, rfl, rfl⟩ := H
  go_enter Try.func11, Try.ntmps11
  go_wp2_with (first | ((with_reducible refine gate_dst (N := 2) rfl ?_); (try (refine gate_guard (by rfl) ?_; dsimp only)); refine box_event ?hg (N := 2) ?hd (cs := #[.slice A0_0 l0_0.length c0_0, .int .i64 a0_1]) (t := 27) ?hr ?_; (case hd => rfl); (case hg => rfl); (case hr => go_simp <;> rfl); intro gb165 hg w101 hbox hb; have n0_ := e' (d' (eH HB) hb); have n1_ := e' (hbox); have n2_ := e' ((by rw [hg]; exact (c' (eH HB)) : w.heap.size ≤ gb165)); have n3_ := e' ((by rw [hg]; exact (c' (eH HB)) : w.heap.size ≤ gb165)); clear HB; have HB := n0_; have BK165 := n1_; have GW165 := n2_; have GE165 := n3_; clear n0_ n1_ n2_ n3_; clear hb hbox hg) | ((with_reducible refine gate_dst (N := 4) rfl ?_); (try (refine gate_guard (by rfl) ?_; dsimp only)); refine box_event ?hg (N := 4) ?hd (cs := #[.slice none 0 0, .int .i64 0]) (t := 27) ?hr ?_; (case hd => rfl); (case hg => rfl); (case hr => go_simp <;> rfl); intro gb166 hg w102 hbox hb; have n0_ := bB BK165 hb; have n1_ := e' (d' (eH HB) hb); have n2_ := e' (hbox); have n3_ := e' ((by rw [hg]; exact (c' (eH HB)) : w.heap.size ≤ gb166)); have n4_ := e' ((by rw [hg]; exact (c' (eH HB)) : w.heap.size ≤ gb166)); have n5_ := nL hg BK165; have n6_ := nG hg BK165; clear BK165; clear HB; have BK165 := n0_; have HB := n1_; have BK166 := n2_; have GW166 := n3_; have GE166 := n4_; have NB165_166 := n5_; have NB166_165 := n6_; clear n0_ n1_ n2_ n3_ n4_ n5_ n6_; clear hb hbox hg; have hnb103 := NB165_166.out; have hnc103 := NB166_165.out; have hcz104_0 := bC BK165 0 (.slice A0_0 l0_0.length c0_0); have hcz104_1 := bC BK165 1 (.int .i64 a0_1); have hfz104_0 := b' BK165.out 0; have hfz104_1 := b' BK165.out 1) | ((with_reducible refine gate_callee (f := 21) rfl ?_); refine gL 12 Try.func21 #[.agg #[.slice A0_0 l0_0.length c0_0, .int .i64 a0_1]] (h := ?_); (with_reducible refine (wal_Check.calls k _ _ l0_0 a0_1 t167 _ ?side1 ?side2 A3.out).mono ?_); (case side1 => exact Kd.eC HR0_0 HB); (case side2 => exact HC0_0.out); rintro e w105 ⟨rfl, hb⟩; refine ⟨_, rfl, ?_⟩; have n0_ := bB BK165 hb; have n1_ := bB BK166 hb; have n2_ := e' (d' (eH HB) hb); clear BK165; clear BK166; clear HB; have BK165 := n0_; have BK166 := n1_; have HB := n2_; clear n0_ n1_ n2_; (try clear hb); (try clear hb2); (try clear hk); (try clear hi); have hcz106_0 := bC BK166 0 (.slice none 0 0); have hcz106_1 := bC BK166 1 (.int .i64 0); have hfz106_0 := b' BK166.out 0; have hfz106_1 := b' BK166.out 1))
  refine bodyPost_ret (results_ctt rfl _ _ gb166 27 #[.slice none 0 0, .int .i64 0] (0, 0) _ rfl (by refine eK ?_; refine blk_put (cs := #[.slice none 0 0, .int .i64 0]) ?_ 1 _ rfl; refine eK ?_; refine blk_put (cs := #[.slice none 0 0, .int .i64 0]) ?_ 0 _ rfl; refine eK ?_; exact BK166.out) Try.underlying27 rfl (by kernel_rfl)) rfl ?_
  exact ⟨_, eE, nS, eH HB⟩
end Go.Proofs.Ytgmkgobapeencaa.S
