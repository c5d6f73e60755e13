import Derived.Test.YtgmkgobapeencaaYS2
import Derived.Test.YtgmkgobapeencaaYAid3
import Derived.Test.YtgmkgobapeencaaYS7
namespace Go.Proofs.Ytgmkgobapeencaa.S
open Go.Proofs.YtgmkgobapeencaaW.PrintWords renaming below_size → a'
open Go.Proofs.YtgmkgobapeencaaW.PrintWords.Aside0 renaming mk → b'
open Go.RowKit Go.Proofs.YtgmkgobapeencaaW.PrintWords Go.Proofs.YtgmkgobapeencaaW.PrintLast Go.Proofs.YtgmkgobapeencaaW.PrintMore
attribute [local go_sem] max2_int min2_int max_two min_two max_three min_three max_four min_four   -- for this text's walks alone
set_option linter.unusedVariables false
set_option linter.unusedSimpArgs false
mutual
def wal_Log_walk.j0 : Nat → List (S60) → Bool → List (List Int) → Int → Option ((List (S60)) × Bool)
 | 0, _, _, _, _ => none
 | k + 1, x2, x22, x146000, x146001 => if x22 = true then (some (([] : List (S60)), false)) else (if (x146000.length : Int) > 0 then (if 0 < (x146000.length : Int) then ((wal_first.f k (rd_L1 x146000 0)).bind fun t147 => (wal_Log_walk.j1 k x2 t147 x146000 x146001)) else (none)) else (wal_Log_walk.j1 k x2 x146001 x146000 x146001))
def wal_Log_walk.j1 : Nat → List (S60) → Int → List (List Int) → Int → Option ((List (S60)) × Bool)
 | 0, _, _, _, _ => none
 | k + 1, x2, x4, x146000, x146001 => wal_Log_walk.l0 k x2 x4 x146000 (x146000.length : Int) 0 x146000 x146001
def wal_Log_walk.l0 : Nat → List (S60) → Int → List (List Int) → Int → Int → List (List Int) → Int → Option ((List (S60)) × Bool)
 | 0, _, _, _, _, _, _, _ => none
 | k + 1, x2, x4, x35, x36, x37, x146000, x146001 => if x37 < x36 then (if 0 ≤ x37 then (if x37 < (x35.length : Int) then ((wal_Scan.f k (rd_L1 x35 x37) x4).bind fun bt149 => (if x4 = 0 then (some (([] : List (S60)), false)) else (if bt149.2 = 0 then (some (([] : List (S60)), false)) else (if bt149.2 = ((rd_L1 x35 x37).length : Int) then (if bt149.2 > 480 then (some (([] : List (S60)), false)) else (if x2.length + bt149.1.length < 4398046511104 then (wal_Log_walk.l0 k (x2 ++ bt149.1) (wrap64 (x4 + (bt149.1.length : Int))) x35 x36 (wrap64 (x37 + 1)) x146000 x146001) else (none))) else (some (([] : List (S60)), false)))))) else (none)) else (none)) else (some (x2, (x4 == x146001)))
end
def wal_Log_walk.f (k : Nat) (l0_0 : List (List Int)) (a0_1 : Int) : Option ((List (S60)) × Bool) := if a0_1 < 1 then (wal_Log_walk.j0 k ([] : List (S60)) true l0_0 a0_1) else (if a0_1 > 1099511627776 then (wal_Log_walk.j0 k ([] : List (S60)) true l0_0 a0_1) else (wal_Log_walk.j0 k ([] : List (S60)) (decide ((l0_0.length : Int) > 64)) l0_0 a0_1))
theorem wal_Log_walk.mono_l : ∀ k, (∀ y0 y1 y2 y3, LeO (wal_Log_walk.j0 k y0 y1 y2 y3) (wal_Log_walk.j0 (k + 1) y0 y1 y2 y3)) ∧ (∀ y0 y1 y2 y3, LeO (wal_Log_walk.j1 k y0 y1 y2 y3) (wal_Log_walk.j1 (k + 1) y0 y1 y2 y3)) ∧ (∀ y0 y1 y2 y3 y4 y5 y6, LeO (wal_Log_walk.l0 k y0 y1 y2 y3 y4 y5 y6) (wal_Log_walk.l0 (k + 1) y0 y1 y2 y3 y4 y5 y6))
 | 0 => ⟨fun _ _ _ _ r h => by simp [wal_Log_walk.j0] at h, fun _ _ _ _ r h => by simp [wal_Log_walk.j1] at h, fun _ _ _ _ _ _ _ r h => by simp [wal_Log_walk.l0] at h⟩
 | k + 1 => by
  obtain ⟨ih0, ih1, ih2⟩ := wal_Log_walk.mono_l k
  refine ⟨?_, ?_, ?_⟩
  ·
   intro y0 y1 y2 y3
   unfold wal_Log_walk.j0
   repeat' first
   | (with_reducible exact ih0 _ _ _ _)
   | (with_reducible exact ih1 _ _ _ _)
   | (with_reducible exact ih2 _ _ _ _ _ _ _)
   | (with_reducible exact wal_Scan.mono _ _ _)
   | (with_reducible exact wal_first.mono _ _)
   | with_reducible first | exact LeO.refl _ | exact LeO.none _ | refine LeO.ite ?_ ?_ | refine LeO.bind ?_ fun _ => ?_
  ·
   intro y0 y1 y2 y3
   unfold wal_Log_walk.j1
   repeat' first
   | (with_reducible exact ih0 _ _ _ _)
   | (with_reducible exact ih1 _ _ _ _)
   | (with_reducible exact ih2 _ _ _ _ _ _ _)
   | (with_reducible exact wal_Scan.mono _ _ _)
   | (with_reducible exact wal_first.mono _ _)
   | with_reducible first | exact LeO.refl _ | exact LeO.none _ | refine LeO.ite ?_ ?_ | refine LeO.bind ?_ fun _ => ?_
  ·
   intro y0 y1 y2 y3 y4 y5 y6
   unfold wal_Log_walk.l0
   repeat' first
   | (with_reducible exact ih0 _ _ _ _)
   | (with_reducible exact ih1 _ _ _ _)
   | (with_reducible exact ih2 _ _ _ _ _ _ _)
   | (with_reducible exact wal_Scan.mono _ _ _)
   | (with_reducible exact wal_first.mono _ _)
   | with_reducible first | exact LeO.refl _ | exact LeO.none _ | refine LeO.ite ?_ ?_ | refine LeO.bind ?_ fun _ => ?_
theorem wal_Log_walk.mono : ∀ a0 a1 k, LeO (wal_Log_walk.f k a0 a1) (wal_Log_walk.f (k + 1) a0 a1) := by
 intro a0 a1 k
 obtain ⟨ih0, ih1, ih2⟩ := wal_Log_walk.mono_l k
 unfold wal_Log_walk.f
 repeat' first
   | (with_reducible exact ih0 _ _ _ _)
   | (with_reducible exact ih1 _ _ _ _)
   | (with_reducible exact ih2 _ _ _ _ _ _ _)
   | (with_reducible exact wal_Scan.mono _ _ _)
   | (with_reducible exact wal_first.mono _ _)
   | with_reducible first | exact LeO.refl _ | exact LeO.none _ | refine LeO.ite ?_ ?_ | refine LeO.bind ?_ fun _ => ?_
set_option maxHeartbeats 8000000 in
set_option maxRecDepth 100000 in
theorem wal_Log_walk.calls (k : Nat) (A0_0 : Option Addr) (c0_0 : Nat) (l0_0 : List (List Int)) (a0_1 : Int) (r1 : List (S60)) (r2 : Bool) (w : World) (hr0_0 : Kd.C (Kd.slice 5 (Kd.int .u8)) w A0_0 l0_0.length l0_0) (hc0_0 : l0_0.length ≤ c0_0) (h : wal_Log_walk.f k l0_0 a0_1 = some (r1, r2)) :
  Calls Try.prog 32 #[.agg #[.slice A0_0 l0_0.length c0_0, .int .i64 a0_1]] w fun e w' => ∃ v0_ : Value, e = .returned (.tuple #[v0_, .bool r2]) ∧ Kd.N k60 60 w' w.heap.size (fun k_ => (w.heap.size ≤ k_)) v0_ r1 ∧ Below w.heap.size w w' := by
 have hu27 := Try.underlying27
 have HR0_0 := b' hr0_0
 have HC0_0 := b' hc0_0
 clear hr0_0 hc0_0
 have HB := b' (Below.refl w.heap.size w)
 have H : (if a0_1 < 1 then (wal_Log_walk.j0 k ([] : List (S60)) true l0_0 a0_1) else (if a0_1 > 1099511627776 then (wal_Log_walk.j0 k ([] : List (S60)) true l0_0 a0_1) else (wal_Log_walk.j0 k ([] : List (S60)) (decide ((l0_0.length : Int) > 64)) l0_0 a0_1))) = some (r1, r2) := h
 clear h
 have HC2 := b' H
 clear H
 go_enter Try.func32, Try.ntmps32
 go_upto_region 1 with (first | ((with_reducible refine gate_dst (N := 1) rfl ?_); (try (refine gate_guard (by rfl) ?_; dsimp only)); refine box_event ?hg (N := 1) ?hd (cs := #[.slice A0_0 l0_0.length c0_0, .int .i64 a0_1]) (t := 27) ?hr ?_; (case hd => rfl); (case hg => rfl); (case hr => go_simp <;> rfl); intro gb145 hg w3 hbox hb; have n0_ := b' (below_step (eH HB) hb); have n1_ := b' (hbox); have n2_ := b' ((by rw [hg]; exact (a' (eH HB)) : w.heap.size ≤ gb145)); have n3_ := b' ((by rw [hg]; exact (a' (eH HB)) : w.heap.size ≤ gb145)); clear HB; have HB := n0_; have BK145 := n1_; have GW145 := n2_; have GE145 := n3_; clear n0_ n1_ n2_ n3_; clear hb hbox hg))
 skip
 (try simp only [Act.put, List.setIfInBounds_toArray, List.set_cons_zero, List.set_cons_succ])
 go_cut [22] (fun v22 wc => ∃ (kq : Nat) (x22_1 : Bool), v22 = .bool x22_1 ∧ Aside0 (wal_Log_walk.j0 kq ([] : List (S60)) x22_1 l0_0 a0_1 = some (r1, r2)) ∧ Aside0 (kq ≤ k) ∧ Aside0 (Kd.N k60 60 wc w.heap.size (fun k_ => (w.heap.size ≤ k_) ∧ k_ ≠ gb145) (.slice none 0 0) ([] : List (S60))) ∧ Aside0 (wc.heap[gb145]? = some (.cells #[(.slice A0_0 l0_0.length c0_0), .int .i64 a0_1] 27 (0, 0))) ∧ Aside0 (Below w.heap.size w wc))
 case first =>
  have H := HC2.out
  clear HC2
  by_cases c4 : a0_1 < 1
  ·
   rw [if_pos c4] at H
   have c4b0 := decide_eq_true c4
   clear c4
   (first | rw [c4b0] | (simp only [i64_w, i32_w]; rw [c4b0]) | rw [c4b1] | skip)
   have H' := b' H
   clear H
   have hcz5_0 := bC BK145 0 (.slice A0_0 l0_0.length c0_0)
   have hcz5_1 := bC BK145 1 (.int .i64 a0_1)
   have hfz5_0 := blk_frozen BK145.out 0
   have hfz5_1 := blk_frozen BK145.out 1
   go_wp2
   repeat (go_quiet (fail); try go_wp2)
   go_meet
   case rel => exact ⟨_, (true), rS, H', ⟨by first | omega | exact Nat.le_refl _⟩, ⟨nS⟩, ⟨eB BK145⟩, ⟨eH HB⟩⟩
  ·
   rw [if_neg c4] at H
   have c4b0 := decide_eq_false c4
   clear c4
   (first | rw [c4b0] | (simp only [i64_w, i32_w]; rw [c4b0]) | rw [c4b1] | skip)
   by_cases c6 : a0_1 > 1099511627776
   ·
    rw [if_pos c6] at H
    have c6b0 := decide_eq_true c6
    clear c6
    have H' := b' H
    clear H
    have hcz7_0 := bC BK145 0 (.slice A0_0 l0_0.length c0_0)
    have hcz7_1 := bC BK145 1 (.int .i64 a0_1)
    have hfz7_0 := blk_frozen BK145.out 0
    have hfz7_1 := blk_frozen BK145.out 1
    go_wp2
    repeat (go_quiet (fail); try go_wp2)
    go_meet
    case rel => exact ⟨_, (true), rS, H', ⟨by first | omega | exact Nat.le_refl _⟩, ⟨nS⟩, ⟨eB BK145⟩, ⟨eH HB⟩⟩
   ·
    rw [if_neg c6] at H
    have c6b0 := decide_eq_false c6
    clear c6
    have H' := b' H
    clear H
    have hcz8_0 := bC BK145 0 (.slice A0_0 l0_0.length c0_0)
    have hcz8_1 := bC BK145 1 (.int .i64 a0_1)
    have hfz8_0 := blk_frozen BK145.out 0
    have hfz8_1 := blk_frozen BK145.out 1
    go_wp2
    repeat (go_quiet (fail); try go_wp2)
    go_meet
    case rel => exact ⟨_, (decide ((l0_0.length : Int) > 64)), rS, H', ⟨by first | omega | exact Nat.le_refl _⟩, ⟨nS⟩, ⟨eB BK145⟩, ⟨eH HB⟩⟩
 case rest =>
  clear HC2
  try clear p2
  try clear c3
  try clear c4
  try clear c4b0
  try clear c6
  try clear c6b0
  try clear hcz5_0
  try clear hcz5_1
  try clear hcz7_0
  try clear hcz7_1
  try clear hcz8_0
  try clear hcz8_1
  try clear hfz5_0
  try clear hfz5_1
  try clear hfz7_0
  try clear hfz7_1
  try clear hfz8_0
  try clear hfz8_1
  obtain ⟨kq, x22_1, rfl, HA, HJ1, HO_2, BK145, HB⟩ := hcut
  cases kq with
  | zero => exact absurd HA.out (by simp [wal_Log_walk.j0])
  | succ kj1 =>
   have H := HA.out
   clear HA
   simp only [wal_Log_walk.j0] at H
   by_cases c9 : x22_1 = true
   ·
    subst c9
    have H1 : (some (([] : List (S60)), false)) = some (r1, r2) := by rw [if_pos rfl] at H; exact H
    clear H
    have H := H1
    clear H1
    simp only [Option.some.injEq, Prod.mk.injEq] at H
    obtain ⟨rfl, rfl⟩ := H
    go_wp2
    repeat (go_quiet (fail); try go_wp2)
    go_ret2
    exact ⟨_, eE, nS, eH HB⟩
   ·
    replace c9 := Bool.eq_false_iff.mpr c9
    subst c9
    have H1 : (if (l0_0.length : Int) > 0 then (if 0 < (l0_0.length : Int) then ((wal_first.f kj1 (rd_L1 l0_0 0)).bind fun t147 => (wal_Log_walk.j1 kj1 ([] : List (S60)) t147 l0_0 a0_1)) else (none)) else (wal_Log_walk.j1 kj1 ([] : List (S60)) a0_1 l0_0 a0_1)) = some (r1, r2) := by rw [if_neg (show ¬ (false = true) by decide)] at H; exact H
    clear H
    have H := H1
    clear H1
    have HC10 := b' H
    clear H
    have hcz11_0 := bC BK145 0 (.slice A0_0 l0_0.length c0_0)
    have hcz11_1 := bC BK145 1 (.int .i64 a0_1)
    have hfz11_0 := blk_frozen BK145.out 0
    have hfz11_1 := blk_frozen BK145.out 1
    go_upto_if 28 with (fail)
    repeat (go_quiet (fail); go_upto_if 28 with (fail))
    go_cut [4] (fun v4 wc => ∃ (kq : Nat) (x4_9 : Int), v4 = .int .i64 x4_9 ∧ Aside0 (wal_Log_walk.j1 kq ([] : List (S60)) x4_9 l0_0 a0_1 = some (r1, r2)) ∧ Aside0 (kq ≤ kj1) ∧ Aside0 (Kd.N k60 60 wc w.heap.size (fun k_ => (w.heap.size ≤ k_) ∧ k_ ≠ gb145) (.slice none 0 0) ([] : List (S60))) ∧ Aside0 (wc.heap[gb145]? = some (.cells #[(.slice A0_0 l0_0.length c0_0), .int .i64 a0_1] 27 (0, 0))) ∧ Aside0 (Below w.heap.size w wc))
    case first =>
     have H := HC10.out
     clear HC10
     by_cases c12 : (l0_0.length : Int) > 0
     ·
      rw [if_pos c12] at H
      have c12b0 := decide_eq_true c12
      have c12b1 : decide (0 < l0_0.length) = true := decide_eq_true (by omega)
      clear c12
      (first | rw [c12b0] | (simp only [i64_w, i32_w]; rw [c12b0]) | rw [c12b1] | skip)
      by_cases c13 : 0 < (l0_0.length : Int)
      ·
       rw [if_pos c13] at H
       have c13b0 := decide_eq_true c13
       have c13b1 : decide (0 < l0_0.length) = true := decide_eq_true (by omega)
       clear c13
       replace H := Option.bind_eq_some_iff.mp H
       obtain ⟨t147, A140, H⟩ := H
       (try dsimp only at H)
       have A14 := b' A140
       clear A140
       have H' := b' H
       clear H
       have hcz15_0 := bC BK145 0 (.slice A0_0 l0_0.length c0_0)
       have hcz15_1 := bC BK145 1 (.int .i64 a0_1)
       have hfz15_0 := blk_frozen BK145.out 0
       have hfz15_1 := blk_frozen BK145.out 1
       have p146 : 0 ≤ (0 : Int) := (by omega)
       have q146 : 0 < (l0_0.length : Int) := oD
       obtain ⟨ad146, A146_0, c146_0, e146, hx146_0, hl146_0, hi146_0⟩ := at_L1 HR0_0.out 0 p146 q146
       cases e146
       have qi146 : (0 < l0_0.length) = True := eq_true (by omega)
       (try rw [show ((0 : Int)).toNat = 0 from rfl] at hx146_0)
       (try rw [Addr.add_zero'] at hx146_0)
       replace hx146_0 := (HB.out.cell (World.block_lt_of_cell? w _ hx146_0)).trans hx146_0
       have HR146_0 := b' hi146_0
       have HC146_0 := b' hl146_0
       clear hi146_0 hl146_0
       replace p146 := eq_true p146
       replace q146 := eq_true q146
       go_wp2_with (first | (go_at_call 35; (with_reducible refine (wal_first.calls kj1 _ _ (rd_L1 l0_0 0) t147 _ ?side1 ?side2 A14.out).mono ?_); (case side1 => exact Kd.eC HR146_0 HB); (case side2 => exact HC146_0.out); rintro e w16 ⟨rfl, hb⟩; have n0_ := b' (Kd.N_below (Kd.eN HO_2) hb); have n1_ := bB BK145 hb; have n2_ := b' (below_step (eH HB) hb); clear HO_2; clear BK145; clear HB; have HO_2 := n0_; have BK145 := n1_; have HB := n2_; clear n0_ n1_ n2_; (try clear hb); (try clear hb2); (try clear hk); (try clear hi)))
       skip
       go_meet
       case rel => exact ⟨_, (t147), rS, H', ⟨by have := HJ1.out; first | omega | exact Nat.le_refl _⟩, ⟨Kd.eN HO_2⟩, ⟨eB BK145⟩, ⟨eH HB⟩⟩
      ·
       rw [if_neg c13] at H
       exact absurd H (by simp)
     ·
      rw [if_neg c12] at H
      have c12b0 := decide_eq_false c12
      have c12b1 : decide (0 < l0_0.length) = false := decide_eq_false (by omega)
      clear c12
      (first | rw [c12b0] | (simp only [i64_w, i32_w]; rw [c12b0]) | rw [c12b1] | skip)
      have H' := b' H
      clear H
      go_wp2
      repeat (go_quiet (fail); try go_wp2)
      go_meet
      case rel => exact ⟨_, (a0_1), rS, H', ⟨by have := HJ1.out; first | omega | exact Nat.le_refl _⟩, ⟨Kd.eN HO_2⟩, ⟨eB BK145⟩, ⟨eH HB⟩⟩
    case rest =>
     clear HC10
     try clear c1
     try clear p1
     try clear q1
     try clear hx1
     try clear qi1
     try clear p2
     try clear c3
     try clear c4
     try clear c4b0
     try clear c6
     try clear c6b0
     try clear c9
     try clear c12
     try clear c12b0
     try clear c12b1
     try clear c13
     try clear c13b0
     try clear c13b1
     try clear c14
     try clear p14
     try clear q14
     try clear hx14
     try clear qi14
     try clear hcz11_0
     try clear hcz11_1
     try clear hcz15_0
     try clear hcz15_1
     try clear hcz5_0
     try clear hcz5_1
     try clear hcz7_0
     try clear hcz7_1
     try clear hcz8_0
     try clear hcz8_1
     try clear hfz11_0
     try clear hfz11_1
     try clear hfz15_0
     try clear hfz15_1
     try clear hfz5_0
     try clear hfz5_1
     try clear hfz7_0
     try clear hfz7_1
     try clear hfz8_0
     try clear hfz8_1
     try clear hx146_0
     try clear p146
     try clear p2
     try clear q146
     obtain ⟨kq, x4_9, rfl, HA, HJ9, HO_2, BK145, HB⟩ := hcut
     cases kq with
     | zero => exact absurd HA.out (by simp [wal_Log_walk.j1])
     | succ kj9 =>
      have H := HA.out
      clear HA
      simp only [wal_Log_walk.j1] at H
      have H' := b' H
      clear H
      have hcz17_0 := bC BK145 0 (.slice A0_0 l0_0.length c0_0)
      have hcz17_1 := bC BK145 1 (.int .i64 a0_1)
      have hfz17_0 := blk_frozen BK145.out 0
      have hfz17_1 := blk_frozen BK145.out 1
      go_wp2
      repeat (go_quiet (fail); try go_wp2)
      go_loopg [2, 4, 37] kj9 (fun kq v2 v4 v37 w' => ∃ (x2_3 : List (S60)) (x4_3 : Int) (x37_3 : Int), v4 = .int .i64 x4_3 ∧ v37 = .int .i64 x37_3 ∧ Aside0 (wal_Log_walk.l0 kq x2_3 x4_3 l0_0 (l0_0.length : Int) x37_3 l0_0 a0_1 = some (r1, r2)) ∧ Aside0 (kq ≤ kj9) ∧ Aside0 (Kd.N k60 60 w' w.heap.size (fun k_ => (w.heap.size ≤ k_) ∧ k_ ≠ gb145) v2 x2_3) ∧ Aside0 (w'.heap[gb145]? = some (.cells #[(.slice A0_0 l0_0.length c0_0), .int .i64 a0_1] 27 (0, 0))) ∧ Aside0 (Below w.heap.size w w'))
      case atStart => exact ⟨(([] : List (S60))), (x4_9), (0), rS, rS, H', ⟨Nat.le_refl _⟩, ⟨Kd.eN HO_2⟩, ⟨eB BK145⟩, ⟨eH HB⟩⟩
      case round =>
       clear H'
       try clear c1
       try clear p1
       try clear q1
       try clear hx1
       try clear qi1
       try clear p2
       try clear c3
       try clear c4
       try clear c4b0
       try clear c6
       try clear c6b0
       try clear c9
       try clear c12
       try clear c12b0
       try clear c12b1
       try clear c13
       try clear c13b0
       try clear c13b1
       try clear c14
       try clear p14
       try clear q14
       try clear hx14
       try clear qi14
       try clear hcz11_0
       try clear hcz11_1
       try clear hcz15_0
       try clear hcz15_1
       try clear hcz17_0
       try clear hcz17_1
       try clear hcz5_0
       try clear hcz5_1
       try clear hcz7_0
       try clear hcz7_1
       try clear hcz8_0
       try clear hcz8_1
       try clear hfz11_0
       try clear hfz11_1
       try clear hfz15_0
       try clear hfz15_1
       try clear hfz17_0
       try clear hfz17_1
       try clear hfz5_0
       try clear hfz5_1
       try clear hfz7_0
       try clear hfz7_1
       try clear hfz8_0
       try clear hfz8_1
       try clear hx146_0
       try clear p1
       try clear p14
       try clear p146
       try clear p2
       try clear q1
       try clear q14
       try clear q146
       obtain ⟨x2_3, x4_3, x37_3, rfl, rfl, HA, HK3, HO_2, BK145, HB⟩ := hrel
       cases gk with
       | zero => exact absurd HA.out (by simp [wal_Log_walk.l0])
       | succ k3 =>
        have H := HA.out
        clear HA
        simp only [wal_Log_walk.l0] at H
        by_cases c18 : x37_3 < (l0_0.length : Int)
        ·
         rw [if_pos c18] at H
         have c18b0 := decide_eq_true c18
         clear c18
         by_cases c19 : 0 ≤ x37_3
         ·
          rw [if_pos c19] at H
          have c19b0 := decide_eq_true c19
          clear c19
          by_cases c20 : x37_3 < (l0_0.length : Int)
          ·
           rw [if_pos c20] at H
           have c20b0 := decide_eq_true c20
           clear c20
           replace H := Option.bind_eq_some_iff.mp H
           obtain ⟨⟨t149, t150⟩, A210, H⟩ := H
           (try dsimp only at H)
           have A21 := b' A210
           clear A210
           by_cases c22 : x4_3 = 0
           ·
            rw [if_pos c22] at H
            have c22b0 := beq_iff_eq.mpr c22
            have c22b1 := bne_eq_false_iff_eq.mpr c22
            clear c22
            simp only [Option.some.injEq, Prod.mk.injEq] at H
            obtain ⟨rfl, rfl⟩ := H
            have p148 : 0 ≤ (x37_3 : Int) := oD
            have q148 : x37_3 < (l0_0.length : Int) := oD
            obtain ⟨ad148, A148_0, c148_0, e148, hx148_0, hl148_0, hi148_0⟩ := at_L1 HR0_0.out x37_3 p148 q148
            cases e148
            replace hx148_0 := (HB.out.cell (World.block_lt_of_cell? w _ hx148_0)).trans hx148_0
            have HR148_0 := b' hi148_0
            have HC148_0 := b' hl148_0
            clear hi148_0 hl148_0
            replace p148 := eq_true p148
            replace q148 := eq_true q148
            go_wp2_with (first | (go_at_call 36; (with_reducible refine (wal_Scan.calls k3 _ _ (rd_L1 l0_0 x37_3) x4_3 t149 t150 _ ?side1 ?side2 A21.out).mono ?_); (case side1 => exact Kd.eC HR148_0 HB); (case side2 => exact HC148_0.out); rintro e w23 ⟨v151, rfl, ho0, hb⟩; have n0_ := b' (Kd.N_elder' (Kd.eN HO_2) (Kd.S_base ho0) hb); have n1_ := b' (Kd.N_lower (Kd.N_mono (ok' := fun k_ => (w.heap.size ≤ k_) ∧ some k_ ≠ (u2 : Value).ownBlock ∧ k_ ≠ gb145) (Kd.S_N (Kd.S_bound ho0)) (fun k_ hk_ => ⟨(Nat.le_trans (a' (eH HB)) hk_.2.1), (Kd.fresh' (Kd.N_lt (Kd.eN HO_2)) k_ hk_.2.1), (Kd.freshB (g := gb145) (o := .cells #[.slice (some ad148) l0_0.length c0_0, .int .i64 a0_1] 27 (0, 0)) (eB BK145) k_ hk_.2.1)⟩)) (a' (eH HB))); have n2_ := bB BK145 hb; have n3_ := b' (below_step (eH HB) hb); clear HO_2; clear BK145; clear HB; have HO_2 := n0_; have HO152 := n1_; have BK145 := n2_; have HB := n3_; clear n0_ n1_ n2_ n3_; (try clear hb); (try clear hb2); (try clear hk); (try clear hi); (try clear ho0)))
            skip
            go_ret2
            exact ⟨_, eE, nS, eH HB⟩
           ·
            rw [if_neg c22] at H
            have c22b0 := beq_eq_false_iff_ne.mpr c22
            have c22b1 := bne_iff_ne.mpr c22
            by_cases c24 : t150 = 0
            ·
             rw [if_pos c24] at H
             have c24b0 := beq_iff_eq.mpr c24
             have c24b1 := bne_eq_false_iff_eq.mpr c24
             clear c24
             simp only [Option.some.injEq, Prod.mk.injEq] at H
             obtain ⟨rfl, rfl⟩ := H
             have p148 : 0 ≤ (x37_3 : Int) := oD
             have q148 : x37_3 < (l0_0.length : Int) := oD
             obtain ⟨ad148, A148_0, c148_0, e148, hx148_0, hl148_0, hi148_0⟩ := at_L1 HR0_0.out x37_3 p148 q148
             cases e148
             replace hx148_0 := (HB.out.cell (World.block_lt_of_cell? w _ hx148_0)).trans hx148_0
             have HR148_0 := b' hi148_0
             have HC148_0 := b' hl148_0
             clear hi148_0 hl148_0
             replace p148 := eq_true p148
             replace q148 := eq_true q148
             go_wp2_with (first | (go_at_call 36; (with_reducible refine (wal_Scan.calls k3 _ _ (rd_L1 l0_0 x37_3) x4_3 t149 t150 _ ?side1 ?side2 A21.out).mono ?_); (case side1 => exact Kd.eC HR148_0 HB); (case side2 => exact HC148_0.out); rintro e w25 ⟨v151, rfl, ho0, hb⟩; have n0_ := b' (Kd.N_elder' (Kd.eN HO_2) (Kd.S_base ho0) hb); have n1_ := b' (Kd.N_lower (Kd.N_mono (ok' := fun k_ => (w.heap.size ≤ k_) ∧ some k_ ≠ (u2 : Value).ownBlock ∧ k_ ≠ gb145) (Kd.S_N (Kd.S_bound ho0)) (fun k_ hk_ => ⟨(Nat.le_trans (a' (eH HB)) hk_.2.1), (Kd.fresh' (Kd.N_lt (Kd.eN HO_2)) k_ hk_.2.1), (Kd.freshB (g := gb145) (o := .cells #[.slice (some ad148) l0_0.length c0_0, .int .i64 a0_1] 27 (0, 0)) (eB BK145) k_ hk_.2.1)⟩)) (a' (eH HB))); have n2_ := bB BK145 hb; have n3_ := b' (below_step (eH HB) hb); clear HO_2; clear BK145; clear HB; have HO_2 := n0_; have HO152 := n1_; have BK145 := n2_; have HB := n3_; clear n0_ n1_ n2_ n3_; (try clear hb); (try clear hb2); (try clear hk); (try clear hi); (try clear ho0)))
             skip
             go_ret2
             exact ⟨_, eE, nS, eH HB⟩
            ·
             rw [if_neg c24] at H
             have c24b0 := beq_eq_false_iff_ne.mpr c24
             have c24b1 := bne_iff_ne.mpr c24
             by_cases c26 : t150 = ((rd_L1 l0_0 x37_3).length : Int)
             ·
              rw [if_pos c26] at H
              have c26b0 := beq_iff_eq.mpr c26
              have c26b1 := bne_eq_false_iff_eq.mpr c26
              clear c26
              by_cases c27 : t150 > 480
              ·
               rw [if_pos c27] at H
               have c27b0 := decide_eq_true c27
               clear c27
               simp only [Option.some.injEq, Prod.mk.injEq] at H
               obtain ⟨rfl, rfl⟩ := H
               have p148 : 0 ≤ (x37_3 : Int) := oD
               have q148 : x37_3 < (l0_0.length : Int) := oD
               obtain ⟨ad148, A148_0, c148_0, e148, hx148_0, hl148_0, hi148_0⟩ := at_L1 HR0_0.out x37_3 p148 q148
               cases e148
               replace hx148_0 := (HB.out.cell (World.block_lt_of_cell? w _ hx148_0)).trans hx148_0
               have HR148_0 := b' hi148_0
               have HC148_0 := b' hl148_0
               clear hi148_0 hl148_0
               replace p148 := eq_true p148
               replace q148 := eq_true q148
               go_wp2_with (first | (go_at_call 36; (with_reducible refine (wal_Scan.calls k3 _ _ (rd_L1 l0_0 x37_3) x4_3 t149 t150 _ ?side1 ?side2 A21.out).mono ?_); (case side1 => exact Kd.eC HR148_0 HB); (case side2 => exact HC148_0.out); rintro e w28 ⟨v151, rfl, ho0, hb⟩; have n0_ := b' (Kd.N_elder' (Kd.eN HO_2) (Kd.S_base ho0) hb); have n1_ := b' (Kd.N_lower (Kd.N_mono (ok' := fun k_ => (w.heap.size ≤ k_) ∧ some k_ ≠ (u2 : Value).ownBlock ∧ k_ ≠ gb145) (Kd.S_N (Kd.S_bound ho0)) (fun k_ hk_ => ⟨(Nat.le_trans (a' (eH HB)) hk_.2.1), (Kd.fresh' (Kd.N_lt (Kd.eN HO_2)) k_ hk_.2.1), (Kd.freshB (g := gb145) (o := .cells #[.slice (some ad148) l0_0.length c0_0, .int .i64 a0_1] 27 (0, 0)) (eB BK145) k_ hk_.2.1)⟩)) (a' (eH HB))); have n2_ := bB BK145 hb; have n3_ := b' (below_step (eH HB) hb); clear HO_2; clear BK145; clear HB; have HO_2 := n0_; have HO152 := n1_; have BK145 := n2_; have HB := n3_; clear n0_ n1_ n2_ n3_; (try clear hb); (try clear hb2); (try clear hk); (try clear hi); (try clear ho0)))
               skip
               go_ret2
               exact ⟨_, eE, nS, eH HB⟩
              ·
               rw [if_neg c27] at H
               have c27b0 := decide_eq_false c27
               clear c27
               by_cases c29 : x2_3.length + t149.length < 4398046511104
               ·
                rw [if_pos c29] at H
                have LMc29 := b' c29
                clear c29
                obtain ⟨y153, hy153⟩ : ∃ y_ : List (S60), y_ = (x2_3 ++ t149) := ⟨_, rfl⟩
                replace H : (wal_Log_walk.l0 k3 y153 (wrap64 (x4_3 + (t149.length : Int))) l0_0 (l0_0.length : Int) (wrap64 (x37_3 + 1)) l0_0 a0_1) = some (r1, r2) := by rw [hy153]; exact H
                have Ny153 := b' hy153
                clear hy153
                have H' := b' H
                clear H
                have p148 : 0 ≤ (x37_3 : Int) := oD
                have q148 : x37_3 < (l0_0.length : Int) := oD
                obtain ⟨ad148, A148_0, c148_0, e148, hx148_0, hl148_0, hi148_0⟩ := at_L1 HR0_0.out x37_3 p148 q148
                cases e148
                replace hx148_0 := (HB.out.cell (World.block_lt_of_cell? w _ hx148_0)).trans hx148_0
                have HR148_0 := b' hi148_0
                have HC148_0 := b' hl148_0
                clear hi148_0 hl148_0
                replace p148 := eq_true p148
                replace q148 := eq_true q148
                go_wp2_with (first | (go_at_call 36; (with_reducible refine (wal_Scan.calls k3 _ _ (rd_L1 l0_0 x37_3) x4_3 t149 t150 _ ?side1 ?side2 A21.out).mono ?_); (case side1 => exact Kd.eC HR148_0 HB); (case side2 => exact HC148_0.out); rintro e w30 ⟨v151, rfl, ho0, hb⟩; have n0_ := b' (Kd.N_elder' (Kd.eN HO_2) (Kd.S_base ho0) hb); have n1_ := b' (Kd.N_lower (Kd.N_mono (ok' := fun k_ => (w.heap.size ≤ k_) ∧ some k_ ≠ (u2 : Value).ownBlock ∧ k_ ≠ gb145) (Kd.S_N (Kd.S_bound ho0)) (fun k_ hk_ => ⟨(Nat.le_trans (a' (eH HB)) hk_.2.1), (Kd.fresh' (Kd.N_lt (Kd.eN HO_2)) k_ hk_.2.1), (Kd.freshB (g := gb145) (o := .cells #[.slice (some ad148) l0_0.length c0_0, .int .i64 a0_1] 27 (0, 0)) (eB BK145) k_ hk_.2.1)⟩)) (a' (eH HB))); have n2_ := bB BK145 hb; have n3_ := b' (below_step (eH HB) hb); clear HO_2; clear BK145; clear HB; have HO_2 := n0_; have HO152 := n1_; have BK145 := n2_; have HB := n3_; clear n0_ n1_ n2_ n3_; (try clear hb); (try clear hb2); (try clear hk); (try clear hi); (try clear ho0); obtain ⟨Ao31, co31, eo31⟩ := Kd.N_slice HO152.out; subst eo31) | ((with_reducible refine gate_builtin (b := .append) (xs := #[.tmp 67, .tmp 68]) rfl ?_); (try (refine gate_guard (by rfl) ?_; dsimp only)); at_builtin; refine Kd.N_append_rows k60 (w0 := w) w.heap.size rfl (.tmp 67) (.tmp 68) 39 60 (.agg #[(.int .i64 0), (.slice none 0 0)]) 32 rfl Try.underlying39 info60 rfl (by decide) (by omega) u2 x2_3 t149 _ _ _ (fun k_ => (w.heap.size ≤ k_) ∧ k_ ≠ gb145) (fun k_ => ((fun k_ => (w.heap.size ≤ k_) ∧ k_ ≠ gb145)) k_ ∧ some k_ ≠ (u2 : Value).ownBlock) rfl rfl ?aO ?aR (fun _ hk => hk) ?aF ?aB ?aS ?aL ?_; (case aR => exact (by skip; exact Kd.N_F (Kd.N_mono (ok' := (fun k_ => ((fun k_ => (w.heap.size ≤ k_) ∧ k_ ≠ gb145)) k_ ∧ some k_ ≠ (u2 : Value).ownBlock)) (HO152.out) (fun k_ hk => ⟨⟨hk.1, hk.2.2⟩, hk.2.1⟩)))); (case aB => exact (eH HB)); (case aF => exact (fun k_ hk => ⟨(Nat.le_trans (a' (eH HB)) hk), Kd.freshB (g := gb145) (o := .cells #[.slice (some ad148) l0_0.length c0_0, .int .i64 a0_1] 27 (0, 0)) (eB BK145) k_ hk⟩)); (case aO => exact (Kd.kN (Kd.N_mono HO_2.out (fun _ hk => ⟨hk.1.1, hk.1.2⟩)))); (case aS => exact (a' (eH HB))); (case aL => have := LMc29.out; omega); intro v154 w32 ho hb hg hat; rw [← Ny153.out] at ho; have n0_ := b' (blk_grown (g := gb145) (o := .cells #[.slice (some ad148) l0_0.length c0_0, .int .i64 a0_1] 27 (0, 0)) (eB BK145) hg (Kd.N_ne HO_2.out BK145.out (by decide))); have n1_ := b' (Kd.N_afterv (ok := (fun k_ => (w.heap.size ≤ k_) ∧ k_ ≠ gb145)) (Kd.kN (Kd.N_mono HO152.out (fun _ hk => ⟨⟨hk.1, hk.2.2⟩, hk.2.1⟩))) hg hat); have n2_ := b' (hb); have n3_ := b' (ho); clear BK145; clear HO152; clear HB; clear HO_2; have BK145 := n0_; have HO152 := n1_; have HB := n2_; have HO155 := n3_; clear n0_ n1_ n2_ n3_; clear ho hb hg hat))
                skip
                go_roundg k3
                case measure => have := HJ1.out; have := HJ9.out; have := HK3.out; omega
                case rel => exact ⟨(y153), (wrap64 (x4_3 + (t149.length : Int))), (wrap64 (x37_3 + 1)), rS, rS, H', ⟨by have := HJ1.out; have := HJ9.out; have := HK3.out; omega⟩, ⟨Kd.eN HO155⟩, ⟨eB BK145⟩, ⟨eH HB⟩⟩
               ·
                rw [if_neg c29] at H
                exact absurd H (by simp)
             ·
              rw [if_neg c26] at H
              have c26b0 := beq_eq_false_iff_ne.mpr c26
              have c26b1 := bne_iff_ne.mpr c26
              simp only [Option.some.injEq, Prod.mk.injEq] at H
              obtain ⟨rfl, rfl⟩ := H
              have p148 : 0 ≤ (x37_3 : Int) := oD
              have q148 : x37_3 < (l0_0.length : Int) := oD
              obtain ⟨ad148, A148_0, c148_0, e148, hx148_0, hl148_0, hi148_0⟩ := at_L1 HR0_0.out x37_3 p148 q148
              cases e148
              replace hx148_0 := (HB.out.cell (World.block_lt_of_cell? w _ hx148_0)).trans hx148_0
              have HR148_0 := b' hi148_0
              have HC148_0 := b' hl148_0
              clear hi148_0 hl148_0
              replace p148 := eq_true p148
              replace q148 := eq_true q148
              go_wp2_with (first | (go_at_call 36; (with_reducible refine (wal_Scan.calls k3 _ _ (rd_L1 l0_0 x37_3) x4_3 t149 t150 _ ?side1 ?side2 A21.out).mono ?_); (case side1 => exact Kd.eC HR148_0 HB); (case side2 => exact HC148_0.out); rintro e w33 ⟨v151, rfl, ho0, hb⟩; have n0_ := b' (Kd.N_elder' (Kd.eN HO_2) (Kd.S_base ho0) hb); have n1_ := b' (Kd.N_lower (Kd.N_mono (ok' := fun k_ => (w.heap.size ≤ k_) ∧ some k_ ≠ (u2 : Value).ownBlock ∧ k_ ≠ gb145) (Kd.S_N (Kd.S_bound ho0)) (fun k_ hk_ => ⟨(Nat.le_trans (a' (eH HB)) hk_.2.1), (Kd.fresh' (Kd.N_lt (Kd.eN HO_2)) k_ hk_.2.1), (Kd.freshB (g := gb145) (o := .cells #[.slice (some ad148) l0_0.length c0_0, .int .i64 a0_1] 27 (0, 0)) (eB BK145) k_ hk_.2.1)⟩)) (a' (eH HB))); have n2_ := bB BK145 hb; have n3_ := b' (below_step (eH HB) hb); clear HO_2; clear BK145; clear HB; have HO_2 := n0_; have HO152 := n1_; have BK145 := n2_; have HB := n3_; clear n0_ n1_ n2_ n3_; (try clear hb); (try clear hb2); (try clear hk); (try clear hi); (try clear ho0)))
              skip
              go_ret2
              exact ⟨_, eE, nS, eH HB⟩
          ·
           rw [if_neg c20] at H
           exact absurd H (by simp)
         ·
          rw [if_neg c19] at H
          exact absurd H (by simp)
        ·
         rw [if_neg c18] at H
         have c18b0 := decide_eq_false c18
         clear c18
         simp only [Option.some.injEq, Prod.mk.injEq] at H
         obtain ⟨rfl, rfl⟩ := H
         have hcz34_0 := bC BK145 0 (.slice A0_0 l0_0.length c0_0)
         have hcz34_1 := bC BK145 1 (.int .i64 a0_1)
         have hfz34_0 := blk_frozen BK145.out 0
         have hfz34_1 := blk_frozen BK145.out 1
         go_wp2
         repeat (go_quiet (fail); try go_wp2)
         go_ret2
         exact ⟨_, eE, by (with_reducible repeat (first | apply Kd.N_alloc | apply Kd.N_drewN | apply Kd.N_drew)); exact Kd.N_mono HO_2.out (fun _ hk => hk.1), eH HB⟩
def wal_Check.f (k : Nat) (l0_0 : List (List Int)) (a0_1 : Int) : Option (Int) := (wal_Log_walk.f k l0_0 a0_1).bind fun bt157 => (if bt157.2 = true then (some 0) else (some 9))
theorem wal_Check.mono : ∀ a0 a1 k, LeO (wal_Check.f k a0 a1) (wal_Check.f (k + 1) a0 a1) := by
 intro a0 a1 k
 unfold wal_Check.f
 repeat' first
   | (with_reducible exact wal_Log_walk.mono _ _ _)
   | with_reducible first | exact LeO.refl _ | exact LeO.none _ | refine LeO.ite ?_ ?_ | refine LeO.bind ?_ fun _ => ?_
set_option maxHeartbeats 8000000 in
set_option maxRecDepth 100000 in
theorem wal_Check.calls (k : Nat) (A0_0 : Option Addr) (c0_0 : Nat) (l0_0 : List (List Int)) (a0_1 : Int) (r : Int) (w : World) (hr0_0 : Kd.C (Kd.slice 5 (Kd.int .u8)) w A0_0 l0_0.length l0_0) (hc0_0 : l0_0.length ≤ c0_0) (h : wal_Check.f k l0_0 a0_1 = some r) :
  Calls Try.prog 21 #[.agg #[.slice A0_0 l0_0.length c0_0, .int .i64 a0_1]] w fun e w' => e = .returned (.int .i64 r) ∧ Below w.heap.size w w' := by
 have hu27 := Try.underlying27
 have HR0_0 := b' hr0_0
 have HC0_0 := b' hc0_0
 clear hr0_0 hc0_0
 have HB := b' (Below.refl w.heap.size w)
 have H : ((wal_Log_walk.f k l0_0 a0_1).bind fun bt157 => (if bt157.2 = true then (some 0) else (some 9))) = some r := h
 clear h
 replace H := Option.bind_eq_some_iff.mp H
 obtain ⟨⟨t157, t160⟩, A20, H⟩ := H
 (try dsimp only at H)
 have A2 := b' A20
 clear A20
 by_cases c3 : t160 = true
 ·
  subst c3
  have H1 : (some 0) = some r := by rw [if_pos rfl] at H; exact H
  clear H
  have H := H1
  clear H1
  obtain rfl := Option.some.inj H
  go_enter Try.func21, Try.ntmps21
  go_wp2_with (first | ((with_reducible refine gate_dst (N := 1) rfl ?_); refine box_event ?hg (N := 1) ?hd (cs := #[.slice A0_0 l0_0.length c0_0, .int .i64 a0_1]) (t := 27) ?hr ?_; (case hd => rfl); (case hg => rfl); (case hr => go_simp <;> rfl); intro gb156 hg w4 hbox hb; have n0_ := b' (below_step (eH HB) hb); have n1_ := b' (hbox); have n2_ := b' ((by rw [hg]; exact (a' (eH HB)) : w.heap.size ≤ gb156)); have n3_ := b' ((by rw [hg]; exact (a' (eH HB)) : w.heap.size ≤ gb156)); clear HB; have HB := n0_; have BK156 := n1_; have GW156 := n2_; have GE156 := n3_; clear n0_ n1_ n2_ n3_; clear hb hbox hg; have hcz5_0 := bC BK156 0 (.slice A0_0 l0_0.length c0_0); have hcz5_1 := bC BK156 1 (.int .i64 a0_1); have hfz5_0 := blk_frozen BK156.out 0; have hfz5_1 := blk_frozen BK156.out 1) | ((with_reducible refine gate_callee (f := 32) rfl ?_); refine gL 7 Try.func32 #[.agg #[.slice A0_0 l0_0.length c0_0, .int .i64 a0_1]] (h := ?_); (with_reducible refine (wal_Log_walk.calls k _ _ l0_0 a0_1 t157 true _ ?side1 ?side2 A2.out).mono ?_); (case side1 => exact Kd.eC HR0_0 HB); (case side2 => exact HC0_0.out); rintro e w6 ⟨v158, rfl, ho0, hb⟩; refine ⟨_, rfl, ?_⟩; have n0_ := b' (Kd.N_lower (Kd.N_mono (ok' := fun k_ => k_ ≠ gb156) ho0 (fun k_ hk_ => (Kd.freshB (g := gb156) (o := .cells #[.slice A0_0 l0_0.length c0_0, .int .i64 a0_1] 27 (0, 0)) (eB BK156) k_ hk_))) (a' (eH HB))); have n1_ := bB BK156 hb; have n2_ := b' (below_step (eH HB) hb); clear BK156; clear HB; have HO159 := n0_; have BK156 := n1_; have HB := n2_; clear n0_ n1_ n2_; (try clear hb); (try clear hb2); (try clear hk); (try clear hi); (try clear ho0)))
  go_ret
  exact ⟨eE, eH HB⟩
 ·
  replace c3 := Bool.eq_false_iff.mpr c3
  subst c3
  have H1 : (some 9) = some r := by rw [if_neg (show ¬ (false = true) by decide)] at H; exact H
  clear H
  have H := H1
  clear H1
  obtain rfl := Option.some.inj H
  go_enter Try.func21, Try.ntmps21
  go_wp2_with (first | ((with_reducible refine gate_dst (N := 1) rfl ?_); refine box_event ?hg (N := 1) ?hd (cs := #[.slice A0_0 l0_0.length c0_0, .int .i64 a0_1]) (t := 27) ?hr ?_; (case hd => rfl); (case hg => rfl); (case hr => go_simp <;> rfl); intro gb156 hg w7 hbox hb; have n0_ := b' (below_step (eH HB) hb); have n1_ := b' (hbox); have n2_ := b' ((by rw [hg]; exact (a' (eH HB)) : w.heap.size ≤ gb156)); have n3_ := b' ((by rw [hg]; exact (a' (eH HB)) : w.heap.size ≤ gb156)); clear HB; have HB := n0_; have BK156 := n1_; have GW156 := n2_; have GE156 := n3_; clear n0_ n1_ n2_ n3_; clear hb hbox hg; have hcz8_0 := bC BK156 0 (.slice A0_0 l0_0.length c0_0); have hcz8_1 := bC BK156 1 (.int .i64 a0_1); have hfz8_0 := blk_frozen BK156.out 0; have hfz8_1 := blk_frozen BK156.out 1) | ((with_reducible refine gate_callee (f := 32) rfl ?_); refine gL 7 Try.func32 #[.agg #[.slice A0_0 l0_0.length c0_0, .int .i64 a0_1]] (h := ?_); (with_reducible refine (wal_Log_walk.calls k _ _ l0_0 a0_1 t157 false _ ?side1 ?side2 A2.out).mono ?_); (case side1 => exact Kd.eC HR0_0 HB); (case side2 => exact HC0_0.out); rintro e w9 ⟨v158, rfl, ho0, hb⟩; refine ⟨_, rfl, ?_⟩; have n0_ := b' (Kd.N_lower (Kd.N_mono (ok' := fun k_ => k_ ≠ gb156) ho0 (fun k_ hk_ => (Kd.freshB (g := gb156) (o := .cells #[.slice A0_0 l0_0.length c0_0, .int .i64 a0_1] 27 (0, 0)) (eB BK156) k_ hk_))) (a' (eH HB))); have n1_ := bB BK156 hb; have n2_ := b' (below_step (eH HB) hb); clear BK156; clear HB; have HO159 := n0_; have BK156 := n1_; have HB := n2_; clear n0_ n1_ n2_; (try clear hb); (try clear hb2); (try clear hk); (try clear hi); (try clear ho0)))
  go_ret
  exact ⟨eE, eH HB⟩
end Go.Proofs.Ytgmkgobapeencaa.S
