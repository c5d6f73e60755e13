import Derived.Test.YtkdaeleolomdkaaYD0
import Derived.Test.YtkdaeleolomdkaaYD7
import Derived.Test.YtkdaeleolomdkaaYD8
import Derived.Test.YtkdaeleolomdkaaYD10
import Derived.Test.YtkdaeleolomdkaaYD11
import Derived.Test.YtkdaeleolomdkaaYD21
import Derived.Test.YtkdaeleolomdkaaYD24
import Derived.Test.YtkdaeleolomdkaaYD25
namespace Go.Proofs.Ytkdaeleolomdkaa.D
open Go.RowKit Go.Proofs.YtkdaeleolomdkaaW.PrintWords Go.Proofs.YtkdaeleolomdkaaW.PrintLast Go.Proofs.YtkdaeleolomdkaaW.PrintMore
attribute [local go_sem] max2_int min2_int max_two min_two max_three min_three max_four min_four   -- for this text's walks alone
set_option linter.unusedVariables false
set_option linter.unusedSimpArgs false
set_option maxHeartbeats 8000000 in
set_option maxRecDepth 100000 in
theorem fanlightref05_Own.calls2 (k : Nat) (A0_0 : Option Addr) (c0_0 : Nat) (l0_0 : List (List Int)) (A0_1 : Option Addr) (c0_1 : Nat) (l0_1 : List (S57)) (r1 : List (List Int)) (r2 : List (S57)) (w : World) (hr0_0 : Kd.C (Kd.slice 5 (Kd.int .u8)) w A0_0 l0_0.length l0_0) (hc0_0 : l0_0.length ≤ c0_0) (hr0_1 : Kd.C k57 w A0_1 l0_1.length l0_1) (hc0_1 : l0_1.length ≤ c0_1) (h : fanlightref05_Own.f k l0_0 l0_1 = some (r1, r2)) :
  Calls Try.prog 61 #[.agg #[.slice A0_0 l0_0.length c0_0, .slice A0_1 l0_1.length c0_1]] w fun e w' => ∃ (v0_ v1_ : Value) (P : Nat → Prop), e = .returned (.agg #[v0_, v1_]) ∧ Kd.S (Kd.slice 5 (Kd.int .u8)) 22 w' w.heap.size P v0_ r1 ∧ Kd.S k57 57 w' w.heap.size (fun k => ¬ P k) v1_ r2 ∧ Below w.heap.size w w' := by
 have hu55 := Try.underlying55
 have hu57 := Try.underlying57
 have HR0_0 := Aside0.mk hr0_0
 have HC0_0 := Aside0.mk hc0_0
 clear hr0_0 hc0_0
 have HR0_1 := Aside0.mk hr0_1
 have HC0_1 := Aside0.mk hc0_1
 clear hr0_1 hc0_1
 have HB := Aside0.mk (Below.refl w.heap.size w)
 have H : (fanlightref05_Own.l0 k 0 l0_0 l0_1 ([] : List (List Int))) = some (r1, r2) := h
 clear h
 have H' := Aside0.mk H
 clear H
 go_enter Try.func61, Try.ntmps61
 go_wp2_with (first | ((with_reducible refine gate_dst (N := 1) rfl ?_); refine box_event ?hg (N := 1) ?hd (cs := #[.slice A0_0 l0_0.length c0_0, .slice A0_1 l0_1.length c0_1]) (t := 55) ?hr ?_; (case hd => rfl); (case hg => rfl); (case hr => first | (go_simp; done) | (go_simp; rfl)); intro gb343 hg w2 hbox hb; have n0_ := Aside0.mk (below_step (by repeat (first | (with_reducible first | exact HB.out | apply below_alloc | apply pw_below_drewN | apply below_drew1) | exact HB.out)) hb); have n1_ := Aside0.mk (hbox); have n2_ := Aside0.mk ((by rw [hg]; exact (below_size (by repeat (first | (with_reducible first | exact HB.out | apply below_alloc | apply pw_below_drewN | apply below_drew1) | exact HB.out))) : w.heap.size ≤ gb343)); have n3_ := Aside0.mk ((by rw [hg]; exact (below_size (by repeat (first | (with_reducible first | exact HB.out | apply below_alloc | apply pw_below_drewN | apply below_drew1) | exact HB.out))) : w.heap.size ≤ gb343)); clear HB; have HB := n0_; have BK343 := n1_; have GW343 := n2_; have GE343 := n3_; clear n0_ n1_ n2_ n3_; clear hb hbox hg) | ((with_reducible refine gate_dst (N := 2) rfl ?_); refine box_event ?hg (N := 2) ?hd (cs := #[.slice none 0 0, .slice none 0 0]) (t := 55) ?hr ?_; (case hd => rfl); (case hg => rfl); (case hr => first | (go_simp; done) | (go_simp; rfl)); intro gb344 hg w3 hbox hb; have n0_ := Aside0.mk (blk_below (g := gb343) (o := .cells #[.slice A0_0 l0_0.length c0_0, .slice A0_1 l0_1.length c0_1] 55 (0, 0)) (by (with_reducible repeat (first | refine blk_drewN ?_ _ | refine blk_drew ?_ | refine blk_alloc ?_ _)); exact BK343.out) hb); have n1_ := Aside0.mk (below_step (by repeat (first | (with_reducible first | exact HB.out | apply below_alloc | apply pw_below_drewN | apply below_drew1 | refine below_set ?_ GE343.out) | exact HB.out)) hb); have n2_ := Aside0.mk (hbox); have n3_ := Aside0.mk ((by rw [hg]; exact (below_size (by repeat (first | (with_reducible first | exact HB.out | apply below_alloc | apply pw_below_drewN | apply below_drew1 | refine below_set ?_ GE343.out) | exact HB.out))) : w.heap.size ≤ gb344)); have n4_ := Aside0.mk ((by rw [hg]; exact (below_size (by repeat (first | (with_reducible first | exact HB.out | apply below_alloc | apply pw_below_drewN | apply below_drew1 | refine below_set ?_ GE343.out) | exact HB.out))) : w.heap.size ≤ gb344)); have n5_ := Aside0.mk ((by rw [hg]; exact Nat.ne_of_lt (blk_lt (g := gb343) (o := .cells #[.slice A0_0 l0_0.length c0_0, .slice A0_1 l0_1.length c0_1] 55 (0, 0)) (by (with_reducible repeat (first | refine blk_drewN ?_ _ | refine blk_drew ?_ | refine blk_alloc ?_ _)); exact BK343.out)) : gb343 ≠ gb344)); have n6_ := Aside0.mk ((by rw [hg]; exact Nat.ne_of_gt (blk_lt (g := gb343) (o := .cells #[.slice A0_0 l0_0.length c0_0, .slice A0_1 l0_1.length c0_1] 55 (0, 0)) (by (with_reducible repeat (first | refine blk_drewN ?_ _ | refine blk_drew ?_ | refine blk_alloc ?_ _)); exact BK343.out)) : gb344 ≠ gb343)); clear BK343; clear HB; have BK343 := n0_; have HB := n1_; have BK344 := n2_; have GW344 := n3_; have GE344 := n4_; have NB343_344 := n5_; have NB344_343 := n6_; clear n0_ n1_ n2_ n3_ n4_ n5_ n6_; clear hb hbox hg) | ((with_reducible refine gate_dst (N := 3) rfl ?_); refine box_event ?hg (N := 3) ?hd (cs := #[.slice none 0 0, .slice none 0 0]) (t := 55) ?hr ?_; (case hd => rfl); (case hg => rfl); (case hr => first | (go_simp; done) | (go_simp; rfl)); intro gb345 hg w4 hbox hb; have n0_ := Aside0.mk (blk_below (g := gb343) (o := .cells #[.slice A0_0 l0_0.length c0_0, .slice A0_1 l0_1.length c0_1] 55 (0, 0)) (by (with_reducible repeat (first | refine blk_drewN ?_ _ | refine blk_drew ?_ | refine blk_alloc ?_ _)); exact BK343.out) hb); have n1_ := Aside0.mk (blk_below (g := gb344) (o := .cells #[.slice none 0 0, .slice none 0 0] 55 (0, 0)) (by (with_reducible repeat (first | refine blk_drewN ?_ _ | refine blk_drew ?_ | refine blk_alloc ?_ _)); exact BK344.out) hb); have n2_ := Aside0.mk (below_step (by repeat (first | (with_reducible first | exact HB.out | apply below_alloc | apply pw_below_drewN | apply below_drew1 | refine below_set ?_ GE343.out | refine below_set ?_ GE344.out) | exact HB.out)) hb); have n3_ := Aside0.mk (hbox); have n4_ := Aside0.mk ((by rw [hg]; exact (below_size (by repeat (first | (with_reducible first | exact HB.out | apply below_alloc | apply pw_below_drewN | apply below_drew1 | refine below_set ?_ GE343.out | refine below_set ?_ GE344.out) | exact HB.out))) : w.heap.size ≤ gb345)); have n5_ := Aside0.mk ((by rw [hg]; exact (below_size (by repeat (first | (with_reducible first | exact HB.out | apply below_alloc | apply pw_below_drewN | apply below_drew1 | refine below_set ?_ GE343.out | refine below_set ?_ GE344.out) | exact HB.out))) : w.heap.size ≤ gb345)); have n6_ := Aside0.mk ((by rw [hg]; exact Nat.ne_of_lt (blk_lt (g := gb343) (o := .cells #[.slice A0_0 l0_0.length c0_0, .slice A0_1 l0_1.length c0_1] 55 (0, 0)) (by (with_reducible repeat (first | refine blk_drewN ?_ _ | refine blk_drew ?_ | refine blk_alloc ?_ _)); exact BK343.out)) : gb343 ≠ gb345)); have n7_ := Aside0.mk ((by rw [hg]; exact Nat.ne_of_gt (blk_lt (g := gb343) (o := .cells #[.slice A0_0 l0_0.length c0_0, .slice A0_1 l0_1.length c0_1] 55 (0, 0)) (by (with_reducible repeat (first | refine blk_drewN ?_ _ | refine blk_drew ?_ | refine blk_alloc ?_ _)); exact BK343.out)) : gb345 ≠ gb343)); have n8_ := Aside0.mk ((by rw [hg]; exact Nat.ne_of_lt (blk_lt (g := gb344) (o := .cells #[.slice none 0 0, .slice none 0 0] 55 (0, 0)) (by (with_reducible repeat (first | refine blk_drewN ?_ _ | refine blk_drew ?_ | refine blk_alloc ?_ _)); exact BK344.out)) : gb344 ≠ gb345)); have n9_ := Aside0.mk ((by rw [hg]; exact Nat.ne_of_gt (blk_lt (g := gb344) (o := .cells #[.slice none 0 0, .slice none 0 0] 55 (0, 0)) (by (with_reducible repeat (first | refine blk_drewN ?_ _ | refine blk_drew ?_ | refine blk_alloc ?_ _)); exact BK344.out)) : gb345 ≠ gb344)); clear BK343; clear BK344; clear HB; have BK343 := n0_; have BK344 := n1_; have HB := n2_; have BK345 := n3_; have GW345 := n4_; have GE345 := n5_; have NB343_345 := n6_; have NB345_343 := n7_; have NB344_345 := n8_; have NB345_344 := n9_; clear n0_ n1_ n2_ n3_ n4_ n5_ n6_ n7_ n8_ n9_; clear hb hbox hg))
 go_loopg [4] k (fun kq v4 w' => ∃ (x4_1 : Int) (x346000_1 : List (List Int)) (u346000 : Value), v4 = .int .i64 x4_1 ∧ Aside0 (fanlightref05_Own.l0 kq x4_1 l0_0 l0_1 x346000_1 = some (r1, r2)) ∧ Aside0 (kq ≤ k) ∧ Aside0 (Kd.S (Kd.slice 5 (Kd.int .u8)) 22 w' w.heap.size (fun _ => True) u346000 x346000_1) ∧ Aside0 (w'.heap[gb343]? = some (.cells #[(.slice A0_0 l0_0.length c0_0), (.slice A0_1 l0_1.length c0_1)] 55 (0, 0))) ∧ Aside0 (w'.heap[gb344]? = some (.cells #[(.slice none 0 0), (.slice none 0 0)] 55 (0, 0))) ∧ Aside0 (w'.heap[gb345]? = some (.cells #[u346000, (.slice none 0 0)] 55 (0, 0))) ∧ Aside0 (Below w.heap.size w w'))
 case atStart => exact ⟨(0), (([] : List (List Int))), (.slice none 0 0), (by first | rfl | (simp; done) | (simp [*]; done)), H', ⟨Nat.le_refl _⟩, ⟨by first | exact Kd.S_nil _ _ _ _ _ | exact Kd.N_nil _ _ _ _ _ | exact Kd.V_nil _ _ _ _ _ | exact Kd.Q_nil _ _ _ _ _ | exact Kd.R_nil _ _ _ _ _⟩, ⟨by (with_reducible repeat (first | refine blk_drewN ?_ _ | refine blk_drew ?_ | refine blk_alloc ?_ _)); exact BK343.out⟩, ⟨by (with_reducible repeat (first | refine blk_drewN ?_ _ | refine blk_drew ?_ | refine blk_alloc ?_ _)); exact BK344.out⟩, ⟨by (with_reducible repeat (first | refine blk_drewN ?_ _ | refine blk_drew ?_ | refine blk_alloc ?_ _)); exact BK345.out⟩, ⟨by repeat (first | (with_reducible first | exact HB.out | apply below_alloc | apply pw_below_drewN | apply below_drew1 | refine below_set ?_ GE343.out | refine below_set ?_ GE344.out | refine below_set ?_ GE345.out) | exact HB.out)⟩⟩
 case round =>
  clear H'
  try clear p2
  obtain ⟨x4_1, x346000_1, u346000, rfl, HA, HK1, HO_346000, BK343, BK344, BK345, HB⟩ := hrel
  cases gk with
  | zero => exact absurd HA.out (by simp [fanlightref05_Own.l0])
  | succ k1 =>
   have H := HA.out
   clear HA
   simp only [fanlightref05_Own.l0] at H
   by_cases c5 : x4_1 < (l0_0.length : Int)
   ·
    rw [if_pos c5] at H
    have c5b0 : decide (x4_1 < (l0_0.length : Int)) = true := decide_eq_true c5
    clear c5
    by_cases c6 : 0 ≤ x4_1
    ·
     rw [if_pos c6] at H
     have c6b0 : decide (0 ≤ x4_1) = true := decide_eq_true c6
     clear c6
     replace H := Option.bind_eq_some_iff.mp H
     obtain ⟨t347, A70, H⟩ := H
     replace H : (if x346000_1.length < 5864062014805 then (fanlightref05_Own.l0 k1 (wrap64 (x4_1 + 1)) l0_0 l0_1 (x346000_1 ++ [t347])) else (none)) = some (r1, r2) := H
     have A7 := Aside0.mk A70
     clear A70
     by_cases c8 : x346000_1.length < 5864062014805
     ·
      rw [if_pos c8] at H
      have LMc8 := Aside0.mk c8
      clear c8
      obtain ⟨y350, hy350⟩ : ∃ y_ : List (List Int), y_ = (x346000_1 ++ [t347]) := ⟨_, rfl⟩
      replace H : (fanlightref05_Own.l0 k1 (wrap64 (x4_1 + 1)) l0_0 l0_1 y350) = some (r1, r2) := by first | (rw [hy350]; with_reducible exact H) | (have H2_ := (Option.bind_some _ _).symm.trans H; rw [hy350]; with_reducible exact H2_) | (have H2_ := (Option.bind_some _ _).symm.trans H; with_reducible exact H2_) | with_reducible exact H | (rw [hy350]; exact H) | exact H
      have Ny350 := Aside0.mk hy350
      clear hy350
      have H' := Aside0.mk H
      clear H
      have hnb9 := NB343_344.out
      have hnc9 := NB344_343.out
      have hnb10 := NB343_345.out
      have hnc10 := NB345_343.out
      have hcz11_0 : wr.cell? ⟨gb343, 0, none⟩ = some (.slice A0_0 l0_0.length c0_0) := (blk_cell BK343.out 0).trans rfl
      have hcz11_1 : wr.cell? ⟨gb343, 1, none⟩ = some (.slice A0_1 l0_1.length c0_1) := (blk_cell BK343.out 1).trans rfl
      have hfz11_0 := blk_frozen BK343.out 0
      have hfz11_1 := blk_frozen BK343.out 1
      try go_wp2
      have n0_ := Aside0.mk (Kd.S_drew HO_346000.out)
      have n1_ := Aside0.mk (blk_drew BK343.out)
      have n2_ := Aside0.mk (blk_drew BK344.out)
      have n3_ := Aside0.mk (blk_drew BK345.out)
      have n4_ := Aside0.mk (below_drew1 HB.out)
      clear HO_346000
      clear BK343
      clear BK344
      clear BK345
      clear HB
      have HO_346000 := n0_
      have BK343 := n1_
      have BK344 := n2_
      have BK345 := n3_
      have HB := n4_
      clear n0_ n1_ n2_ n3_ n4_
      have p346 : 0 ≤ (x4_1 : Int) := of_decide_eq_true (by first | (with_reducible assumption) | assumption)
      have q346 : x4_1 < (l0_0.length : Int) := of_decide_eq_true (by first | (with_reducible assumption) | assumption)
      obtain ⟨ad346, A346_0, c346_0, e346, hx346_0, hl346_0, hi346_0⟩ := at_L1 HR0_0.out x4_1 p346 q346
      have hw346_0 := hx346_0
      cases e346
      replace hx346_0 := (HB.out.cell (World.block_lt_of_cell? w _ hx346_0)).trans hx346_0
      have HR346_0 := Aside0.mk hi346_0
      have HC346_0 := Aside0.mk hl346_0
      clear hi346_0 hl346_0
      replace p346 := eq_true p346
      replace q346 := eq_true q346
      refine start_ (n := 12) (S := fun w' => w'.cell? ⟨gb345, 0, none⟩ = some (u346000) ∧ w'.cell? ⟨gb345, 1, none⟩ = some (.slice none 0 0) ∧ w'.cell? ⟨gb343, 0, none⟩ = some (.slice (some ad346) l0_0.length c0_0) ∧ w'.cell? ⟨gb343, 1, none⟩ = some (.slice A0_1 l0_1.length c0_1) ∧ w'.cell? (ad346.add (x4_1).toNat) = some (.slice A346_0 (rd_L1 l0_0 x4_1).length c346_0)) (ds := [11]) #[false, false, false, false, false, false, false, false, false, false, false, false] (by kernel_rfl) rfl rfl ⟨(blk_cell BK345.out 0).trans rfl, (blk_cell BK345.out 1).trans rfl, (blk_cell BK343.out 0).trans rfl, (blk_cell BK343.out 1).trans rfl, ((HB.out.cell (World.block_lt_of_cell? w _ hw346_0)).trans hw346_0)⟩ (fun hHeld => ?_); refine with_tabW fanlightref05_Own.tab5 fanlightref05_Own.bits5 (fun HT_ HW_ => ?_)
      generalize wr.drew = w12 at HO_346000 BK343 BK344 BK345 HB HR346_0 hx346_0 hHeld ⊢
      refine pure_ (i := 0) (N := some 13) (v := ?_) (a' := ?_) #[true, false, false, false, false, false, false, false, false, false, false, false] rfl rfl (any_of HT_.out (by kernel_rfl)) (fun _ _ _ h => h) (Or.inl ⟨by rfl, ?_⟩) ?_ ?_
      rotate_left
      ·
       intro w'
       go_simp
       with_reducible rfl
      rotate_left
      ·
       simp only [Act.put, List.setIfInBounds_toArray, List.set_cons_zero, List.set_cons_succ, i64_w, i32_w]
       rfl
      refine pure_ (i := 2) (N := some 15) (v := ?_) (a' := ?_) #[true, false, true, false, false, false, false, false, false, false, false, false] rfl rfl (any_of HT_.out (by kernel_rfl)) (fun _ _ _ h => h) (Or.inl ⟨by rfl, ?_⟩) ?_ ?_
      rotate_left
      ·
       intro w'
       go_simp
       with_reducible rfl
      rotate_left
      ·
       simp only [Act.put, List.setIfInBounds_toArray, List.set_cons_zero, List.set_cons_succ, i64_w, i32_w]
       rfl
      refine pure_ (i := 4) (N := some 17) (v := ?_) (a' := ?_) #[true, false, true, false, true, false, false, false, false, false, false, false] rfl rfl (any_of HT_.out (by kernel_rfl)) (fun _ _ _ h => h) (Or.inl ⟨by rfl, ?_⟩) ?_ ?_
      rotate_left
      ·
       intro w'
       go_simp
       with_reducible rfl
      rotate_left
      ·
       simp only [Act.put, List.setIfInBounds_toArray, List.set_cons_zero, List.set_cons_succ, i64_w, i32_w]
       rfl
      refine take_ (i := 1) (N := some 14) (v := ?_) (a' := ?_) #[true, true, true, false, true, false, false, false, false, false, false, false] rfl rfl (take_ofW HT_.out HW_.out (by kernel_rfl)) (fun _ _ _ h => h) (Or.inl ⟨by rfl, ?_⟩) hHeld ?_ ?_
      rotate_left
      ·
       rintro w' ⟨s0, s1, s2, s3, s4⟩
       go_simp
       with_reducible rfl
      rotate_left
      ·
       simp only [Act.put, List.setIfInBounds_toArray, List.set_cons_zero, List.set_cons_succ, i64_w, i32_w]
       rfl
      refine take_ (i := 3) (N := some 16) (v := ?_) (a' := ?_) #[true, true, true, true, true, false, false, false, false, false, false, false] rfl rfl (take_ofW HT_.out HW_.out (by kernel_rfl)) (fun _ _ _ h => h) (Or.inl ⟨by rfl, ?_⟩) hHeld ?_ ?_
      rotate_left
      ·
       rintro w' ⟨s0, s1, s2, s3, s4⟩
       go_simp
       with_reducible rfl
      rotate_left
      ·
       simp only [Act.put, List.setIfInBounds_toArray, List.set_cons_zero, List.set_cons_succ, i64_w, i32_w]
       rfl
      refine pure_ (i := 5) (N := some 18) (v := ?_) (a' := ?_) #[true, true, true, true, true, true, false, false, false, false, false, false] rfl rfl (any_of HT_.out (by kernel_rfl)) (fun _ _ _ h => h) (Or.inl ⟨by rfl, ?_⟩) ?_ ?_
      rotate_left
      ·
       intro w'
       go_simp
       with_reducible rfl
      rotate_left
      ·
       simp only [Act.put, List.setIfInBounds_toArray, List.set_cons_zero, List.set_cons_succ, i64_w, i32_w]
       rfl
      refine take_ (i := 6) (N := some 19) (v := ?_) (a' := ?_) #[true, true, true, true, true, true, true, false, false, false, false, false] rfl rfl (take_ofW HT_.out HW_.out (by kernel_rfl)) (fun _ _ _ h => h) (Or.inl ⟨by rfl, ?_⟩) hHeld ?_ ?_
      rotate_left
      ·
       rintro w' ⟨s0, s1, s2, s3, s4⟩
       go_simp
       with_reducible rfl
      rotate_left
      ·
       simp only [Act.put, List.setIfInBounds_toArray, List.set_cons_zero, List.set_cons_succ, i64_w, i32_w]
       rfl
      refine one_ (i := 7) (N := some 20) #[true, true, true, true, true, true, true, true, false, false, false, false] rfl rfl (one_of HT_.out (by kernel_rfl)) (by decide) (fun K hK => ?_)
      refine goes_ Try.func50 (by kernel_rfl) rfl #[.slice A346_0 (rd_L1 l0_0 x4_1).length c346_0] (by rfl) rfl rfl (by (try simp only [List.map_toArray, List.map_cons, List.map_nil]); first | done | rfl | (simp only [List.length_drop, List.length_take]; rfl)) ?_
      with_reducible refine (fanlightref04_Copied.calls _ _ (rd_L1 l0_0 x4_1) t347 _ ?side1 ?side2 A7.out).mono ?_
      (case side1 => repeat (first | exact (Kd.C_below HR346_0.out HB.out) | (with_reducible refine Kd.C_alloc ?_ _) | (with_reducible refine Kd.C_drewN ?_ _) | (with_reducible refine Kd.C_drew ?_)))
      (case side2 => exact HC346_0.out)
      rintro e w13 ⟨v348, rfl, ho0, hb⟩
      refine ⟨_, rfl, ?_⟩
      have n0_ := Aside0.mk (Kd.S_elder' (by (with_reducible repeat (first | apply Kd.S_alloc | apply Kd.S_drewN | apply Kd.S_drew)); exact HO_346000.out) (Kd.R_base ho0) hb)
      have n1_ := Aside0.mk (Kd.R_lower ho0 (below_size (by repeat (first | (with_reducible first | exact HB.out | apply below_alloc | apply pw_below_drewN | apply below_drew1 | refine below_set ?_ GE343.out | refine below_set ?_ GE344.out | refine below_set ?_ GE345.out) | exact HB.out))))
      have n2_ := Aside0.mk (blk_below (g := gb343) (o := .cells #[.slice (some ad346) l0_0.length c0_0, .slice A0_1 l0_1.length c0_1] 55 (0, 0)) (by (with_reducible repeat (first | refine blk_drewN ?_ _ | refine blk_drew ?_ | refine blk_alloc ?_ _)); exact BK343.out) hb)
      have n3_ := Aside0.mk (blk_below (g := gb344) (o := .cells #[.slice none 0 0, .slice none 0 0] 55 (0, 0)) (by (with_reducible repeat (first | refine blk_drewN ?_ _ | refine blk_drew ?_ | refine blk_alloc ?_ _)); exact BK344.out) hb)
      have n4_ := Aside0.mk (blk_below (g := gb345) (o := .cells #[u346000, .slice none 0 0] 55 (0, 0)) (by (with_reducible repeat (first | refine blk_drewN ?_ _ | refine blk_drew ?_ | refine blk_alloc ?_ _)); exact BK345.out) hb)
      have n5_ := Aside0.mk (below_step (by repeat (first | (with_reducible first | exact HB.out | apply below_alloc | apply pw_below_drewN | apply below_drew1 | refine below_set ?_ GE343.out | refine below_set ?_ GE344.out | refine below_set ?_ GE345.out) | exact HB.out)) hb)
      clear HO_346000
      clear BK343
      clear BK344
      clear BK345
      clear HB
      have HO_346000 := n0_
      have HO349 := n1_
      have BK343 := n2_
      have BK344 := n3_
      have BK345 := n4_
      have HB := n5_
      clear n0_ n1_ n2_ n3_ n4_ n5_
      (try clear hb)
      (try clear hb2)
      (try clear hk)
      (try clear hi)
      (try clear ho0)
      obtain ⟨Ao15, co15, eo15⟩ := Kd.R_slice HO349.out
      (first | subst eo15 | (injection eo15 with f1_ f2_ f3_; have f4_ := f1_.symm; have f5_ := f3_.symm; clear f1_ f2_ f3_; subst f4_; subst f5_))
      refine hK.out _ _ ⟨(blk_cell BK345.out 0).trans rfl, (blk_cell BK345.out 1).trans rfl, (blk_cell BK343.out 0).trans rfl, (blk_cell BK343.out 1).trans rfl, ((HB.out.cell (World.block_lt_of_cell? w _ hw346_0)).trans hw346_0)⟩ (fun hHeld => ?_)
      clear hK K
      refine norm_ (a' := ?_) ?_ ?_
      rotate_left
      ·
       show Act.put _ (some 20) _ = _
       simp only [Act.put, List.setIfInBounds_toArray, List.set_cons_zero, List.set_cons_succ, i64_w, i32_w]
       rfl
      refine one_ (i := 8) (N := some 21) #[true, true, true, true, true, true, true, true, true, false, false, false] rfl rfl (one_of HT_.out (by kernel_rfl)) (by decide) (fun K hK => ?_)
      refine value_ (w1 := ?_) (v := ?_) (by rfl) rfl ?_ ?_
      rotate_left 2
      ·
       go_simp
       constructor
       ·
        rfl
       ·
        rfl
      refine hK.out _ _ ⟨(blk_cell (blk_alloc BK345.out _) 0).trans rfl, (blk_cell (blk_alloc BK345.out _) 1).trans rfl, (blk_cell (blk_alloc BK343.out _) 0).trans rfl, (blk_cell (blk_alloc BK343.out _) 1).trans rfl, (World.cell?_alloc_lt _ _ _ (World.block_lt_of_cell? _ _ (((HB.out.cell (World.block_lt_of_cell? w _ hw346_0)).trans hw346_0)))).trans (((HB.out.cell (World.block_lt_of_cell? w _ hw346_0)).trans hw346_0))⟩ (fun hHeld => ?_)
      clear hK K
      refine norm_ (a' := ?_) ?_ ?_
      rotate_left
      ·
       show Act.put _ (some 21) _ = _
       simp only [Act.put, List.setIfInBounds_toArray, List.set_cons_zero, List.set_cons_succ, i64_w, i32_w]
       rfl
      refine one_ (i := 9) (N := some 22) #[true, true, true, true, true, true, true, true, true, true, false, false] rfl rfl (one_of HT_.out (by kernel_rfl)) (by decide) (fun K hK => ?_)
      refine Kd.S_append_step (Kd.slice 5 (Kd.int .u8)) (w0 := w) w.heap.size (by rfl) (.tmp 14) (.tmp 21) 52 22 (.slice none 0 0) 24 rfl Try.underlying52 info22 rfl (by decide) (by omega) u346000 x346000_1 t347 [.slice Ao15 t347.length co15] (fun _ => True) (fun k_ => some k_ = (.slice Ao15 t347.length co15 : Value).ownBlock) rfl rfl ?aP (fun k_ hk_ => ((Kd.R_mono (ok' := fun k_ => ((fun _ => True)) k_ ∧ some k_ ≠ (u346000 : Value).ownBlock) (Kd.R_apart' (HO349.out) (Kd.S_typed HO_346000.out) (by decide)) (fun k_ hk => ⟨trivial, hk.2⟩))).1 k_ hk_.symm) ?aF ?aO ?aB ?aS ?aL ?_
      (case aP => exact Kd.M_row (Kd.R_mono (Kd.R_tight rfl (Kd.R_mono (ok' := fun k_ => ((fun _ => True)) k_ ∧ some k_ ≠ (u346000 : Value).ownBlock) (Kd.R_apart' (HO349.out) (Kd.S_typed HO_346000.out) (by decide)) (fun k_ hk => ⟨trivial, hk.2⟩))) (fun _ h_ => h_)))
      (case aB => exact (by repeat (first | (with_reducible first | exact HB.out | apply below_alloc | apply pw_below_drewN | apply below_drew1 | refine below_set ?_ GE343.out | refine below_set ?_ GE344.out | refine below_set ?_ GE345.out) | exact HB.out)))
      (case aF => exact (fun _ _ => trivial))
      (case aO => exact (by (with_reducible repeat (first | apply Kd.S_alloc | apply Kd.S_drewN | apply Kd.S_drew)); exact Kd.S_mono HO_346000.out (fun k_ hk => ⟨trivial, fun e_ => hk.2 e_⟩)))
      (case aS => exact (below_size (by repeat (first | (with_reducible first | exact HB.out | apply below_alloc | apply pw_below_drewN | apply below_drew1 | refine below_set ?_ GE343.out | refine below_set ?_ GE344.out | refine below_set ?_ GE345.out) | exact HB.out))))
      (case aL => have := LMc8.out; omega)
      intro v351 w14 ho hb hg hat
      rw [← Ny350.out] at ho
      have n0_ := Aside0.mk (blk_grown (g := gb343) (o := .cells #[.slice (some ad346) l0_0.length c0_0, .slice A0_1 l0_1.length c0_1] 55 (0, 0)) (by (with_reducible repeat (first | refine blk_drewN ?_ _ | refine blk_drew ?_ | refine blk_alloc ?_ _)); exact BK343.out) hg (Kd.S_ne HO_346000.out BK343.out (by decide)))
      have n1_ := Aside0.mk (blk_grown (g := gb344) (o := .cells #[.slice none 0 0, .slice none 0 0] 55 (0, 0)) (by (with_reducible repeat (first | refine blk_drewN ?_ _ | refine blk_drew ?_ | refine blk_alloc ?_ _)); exact BK344.out) hg (Kd.S_ne HO_346000.out BK344.out (by decide)))
      have n2_ := Aside0.mk (blk_grown (g := gb345) (o := .cells #[u346000, .slice none 0 0] 55 (0, 0)) (by (with_reducible repeat (first | refine blk_drewN ?_ _ | refine blk_drew ?_ | refine blk_alloc ?_ _)); exact BK345.out) hg (Kd.S_ne HO_346000.out BK345.out (by decide)))
      have n3_ := Aside0.mk (hb)
      have n4_ := Aside0.mk (ho)
      clear BK343
      clear BK344
      clear BK345
      clear HB
      clear HO_346000
      clear HO349
      have BK343 := n0_
      have BK344 := n1_
      have BK345 := n2_
      have HB := n3_
      have HO352 := n4_
      clear n0_ n1_ n2_ n3_ n4_
      clear ho hb hg hat
      obtain ⟨Ao16, co16, eo16⟩ := Kd.S_slice HO352.out
      (first | subst eo16 | (injection eo16 with f1_ f2_ f3_; have f4_ := f1_.symm; have f5_ := f3_.symm; clear f1_ f2_ f3_; subst f4_; subst f5_))
      refine hK.out _ _ ⟨(blk_cell BK345.out 0).trans rfl, (blk_cell BK345.out 1).trans rfl, (blk_cell BK343.out 0).trans rfl, (blk_cell BK343.out 1).trans rfl, ((HB.out.cell (World.block_lt_of_cell? w _ hw346_0)).trans hw346_0)⟩ (fun hHeld => ?_)
      clear hK K
      refine norm_ (a' := ?_) ?_ ?_
      rotate_left
      ·
       show Act.put _ (some 22) _ = _
       simp only [Act.put, List.setIfInBounds_toArray, List.set_cons_zero, List.set_cons_succ, i64_w, i32_w]
       rfl
      refine pure_ (i := 10) (N := some 23) (v := ?_) (a' := ?_) #[true, true, true, true, true, true, true, true, true, true, true, false] rfl rfl (any_of HT_.out (by kernel_rfl)) (fun _ _ _ h => h) (Or.inl ⟨by rfl, ?_⟩) ?_ ?_
      rotate_left
      ·
       intro w'
       go_simp
       with_reducible rfl
      rotate_left
      ·
       simp only [Act.put, List.setIfInBounds_toArray, List.set_cons_zero, List.set_cons_succ, i64_w, i32_w]
       rfl
      refine last_ (i := 11) (N := none) #[true, true, true, true, true, true, true, true, true, true, true, true] rfl rfl (one_of HT_.out (by kernel_rfl)) (by decide) (fun K hK => ?_)
      have hs17 : w14.cell? ⟨gb345, 0, none⟩ = some (u346000) := (blk_cell BK345.out 0).trans rfl
      have hfs17 := blk_frozen BK345.out 0
      have hns17_0 := NB343_345.out
      have hns17_1 := NB344_345.out
      have hms17_0 := NB345_343.out
      have hms17_1 := NB345_344.out
      refine skip_ (w1 := ?_) (by rfl) rfl ?_ ?_
      rotate_left
      ·
       go_simp
       rfl
      refine hK.out _ _ ?_
      clear hK K
      refine done_ (done_of HT_.out (by kernel_rfl)) ?_
      try go_wp2
      go_roundg k1
      case measure => have := HK1.out; omega
      case rel => exact ⟨(wrap64 (x4_1 + 1)), (y350), (.slice Ao16 y350.length co16), (by first | rfl | (simp; done) | (simp [*]; done)), H', ⟨by have := HK1.out; omega⟩, ⟨by (with_reducible repeat (first | apply Kd.S_alloc | apply Kd.S_drewN | apply Kd.S_drew)); exact Kd.S_mono (Kd.S_far (p := ⟨gb345, 0, none⟩) (Kd.S_types HO352.out BK345.out (by decide)) (fun _ hk => hk.2) (.slice Ao16 y350.length co16)) (fun _ hk => trivial)⟩, ⟨by (with_reducible repeat (first | refine blk_drewN ?_ _ | refine blk_drew ?_ | refine blk_alloc ?_ _)); refine blk_far ?_ NB343_345.out _; (with_reducible repeat (first | refine blk_drewN ?_ _ | refine blk_drew ?_ | refine blk_alloc ?_ _)); exact BK343.out⟩, ⟨by (with_reducible repeat (first | refine blk_drewN ?_ _ | refine blk_drew ?_ | refine blk_alloc ?_ _)); refine blk_far ?_ NB344_345.out _; (with_reducible repeat (first | refine blk_drewN ?_ _ | refine blk_drew ?_ | refine blk_alloc ?_ _)); exact BK344.out⟩, ⟨by (with_reducible repeat (first | refine blk_drewN ?_ _ | refine blk_drew ?_ | refine blk_alloc ?_ _)); refine blk_put (cs := #[u346000, .slice none 0 0]) ?_ 0 _ rfl; (with_reducible repeat (first | refine blk_drewN ?_ _ | refine blk_drew ?_ | refine blk_alloc ?_ _)); exact BK345.out⟩, ⟨by repeat (first | (with_reducible first | exact HB.out | apply below_alloc | apply pw_below_drewN | apply below_drew1 | refine below_set ?_ GE343.out | refine below_set ?_ GE344.out | refine below_set ?_ GE345.out) | exact HB.out)⟩⟩
     ·
      rw [if_neg c8] at H
      exact absurd H (by simp)
    ·
     rw [if_neg c6] at H
     exact absurd H (by simp)
   ·
    rw [if_neg c5] at H
    have c5b0 : decide (x4_1 < (l0_0.length : Int)) = false := decide_eq_false c5
    clear c5
    have H' := Aside0.mk H
    clear H
    have hnb18 := NB343_344.out
    have hnc18 := NB344_343.out
    have hnb19 := NB343_345.out
    have hnc19 := NB345_343.out
    have hcz20_0 : wr.cell? ⟨gb343, 0, none⟩ = some (.slice A0_0 l0_0.length c0_0) := (blk_cell BK343.out 0).trans rfl
    have hcz20_1 : wr.cell? ⟨gb343, 1, none⟩ = some (.slice A0_1 l0_1.length c0_1) := (blk_cell BK343.out 1).trans rfl
    have hfz20_0 := blk_frozen BK343.out 0
    have hfz20_1 := blk_frozen BK343.out 1
    go_wp2
    have HOB_ := Aside0.mk (Kd.S_mono (Kd.S_bound HO_346000.out) (ok' := fun k_ => k_ < wr.heap.size) (fun _ hk => hk.2.2.1))
    obtain ⟨N1, hN1⟩ : ∃ N, wr.heap.size = N := ⟨_, rfl⟩
    rw [hN1] at HOB_
    have HN := Aside0.mk (Nat.le_of_eq hN1.symm)
    clear hN1
    go_loopg [5] k1 (fun kq v5 w' => ∃ (x5_2 : Int) (x346001_2 : List (S57)) (u346001 : Value), v5 = .int .i64 x5_2 ∧ Aside0 (fanlightref05_Own.l1 kq x5_2 l0_0 l0_1 x346000_1 x346001_2 = some (r1, r2)) ∧ Aside0 (kq ≤ k1) ∧ Aside0 (Kd.S (Kd.slice 5 (Kd.int .u8)) 22 w' w.heap.size (fun k_ => k_ < N1) u346000 x346000_1) ∧ Aside0 (Kd.S k57 57 w' w.heap.size (fun k_ => N1 ≤ k_) u346001 x346001_2) ∧ Aside0 (N1 ≤ w'.heap.size) ∧ Aside0 (w'.heap[gb343]? = some (.cells #[(.slice A0_0 l0_0.length c0_0), (.slice A0_1 l0_1.length c0_1)] 55 (0, 0))) ∧ Aside0 (w'.heap[gb344]? = some (.cells #[(.slice none 0 0), (.slice none 0 0)] 55 (0, 0))) ∧ Aside0 (w'.heap[gb345]? = some (.cells #[u346000, u346001] 55 (0, 0))) ∧ Aside0 (Below w.heap.size w w'))
    case atStart => exact ⟨(0), (([] : List (S57))), (.slice none 0 0), (by first | rfl | (simp; done) | (simp [*]; done)), H', ⟨Nat.le_refl _⟩, HOB_, ⟨by first | exact Kd.S_nil _ _ _ _ _ | exact Kd.N_nil _ _ _ _ _ | exact Kd.V_nil _ _ _ _ _ | exact Kd.Q_nil _ _ _ _ _ | exact Kd.R_nil _ _ _ _ _⟩, HN, ⟨by (with_reducible repeat (first | refine blk_drewN ?_ _ | refine blk_drew ?_ | refine blk_alloc ?_ _)); exact BK343.out⟩, ⟨by (with_reducible repeat (first | refine blk_drewN ?_ _ | refine blk_drew ?_ | refine blk_alloc ?_ _)); exact BK344.out⟩, ⟨by (with_reducible repeat (first | refine blk_drewN ?_ _ | refine blk_drew ?_ | refine blk_alloc ?_ _)); exact BK345.out⟩, ⟨by repeat (first | (with_reducible first | exact HB.out | apply below_alloc | apply pw_below_drewN | apply below_drew1 | refine below_set ?_ GE343.out | refine below_set ?_ GE344.out | refine below_set ?_ GE345.out) | exact HB.out)⟩⟩
    case round =>
     clear H' HN HOB_
     try clear c1
     try clear p2
     try clear c3
     try clear p3
     try clear q3
     try clear hx3
     try clear c5
     try clear c5b0
     try clear c6
     try clear c6b0
     try clear p6
     try clear c8
     try clear c9
     try clear c10
     try clear c18
     try clear c19
     try clear hcz11_0
     try clear hcz11_1
     try clear hcz20_0
     try clear hcz20_1
     try clear hfz11_0
     try clear hfz11_1
     try clear hfz20_0
     try clear hfz20_1
     try clear hx346_0
     try clear p2
     try clear p346
     try clear q346
     obtain ⟨x5_2, x346001_2, u346001, rfl, HA, HK2, HO_346000, HO_346001, HN, BK343, BK344, BK345, HB⟩ := hrel
     cases gk with
     | zero => exact absurd HA.out (by simp [fanlightref05_Own.l1])
     | succ k2 =>
      have H := HA.out
      clear HA
      simp only [fanlightref05_Own.l1] at H
      by_cases c21 : x5_2 < (l0_1.length : Int)
      ·
       rw [if_pos c21] at H
       have c21b0 : decide (x5_2 < (l0_1.length : Int)) = true := decide_eq_true c21
       clear c21
       by_cases c22 : 0 ≤ x5_2
       ·
        rw [if_pos c22] at H
        have c22b0 : decide (0 ≤ x5_2) = true := decide_eq_true c22
        clear c22
        replace H := Option.bind_eq_some_iff.mp H
        obtain ⟨t355, A230, H⟩ := H
        replace H : (if x346001_2.length < 3518437208883 then (fanlightref05_Own.l1 k2 (wrap64 (x5_2 + 1)) l0_0 l0_1 x346000_1 (x346001_2 ++ [(⟨false, (rd_T57 l0_1 x5_2).f1, t355⟩ : S57)])) else (none)) = some (r1, r2) := H
        have A23 := Aside0.mk A230
        clear A230
        by_cases c24 : x346001_2.length < 3518437208883
        ·
         rw [if_pos c24] at H
         have LMc24 := Aside0.mk c24
         clear c24
         obtain ⟨y358, hy358⟩ : ∃ y_ : List (S57), y_ = (x346001_2 ++ [(⟨false, (rd_T57 l0_1 x5_2).f1, t355⟩ : S57)]) := ⟨_, rfl⟩
         replace H : (fanlightref05_Own.l1 k2 (wrap64 (x5_2 + 1)) l0_0 l0_1 x346000_1 y358) = some (r1, r2) := by first | (rw [hy358]; with_reducible exact H) | (have H2_ := (Option.bind_some _ _).symm.trans H; rw [hy358]; with_reducible exact H2_) | (have H2_ := (Option.bind_some _ _).symm.trans H; with_reducible exact H2_) | with_reducible exact H | (rw [hy358]; exact H) | exact H
         have Ny358 := Aside0.mk hy358
         clear hy358
         have H' := Aside0.mk H
         clear H
         have hnb25 := NB343_344.out
         have hnc25 := NB344_343.out
         have hnb26 := NB343_345.out
         have hnc26 := NB345_343.out
         have hcz27_0 : wr.cell? ⟨gb343, 0, none⟩ = some (.slice A0_0 l0_0.length c0_0) := (blk_cell BK343.out 0).trans rfl
         have hcz27_1 : wr.cell? ⟨gb343, 1, none⟩ = some (.slice A0_1 l0_1.length c0_1) := (blk_cell BK343.out 1).trans rfl
         have hfz27_0 := blk_frozen BK343.out 0
         have hfz27_1 := blk_frozen BK343.out 1
         try go_wp2
         have n0_ := Aside0.mk (Kd.S_drew HO_346000.out)
         have n1_ := Aside0.mk (Kd.S_drew HO_346001.out)
         have n2_ := Aside0.mk (blk_drew BK343.out)
         have n3_ := Aside0.mk (blk_drew BK344.out)
         have n4_ := Aside0.mk (blk_drew BK345.out)
         have n5_ := Aside0.mk (below_drew1 HB.out)
         clear HO_346000
         clear HO_346001
         clear BK343
         clear BK344
         clear BK345
         clear HB
         have HO_346000 := n0_
         have HO_346001 := n1_
         have BK343 := n2_
         have BK344 := n3_
         have BK345 := n4_
         have HB := n5_
         clear n0_ n1_ n2_ n3_ n4_ n5_
         have p353 : 0 ≤ (x5_2 : Int) := of_decide_eq_true (by first | (with_reducible assumption) | assumption)
         have q353 : x5_2 < (l0_1.length : Int) := of_decide_eq_true (by first | (with_reducible assumption) | assumption)
         obtain ⟨ad353, A353_2, c353_2, e353, hx353_0, hx353_1, hx353_2, hl353_2, hi353_2⟩ := at_T57 HR0_1.out x5_2 p353 q353
         have hw353_2 := hx353_2
         have hw353_1 := hx353_1
         have hw353_0 := hx353_0
         cases e353
         replace hx353_0 := (HB.out.cell (World.block_lt_of_cell? w _ hx353_0)).trans hx353_0
         replace hx353_1 := (HB.out.cell (World.block_lt_of_cell? w _ hx353_1)).trans hx353_1
         replace hx353_2 := (HB.out.cell (World.block_lt_of_cell? w _ hx353_2)).trans hx353_2
         have HR353_2 := Aside0.mk hi353_2
         have HC353_2 := Aside0.mk hl353_2
         clear hi353_2 hl353_2
         replace p353 := eq_true p353
         replace q353 := eq_true q353
         have p354 : 0 ≤ (x5_2 : Int) := of_decide_eq_true (by first | (with_reducible assumption) | assumption)
         have q354 : x5_2 < (l0_1.length : Int) := of_decide_eq_true (by first | (with_reducible assumption) | assumption)
         obtain ⟨ad354, A354_2, c354_2, e354, hx354_0, hx354_1, hx354_2, hl354_2, hi354_2⟩ := at_T57 HR0_1.out x5_2 p354 q354
         have hw354_2 := hx354_2
         have hw354_1 := hx354_1
         have hw354_0 := hx354_0
         obtain rfl : ad353 = ad354 := (by injection e354)
         replace hx354_0 := (HB.out.cell (World.block_lt_of_cell? w _ hx354_0)).trans hx354_0
         replace hx354_1 := (HB.out.cell (World.block_lt_of_cell? w _ hx354_1)).trans hx354_1
         replace hx354_2 := (HB.out.cell (World.block_lt_of_cell? w _ hx354_2)).trans hx354_2
         have HR354_2 := Aside0.mk hi354_2
         have HC354_2 := Aside0.mk hl354_2
         clear hi354_2 hl354_2
         replace p354 := eq_true p354
         replace q354 := eq_true q354
         have ea_ := Option.some.inj (hx353_2.symm.trans hx354_2)
         injection ea_ with ea_ en_ ec_
         subst ea_
         subst ec_
         clear en_
         refine start_ (n := 20) (S := fun w' => w'.cell? ⟨gb345, 0, none⟩ = some (u346000) ∧ w'.cell? ⟨gb345, 1, none⟩ = some (u346001) ∧ w'.cell? ⟨gb343, 0, none⟩ = some (.slice A0_0 l0_0.length c0_0) ∧ w'.cell? ⟨gb343, 1, none⟩ = some (.slice (some ad353) l0_1.length c0_1) ∧ w'.cell? (ad353.add ((x5_2).toNat * 3)) = some (.bool ((rd_T57 l0_1 x5_2).f0)) ∧ w'.cell? ⟨(ad353.add ((x5_2).toNat * 3)).block, (ad353.add ((x5_2).toNat * 3)).off + 1, none⟩ = some (.int .i64 ((rd_T57 l0_1 x5_2).f1)) ∧ w'.cell? ⟨(ad353.add ((x5_2).toNat * 3)).block, (ad353.add ((x5_2).toNat * 3)).off + 2, none⟩ = some (.slice A353_2 ((rd_T57 l0_1 x5_2).f2).length c353_2) ∧ w'.cell? (ad353.add ((x5_2).toNat * 3)) = some (.bool ((rd_T57 l0_1 x5_2).f0)) ∧ w'.cell? ⟨(ad353.add ((x5_2).toNat * 3)).block, (ad353.add ((x5_2).toNat * 3)).off + 1, none⟩ = some (.int .i64 ((rd_T57 l0_1 x5_2).f1)) ∧ w'.cell? ⟨(ad353.add ((x5_2).toNat * 3)).block, (ad353.add ((x5_2).toNat * 3)).off + 2, none⟩ = some (.slice A353_2 ((rd_T57 l0_1 x5_2).f2).length c353_2)) (ds := [19]) #[false, false, false, false, false, false, false, false, false, false, false, false, false, false, false, false, false, false, false, false] (by kernel_rfl) rfl rfl ⟨(blk_cell BK345.out 0).trans rfl, (blk_cell BK345.out 1).trans rfl, (blk_cell BK343.out 0).trans rfl, (blk_cell BK343.out 1).trans rfl, ((HB.out.cell (World.block_lt_of_cell? w _ hw353_0)).trans hw353_0), ((HB.out.cell (World.block_lt_of_cell? w _ hw353_1)).trans hw353_1), ((HB.out.cell (World.block_lt_of_cell? w _ hw353_2)).trans hw353_2), ((HB.out.cell (World.block_lt_of_cell? w _ hw354_0)).trans hw354_0), ((HB.out.cell (World.block_lt_of_cell? w _ hw354_1)).trans hw354_1), ((HB.out.cell (World.block_lt_of_cell? w _ hw354_2)).trans hw354_2)⟩ (fun hHeld => ?_); refine with_tabW fanlightref05_Own.tab9 fanlightref05_Own.bits9 (fun HT_ HW_ => ?_)
         replace HN : Aside0 (N1 ≤ wr.drew.heap.size) := ⟨HN.out⟩
         generalize wr.drew = w28 at HN HO_346000 HO_346001 BK343 BK344 BK345 HB HR353_2 HR354_2 hx353_0 hx353_1 hx353_2 hx354_0 hx354_1 hx354_2 hHeld ⊢
         refine pure_ (i := 0) (N := some 31) (v := ?_) (a' := ?_) #[true, false, false, false, false, false, false, false, false, false, false, false, false, false, false, false, false, false, false, false] rfl rfl (any_of HT_.out (by kernel_rfl)) (fun _ _ _ h => h) (Or.inl ⟨by rfl, ?_⟩) ?_ ?_
         rotate_left
         ·
          intro w'
          go_simp
          with_reducible rfl
         rotate_left
         ·
          simp only [Act.put, List.setIfInBounds_toArray, List.set_cons_zero, List.set_cons_succ, i64_w, i32_w]
          rfl
         refine pure_ (i := 2) (N := some 33) (v := ?_) (a' := ?_) #[true, false, true, false, false, false, false, false, false, false, false, false, false, false, false, false, false, false, false, false] rfl rfl (any_of HT_.out (by kernel_rfl)) (fun _ _ _ h => h) (Or.inl ⟨by rfl, ?_⟩) ?_ ?_
         rotate_left
         ·
          intro w'
          go_simp
          with_reducible rfl
         rotate_left
         ·
          simp only [Act.put, List.setIfInBounds_toArray, List.set_cons_zero, List.set_cons_succ, i64_w, i32_w]
          rfl
         refine pure_ (i := 4) (N := some 35) (v := ?_) (a' := ?_) #[true, false, true, false, true, false, false, false, false, false, false, false, false, false, false, false, false, false, false, false] rfl rfl (any_of HT_.out (by kernel_rfl)) (fun _ _ _ h => h) (Or.inl ⟨by rfl, ?_⟩) ?_ ?_
         rotate_left
         ·
          intro w'
          go_simp
          with_reducible rfl
         rotate_left
         ·
          simp only [Act.put, List.setIfInBounds_toArray, List.set_cons_zero, List.set_cons_succ, i64_w, i32_w]
          rfl
         refine pure_ (i := 8) (N := some 39) (v := ?_) (a' := ?_) #[true, false, true, false, true, false, false, false, true, false, false, false, false, false, false, false, false, false, false, false] rfl rfl (any_of HT_.out (by kernel_rfl)) (fun _ _ _ h => h) (Or.inl ⟨by rfl, ?_⟩) ?_ ?_
         rotate_left
         ·
          intro w'
          go_simp
          with_reducible rfl
         rotate_left
         ·
          simp only [Act.put, List.setIfInBounds_toArray, List.set_cons_zero, List.set_cons_succ, i64_w, i32_w]
          rfl
         refine pure_ (i := 10) (N := some 41) (v := ?_) (a' := ?_) #[true, false, true, false, true, false, false, false, true, false, true, false, false, false, false, false, false, false, false, false] rfl rfl (any_of HT_.out (by kernel_rfl)) (fun _ _ _ h => h) (Or.inl ⟨by rfl, ?_⟩) ?_ ?_
         rotate_left
         ·
          intro w'
          go_simp
          with_reducible rfl
         rotate_left
         ·
          simp only [Act.put, List.setIfInBounds_toArray, List.set_cons_zero, List.set_cons_succ, i64_w, i32_w]
          rfl
         refine take_ (i := 1) (N := some 32) (v := ?_) (a' := ?_) #[true, true, true, false, true, false, false, false, true, false, true, false, false, false, false, false, false, false, false, false] rfl rfl (take_ofW HT_.out HW_.out (by kernel_rfl)) (fun _ _ _ h => h) (Or.inl ⟨by rfl, ?_⟩) hHeld ?_ ?_
         rotate_left
         ·
          rintro w' ⟨s0, s1, s2, s3, s4, s5, s6, s7, s8, s9⟩
          go_simp
          with_reducible rfl
         rotate_left
         ·
          simp only [Act.put, List.setIfInBounds_toArray, List.set_cons_zero, List.set_cons_succ, i64_w, i32_w]
          rfl
         refine take_ (i := 3) (N := some 34) (v := ?_) (a' := ?_) #[true, true, true, true, true, false, false, false, true, false, true, false, false, false, false, false, false, false, false, false] rfl rfl (take_ofW HT_.out HW_.out (by kernel_rfl)) (fun _ _ _ h => h) (Or.inl ⟨by rfl, ?_⟩) hHeld ?_ ?_
         rotate_left
         ·
          rintro w' ⟨s0, s1, s2, s3, s4, s5, s6, s7, s8, s9⟩
          go_simp
          with_reducible rfl
         rotate_left
         ·
          simp only [Act.put, List.setIfInBounds_toArray, List.set_cons_zero, List.set_cons_succ, i64_w, i32_w]
          rfl
         refine pure_ (i := 5) (N := some 36) (v := ?_) (a' := ?_) #[true, true, true, true, true, true, false, false, true, false, true, false, false, false, false, false, false, false, false, false] rfl rfl (any_of HT_.out (by kernel_rfl)) (fun _ _ _ h => h) (Or.inl ⟨by rfl, ?_⟩) ?_ ?_
         rotate_left
         ·
          intro w'
          go_simp
          with_reducible rfl
         rotate_left
         ·
          simp only [Act.put, List.setIfInBounds_toArray, List.set_cons_zero, List.set_cons_succ, i64_w, i32_w]
          rfl
         refine pure_ (i := 6) (N := some 37) (v := ?_) (a' := ?_) #[true, true, true, true, true, true, true, false, true, false, true, false, false, false, false, false, false, false, false, false] rfl rfl (any_of HT_.out (by kernel_rfl)) (fun _ _ _ h => h) (Or.inl ⟨by rfl, ?_⟩) ?_ ?_
         rotate_left
         ·
          intro w'
          go_simp
          with_reducible rfl
         rotate_left
         ·
          simp only [Act.put, List.setIfInBounds_toArray, List.set_cons_zero, List.set_cons_succ, i64_w, i32_w]
          rfl
         refine take_ (i := 7) (N := some 38) (v := ?_) (a' := ?_) #[true, true, true, true, true, true, true, true, true, false, true, false, false, false, false, false, false, false, false, false] rfl rfl (take_ofW HT_.out HW_.out (by kernel_rfl)) (fun _ _ _ h => h) (Or.inl ⟨by rfl, ?_⟩) hHeld ?_ ?_
         rotate_left
         ·
          rintro w' ⟨s0, s1, s2, s3, s4, s5, s6, s7, s8, s9⟩
          go_simp
          with_reducible rfl
         rotate_left
         ·
          simp only [Act.put, List.setIfInBounds_toArray, List.set_cons_zero, List.set_cons_succ, i64_w, i32_w]
          rfl
         refine take_ (i := 9) (N := some 40) (v := ?_) (a' := ?_) #[true, true, true, true, true, true, true, true, true, true, true, false, false, false, false, false, false, false, false, false] rfl rfl (take_ofW HT_.out HW_.out (by kernel_rfl)) (fun _ _ _ h => h) (Or.inl ⟨by rfl, ?_⟩) hHeld ?_ ?_
         rotate_left
         ·
          rintro w' ⟨s0, s1, s2, s3, s4, s5, s6, s7, s8, s9⟩
          go_simp
          with_reducible rfl
         rotate_left
         ·
          simp only [Act.put, List.setIfInBounds_toArray, List.set_cons_zero, List.set_cons_succ, i64_w, i32_w]
          rfl
         refine pure_ (i := 11) (N := some 42) (v := ?_) (a' := ?_) #[true, true, true, true, true, true, true, true, true, true, true, true, false, false, false, false, false, false, false, false] rfl rfl (any_of HT_.out (by kernel_rfl)) (fun _ _ _ h => h) (Or.inl ⟨by rfl, ?_⟩) ?_ ?_
         rotate_left
         ·
          intro w'
          go_simp
          with_reducible rfl
         rotate_left
         ·
          simp only [Act.put, List.setIfInBounds_toArray, List.set_cons_zero, List.set_cons_succ, i64_w, i32_w]
          rfl
         refine pure_ (i := 12) (N := some 43) (v := ?_) (a' := ?_) #[true, true, true, true, true, true, true, true, true, true, true, true, true, false, false, false, false, false, false, false] rfl rfl (any_of HT_.out (by kernel_rfl)) (fun _ _ _ h => h) (Or.inl ⟨by rfl, ?_⟩) ?_ ?_
         rotate_left
         ·
          intro w'
          go_simp
          with_reducible rfl
         rotate_left
         ·
          simp only [Act.put, List.setIfInBounds_toArray, List.set_cons_zero, List.set_cons_succ, i64_w, i32_w]
          rfl
         refine take_ (i := 13) (N := some 44) (v := ?_) (a' := ?_) #[true, true, true, true, true, true, true, true, true, true, true, true, true, true, false, false, false, false, false, false] rfl rfl (take_ofW HT_.out HW_.out (by kernel_rfl)) (fun _ _ _ h => h) (Or.inl ⟨by rfl, ?_⟩) hHeld ?_ ?_
         rotate_left
         ·
          rintro w' ⟨s0, s1, s2, s3, s4, s5, s6, s7, s8, s9⟩
          go_simp
          with_reducible rfl
         rotate_left
         ·
          simp only [Act.put, List.setIfInBounds_toArray, List.set_cons_zero, List.set_cons_succ, i64_w, i32_w]
          rfl
         refine one_ (i := 14) (N := some 45) #[true, true, true, true, true, true, true, true, true, true, true, true, true, true, true, false, false, false, false, false] rfl rfl (one_of HT_.out (by kernel_rfl)) (by decide) (fun K hK => ?_)
         refine goes_ Try.func50 (by kernel_rfl) rfl #[.slice A353_2 ((rd_T57 l0_1 x5_2).f2).length c353_2] (by rfl) rfl rfl (by (try simp only [List.map_toArray, List.map_cons, List.map_nil]); first | done | rfl | (simp only [List.length_drop, List.length_take]; rfl)) ?_
         with_reducible refine (fanlightref04_Copied.calls _ _ ((rd_T57 l0_1 x5_2).f2) t355 _ ?side1 ?side2 A23.out).mono ?_
         (case side1 => repeat (first | exact (Kd.C_below HR354_2.out HB.out) | (with_reducible refine Kd.C_alloc ?_ _) | (with_reducible refine Kd.C_drewN ?_ _) | (with_reducible refine Kd.C_drew ?_)))
         (case side2 => exact HC354_2.out)
         rintro e w29 ⟨v356, rfl, ho0, hb⟩
         have HNB := Aside0.mk (fun k_ (hk_ : (v356 : Value).ownBlock = some k_) => Nat.le_trans HN.out (Kd.R_base ho0 k_ hk_))
         replace HN := Aside0.mk (Nat.le_trans HN.out hb.size)
         refine ⟨_, rfl, ?_⟩
         have n0_ := Aside0.mk (Kd.S_elder' (by (with_reducible repeat (first | apply Kd.S_alloc | apply Kd.S_drewN | apply Kd.S_drew)); exact HO_346000.out) (Kd.R_base ho0) hb)
         have n1_ := Aside0.mk (Kd.S_elder' (by (with_reducible repeat (first | apply Kd.S_alloc | apply Kd.S_drewN | apply Kd.S_drew)); exact HO_346001.out) (Kd.R_base ho0) hb)
         have n2_ := Aside0.mk (Kd.R_lower ho0 (below_size (by repeat (first | (with_reducible first | exact HB.out | apply below_alloc | apply pw_below_drewN | apply below_drew1 | refine below_set ?_ GE343.out | refine below_set ?_ GE344.out | refine below_set ?_ GE345.out) | exact HB.out))))
         have n3_ := Aside0.mk (blk_below (g := gb343) (o := .cells #[.slice A0_0 l0_0.length c0_0, .slice (some ad353) l0_1.length c0_1] 55 (0, 0)) (by (with_reducible repeat (first | refine blk_drewN ?_ _ | refine blk_drew ?_ | refine blk_alloc ?_ _)); exact BK343.out) hb)
         have n4_ := Aside0.mk (blk_below (g := gb344) (o := .cells #[.slice none 0 0, .slice none 0 0] 55 (0, 0)) (by (with_reducible repeat (first | refine blk_drewN ?_ _ | refine blk_drew ?_ | refine blk_alloc ?_ _)); exact BK344.out) hb)
         have n5_ := Aside0.mk (blk_below (g := gb345) (o := .cells #[u346000, u346001] 55 (0, 0)) (by (with_reducible repeat (first | refine blk_drewN ?_ _ | refine blk_drew ?_ | refine blk_alloc ?_ _)); exact BK345.out) hb)
         have n6_ := Aside0.mk (below_step (by repeat (first | (with_reducible first | exact HB.out | apply below_alloc | apply pw_below_drewN | apply below_drew1 | refine below_set ?_ GE343.out | refine below_set ?_ GE344.out | refine below_set ?_ GE345.out) | exact HB.out)) hb)
         clear HO_346000
         clear HO_346001
         clear BK343
         clear BK344
         clear BK345
         clear HB
         have HO_346000 := n0_
         have HO_346001 := n1_
         have HO357 := n2_
         have BK343 := n3_
         have BK344 := n4_
         have BK345 := n5_
         have HB := n6_
         clear n0_ n1_ n2_ n3_ n4_ n5_ n6_
         (try clear hb)
         (try clear hb2)
         (try clear hk)
         (try clear hi)
         (try clear ho0)
         obtain ⟨Ao30, co30, eo30⟩ := Kd.R_slice HO357.out
         (first | subst eo30 | (injection eo30 with f1_ f2_ f3_; have f4_ := f1_.symm; have f5_ := f3_.symm; clear f1_ f2_ f3_; subst f4_; subst f5_))
         refine hK.out _ _ ⟨(blk_cell BK345.out 0).trans rfl, (blk_cell BK345.out 1).trans rfl, (blk_cell BK343.out 0).trans rfl, (blk_cell BK343.out 1).trans rfl, ((HB.out.cell (World.block_lt_of_cell? w _ hw353_0)).trans hw353_0), ((HB.out.cell (World.block_lt_of_cell? w _ hw353_1)).trans hw353_1), ((HB.out.cell (World.block_lt_of_cell? w _ hw353_2)).trans hw353_2), ((HB.out.cell (World.block_lt_of_cell? w _ hw354_0)).trans hw354_0), ((HB.out.cell (World.block_lt_of_cell? w _ hw354_1)).trans hw354_1), ((HB.out.cell (World.block_lt_of_cell? w _ hw354_2)).trans hw354_2)⟩ (fun hHeld => ?_)
         clear hK K
         refine norm_ (a' := ?_) ?_ ?_
         rotate_left
         ·
          show Act.put _ (some 45) _ = _
          simp only [Act.put, List.setIfInBounds_toArray, List.set_cons_zero, List.set_cons_succ, i64_w, i32_w]
          rfl
         refine pure_ (i := 15) (N := some 46) (v := ?_) (a' := ?_) #[true, true, true, true, true, true, true, true, true, true, true, true, true, true, true, true, false, false, false, false] rfl rfl (any_of HT_.out (by kernel_rfl)) (fun _ _ _ h => h) (Or.inl ⟨by rfl, ?_⟩) ?_ ?_
         rotate_left
         ·
          intro w'
          go_simp
          with_reducible rfl
         rotate_left
         ·
          simp only [Act.put, List.setIfInBounds_toArray, List.set_cons_zero, List.set_cons_succ, i64_w, i32_w]
          rfl
         refine one_ (i := 16) (N := some 47) #[true, true, true, true, true, true, true, true, true, true, true, true, true, true, true, true, true, false, false, false] rfl rfl (one_of HT_.out (by kernel_rfl)) (by decide) (fun K hK => ?_)
         refine value_ (w1 := ?_) (v := ?_) (by rfl) rfl ?_ ?_
         rotate_left 2
         ·
          go_simp
          constructor
          ·
           rfl
          ·
           rfl
         refine hK.out _ _ ⟨(blk_cell (blk_alloc BK345.out _) 0).trans rfl, (blk_cell (blk_alloc BK345.out _) 1).trans rfl, (blk_cell (blk_alloc BK343.out _) 0).trans rfl, (blk_cell (blk_alloc BK343.out _) 1).trans rfl, (World.cell?_alloc_lt _ _ _ (World.block_lt_of_cell? _ _ (((HB.out.cell (World.block_lt_of_cell? w _ hw353_0)).trans hw353_0)))).trans (((HB.out.cell (World.block_lt_of_cell? w _ hw353_0)).trans hw353_0)), (World.cell?_alloc_lt _ _ _ (World.block_lt_of_cell? _ _ (((HB.out.cell (World.block_lt_of_cell? w _ hw353_1)).trans hw353_1)))).trans (((HB.out.cell (World.block_lt_of_cell? w _ hw353_1)).trans hw353_1)), (World.cell?_alloc_lt _ _ _ (World.block_lt_of_cell? _ _ (((HB.out.cell (World.block_lt_of_cell? w _ hw353_2)).trans hw353_2)))).trans (((HB.out.cell (World.block_lt_of_cell? w _ hw353_2)).trans hw353_2)), (World.cell?_alloc_lt _ _ _ (World.block_lt_of_cell? _ _ (((HB.out.cell (World.block_lt_of_cell? w _ hw354_0)).trans hw354_0)))).trans (((HB.out.cell (World.block_lt_of_cell? w _ hw354_0)).trans hw354_0)), (World.cell?_alloc_lt _ _ _ (World.block_lt_of_cell? _ _ (((HB.out.cell (World.block_lt_of_cell? w _ hw354_1)).trans hw354_1)))).trans (((HB.out.cell (World.block_lt_of_cell? w _ hw354_1)).trans hw354_1)), (World.cell?_alloc_lt _ _ _ (World.block_lt_of_cell? _ _ (((HB.out.cell (World.block_lt_of_cell? w _ hw354_2)).trans hw354_2)))).trans (((HB.out.cell (World.block_lt_of_cell? w _ hw354_2)).trans hw354_2))⟩ (fun hHeld => ?_)
         clear hK K
         refine norm_ (a' := ?_) ?_ ?_
         rotate_left
         ·
          show Act.put _ (some 47) _ = _
          simp only [Act.put, List.setIfInBounds_toArray, List.set_cons_zero, List.set_cons_succ, i64_w, i32_w]
          rfl
         refine one_ (i := 17) (N := some 48) #[true, true, true, true, true, true, true, true, true, true, true, true, true, true, true, true, true, true, false, false] rfl rfl (one_of HT_.out (by kernel_rfl)) (by decide) (fun K hK => ?_)
         refine Kd.S_append_step k57 (w0 := w) w.heap.size (by rfl) (.tmp 32) (.tmp 47) 53 57 (.agg #[(.bool false), (.int .i64 0), (.slice none 0 0)]) 40 rfl Try.underlying53 info57 rfl (by decide) (by omega) u346001 x346001_2 (⟨false, (rd_T57 l0_1 x5_2).f1, t355⟩ : S57) [.bool false, .int .i64 ((rd_T57 l0_1 x5_2).f1), .slice Ao30 t355.length co30] (fun k_ => N1 ≤ k_) (fun k_ => some k_ = (.slice Ao30 t355.length co30 : Value).ownBlock) rfl rfl ?aP (fun k_ hk_ => ⟨HNB.out k_ hk_.symm, (((Kd.R_mono (ok' := fun k_ => ((fun _ => True)) k_ ∧ some k_ ≠ (u346001 : Value).ownBlock) (Kd.R_apart' (HO357.out) (Kd.S_typed HO_346001.out) (by decide)) (fun k_ hk => ⟨trivial, hk.2⟩))).1 k_ hk_.symm).2⟩) ?aF ?aO ?aB ?aS ?aL ?_
         (case aP => exact k57_mkM _ _ _ (⟨false, (rd_T57 l0_1 x5_2).f1, t355⟩ : S57) (Kd.R_mono (Kd.R_tight rfl (Kd.R_mono (ok' := fun k_ => ((fun _ => True)) k_ ∧ some k_ ≠ (u346001 : Value).ownBlock) (Kd.R_apart' (HO357.out) (Kd.S_typed HO_346001.out) (by decide)) (fun k_ hk => ⟨trivial, hk.2⟩))) (fun _ h_ => h_)))
         (case aB => exact (by repeat (first | (with_reducible first | exact HB.out | apply below_alloc | apply pw_below_drewN | apply below_drew1 | refine below_set ?_ GE343.out | refine below_set ?_ GE344.out | refine below_set ?_ GE345.out) | exact HB.out)))
         (case aF => exact (fun k_ hk_ => Nat.le_trans HN.out hk_))
         (case aO => exact (by (with_reducible repeat (first | apply Kd.S_alloc | apply Kd.S_drewN | apply Kd.S_drew)); exact Kd.S_mono HO_346001.out (fun k_ hk => ⟨hk.1, fun e_ => hk.2 e_⟩)))
         (case aS => exact (below_size (by repeat (first | (with_reducible first | exact HB.out | apply below_alloc | apply pw_below_drewN | apply below_drew1 | refine below_set ?_ GE343.out | refine below_set ?_ GE344.out | refine below_set ?_ GE345.out) | exact HB.out))))
         (case aL => have := LMc24.out; omega)
         intro v359 w31 ho hb hg hat
         replace HN := Aside0.mk (Nat.le_trans (Nat.le_trans HN.out (by first | exact Nat.le_refl _ | (simp; done) | (simp; omega))) hg.size)
         rw [← Ny358.out] at ho
         have n0_ := Aside0.mk (Kd.S_over' (by (with_reducible repeat (first | apply Kd.S_alloc | apply Kd.S_drewN | apply Kd.S_drew)); exact HO_346000.out) (Kd.S_typed (by (with_reducible repeat (first | apply Kd.S_alloc | apply Kd.S_drewN | apply Kd.S_drew)); exact HO_346001.out)) (by decide) hg)
         have n1_ := Aside0.mk (blk_grown (g := gb343) (o := .cells #[.slice A0_0 l0_0.length c0_0, .slice (some ad353) l0_1.length c0_1] 55 (0, 0)) (by (with_reducible repeat (first | refine blk_drewN ?_ _ | refine blk_drew ?_ | refine blk_alloc ?_ _)); exact BK343.out) hg (Kd.S_ne HO_346001.out BK343.out (by decide)))
         have n2_ := Aside0.mk (blk_grown (g := gb344) (o := .cells #[.slice none 0 0, .slice none 0 0] 55 (0, 0)) (by (with_reducible repeat (first | refine blk_drewN ?_ _ | refine blk_drew ?_ | refine blk_alloc ?_ _)); exact BK344.out) hg (Kd.S_ne HO_346001.out BK344.out (by decide)))
         have n3_ := Aside0.mk (blk_grown (g := gb345) (o := .cells #[u346000, u346001] 55 (0, 0)) (by (with_reducible repeat (first | refine blk_drewN ?_ _ | refine blk_drew ?_ | refine blk_alloc ?_ _)); exact BK345.out) hg (Kd.S_ne HO_346001.out BK345.out (by decide)))
         have n4_ := Aside0.mk (hb)
         have n5_ := Aside0.mk (ho)
         clear HO_346000
         clear BK343
         clear BK344
         clear BK345
         clear HB
         clear HO_346001
         clear HO357
         have HO_346000 := n0_
         have BK343 := n1_
         have BK344 := n2_
         have BK345 := n3_
         have HB := n4_
         have HO360 := n5_
         clear n0_ n1_ n2_ n3_ n4_ n5_
         clear ho hb hg hat
         obtain ⟨Ao32, co32, eo32⟩ := Kd.S_slice HO360.out
         (first | subst eo32 | (injection eo32 with f1_ f2_ f3_; have f4_ := f1_.symm; have f5_ := f3_.symm; clear f1_ f2_ f3_; subst f4_; subst f5_))
         refine hK.out _ _ ⟨(blk_cell BK345.out 0).trans rfl, (blk_cell BK345.out 1).trans rfl, (blk_cell BK343.out 0).trans rfl, (blk_cell BK343.out 1).trans rfl, ((HB.out.cell (World.block_lt_of_cell? w _ hw353_0)).trans hw353_0), ((HB.out.cell (World.block_lt_of_cell? w _ hw353_1)).trans hw353_1), ((HB.out.cell (World.block_lt_of_cell? w _ hw353_2)).trans hw353_2), ((HB.out.cell (World.block_lt_of_cell? w _ hw354_0)).trans hw354_0), ((HB.out.cell (World.block_lt_of_cell? w _ hw354_1)).trans hw354_1), ((HB.out.cell (World.block_lt_of_cell? w _ hw354_2)).trans hw354_2)⟩ (fun hHeld => ?_)
         clear hK K
         refine norm_ (a' := ?_) ?_ ?_
         rotate_left
         ·
          show Act.put _ (some 48) _ = _
          simp only [Act.put, List.setIfInBounds_toArray, List.set_cons_zero, List.set_cons_succ, i64_w, i32_w]
          rfl
         refine pure_ (i := 18) (N := some 49) (v := ?_) (a' := ?_) #[true, true, true, true, true, true, true, true, true, true, true, true, true, true, true, true, true, true, true, false] rfl rfl (any_of HT_.out (by kernel_rfl)) (fun _ _ _ h => h) (Or.inl ⟨by rfl, ?_⟩) ?_ ?_
         rotate_left
         ·
          intro w'
          go_simp
          with_reducible rfl
         rotate_left
         ·
          simp only [Act.put, List.setIfInBounds_toArray, List.set_cons_zero, List.set_cons_succ, i64_w, i32_w]
          rfl
         refine last_ (i := 19) (N := none) #[true, true, true, true, true, true, true, true, true, true, true, true, true, true, true, true, true, true, true, true] rfl rfl (one_of HT_.out (by kernel_rfl)) (by decide) (fun K hK => ?_)
         have hs33 : w31.cell? ⟨gb345, 1, none⟩ = some (u346001) := (blk_cell BK345.out 1).trans rfl
         have hfs33 := blk_frozen BK345.out 1
         have hns33_0 := NB343_345.out
         have hns33_1 := NB344_345.out
         have hms33_0 := NB345_343.out
         have hms33_1 := NB345_344.out
         refine skip_ (w1 := ?_) (by rfl) rfl ?_ ?_
         rotate_left
         ·
          go_simp
          rfl
         refine hK.out _ _ ?_
         clear hK K
         refine done_ (done_of HT_.out (by kernel_rfl)) ?_
         try go_wp2
         go_roundg k2
         case measure => have := HK1.out; have := HK2.out; omega
         case rel => exact ⟨(wrap64 (x5_2 + 1)), (y358), (.slice Ao32 y358.length co32), (by first | rfl | (simp; done) | (simp [*]; done)), H', ⟨by have := HK1.out; have := HK2.out; omega⟩, ⟨by (with_reducible repeat (first | apply Kd.S_alloc | apply Kd.S_drewN | apply Kd.S_drew)); exact Kd.S_mono (Kd.S_far (p := ⟨gb345, 1, none⟩) (Kd.S_types HO_346000.out BK345.out (by decide)) (fun _ hk => hk.2) (.slice Ao32 y358.length co32)) (fun _ hk => hk.1.1)⟩, ⟨by (with_reducible repeat (first | apply Kd.S_alloc | apply Kd.S_drewN | apply Kd.S_drew)); exact Kd.S_mono (Kd.S_far (p := ⟨gb345, 1, none⟩) (Kd.S_types HO360.out BK345.out (by decide)) (fun _ hk => hk.2) (.slice Ao32 y358.length co32)) (fun _ hk => hk.1)⟩, ⟨by have := HN.out; simpa using this⟩, ⟨by (with_reducible repeat (first | refine blk_drewN ?_ _ | refine blk_drew ?_ | refine blk_alloc ?_ _)); refine blk_far ?_ NB343_345.out _; (with_reducible repeat (first | refine blk_drewN ?_ _ | refine blk_drew ?_ | refine blk_alloc ?_ _)); exact BK343.out⟩, ⟨by (with_reducible repeat (first | refine blk_drewN ?_ _ | refine blk_drew ?_ | refine blk_alloc ?_ _)); refine blk_far ?_ NB344_345.out _; (with_reducible repeat (first | refine blk_drewN ?_ _ | refine blk_drew ?_ | refine blk_alloc ?_ _)); exact BK344.out⟩, ⟨by (with_reducible repeat (first | refine blk_drewN ?_ _ | refine blk_drew ?_ | refine blk_alloc ?_ _)); refine blk_put (cs := #[u346000, u346001]) ?_ 1 _ rfl; (with_reducible repeat (first | refine blk_drewN ?_ _ | refine blk_drew ?_ | refine blk_alloc ?_ _)); exact BK345.out⟩, ⟨by repeat (first | (with_reducible first | exact HB.out | apply below_alloc | apply pw_below_drewN | apply below_drew1 | refine below_set ?_ GE343.out | refine below_set ?_ GE344.out | refine below_set ?_ GE345.out) | exact HB.out)⟩⟩
        ·
         rw [if_neg c24] at H
         exact absurd H (by simp)
       ·
        rw [if_neg c22] at H
        exact absurd H (by simp)
      ·
       rw [if_neg c21] at H
       have c21b0 : decide (x5_2 < (l0_1.length : Int)) = false := decide_eq_false c21
       clear c21
       simp only [Option.some.injEq, Prod.mk.injEq] at H
       obtain ⟨rfl, rfl⟩ := H
       have hnb34 := NB343_344.out
       have hnc34 := NB344_343.out
       have hnb35 := NB343_345.out
       have hnc35 := NB345_343.out
       have hcz36_0 : wr.cell? ⟨gb343, 0, none⟩ = some (.slice A0_0 l0_0.length c0_0) := (blk_cell BK343.out 0).trans rfl
       have hcz36_1 : wr.cell? ⟨gb343, 1, none⟩ = some (.slice A0_1 l0_1.length c0_1) := (blk_cell BK343.out 1).trans rfl
       have hfz36_0 := blk_frozen BK343.out 0
       have hfz36_1 := blk_frozen BK343.out 1
       have hnb37 := NB345_344.out
       have hnc37 := NB344_345.out
       have hcz38_0 : wr.cell? ⟨gb345, 0, none⟩ = some (u346000) := (blk_cell BK345.out 0).trans rfl
       have hcz38_1 : wr.cell? ⟨gb345, 1, none⟩ = some (u346001) := (blk_cell BK345.out 1).trans rfl
       have hfz38_0 := blk_frozen BK345.out 0
       have hfz38_1 := blk_frozen BK345.out 1
       obtain ⟨Ao39, co39, eo39⟩ := Kd.S_slice HO_346000.out
       subst eo39
       have hcz40_0 : wr.cell? ⟨gb344, 0, none⟩ = some (.slice none 0 0) := (blk_cell BK344.out 0).trans rfl
       have hcz40_1 : wr.cell? ⟨gb344, 1, none⟩ = some (.slice none 0 0) := (blk_cell BK344.out 1).trans rfl
       have hfz40_0 := blk_frozen BK344.out 0
       have hfz40_1 := blk_frozen BK344.out 1
       obtain ⟨Ao41, co41, eo41⟩ := Kd.S_slice HO_346001.out
       subst eo41
       go_wp2
       refine bodyPost_ret (results_cell_row rfl _ _ gb344 55 #[.slice Ao39 x346000_1.length co39, .slice Ao41 x346001_2.length co41] (0, 0) _ rfl (by (with_reducible repeat (first | refine blk_drewN ?_ _ | refine blk_drew ?_ | refine blk_alloc ?_ _)); refine blk_put (cs := #[.slice Ao39 x346000_1.length co39, .slice none 0 0]) ?_ 1 _ rfl; (with_reducible repeat (first | refine blk_drewN ?_ _ | refine blk_drew ?_ | refine blk_alloc ?_ _)); refine blk_put (cs := #[.slice none 0 0, .slice none 0 0]) ?_ 0 _ rfl; (with_reducible repeat (first | refine blk_drewN ?_ _ | refine blk_drew ?_ | refine blk_alloc ?_ _)); exact BK344.out) Try.underlying55 rfl (by kernel_rfl)) rfl ?_
       exact ⟨_, _, fun k_ => k_ < N1, by first | rfl | (simp [errW_none, errW_some] <;> rfl) | (simp [*, errW_none, errW_some] <;> rfl), by (with_reducible repeat (first | apply Kd.S_alloc | apply Kd.S_drewN | apply Kd.S_drew)); exact Kd.S_mono (Kd.S_far (p := ⟨gb344, 1, none⟩) (Kd.S_far (p := ⟨gb344, 0, none⟩) (Kd.S_types HO_346000.out BK344.out (by decide)) (fun _ hk => hk.2) (.slice Ao39 x346000_1.length co39)) (fun _ hk => hk.2) (.slice Ao41 x346001_2.length co41)) (fun _ hk => hk.1), by (with_reducible repeat (first | apply Kd.S_alloc | apply Kd.S_drewN | apply Kd.S_drew)); exact Kd.S_mono (Kd.S_far (p := ⟨gb344, 1, none⟩) (Kd.S_far (p := ⟨gb344, 0, none⟩) (Kd.S_types HO_346001.out BK344.out (by decide)) (fun _ hk => hk.2) (.slice Ao39 x346000_1.length co39)) (fun _ hk => hk.2) (.slice Ao41 x346001_2.length co41)) (fun _ hk h_ => by have := hk.1; omega), by repeat (first | (with_reducible first | exact HB.out | apply below_alloc | apply pw_below_drewN | apply below_drew1 | refine below_set ?_ GE343.out | refine below_set ?_ GE344.out | refine below_set ?_ GE345.out) | exact HB.out)⟩
theorem own_l1 (secs x0 : List (List Int)) (cache : List S57) (hc : ∀ y ∈ cache, y.f0 = false ∧ y.f2.length < 140737488355328) (hl : cache.length ≤ 4096) : ∀ (d j : Nat) (acc : List S57), j + d = cache.length → acc.length = j → fanlightref05_Own.l1 (d + 1) (j : Int) secs cache x0 acc = some (x0, acc ++ cache.drop j)
 | 0, j, acc, h, ha => by
  unfold fanlightref05_Own.l1
  rw [if_neg (by omega), List.drop_of_length_le (by omega), List.append_nil]
 | d + 1, j, acc, h, ha => by
  have hj : j < cache.length := by omega
  unfold fanlightref05_Own.l1
  rw [if_pos (by omega), if_pos (by omega)]
  have hrd : rd_T57 cache (j : Int) = cache[j] := by unfold rd_T57; rw [Int.toNat_natCast, List.getD_eq_getElem?_getD, List.getElem?_eq_getElem hj, Option.getD_some]
  obtain ⟨h1, h2⟩ := hc cache[j] (List.getElem_mem hj)
  rw [hrd]
  have hcp : fanlightref04_Copied.f cache[j].f2 = some cache[j].f2 := by unfold fanlightref04_Copied.f; rw [if_pos (by simp; omega), List.nil_append]
  have hw : wrap64 ((j : Int) + 1) = ((j + 1 : Nat) : Int) := by unfold wrap64; omega
  have he : (⟨false, cache[j].f1, cache[j].f2⟩ : S57) = cache[j] := by rw [← h1]
  rw [hcp, Option.bind_some, if_pos (by omega), hw, he, own_l1 secs x0 cache hc hl d (j + 1) (acc ++ [cache[j]]) (by omega) (by simp; omega), List.append_assoc, List.singleton_append, List.getElem_cons_drop hj]
theorem own_l0 (secs : List (List Int)) (cache : List S57) (hc : ∀ y ∈ cache, y.f0 = false ∧ y.f2.length < 140737488355328) (hl : cache.length ≤ 4096) (hs : ∀ s ∈ secs, s.length < 140737488355328) (hsl : secs.length ≤ 4096) : ∀ (d j : Nat) (acc : List (List Int)), j + d = secs.length → acc.length = j → fanlightref05_Own.l0 (cache.length + 2 + d) (j : Int) secs cache acc = some (acc ++ secs.drop j, cache)
 | 0, j, acc, h, ha => by
  unfold fanlightref05_Own.l0
  rw [if_neg (by omega), List.drop_of_length_le (by omega), List.append_nil]
  have := own_l1 secs acc cache hc hl cache.length 0 [] (by omega) rfl
  rw [List.nil_append, List.drop_zero] at this
  exact this
 | d + 1, j, acc, h, ha => by
  have hj : j < secs.length := by omega
  rw [show cache.length + 2 + (d + 1) = (cache.length + 2 + d) + 1 by omega]
  unfold fanlightref05_Own.l0
  rw [if_pos (by omega), if_pos (by omega)]
  have hrd : rd_L1 secs (j : Int) = secs[j] := by unfold rd_L1; rw [Int.toNat_natCast, List.getD_eq_getElem?_getD, List.getElem?_eq_getElem hj, Option.getD_some]
  have h2 := hs secs[j] (List.getElem_mem hj)
  rw [hrd]
  have hcp : fanlightref04_Copied.f secs[j] = some secs[j] := by unfold fanlightref04_Copied.f; rw [if_pos (by simp; omega), List.nil_append]
  have hw : wrap64 ((j : Int) + 1) = ((j + 1 : Nat) : Int) := by unfold wrap64; omega
  rw [hcp, Option.bind_some, if_pos (by omega), hw, own_l0 secs cache hc hl hs hsl d (j + 1) (acc ++ [secs[j]]) (by omega) (by simp; omega), List.append_assoc, List.singleton_append, List.getElem_cons_drop hj]
theorem own_is (secs : List (List Int)) (cache : List S57) (h : okSb secs cache = true) : fanlightref05_Own.f (cache.length + 2 + secs.length) secs cache = some (secs, cache) := by
 have ho := okS_of h
 have hff : ∀ y ∈ cache, y.f0 = false := by
  unfold okSb at h
  simp only [Bool.not_eq_true', Bool.or_eq_false_iff, decide_eq_false_iff_not, List.any_eq_false] at h
  intro y hy
  have := h.2 y hy
  simp at this
  exact this.1
 unfold fanlightref05_Own.f
 have h1 := ho.sl
 have h2 := own_l0 secs cache (fun y hy => ⟨hff y hy, by have := ho.cok y hy; unfold okW at this; omega⟩) ho.cl (fun s hs => by have := ho.s48 s hs; omega) h1 secs.length 0 [] (by omega) rfl
 rw [List.nil_append, List.drop_zero] at h2
 exact h2
set_option maxRecDepth 100000 in
set_option maxHeartbeats 4000000 in
theorem refDo_is (kc : Nat) (fb : Bool) (A0 : Option Addr) (c0 : Nat) (secs : List (List Int)) (A1 : Option Addr) (c1 : Nat) (cache : List S57) (x : S57) (A2 : Option Addr) (c2 : Nat) (w : World)
  (hr0 : Kd.C (Kd.slice 5 (Kd.int .u8)) w A0 secs.length secs) (hc0 : secs.length ≤ c0) (hr1 : Kd.C k57 w A1 cache.length cache) (hc1 : cache.length ≤ c1) (hr2 : Kd.C (Kd.int .u8) w A2 x.f2.length x.f2) (hc2 : x.f2.length ≤ c2)
  (hlx : x.f2.length < 140737488355328) (hck : fanlightref05_Check.f kc secs cache = some (if okSb secs cache = true then 0 else 9)) (hfit : fanlightref05_fits.f secs cache x.f0 x.f1 x.f2 = some fb) (hfe : chkW secs.length x.f1 x.f2.length = if fb = false then 4 else if x.f2.length = 0 ∨ x.f2.length % 48 ≠ 0 then 1 else 0) :
  Calls Try.prog 36 #[.agg #[.slice A0 secs.length c0, .slice A1 cache.length c1], .agg #[.bool x.f0, .int .i64 x.f1, .slice A2 x.f2.length c2]] w fun e w' => ∃ v0 v1 : Value, e = .returned (.tuple #[.agg #[v0, v1], .int .i64 (doR secs cache x).2.2]) ∧ DVal w' w.heap.size v0 v1 (doR secs cache x).1 (doR secs cache x).2.1 ∧ Below w.heap.size w w' := by
 obtain ⟨W1, hW1⟩ : ∃ W, ((w.alloc (.cells #[.slice A0 secs.length c0, .slice A1 cache.length c1] 55)).alloc (.cells #[.bool x.f0, .int .i64 x.f1, .slice A2 x.f2.length c2] 57)).alloc (.cells #[.slice none 0 0, .slice none 0 0] 55) = W := ⟨_, rfl⟩
 have hb1 : Below w.heap.size w W1 := by rw [← hW1]; exact below_alloc (below_alloc (below_alloc (Below.refl _ _) _) _) _
 have hsz : W1.heap.size = w.heap.size + 3 := by rw [← hW1]; simp
 have b0 : W1.heap[w.heap.size]? = some (.cells #[.slice A0 secs.length c0, .slice A1 cache.length c1] 55 (0, 0)) := by rw [← hW1]; exact blk_alloc (blk_alloc (blk_new rfl) _) _
 have b1 : W1.heap[w.heap.size + 1]? = some (.cells #[.bool x.f0, .int .i64 x.f1, .slice A2 x.f2.length c2] 57 (0, 0)) := by rw [← hW1]; exact blk_alloc (blk_new (by simp)) _
 have b2 : W1.heap[w.heap.size + 1 + 1]? = some (.cells #[.slice none 0 0, .slice none 0 0] 55 (0, 0)) := by rw [← hW1]; exact blk_new (by simp)
 have HCK := Aside0.mk (fanlightref05_Check.calls kc A0 c0 secs A1 c1 cache _ W1 (Kd.C_below hr0 hb1) hc0 (Kd.C_below hr1 hb1) hc1 hck)
 have HOWN := Aside0.mk (fun (W : World) (hW : Below w.heap.size w W) (hS : okSb secs cache = true) => fanlightref05_Own.calls2 _ A0 c0 secs A1 c1 cache secs cache W (Kd.C_below hr0 hW) hc0 (Kd.C_below hr1 hW) hc1 (own_is secs cache hS))
 have HFIT := Aside0.mk (fun (W : World) (hW : Below w.heap.size w W) => fanlightref05_fits.calls A0 c0 secs A1 c1 cache x.f0 x.f1 A2 c2 x.f2 fb W (Kd.C_below hr0 hW) hc0 (Kd.C_below hr1 hW) hc1 (Kd.C_below hr2 hW) hc2 hfit)
 have HCP := Aside0.mk (fun (W : World) (hW : Below w.heap.size w W) => fanlightref04_Copied.calls A2 c2 x.f2 x.f2 W (Kd.C_below hr2 hW) hc2 (by unfold fanlightref04_Copied.f; rw [if_pos (by simp; omega), List.nil_append]))
 have HB1 := Aside0.mk hb1
 have HX0 := Aside0.mk b0
 have HX1 := Aside0.mk b1
 have HX2 := Aside0.mk b2
 have HSZ := Aside0.mk hsz
 have hdo : doR secs cache x = doR secs cache x := rfl
 conv at hdo => rhs; unfold doR
 obtain ⟨R, hR⟩ : ∃ R, doR secs cache x = R := ⟨_, rfl⟩
 rw [hR] at hdo ⊢
 have HXX := Aside0.mk (show (⟨x.f0, x.f1, x.f2⟩ : S57) = x from rfl)
 obtain ⟨n0, hn0⟩ : ∃ n, secs.length = n := ⟨_, rfl⟩
 obtain ⟨n1, hn1⟩ : ∃ n, cache.length = n := ⟨_, rfl⟩
 obtain ⟨m, hm⟩ : ∃ m, x.f2.length = m := ⟨_, rfl⟩
 obtain ⟨z0, hz0⟩ : ∃ z, x.f0 = z := ⟨_, rfl⟩
 obtain ⟨z1, hz1⟩ : ∃ z, x.f1 = z := ⟨_, rfl⟩
 rw [hn0, hn1] at HCK HOWN HFIT HX0
 rw [hm, hz0, hz1] at HX1 HFIT
 rw [hm] at HCP
 rw [hn0, hm, hz1] at hfe
 rw [hn0, hn1, hm, hz0, hz1] at hW1 ⊢
 have y0 : W1.cell? ⟨w.heap.size, 0, none⟩ = some (.slice A0 n0 c0) := blk_cell HX0.out 0
 have y1 : W1.cell? ⟨w.heap.size, 1, none⟩ = some (.slice A1 n1 c1) := blk_cell HX0.out 1
 have HN0 := Lib.hid hn0
 have HN1 := Lib.hid hn1
 have HM := Lib.hid hm
 have HZ0 := Lib.hid hz0
 have HZ1 := Lib.hid hz1
 have HFE := Lib.hid hfe
 have HML : Aside0 (m < 140737488355328) := ⟨by omega⟩
 clear hr0 hc0 hr1 hc1 hr2 hc2 hlx hb1 hsz b0 b1 b2 hR hn0 hn1 hm hz0 hz1 hck hfit hfe
 go_enter Try.func36, Try.ntmps36
 cases hok : okSb secs cache with
 | false =>
  rw [hok] at HCK hdo
  rw [if_neg (show ¬ (false = true) by decide)] at HCK hdo
  have HR := Lib.hid hdo
  clear hdo hok HOWN HFIT HCP
  go_wp2_with fail
  refine HCK.out.mono ?_
  rintro e W2 ⟨rfl, hb2⟩
  have hx2 := blk_below HX2.out hb2
  have u0 : W2.cell? ⟨w.heap.size + 1 + 1, 0, none⟩ = some (.slice none 0 0) := blk_cell hx2 0
  have u1 : W2.cell? ⟨w.heap.size + 1 + 1, 1, none⟩ = some (.slice none 0 0) := blk_cell hx2 1
  have uf : ∀ i, W2.frozen? ⟨w.heap.size + 1 + 1, i, none⟩ = false := fun i => blk_frozen hx2 i
  have HXR := Aside0.mk (blk_put (cs' := #[.slice none 0 0, .slice none 0 0]) (blk_put (cs' := #[.slice none 0 0, .slice none 0 0]) hx2 0 (.slice none 0 0) rfl) 1 (.slice none 0 0) rfl)
  have HBF := Aside0.mk (((HB1.out.trans (hb2.mono HB1.out.size)).setCell (p := ⟨w.heap.size + 1 + 1, 0, none⟩) (by dsimp only; omega) (.slice none 0 0)).setCell (p := ⟨w.heap.size + 1 + 1, 1, none⟩) (by dsimp only; omega) (.slice none 0 0))
  clear hb2 hx2 y0 y1
  go_wp2_with fail
  exact bodyPost_ret (results_ct rfl _ _ (w.heap.size + 1 + 1) 55 #[.slice none 0 0, .slice none 0 0] (0, 0) _ rfl HXR.out Try.underlying55 rfl (by kernel_rfl)) rfl ⟨_, _, by rw [HR.out]; rfl, by rw [HR.out]; exact DVal_nil _ _, HBF.out⟩
 | true =>
  rw [hok] at HCK
  rw [if_pos hok] at hdo
  rw [if_pos rfl] at HCK
  have HOK := Aside0.mk (okS_of hok)
  have HOK1 := Aside0.mk hok
  have HR := Lib.hid hdo
  clear hdo hok
  go_wp2_with fail
  refine HCK.out.mono ?_
  rintro e W2 ⟨rfl, hb2⟩
  have HB2 := Aside0.mk (HB1.out.trans (hb2.mono HB1.out.size))
  have HX02 := Aside0.mk (blk_below HX0.out hb2)
  have HX12 := Aside0.mk (blk_below HX1.out hb2)
  have HX22 := Aside0.mk (blk_below HX2.out hb2)
  have HS2 : Aside0 (w.heap.size + 3 ≤ W2.heap.size) := ⟨by have := HSZ.out; have := hb2.size; omega⟩
  clear hb2 y0 y1 HX0 HX1 HX2 HB1 hW1 HCK HSZ
  have y0 : W2.cell? ⟨w.heap.size, 0, none⟩ = some (.slice A0 n0 c0) := blk_cell HX02.out 0
  have y1 : W2.cell? ⟨w.heap.size, 1, none⟩ = some (.slice A1 n1 c1) := blk_cell HX02.out 1
  go_wp2_with fail
  refine (HOWN.out W2 HB2.out HOK1.out).mono ?_
  rintro e W3 ⟨v0, v1, Pa, rfl, hS0a, hS1a, hb3⟩
  obtain ⟨P, hP⟩ : ∃ P : Nat → Prop, P = fun k => Pa k ∧ w.heap.size + 3 ≤ k := ⟨_, rfl⟩
  have hPn : ∀ k, P k → w.heap.size + 3 ≤ k := fun k hk => by rw [hP] at hk; exact hk.2
  have hS0 := Kd.S_lower (Kd.S_mono (Kd.S_bound hS0a) (ok' := P) (fun k hk => by rw [hP]; exact ⟨hk.1, by have := hk.2.1; have := HS2.out; omega⟩)) (show w.heap.size ≤ W2.heap.size by have := HS2.out; omega)
  have hS1 := Kd.S_lower (Kd.S_mono (Kd.S_bound hS1a) (ok' := fun k => ¬ P k ∧ w.heap.size + 3 ≤ k) (fun k hk => ⟨fun h => by rw [hP] at h; exact hk.1 h.1, by have := hk.2.1; have := HS2.out; omega⟩)) (show w.heap.size ≤ W2.heap.size by have := HS2.out; omega)
  have HPN := Aside0.mk hPn
  clear hP hS0a hS1a hPn
  obtain ⟨Av0, cv0, rfl⟩ := Kd.S_slice hS0
  obtain ⟨Av1, cv1, rfl⟩ := Kd.S_slice hS1
  rw [HN0.out] at hS0
  rw [HN1.out] at hS1
  have hs3 : w.heap.size + 3 ≤ W3.heap.size := by have := hb3.size; have := HS2.out; omega
  have hB3 := HB2.out.trans (hb3.mono HB2.out.size)
  have hx03 := blk_below HX02.out hb3
  have hx13 := blk_below HX12.out hb3
  have hx23 := blk_below HX22.out hb3
  rw [HN0.out, HN1.out]
  obtain ⟨W4, hW4⟩ : ∃ W, W3.alloc (.cells #[.slice Av0 n0 cv0, .slice Av1 n1 cv1] 55) = W := ⟨_, rfl⟩
  obtain ⟨N3, hN3⟩ : ∃ N, W3.heap.size = N := ⟨_, rfl⟩
  have hal := below_alloc (Below.refl W3.heap.size W3) (.cells #[.slice Av0 n0 cv0, .slice Av1 n1 cv1] 55)
  have h64 : W4.heap[N3]? = some (.cells #[.slice Av0 n0 cv0, .slice Av1 n1 cv1] 55 (0, 0)) := by
   rw [← hW4, ← hN3]
   exact blk_new rfl
  have hb34 : Below N3 W3 W4 := by
   rw [← hW4, ← hN3]
   exact hal
  have hs4 : W4.heap.size = N3 + 1 := by rw [← hW4]; simp; exact hN3
  rw [← hN3] at hb34
  have S4 := Aside0.mk (Kd.S_below (Kd.S_mono (Kd.S_bound hS0) (ok' := fun k => P k ∧ k < N3) (fun k hk => ⟨hk.1, by rw [← hN3]; exact hk.2.2.1⟩)) hb34)
  have T4 := Aside0.mk (Kd.S_below (Kd.S_mono (Kd.S_bound hS1) (ok' := fun k => (¬ P k ∧ w.heap.size + 3 ≤ k) ∧ k < N3) (fun k hk => ⟨hk.1, by rw [← hN3]; exact hk.2.2.1⟩)) hb34)
  have x04 := blk_below hx03 hb34
  have x14 := blk_below hx13 hb34
  have x24 := blk_below hx23 hb34
  have X04 := Aside0.mk x04
  have X14 := Aside0.mk x14
  have X24 := Aside0.mk x24
  have X64 := Aside0.mk h64
  have B4 := Aside0.mk (hB3.trans (hb34.mono (by omega)))
  have Z4 := Aside0.mk hs4
  have Z3 : Aside0 (w.heap.size + 3 ≤ N3) := ⟨by omega⟩
  have t0 : W4.cell? ⟨w.heap.size + 1, 0, none⟩ = some (.bool z0) := blk_cell x14 0
  have t1 : W4.cell? ⟨w.heap.size + 1, 1, none⟩ = some (.int .i64 z1) := blk_cell x14 1
  have t2 : W4.cell? ⟨w.heap.size + 1, 2, none⟩ = some (.slice A2 m c2) := blk_cell x14 2
  have t3 : W4.cell? ⟨w.heap.size + 1 + 1, 0, none⟩ = some (.slice none 0 0) := blk_cell x24 0
  have t4 : W4.cell? ⟨w.heap.size + 1 + 1, 1, none⟩ = some (.slice none 0 0) := blk_cell x24 1
  have tf : ∀ i, W4.frozen? ⟨w.heap.size + 1 + 1, i, none⟩ = false := fun i => blk_frozen x24 i
  have t5 : W4.cell? ⟨N3, 0, none⟩ = some (.slice Av0 n0 cv0) := blk_cell h64 0
  have t6 : W4.cell? ⟨N3, 1, none⟩ = some (.slice Av1 n1 cv1) := blk_cell h64 1
  have HXR := Aside0.mk (blk_put (cs' := #[.slice none 0 0, .slice none 0 0]) (blk_put (cs' := #[.slice none 0 0, .slice none 0 0]) x24 0 (.slice none 0 0) rfl) 1 (.slice none 0 0) rfl)
  have HBF := Aside0.mk ((B4.out.setCell (p := ⟨w.heap.size + 1 + 1, 0, none⟩) (by dsimp only; omega) (.slice none 0 0)).setCell (p := ⟨w.heap.size + 1 + 1, 1, none⟩) (by dsimp only; omega) (.slice none 0 0))
  clear hal h64 hb34 hs4 hS0 hS1 hb3 hx03 hx13 hx23 hB3 HX02 HX12 HX22 HB2 HS2 HOWN y0 y1 hs3 x04 x14 x24
  have s0 : W4.cell? ⟨w.heap.size, 0, none⟩ = some (.slice A0 n0 c0) := blk_cell X04.out 0
  have s1 : W4.cell? ⟨w.heap.size, 1, none⟩ = some (.slice A1 n1 c1) := blk_cell X04.out 1
  cases z0 with
  | true =>
   clear HFE HFIT HCP s0 s1 X04
   by_cases hz : z1 = 0
   ·
    subst hz
    by_cases hm0 : m = 0
    ·
     subst hm0
     have hR1 : R = (settleL (fun _ => 4096) 0 cache secs, [], 0) := by
      rw [HR.out]
      unfold doF
      rw [if_pos HZ0.out, HZ1.out, HM.out, if_neg (by omega : ¬ ((0 : Int) ≠ 0 ∨ 0 < 0))]
      rfl
     have HR1 := Aside0.mk hR1
     obtain ⟨P0, hP0⟩ : ∃ P0 : Nat → Prop, P0 = fun k => (P k ∧ k < N3) ∨ N3 + 1 ≤ k := ⟨_, rfl⟩
     have hPa : ∀ k, P0 k → (P k ∧ k < N3) ∨ N3 + 1 ≤ k := fun k h => by rw [hP0] at h; exact h
     have hPb : ∀ k, (P k ∧ k < N3) ∨ N3 + 1 ≤ k → P0 k := fun k h => by rw [hP0]; exact h
     have HPA := Aside0.mk hPa
     have HPB := Aside0.mk hPb
     have HS4 := Aside0.mk (Kd.S_mono S4.out (ok' := P0) (fun k hk => hPb k (.inl hk)))
     have HF4 := Aside0.mk (Kd.R_F (Kd.S_R (Kd.S_mono T4.out (ok' := fun k => ¬ P0 k) (fun k hk h => (hPa k h).elim (fun h => hk.1.1 h.1) (fun h => by have := hk.2; omega)))))
     obtain ⟨g0, cap0, e, hg0b, hg0l, -⟩ := Kd.S_form HS4.out HOK.out.s0
     obtain ⟨rfl, -, rfl⟩ : Av0 = some ⟨g0, 0, none⟩ ∧ n0 = secs.length ∧ cv0 = cap0 := by simpa using e
     have HBL4 := Aside0.mk (Below.refl w.heap.size W4)
     clear HR hR1 hP0 hPa hPb S4 T4 e hg0b hg0l t3 t4 tf HXR HBF
     go_wp2_with fail
     go_loopw [7] (fun i wr => ∃ j : Nat, j ≤ n1 ∧ i = .int .i64 j ∧ Aside0 (Kd.S (Kd.slice 5 (Kd.int .u8)) 22 wr w.heap.size P0 (.slice (some ⟨g0, 0, none⟩) n0 cv0) (settleL (fun _ => 4096) 0 (cache.take j) secs)) ∧ Aside0 (Kept W4 wr (fun k => P k ∧ k < N3)) ∧ Aside0 (Below w.heap.size W4 wr)) (fun i _ => n1 - (intOf i).toNat)
     case atStart => exact ⟨0, by omega, rfl, HS4, ⟨Kept.refl _ _⟩, HBL4⟩
     case round =>
      clear t0 t1 t2 t5 t6 HS4 HBL4
      obtain ⟨j, hj, rfl, HSj, HKj, HBj⟩ := hrel
      have HGj := Aside0.mk ((HKj.out.2 N3 (blk_lt X64.out) (fun h => by have := h.2; omega)).trans X64.out)
      by_cases hlt : j < n1
      ·
       have hjl : j < cache.length := by have := HN1.out; omega
       have hn1b : n1 ≤ 4096 := by have := HN1.out; have := HOK.out.cl; omega
       have hFj := Kd.F_kept HF4.out HKj.out (fun k hk h => hk (HPB.out k (.inl h)))
       obtain ⟨ad1, q, rfl, hql, hFK, hqc, -⟩ := Kd.F_get hFj cache[j] (j : Int) (by omega) (by omega)
       rw [Int.toNat_natCast, List.getD_eq_getElem?_getD, List.getElem?_eq_getElem hjl, Option.getD_some] at hFK
       simp only [Int.toNat_natCast] at hqc
       obtain ⟨A3, c3, rfl, hl2, hF2⟩ := k57_openF hFK
       have e0 : wr.cell? (ad1.add (j * 3)) = some (.bool cache[j].f0) := hqc 0 _ rfl
       have e1 : wr.cell? ⟨(ad1.add (j * 3)).block, (ad1.add (j * 3)).off + 1, none⟩ = some (.int .i64 cache[j].f1) := by rw [← add_field _ _ 1 (by omega)]; exact hqc 1 _ rfl
       have e2 : wr.cell? ⟨(ad1.add (j * 3)).block, (ad1.add (j * 3)).off + 2, none⟩ = some (.slice A3 cache[j].f2.length c3) := by rw [← add_field _ _ 2 (by omega)]; exact hqc 2 _ rfl
       obtain ⟨ok1, ok2, ok3, ok4⟩ := HOK.out.cok _ (List.getElem_mem hjl)
       obtain ⟨ad2, hA2, _⟩ := (Kd.F_now hF2).2.2 ok2
       subst hA2
       have htk : cache.take (j + 1) = cache.take j ++ [cache[j]] := List.take_succ_eq_append_getElem hjl
       have hset := settleL_snoc (fun _ => 4096) cache[j] (cache.take j) 0 secs
       rw [← htk] at hset
       have hTl := settleL_len (fun _ => 4096) (cache.take j) 0 secs
       obtain ⟨X, hX⟩ : ∃ X, cache[j] = X := ⟨_, rfl⟩
       rw [hX] at e0 e1 e2 ok1 ok2 ok3 ok4 hset hF2 hl2
       obtain ⟨T, hT⟩ : ∃ T, settleL (fun _ => 4096) 0 (cache.take j) secs = T := ⟨_, rfl⟩
       rw [hT] at HSj hset hTl
       obtain ⟨sec, hsec⟩ := Int.eq_ofNat_of_zero_le ok1
       obtain ⟨z0, hz0⟩ : ∃ z, X.f0 = z := ⟨_, rfl⟩
       rw [hz0] at e0
       rw [hsec] at e1 ok4
       obtain ⟨cnt, hcnt⟩ : ∃ c, X.f2.length / 48 = c := ⟨_, rfl⟩
       have hlc : X.f2.length = 48 * cnt := by omega
       rw [hcnt] at ok4
       have hsl := HOK.out.sl
       have hland := fun (W : World) (hb : Below wr.heap.size wr W) => refland_is g0 n0 cv0 (some ad1) n1 cv1 T z0 sec ad2 c3 X.f2 cnt 4096 P0 w.heap.size W (by have := hb.size; have := HKj.out.1; have := Z4.out; have := Z3.out; omega) (Kd.S_below HSj.out hb) (Kd.F_below hF2 hb) hlc (by omega) (by omega) (by rw [hTl]; omega) (by rw [hTl]; exact hsl) hl2 (by omega) (by omega)
       have hsT : settleL (fun _ => 4096) 0 (cache.take (j + 1)) secs = landL T sec (((List.range cnt).take (4096 : Int).toNat).map (chunkD X.f2)) := by
        rw [hset]
        unfold landW
        rw [hsec, hcnt, Int.toNat_natCast]
       rw [← hsT] at hland
       obtain ⟨mx, hmx⟩ : ∃ m, X.f2.length = m := ⟨_, rfl⟩
       rw [hmx] at e2 hland
       have HLAND := Aside0.mk hland
       have HJN := Aside0.mk hj
       clear hsT hland hmx hlc hcnt hz0 hsec hT hX hset hTl htk ok1 ok2 ok3 ok4 hFK hqc hql hF2 hl2 hFj hsl
       have q0 : wr.cell? ⟨N3, 0, none⟩ = some (.slice (some ⟨g0, 0, none⟩) n0 cv0) := blk_cell HGj.out 0
       have q1 : wr.cell? ⟨N3, 1, none⟩ = some (.slice (some ad1) n1 cv1) := blk_cell HGj.out 1
       go_wp2_with fail
       have r0 : wr.drew.cell? ⟨N3, 0, none⟩ = some (.slice (some ⟨g0, 0, none⟩) n0 cv0) := q0
       have r1 : wr.drew.cell? ⟨N3, 1, none⟩ = some (.slice (some ad1) n1 cv1) := q1
       have r2 : wr.drew.cell? (ad1.add (j * 3)) = some (.bool z0) := e0
       have r3 : wr.drew.cell? ⟨(ad1.add (j * 3)).block, (ad1.add (j * 3)).off + 1, none⟩ = some (.int .i64 (sec : Int)) := e1
       have r4 : wr.drew.cell? ⟨(ad1.add (j * 3)).block, (ad1.add (j * 3)).off + 2, none⟩ = some (.slice (some ad2) mx c3) := e2
       have HBD := Aside0.mk (below_drew (Below.refl wr.heap.size wr))
       clear q0 q1 e0 e1 e2
       refine wp_region_still_tail 6 (by kernel_rfl) (by kernel_rfl) ?_
       simp only [List.take_succ_cons, List.take_zero, List.drop_succ_cons, List.drop_zero]
       change wpStill _ _ wr.drew (fun a' => wpList _ _ _ _ a' wr.drew) _ _
       generalize wr.drew = W5 at r0 r1 r2 r3 r4 HBD ⊢
       repeat still_step
       refine wpStill_nil ?_
       go_wp2_with fail
       refine (HLAND.out W5 HBD.out).mono ?_
       rintro e W6 ⟨⟨v, rfl⟩, hS6, hK6, hB6⟩
       have hz5 : N3 + 1 ≤ W5.heap.size := by have := HBD.out.size; have := HKj.out.1; have := Z4.out; omega
       have HS6 := Aside0.mk (Kd.S_mono hS6 (ok' := P0) (fun k hk => hk.elim id (fun h => HPB.out k (.inr (by omega)))))
       have HK6 := Aside0.mk ((kept_trans1 HKj.out HBD.out).then_ hK6 (fun k hk => (HPA.out k hk).elim .inl (fun h => .inr (by have := Z4.out; omega))))
       have HB6 := Aside0.mk ((HBj.out.trans (HBD.out.mono (by have := HKj.out.1; have := Z4.out; have := Z3.out; omega))).trans hB6)
       clear hS6 hK6 hB6 r0 r1 r2 r3 r4 hz5
       go_wp2_with fail
       exact ⟨⟨j + 1, by omega, by go_num, HS6, HK6, HB6⟩, by simp [intOf]; omega⟩
      ·
       obtain rfl : j = n1 := by omega
       have hSe := HSj.out
       rw [List.take_of_length_le (by rw [HN1.out]; exact Nat.le_refl _)] at hSe
       have q0 : wr.cell? ⟨N3, 0, none⟩ = some (.slice (some ⟨g0, 0, none⟩) n0 cv0) := blk_cell HGj.out 0
       have q1 : wr.cell? ⟨N3, 1, none⟩ = some (.slice Av1 j cv1) := blk_cell HGj.out 1
       have x2 := (HKj.out.2 (w.heap.size + 1 + 1) (blk_lt X24.out) (fun h => by have := HPN.out _ h.1; omega)).trans X24.out
       have t3 : wr.cell? ⟨w.heap.size + 1 + 1, 0, none⟩ = some (.slice none 0 0) := blk_cell x2 0
       have t4 : wr.cell? ⟨w.heap.size + 1 + 1, 1, none⟩ = some (.slice none 0 0) := blk_cell x2 1
       have tf : ∀ i, wr.frozen? ⟨w.heap.size + 1 + 1, i, none⟩ = false := fun i => blk_frozen x2 i
       have qf : ∀ i, wr.frozen? ⟨N3, i, none⟩ = false := fun i => blk_frozen HGj.out i
       have hne : N3 ≠ w.heap.size + 1 + 1 := by have := Z3.out; omega
       have hne2 : w.heap.size + 1 + 1 ≠ N3 := by have := Z3.out; omega
       have k1 := blk_far x2 (p := ⟨N3, 1, none⟩) hne2 (.slice none 0 0)
       have k2 := blk_put (cs' := #[.slice (some ⟨g0, 0, none⟩) n0 cv0, .slice none 0 0]) k1 0 (.slice (some ⟨g0, 0, none⟩) n0 cv0) rfl
       have K3 := Aside0.mk (blk_put (cs' := #[.slice (some ⟨g0, 0, none⟩) n0 cv0, .slice none 0 0]) k2 1 (.slice none 0 0) rfl)
       have SE := Aside0.mk (Kd.S_set (Kd.S_set (Kd.S_set hSe HGj.out (by decide) 1 (.slice none 0 0)) k1 (by decide) 0 (.slice (some ⟨g0, 0, none⟩) n0 cv0)) k2 (by decide) 1 (.slice none 0 0))
       have BE := Aside0.mk ((((B4.out.trans HBj.out).setCell (p := ⟨N3, 1, none⟩) (by have := Z3.out; dsimp only; omega) (.slice none 0 0)).setCell (p := ⟨w.heap.size + 1 + 1, 0, none⟩) (by dsimp only; omega) (.slice (some ⟨g0, 0, none⟩) n0 cv0)).setCell (p := ⟨w.heap.size + 1 + 1, 1, none⟩) (by dsimp only; omega) (.slice none 0 0))
       clear hSe x2 k1 k2 hW4
       go_wp2_with fail
       exact bodyPost_ret (results_ct rfl _ _ (w.heap.size + 1 + 1) 55 #[.slice (some ⟨g0, 0, none⟩) n0 cv0, .slice none 0 0] (0, 0) _ rfl K3.out Try.underlying55 rfl (by kernel_rfl)) rfl ⟨_, _, by rw [HR1.out]; rfl, by rw [HR1.out]; exact ⟨P0, SE.out, Kd.S_nil _ _ _ _ _⟩, BE.out⟩
    ·
     have hd : ((m : Int) != 0) = true := bne_iff_ne.mpr (by omega)
     have hR1 : R = ([], [], 1) := by
      rw [HR.out]
      unfold doF
      rw [if_pos HZ0.out, if_pos (Or.inr (by rw [HM.out]; omega))]
      rfl
     have HR1 := Aside0.mk hR1
     clear HR hR1
     go_wp2_with fail
     exact bodyPost_ret (results_ct rfl _ _ (w.heap.size + 1 + 1) 55 #[.slice none 0 0, .slice none 0 0] (0, 0) _ rfl HXR.out Try.underlying55 rfl (by kernel_rfl)) rfl ⟨_, _, by rw [HR1.out]; rfl, by rw [HR1.out]; exact DVal_nil _ _, HBF.out⟩
   ·
    have hd : (z1 != 0) = true := bne_iff_ne.mpr hz
    have hR1 : R = ([], [], 1) := by
     rw [HR.out]
     unfold doF
     rw [if_pos HZ0.out, if_pos (Or.inl (by rw [HZ1.out]; exact hz))]
     rfl
    have HR1 := Aside0.mk hR1
    clear HR hR1
    go_wp2_with fail
    exact bodyPost_ret (results_ct rfl _ _ (w.heap.size + 1 + 1) 55 #[.slice none 0 0, .slice none 0 0] (0, 0) _ rfl HXR.out Try.underlying55 rfl (by kernel_rfl)) rfl ⟨_, _, by rw [HR1.out]; rfl, by rw [HR1.out]; exact DVal_nil _ _, HBF.out⟩
  | false =>
   have hRF : R = if chkW n0 z1 m ≠ 0 then ([], [], chkW n0 z1 m) else if n1 = 4096 then ([], [], 51) else (secs, cache ++ [x], 0) := by
    rw [HR.out]
    unfold doF
    rw [if_neg (show ¬ x.f0 = true by rw [HZ0.out]; decide), HN0.out, HZ1.out, HM.out, HN1.out]
    by_cases h1 : chkW n0 z1 m ≠ 0
    ·
     rw [if_pos h1, if_pos h1]; dsimp only; rw [if_neg h1]
    ·
     rw [if_neg h1, if_neg h1]
     by_cases h2 : n1 = 4096
     ·
      rw [if_pos h2, if_pos h2]; rfl
     ·
      rw [if_neg h2, if_neg h2]; rfl
   have HRF := Aside0.mk hRF
   clear HR hRF HXR HBF
   go_wp2_with fail
   refine (HFIT.out W4 B4.out).mono ?_
   rintro e W5 ⟨rfl, hb5⟩
   have S5 := Aside0.mk (Kd.S_below S4.out hb5)
   have T5 := Aside0.mk (Kd.S_below T4.out hb5)
   have x15 := blk_below X14.out hb5
   have x25 := blk_below X24.out hb5
   have x05 := blk_below X04.out hb5
   have x65 := blk_below X64.out hb5
   have X15 := Aside0.mk x15
   have X25 := Aside0.mk x25
   have X65 := Aside0.mk x65
   have B5 := Aside0.mk (below_step B4.out hb5)
   have Z5 : Aside0 (N3 + 1 ≤ W5.heap.size) := ⟨by have := hb5.size; have := Z4.out; omega⟩
   have HXR := Aside0.mk (blk_put (cs' := #[.slice none 0 0, .slice none 0 0]) (blk_put (cs' := #[.slice none 0 0, .slice none 0 0]) x25 0 (.slice none 0 0) rfl) 1 (.slice none 0 0) rfl)
   have HBF := Aside0.mk ((B5.out.setCell (p := ⟨w.heap.size + 1 + 1, 0, none⟩) (by dsimp only; omega) (.slice none 0 0)).setCell (p := ⟨w.heap.size + 1 + 1, 1, none⟩) (by dsimp only; omega) (.slice none 0 0))
   clear t0 t1 t2 t3 t4 t5 t6 tf s0 s1 S4 T4 X04 X14 X24 X64 B4 Z4 HFIT hb5 hW4 hN3
   have t1 : W5.cell? ⟨w.heap.size + 1, 1, none⟩ = some (.int .i64 z1) := blk_cell x15 1
   have t2 : W5.cell? ⟨w.heap.size + 1, 2, none⟩ = some (.slice A2 m c2) := blk_cell x15 2
   have t3 : W5.cell? ⟨w.heap.size + 1 + 1, 0, none⟩ = some (.slice none 0 0) := blk_cell x25 0
   have t4 : W5.cell? ⟨w.heap.size + 1 + 1, 1, none⟩ = some (.slice none 0 0) := blk_cell x25 1
   have tf : ∀ i, W5.frozen? ⟨w.heap.size + 1 + 1, i, none⟩ = false := fun i => blk_frozen x25 i
   have s1 : W5.cell? ⟨w.heap.size, 1, none⟩ = some (.slice A1 n1 c1) := blk_cell x05 1
   clear x15 x25 x05 x65
   cases fb with
   | false =>
    have hR1 : R = ([], [], 4) := by
     rw [HRF.out, HFE.out, if_pos rfl]
     rfl
    have HR1 := Aside0.mk hR1
    clear hR1
    go_wp2_with fail
    exact bodyPost_ret (results_ct rfl _ _ (w.heap.size + 1 + 1) 55 #[.slice none 0 0, .slice none 0 0] (0, 0) _ rfl HXR.out Try.underlying55 rfl (by kernel_rfl)) rfl ⟨_, _, by rw [HR1.out]; rfl, by rw [HR1.out]; exact DVal_nil _ _, HBF.out⟩
   | true =>
    have hfe := HFE.out
    rw [if_neg (show ¬ (true = false) by decide)] at hfe
    have hmb : m < 140737488355328 := HML.out
    by_cases hm0 : m = 0
    ·
     have hR1 : R = ([], [], 1) := by
      rw [HRF.out, hfe, if_pos (Or.inl hm0)]
      rfl
     have HR1 := Aside0.mk hR1
     subst hm0
     clear hR1 hfe
     go_wp2_with fail
     exact bodyPost_ret (results_ct rfl _ _ (w.heap.size + 1 + 1) 55 #[.slice none 0 0, .slice none 0 0] (0, 0) _ rfl HXR.out Try.underlying55 rfl (by kernel_rfl)) rfl ⟨_, _, by rw [HR1.out]; rfl, by rw [HR1.out]; exact DVal_nil _ _, HBF.out⟩
    have hmn : ((m : Int) == 0) = false := beq_eq_false_iff_ne.mpr (by omega)
    by_cases hm1 : m % 48 = 0
    ·
     have hmod : ((m : Int).tmod 48 != 0) = false := by
      have : (m : Int).tmod 48 = 0 := by rw [Int.tmod_eq_emod_of_nonneg (by omega)]; omega
      rw [this]; rfl
     rw [if_neg (by omega)] at hfe
     by_cases hn : n1 = 4096
     ·
      have hR1 : R = ([], [], 51) := by
       rw [HRF.out, hfe, if_neg (by omega), if_pos hn]
      have HR1 := Aside0.mk hR1
      subst hn
      clear hR1 hfe
      go_wp2_with fail
      exact bodyPost_ret (results_ct rfl _ _ (w.heap.size + 1 + 1) 55 #[.slice none 0 0, .slice none 0 0] (0, 0) _ rfl HXR.out Try.underlying55 rfl (by kernel_rfl)) rfl ⟨_, _, by rw [HR1.out]; rfl, by rw [HR1.out]; exact DVal_nil _ _, HBF.out⟩
     have hn4 : n1 < 4096 := by have := HOK.out.cl; have := HN1.out; omega
     have hn5 : decide ((n1 : Int) ≥ 4096) = false := decide_eq_false (by omega)
     have hR1 : R = (secs, cache ++ [x], 0) := by
      rw [HRF.out, hfe, if_neg (by omega), if_neg hn]
     have HR1 := Aside0.mk hR1
     clear hR1 hfe HXR HBF
     go_wp2_with fail
     have S6 := Aside0.mk (Kd.S_drew S5.out)
     have T6 := Aside0.mk (Kd.S_drew T5.out)
     have X16 := Aside0.mk (blk_drew X15.out)
     have X26 := Aside0.mk (blk_drew X25.out)
     have X66 := Aside0.mk (blk_drew X65.out)
     have B6 := Aside0.mk (below_drew1 B5.out)
     have Z6 : Aside0 (N3 + 1 ≤ W5.drew.heap.size) := ⟨Z5.out⟩
     clear S5 T5 X15 X25 X65 B5 Z5 t1 t2 t3 t4 tf s1
     refine start_ (n := 12) (S := fun w' => w'.cell? ⟨N3, 0, none⟩ = some (.slice Av0 n0 cv0) ∧ w'.cell? ⟨N3, 1, none⟩ = some (.slice Av1 n1 cv1) ∧ w'.cell? ⟨w.heap.size + 1, 0, none⟩ = some (.bool false) ∧ w'.cell? ⟨w.heap.size + 1, 1, none⟩ = some (.int .i64 z1) ∧ w'.cell? ⟨w.heap.size + 1, 2, none⟩ = some (.slice A2 m c2)) (ds := [11]) #[false, false, false, false, false, false, false, false, false, false, false, false] (by kernel_rfl) rfl rfl ⟨(blk_cell X66.out 0).trans rfl, (blk_cell X66.out 1).trans rfl, (blk_cell X16.out 0).trans rfl, (blk_cell X16.out 1).trans rfl, (blk_cell X16.out 2).trans rfl⟩ (fun hHeld => ?_)
     generalize W5.drew = W6 at S6 T6 X16 X26 X66 B6 Z6 hHeld ⊢
     refine pure_ (i := 0) (N := some 67) (v := ?_) (a' := ?_) #[true, false, false, false, false, false, false, false, false, false, false, false] rfl rfl (by kernel_rfl) (fun _ _ _ h => h) (Or.inl ⟨by rfl, ?_⟩) ?_ ?_
     rotate_left
     ·
      intro w'
      go_simp
      with_reducible rfl
     rotate_left
     ·
      simp only [Act.put, List.setIfInBounds_toArray, List.set_cons_zero, List.set_cons_succ, i64_w, i32_w]
      rfl
     refine pure_ (i := 2) (N := some 69) (v := ?_) (a' := ?_) #[true, false, true, false, false, false, false, false, false, false, false, false] rfl rfl (by kernel_rfl) (fun _ _ _ h => h) (Or.inl ⟨by rfl, ?_⟩) ?_ ?_
     rotate_left
     ·
      intro w'
      go_simp
      with_reducible rfl
     rotate_left
     ·
      simp only [Act.put, List.setIfInBounds_toArray, List.set_cons_zero, List.set_cons_succ, i64_w, i32_w]
      rfl
     refine pure_ (i := 4) (N := some 71) (v := ?_) (a' := ?_) #[true, false, true, false, true, false, false, false, false, false, false, false] rfl rfl (by kernel_rfl) (fun _ _ _ h => h) (Or.inl ⟨by rfl, ?_⟩) ?_ ?_
     rotate_left
     ·
      intro w'
      go_simp
      with_reducible rfl
     rotate_left
     ·
      simp only [Act.put, List.setIfInBounds_toArray, List.set_cons_zero, List.set_cons_succ, i64_w, i32_w]
      rfl
     refine take_ (i := 1) (N := some 68) (v := ?_) (a' := ?_) #[true, true, true, false, true, false, false, false, false, false, false, false] rfl rfl (by kernel_rfl) (fun _ _ _ h => h) (Or.inl ⟨by rfl, ?_⟩) hHeld ?_ ?_
     rotate_left
     ·
      rintro w' ⟨s0, s1, s2, s3, s4⟩
      go_simp
      with_reducible rfl
     rotate_left
     ·
      simp only [Act.put, List.setIfInBounds_toArray, List.set_cons_zero, List.set_cons_succ, i64_w, i32_w]
      rfl
     refine take_ (i := 3) (N := some 70) (v := ?_) (a' := ?_) #[true, true, true, true, true, false, false, false, false, false, false, false] rfl rfl (by kernel_rfl) (fun _ _ _ h => h) (Or.inl ⟨by rfl, ?_⟩) hHeld ?_ ?_
     rotate_left
     ·
      rintro w' ⟨s0, s1, s2, s3, s4⟩
      go_simp
      with_reducible rfl
     rotate_left
     ·
      simp only [Act.put, List.setIfInBounds_toArray, List.set_cons_zero, List.set_cons_succ, i64_w, i32_w]
      rfl
     refine take_ (i := 5) (N := some 72) (v := ?_) (a' := ?_) #[true, true, true, true, true, true, false, false, false, false, false, false] rfl rfl (by kernel_rfl) (fun _ _ _ h => h) (Or.inl ⟨by rfl, ?_⟩) hHeld ?_ ?_
     rotate_left
     ·
      rintro w' ⟨s0, s1, s2, s3, s4⟩
      go_simp
      with_reducible rfl
     rotate_left
     ·
      simp only [Act.put, List.setIfInBounds_toArray, List.set_cons_zero, List.set_cons_succ, i64_w, i32_w]
      rfl
     refine one_ (i := 6) (N := some 73) #[true, true, true, true, true, true, true, false, false, false, false, false] rfl rfl (by kernel_rfl) (by decide) (fun K hK => ?_)
     refine goes_ Try.func50 (by kernel_rfl) rfl #[.slice A2 m c2] (by rfl) rfl rfl (by (try simp only [List.map_toArray, List.map_cons, List.map_nil]); first | done | rfl | (simp only [List.length_drop, List.length_take]; rfl)) ?_
     refine (HCP.out _ B6.out).mono ?_
     rintro e W7 ⟨v7, rfl, ho7, hb7⟩
     refine ⟨_, rfl, ?_⟩
     have hA7 := Kd.R_base ho7
     have Y7 := Aside0.mk (Kd.S_mono (Kd.S_elder' S6.out (Kd.R_base ho7) hb7) (fun _ hk => hk.1))
     have T7 := Aside0.mk (Kd.S_elder' T6.out (Kd.R_base ho7) hb7)
     have O7 := Aside0.mk (Kd.R_lower ho7 (below_size B6.out))
     have X17 := Aside0.mk (blk_below X16.out hb7)
     have X27 := Aside0.mk (blk_below X26.out hb7)
     have X67 := Aside0.mk (blk_below X66.out hb7)
     have B7 := Aside0.mk (below_step B6.out hb7)
     have A7 := Aside0.mk hA7
     have Z7 := Aside0.mk (Nat.le_trans Z6.out hb7.size)
     clear ho7 hb7 hA7
     obtain ⟨A7s, c7s, e7s⟩ := Kd.R_slice O7.out
     subst e7s
     have HTO := Aside0.mk (Kd.S_mono T7.out (ok' := fun k => ¬ (P k ∧ k < N3) ∧ ¬ some k = (Value.slice A7s x.f2.length c7s).ownBlock) (fun k hk => ⟨fun h => hk.1.1.1 h.1, hk.2⟩))
     have HMX : Aside0 (k57.M W7 w.heap.size (fun k => some k = (Value.slice A7s x.f2.length c7s).ownBlock) x [.bool false, .int .i64 z1, .slice A7s x.f2.length c7s]) := ⟨by
      have hq := k57_mkM W7 w.heap.size (fun k => some k = (Value.slice A7s x.f2.length c7s).ownBlock) x (v2 := .slice A7s x.f2.length c7s) (Kd.R_tight rfl O7.out)
      rw [HZ0.out, HZ1.out] at hq
      exact hq⟩
     have HAK : Aside0 (∀ k, some k = (Value.slice A7s x.f2.length c7s).ownBlock → ¬ (P k ∧ k < N3) ∧ some k ≠ (Value.slice Av1 n1 cv1).ownBlock) := ⟨fun k hk => ⟨fun h => by have := A7.out k hk.symm; have := h.2; have := Z6.out; omega, fun e => ((Kd.S_R T7.out).1 k e.symm).2 hk⟩⟩
     have HROW1 : Aside0 ((Value.slice Av1 n1 cv1).ownBlock ≠ some (w.heap.size + 1)) := ⟨fun e => by have := ((Kd.S_R T7.out).1 _ e).1.1.2; omega⟩
     refine hK.out _ _ ⟨(blk_cell X67.out 0).trans rfl, (blk_cell X67.out 1).trans rfl, (blk_cell X17.out 0).trans rfl, (blk_cell X17.out 1).trans rfl, (blk_cell X17.out 2).trans rfl⟩ (fun hHeld => ?_)
     clear hK K
     refine norm_ (a' := ?_) ?_ ?_
     rotate_left
     ·
      show Act.put _ (some 73) _ = _
      simp only [Act.put, List.setIfInBounds_toArray, List.set_cons_zero, List.set_cons_succ, i64_w, i32_w]
      rfl
     refine pure_ (i := 7) (N := some 74) (v := ?_) (a' := ?_) #[true, true, true, true, true, true, true, true, false, false, false, false] rfl rfl (by kernel_rfl) (fun _ _ _ h => h) (Or.inl ⟨by rfl, ?_⟩) ?_ ?_
     rotate_left
     ·
      intro w'
      go_simp
      with_reducible rfl
     rotate_left
     ·
      simp only [Act.put, List.setIfInBounds_toArray, List.set_cons_zero, List.set_cons_succ, i64_w, i32_w]
      rfl
     refine one_ (i := 8) (N := some 75) #[true, true, true, true, true, true, true, true, true, false, false, false] rfl rfl (by kernel_rfl) (by decide) (fun K hK => ?_)
     refine value_ (w1 := ?_) (v := ?_) (by rfl) rfl ?_ ?_
     rotate_left 2
     ·
      go_simp
      constructor
      ·
       rfl
      ·
       rfl
     refine hK.out _ _ ⟨(blk_cell (blk_alloc X67.out _) 0).trans rfl, (blk_cell (blk_alloc X67.out _) 1).trans rfl, (blk_cell (blk_alloc X17.out _) 0).trans rfl, (blk_cell (blk_alloc X17.out _) 1).trans rfl, (blk_cell (blk_alloc X17.out _) 2).trans rfl⟩ (fun hHeld => ?_)
     clear hK K
     refine norm_ (a' := ?_) ?_ ?_
     rotate_left
     ·
      show Act.put _ (some 75) _ = _
      simp only [Act.put, List.setIfInBounds_toArray, List.set_cons_zero, List.set_cons_succ, i64_w, i32_w]
      rfl
     refine one_ (i := 9) (N := some 76) #[true, true, true, true, true, true, true, true, true, true, false, false] rfl rfl (by kernel_rfl) (by decide) (fun K hK => ?_)
     refine Kd.S_append_step k57 (w0 := w) w.heap.size (by rfl) (.tmp 68) (.tmp 75) 53 57 (.agg #[.bool false, .int .i64 0, .slice none 0 0]) 40 rfl Try.underlying53 info57 rfl (by decide) (by omega) (.slice Av1 n1 cv1) cache x [.bool false, .int .i64 z1, .slice A7s x.f2.length c7s] (fun k => ¬ (P k ∧ k < N3)) (fun k => some k = (Value.slice A7s x.f2.length c7s).ownBlock) rfl (by rw [HM.out]; rfl) ?aP ?aK ?aF ?aO ?aB ?aS ?aL ?_
     (case aP => exact HMX.out)
     (case aK => exact HAK.out)
     (case aF => exact fun k hk h => by have := h.2; have := Z7.out; omega)
     (case aO => exact HTO.out)
     (case aB => exact B7.out)
     (case aS => have := B7.out.size; omega)
     (case aL => rw [HN1.out]; omega)
     intro v8 w8 ho8 hb8 hg8 hat8
     obtain ⟨A8, c8, rfl⟩ := Kd.S_slice ho8
     have hrow8 : ∀ k, (Value.slice Av1 n1 cv1).ownBlock = some k → ¬ (P k ∧ k < N3) := fun k hk => ((Kd.S_R HTO.out).1 k hk).1
     have X68 := Aside0.mk (blk_grown X67.out hg8 (Kd.S_ne T7.out X67.out (by decide)))
     have X28 := Aside0.mk (blk_grown X27.out hg8 (Kd.S_ne T7.out X27.out (by decide)))
     have X18 := Aside0.mk (blk_grown X17.out hg8 (fun e => HROW1.out e.symm))
     have HS8 := Aside0.mk ho8
     have B8 := Aside0.mk hb8
     have Y8 := Aside0.mk (Kd.S_grown Y7.out hg8 (fun k hk e => hrow8 k e.symm hk))
     clear ho8 hb8 hg8 hat8 hrow8
     refine hK.out _ _ ⟨(blk_cell X68.out 0).trans rfl, (blk_cell X68.out 1).trans rfl, (blk_cell X18.out 0).trans rfl, (blk_cell X18.out 1).trans rfl, (blk_cell X18.out 2).trans rfl⟩ (fun hHeld => ?_)
     clear hK K
     have f8 : ∀ i, w8.frozen? ⟨N3, i, none⟩ = false := fun i => blk_frozen X68.out i
     have c81 : w8.cell? ⟨N3, 1, none⟩ = some (.slice Av1 n1 cv1) := (blk_cell X68.out 1).trans rfl
     refine norm_ (a' := ?_) ?_ ?_
     rotate_left
     ·
      show Act.put _ (some 76) _ = _
      simp only [Act.put, List.setIfInBounds_toArray, List.set_cons_zero, List.set_cons_succ, i64_w, i32_w]
      rfl
     refine pure_ (i := 10) (N := some 77) (v := ?_) (a' := ?_) #[true, true, true, true, true, true, true, true, true, true, true, false] rfl rfl (by kernel_rfl) (fun _ _ _ h => h) (Or.inl ⟨by rfl, ?_⟩) ?_ ?_
     rotate_left
     ·
      intro w'
      go_simp
      with_reducible rfl
     rotate_left
     ·
      simp only [Act.put, List.setIfInBounds_toArray, List.set_cons_zero, List.set_cons_succ, i64_w, i32_w]
      rfl
     refine last_ (i := 11) (N := none) #[true, true, true, true, true, true, true, true, true, true, true, true] rfl rfl (by kernel_rfl) (by decide) (fun K hK => ?_)
     refine skip_ (w1 := ?_) (by rfl) rfl ?_ ?_
     rotate_left
     ·
      go_simp
      rfl
     refine hK.out _ _ ?_
     clear hK K
     refine done_ (by kernel_rfl) ?_
     have hl8 : (cache ++ [x]).length = cache.length + 1 := by simp
     have hne : N3 ≠ w.heap.size + 1 + 1 := by have := Z3.out; omega
     have hne2 : w.heap.size + 1 + 1 ≠ N3 := by have := Z3.out; omega
     have g9 := blk_put (cs' := #[.slice Av0 n0 cv0, .slice A8 (cache ++ [x]).length c8]) X68.out 1 (.slice A8 (cache ++ [x]).length c8) rfl
     have x9 := blk_far X28.out (p := ⟨N3, 1, none⟩) hne2 (.slice A8 (cache ++ [x]).length c8)
     have k2 := blk_put (cs' := #[.slice Av0 n0 cv0, .slice none 0 0]) x9 0 (.slice Av0 n0 cv0) rfl
     have K3 := Aside0.mk (blk_put (cs' := #[.slice Av0 n0 cv0, .slice A8 (cache ++ [x]).length c8]) k2 1 (.slice A8 (cache ++ [x]).length c8) rfl)
     have SE := Aside0.mk (Kd.S_set (Kd.S_set (Kd.S_set Y8.out X68.out (by decide) 1 (.slice A8 (cache ++ [x]).length c8)) x9 (by decide) 0 (.slice Av0 n0 cv0)) k2 (by decide) 1 (.slice A8 (cache ++ [x]).length c8))
     have TE := Aside0.mk (Kd.S_set (Kd.S_set (Kd.S_set HS8.out X68.out (by decide) 1 (.slice A8 (cache ++ [x]).length c8)) x9 (by decide) 0 (.slice Av0 n0 cv0)) k2 (by decide) 1 (.slice A8 (cache ++ [x]).length c8))
     have BE := Aside0.mk (((B8.out.setCell (p := ⟨N3, 1, none⟩) (by have := Z3.out; dsimp only; omega) (.slice A8 (cache ++ [x]).length c8)).setCell (p := ⟨w.heap.size + 1 + 1, 0, none⟩) (by dsimp only; omega) (.slice Av0 n0 cv0)).setCell (p := ⟨w.heap.size + 1 + 1, 1, none⟩) (by dsimp only; omega) (.slice A8 (cache ++ [x]).length c8))
     have G9 := Aside0.mk g9
     have X9 := Aside0.mk x9
     rw [hl8] at K3 SE TE BE G9 X9
     obtain ⟨W9, hW9⟩ : ∃ W, w8.setCell ⟨N3, 1, none⟩ (.slice A8 (cache.length + 1) c8) = W := ⟨_, rfl⟩
     rw [hW9] at K3 SE TE BE G9 X9 ⊢
     have q0 : W9.cell? ⟨N3, 0, none⟩ = some (.slice Av0 n0 cv0) := blk_cell G9.out 0
     have q1 : W9.cell? ⟨N3, 1, none⟩ = some (.slice A8 (cache.length + 1) c8) := blk_cell G9.out 1
     have t3 : W9.cell? ⟨w.heap.size + 1 + 1, 0, none⟩ = some (.slice none 0 0) := blk_cell X9.out 0
     have t4 : W9.cell? ⟨w.heap.size + 1 + 1, 1, none⟩ = some (.slice none 0 0) := blk_cell X9.out 1
     have tf : ∀ i, W9.frozen? ⟨w.heap.size + 1 + 1, i, none⟩ = false := fun i => blk_frozen X9.out i
     clear hl8 g9 x9 k2 hW9 f8 c81 hHeld
     go_wp2_with fail
     exact bodyPost_ret (results_ct rfl _ _ (w.heap.size + 1 + 1) 55 #[.slice Av0 n0 cv0, .slice A8 (cache.length + 1) c8] (0, 0) _ rfl K3.out Try.underlying55 rfl (by kernel_rfl)) rfl ⟨_, _, by rw [HR1.out]; rfl, by rw [HR1.out]; exact ⟨fun k => P k ∧ k < N3, SE.out, TE.out⟩, BE.out⟩
    ·
     have hR1 : R = ([], [], 1) := by
      rw [HRF.out, hfe, if_pos (Or.inr hm1)]
      rfl
     have HR1 := Aside0.mk hR1
     have hmod : ((m : Int).tmod 48 != 0) = true := by
      have : (m : Int).tmod 48 ≠ 0 := by rw [Int.tmod_eq_emod_of_nonneg (by omega)]; omega
      exact bne_iff_ne.mpr this
     clear hR1 hfe
     go_wp2_with fail
     exact bodyPost_ret (results_ct rfl _ _ (w.heap.size + 1 + 1) 55 #[.slice none 0 0, .slice none 0 0] (0, 0) _ rfl HXR.out Try.underlying55 rfl (by kernel_rfl)) rfl ⟨_, _, by rw [HR1.out]; rfl, by rw [HR1.out]; exact DVal_nil _ _, HBF.out⟩
def fanlightref05_Do.f (k : Nat) (l0_0 : List (List Int)) (l0_1 : List S57) (a1_0 : Bool) (a1_1 : Int) (l1_2 : List Int) : Option (List (List Int) × List S57 × Int) :=
 (fanlightref05_Check.f k l0_0 l0_1).bind fun c => (fanlightref05_fits.f l0_0 l0_1 a1_0 a1_1 l1_2).bind fun b => if c = (if okSb l0_0 l0_1 = true then 0 else 9) ∧ chkW l0_0.length a1_1 l1_2.length = (if b = false then 4 else if l1_2.length = 0 ∨ l1_2.length % 48 ≠ 0 then 1 else 0) ∧ l1_2.length < 140737488355328 then some (doR l0_0 l0_1 ⟨a1_0, a1_1, l1_2⟩) else none
theorem fanlightref05_Do.mono : ∀ a0 a1 a2 a3 a4 k, LeO (fanlightref05_Do.f k a0 a1 a2 a3 a4) (fanlightref05_Do.f (k + 1) a0 a1 a2 a3 a4) := by
 intro a0 a1 a2 a3 a4 k
 unfold fanlightref05_Do.f
 exact LeO.bind (fanlightref05_Check.mono a0 a1 k) (fun _ => LeO.refl _)
theorem fanlightref05_Do.calls (k : Nat) (A0_0 : Option Addr) (c0_0 : Nat) (l0_0 : List (List Int)) (A0_1 : Option Addr) (c0_1 : Nat) (l0_1 : List S57) (a1_0 : Bool) (a1_1 : Int) (A1_2 : Option Addr) (c1_2 : Nat) (l1_2 : List Int) (r1 : List (List Int)) (r2 : List S57) (r3 : Int) (w : World) (hr0_0 : Kd.C (Kd.slice 5 (Kd.int .u8)) w A0_0 l0_0.length l0_0) (hc0_0 : l0_0.length ≤ c0_0) (hr0_1 : Kd.C k57 w A0_1 l0_1.length l0_1) (hc0_1 : l0_1.length ≤ c0_1) (hr1_2 : Kd.C (Kd.int .u8) w A1_2 l1_2.length l1_2) (hc1_2 : l1_2.length ≤ c1_2) (h : fanlightref05_Do.f k l0_0 l0_1 a1_0 a1_1 l1_2 = some (r1, r2, r3)) :
  Calls Try.prog 36 #[.agg #[.slice A0_0 l0_0.length c0_0, .slice A0_1 l0_1.length c0_1], .agg #[.bool a1_0, .int .i64 a1_1, .slice A1_2 l1_2.length c1_2]] w fun e w' => ∃ v0_ v1_ : Value, e = .returned (.tuple #[.agg #[v0_, v1_], .int .i64 r3]) ∧ Kd.S (Kd.slice 5 (Kd.int .u8)) 22 w' w.heap.size (fun _ => True) v0_ r1 ∧ Kd.S k57 57 w' w.heap.size (fun _ => True) v1_ r2 ∧ Below w.heap.size w w' := by
 unfold fanlightref05_Do.f at h
 obtain ⟨c, hc, h⟩ := Option.bind_eq_some_iff.mp h
 obtain ⟨b, hb, h⟩ := Option.bind_eq_some_iff.mp h
 by_cases hl : c = (if okSb l0_0 l0_1 = true then 0 else 9) ∧ chkW l0_0.length a1_1 l1_2.length = (if b = false then 4 else if l1_2.length = 0 ∨ l1_2.length % 48 ≠ 0 then 1 else 0) ∧ l1_2.length < 140737488355328
 case neg => rw [if_neg hl] at h; cases h
 rw [if_pos hl] at h
 replace h := Option.some.inj h
 rw [hl.1] at hc
 refine (refDo_is k b A0_0 c0_0 l0_0 A0_1 c0_1 l0_1 ⟨a1_0, a1_1, l1_2⟩ A1_2 c1_2 w hr0_0 hc0_0 hr0_1 hc0_1 hr1_2 hc1_2 hl.2.2 hc hb hl.2.1).mono ?_
 rw [h]
 rintro e w' ⟨v0, v1, rfl, ⟨P, h0, h1⟩, hb⟩
 exact ⟨v0, v1, rfl, Kd.S_mono h0 (fun _ _ => trivial), Kd.S_mono h1 (fun _ _ => trivial), hb⟩
end Go.Proofs.Ytkdaeleolomdkaa.D
