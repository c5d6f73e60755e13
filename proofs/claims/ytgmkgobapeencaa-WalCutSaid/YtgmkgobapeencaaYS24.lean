import Derived.Test.YtgmkgobapeencaaYS2
import Derived.Test.YtgmkgobapeencaaYAid3
import Derived.Test.YtgmkgobapeencaaYS7
import Derived.Test.YtgmkgobapeencaaYS8
import Derived.Test.YtgmkgobapeencaaYS9
import Derived.Test.YtgmkgobapeencaaYS19
import Derived.Test.YtgmkgobapeencaaYS20
namespace Go.Proofs.Ytgmkgobapeencaa.S
open Go.Proofs.YtgmkgobapeencaaW.PrintWords renaming blk_frozen → a', below_step → b', below_size → c'
open Go.Proofs.YtgmkgobapeencaaW.PrintWords.Aside0 renaming mk → d'
open Go.RowKit Go.Proofs.YtgmkgobapeencaaW.PrintWords Go.Proofs.YtgmkgobapeencaaW.PrintLast Go.Proofs.YtgmkgobapeencaaW.PrintMore
attribute [local go_sem] max2_int min2_int max_two min_two max_three min_three max_four min_four   -- for this text's walks alone
set_option linter.unusedVariables false
set_option linter.unusedSimpArgs false
def wal_Drop.l0 : Nat → Int → List (List Int) → Int → Option ((List (List Int)) × Int × Int)
 | 0, _, _, _ => none
 | k + 1, x1, x455000, x455001 => if (x455000.length : Int) > 0 then (if (x455000.length : Int) > 1 then (if 1 < (x455000.length : Int) then ((wal_first.f k (rd_L1 x455000 1)).bind fun t462 => (if t462 > x1 then (if (wrap64 (t462 - 1)) > x1 then (some (x455000, x455001, 0)) else (if 1 ≤ (x455000.length : Int) then (wal_Drop.l0 k x1 (x455000.drop (1 : Int).toNat) x455001) else (none))) else (if 1 ≤ (x455000.length : Int) then (wal_Drop.l0 k x1 (x455000.drop (1 : Int).toNat) x455001) else (none)))) else (none)) else (if x455001 > x1 then (if (wrap64 (x455001 - 1)) > x1 then (some (x455000, x455001, 0)) else (if 1 ≤ (x455000.length : Int) then (wal_Drop.l0 k x1 (x455000.drop (1 : Int).toNat) x455001) else (none))) else (if 1 ≤ (x455000.length : Int) then (wal_Drop.l0 k x1 (x455000.drop (1 : Int).toNat) x455001) else (none)))) else (some (x455000, x455001, 0))
def wal_Drop.f (k : Nat) (l0_0 : List (List Int)) (a0_1 : Int) (a1 : Int) : Option ((List (List Int)) × Int × Int) := (wal_Check.f k l0_0 a0_1).bind fun t456 => (if t456 = 0 then ((wal_Log_clone.f l0_0 a0_1).bind fun bt457 => (wal_Drop.l0 k a1 bt457.1 bt457.2)) else (some (([] : List (List Int)), 0, t456)))
theorem wal_Drop.mono_l : ∀ k, (∀ y0 y1 y2, LeO (wal_Drop.l0 k y0 y1 y2) (wal_Drop.l0 (k + 1) y0 y1 y2))
 | 0 => fun _ _ _ r h => by simp [wal_Drop.l0] at h
 | k + 1 => by
  have ih0 := wal_Drop.mono_l k
  ·
   intro y0 y1 y2
   unfold wal_Drop.l0
   repeat' first
   | (with_reducible exact ih0 _ _ _)
   | (with_reducible exact wal_Check.mono _ _ _)
   | (with_reducible exact wal_first.mono _ _)
   | with_reducible first | exact LeO.refl _ | exact LeO.none _ | refine LeO.ite ?_ ?_ | refine LeO.bind ?_ fun _ => ?_
theorem wal_Drop.mono : ∀ a0 a1 a2 k, LeO (wal_Drop.f k a0 a1 a2) (wal_Drop.f (k + 1) a0 a1 a2) := by
 intro a0 a1 a2 k
 have ih0 := wal_Drop.mono_l k
 unfold wal_Drop.f
 repeat' first
   | (with_reducible exact ih0 _ _ _)
   | (with_reducible exact wal_Check.mono _ _ _)
   | (with_reducible exact wal_first.mono _ _)
   | with_reducible first | exact LeO.refl _ | exact LeO.none _ | refine LeO.ite ?_ ?_ | refine LeO.bind ?_ fun _ => ?_
set_option maxHeartbeats 8000000 in
set_option maxRecDepth 100000 in
theorem wal_Drop.calls (k : Nat) (A0_0 : Option Addr) (c0_0 : Nat) (l0_0 : List (List Int)) (a0_1 : Int) (a1 : Int) (r1 : List (List Int)) (r2 : Int) (r3 : Int) (w : World) (hr0_0 : Kd.C (Kd.slice 5 (Kd.int .u8)) w A0_0 l0_0.length l0_0) (hc0_0 : l0_0.length ≤ c0_0) (h : wal_Drop.f k l0_0 a0_1 a1 = some (r1, r2, r3)) :
  Calls Try.prog 18 #[.agg #[.slice A0_0 l0_0.length c0_0, .int .i64 a0_1], .int .i64 a1] w fun e w' => ∃ v0_ : Value, e = .returned (.tuple #[.agg #[v0_, .int .i64 r2], .int .i64 r3]) ∧ Kd.Q (Kd.slice 5 (Kd.int .u8)) 25 w' w.heap.size (fun _ => True) v0_ r1 ∧ Below w.heap.size w w' := by
 have hu27 := Try.underlying27
 have HR0_0 := d' hr0_0
 have HC0_0 := d' hc0_0
 clear hr0_0 hc0_0
 have HB := d' (Below.refl w.heap.size w)
 have H : ((wal_Check.f k l0_0 a0_1).bind fun t456 => (if t456 = 0 then ((wal_Log_clone.f l0_0 a0_1).bind fun bt457 => (wal_Drop.l0 k a1 bt457.1 bt457.2)) else (some (([] : List (List Int)), 0, t456)))) = some (r1, r2, r3) := h
 clear h
 replace H := Option.bind_eq_some_iff.mp H
 obtain ⟨t456, A30, H⟩ := H
 (try dsimp only at H)
 have A3 := d' A30
 clear A30
 by_cases c4 : t456 = 0
 ·
  rw [if_pos c4] at H
  have c4b0 := beq_iff_eq.mpr c4
  have c4b1 := bne_eq_false_iff_eq.mpr c4
  clear c4
  replace H := Option.bind_eq_some_iff.mp H
  obtain ⟨⟨t457, t460⟩, A50, H⟩ := H
  (try dsimp only at H)
  have A5 := d' A50
  clear A50
  have H' := d' H
  clear H
  go_enter Try.func18, Try.ntmps18
  go_wp2_with (first | ((with_reducible refine gate_dst (N := 2) rfl ?_); refine box_event ?hg (N := 2) ?hd (cs := #[.slice A0_0 l0_0.length c0_0, .int .i64 a0_1]) (t := 27) ?hr ?_; (case hd => rfl); (case hg => rfl); (case hr => go_simp <;> rfl); intro gb454 hg w6 hbox hb; have n0_ := d' (b' (eH HB) hb); have n1_ := d' (hbox); have n2_ := d' ((by rw [hg]; exact (c' (eH HB)) : w.heap.size ≤ gb454)); have n3_ := d' ((by rw [hg]; exact (c' (eH HB)) : w.heap.size ≤ gb454)); clear HB; have HB := n0_; have BK454 := n1_; have GW454 := n2_; have GE454 := n3_; clear n0_ n1_ n2_ n3_; clear hb hbox hg) | ((with_reducible refine gate_dst (N := 4) rfl ?_); refine box_event ?hg (N := 4) ?hd (cs := #[.slice none 0 0, .int .i64 0]) (t := 27) ?hr ?_; (case hd => rfl); (case hg => rfl); (case hr => go_simp <;> rfl); intro gb455 hg w7 hbox hb; have n0_ := bB BK454 hb; have n1_ := d' (b' (eH HB) hb); have n2_ := d' (hbox); have n3_ := d' ((by rw [hg]; exact (c' (eH HB)) : w.heap.size ≤ gb455)); have n4_ := d' ((by rw [hg]; exact (c' (eH HB)) : w.heap.size ≤ gb455)); have n5_ := nL hg BK454; have n6_ := nG hg BK454; clear BK454; clear HB; have BK454 := n0_; have HB := n1_; have BK455 := n2_; have GW455 := n3_; have GE455 := n4_; have NB454_455 := n5_; have NB455_454 := n6_; clear n0_ n1_ n2_ n3_ n4_ n5_ n6_; clear hb hbox hg; have hnb8 := NB454_455.out; have hnc8 := NB455_454.out; have hcz9_0 := bC BK454 0 (.slice A0_0 l0_0.length c0_0); have hcz9_1 := bC BK454 1 (.int .i64 a0_1); have hfz9_0 := a' BK454.out 0; have hfz9_1 := a' BK454.out 1) | ((with_reducible refine gate_callee (f := 21) rfl ?_); refine gL 9 Try.func21 #[.agg #[.slice A0_0 l0_0.length c0_0, .int .i64 a0_1]] (h := ?_); (with_reducible refine (wal_Check.calls k _ _ l0_0 a0_1 t456 _ ?side1 ?side2 A3.out).mono ?_); (case side1 => exact Kd.eC HR0_0 HB); (case side2 => exact HC0_0.out); rintro e w10 ⟨rfl, hb⟩; refine ⟨_, rfl, ?_⟩; have n0_ := bB BK454 hb; have n1_ := bB BK455 hb; have n2_ := d' (b' (eH HB) hb); clear BK454; clear BK455; clear HB; have BK454 := n0_; have BK455 := n1_; have HB := n2_; clear n0_ n1_ n2_; (try clear hb); (try clear hb2); (try clear hk); (try clear hi); have hcz11_0 := bC BK454 0 (.slice A0_0 l0_0.length c0_0); have hcz11_1 := bC BK454 1 (.int .i64 a0_1); have hfz11_0 := a' BK454.out 0; have hfz11_1 := a' BK454.out 1) | ((with_reducible refine gate_callee (f := 26) rfl ?_); refine gL 15 Try.func26 #[.agg #[.slice A0_0 l0_0.length c0_0, .int .i64 a0_1]] (h := ?_); (with_reducible refine (wal_Log_clone.calls _ _ l0_0 a0_1 t457 t460 _ ?side1 ?side2 A5.out).mono ?_); (case side1 => exact Kd.eC HR0_0 HB); (case side2 => exact HC0_0.out); rintro e w12 ⟨v458, rfl, ho0, hb⟩; refine ⟨_, rfl, ?_⟩; have n0_ := d' (Kd.S_lower ho0 (c' (eH HB))); have n1_ := bB BK454 hb; have n2_ := bB BK455 hb; have n3_ := d' (b' (eH HB) hb); clear BK454; clear BK455; clear HB; have HO459 := n0_; have BK454 := n1_; have BK455 := n2_; have HB := n3_; clear n0_ n1_ n2_ n3_; (try clear hb); (try clear hb2); (try clear hk); (try clear hi); (try clear ho0); obtain ⟨Ao13, co13, eo13⟩ := Kd.S_slice HO459.out; subst eo13; have hcz14_0 := bC BK454 0 (.slice A0_0 l0_0.length c0_0); have hcz14_1 := bC BK454 1 (.int .i64 a0_1); have hfz14_0 := a' BK454.out 0; have hfz14_1 := a' BK454.out 1))
  go_loopg [] k (fun kq w' => ∃ (x455000_1 : List (List Int)) (u455000 : Value), Aside0 (wal_Drop.l0 kq a1 x455000_1 t460 = some (r1, r2, r3)) ∧ Aside0 (kq ≤ k) ∧ Aside0 (Kd.Q (Kd.slice 5 (Kd.int .u8)) 25 w' w.heap.size (fun _ => True) u455000 x455000_1) ∧ Aside0 (w'.heap[gb454]? = some (.cells #[u455000, .int .i64 t460] 27 (0, 0))) ∧ Aside0 (w'.heap[gb455]? = some (.cells #[(.slice none 0 0), .int .i64 0] 27 (0, 0))) ∧ Aside0 (Below w.heap.size w w'))
  case atStart => exact ⟨(t457), (.slice Ao13 t457.length co13), H', ⟨Nat.le_refl _⟩, ⟨Kd.Q_of_R ((Kd.S_R (Kd.kS (Kd.S_mono (Kd.S_far (p := ⟨gb454, 1, none⟩) (Kd.S_far (p := ⟨gb454, 0, none⟩) (Kd.S_types HO459.out BK454.out (by decide)) (fun _ hk => hk.2) (.slice Ao13 t457.length co13)) (fun _ hk => hk.2) (.int .i64 t460)) (fun _ hk => trivial)))))⟩, ⟨by refine eK ?_; refine blk_put (cs := #[.slice Ao13 t457.length co13, .int .i64 a0_1]) ?_ 1 _ rfl; refine eK ?_; refine blk_put (cs := #[.slice A0_0 l0_0.length c0_0, .int .i64 a0_1]) ?_ 0 _ rfl; refine eK ?_; exact BK454.out⟩, ⟨by refine eK ?_; refine blk_far ?_ NB455_454.out _; refine eK ?_; refine blk_far ?_ NB455_454.out _; refine eK ?_; exact BK455.out⟩, ⟨eH HB⟩⟩
  case round =>
   clear H'
   try clear c1
   try clear c2
   try clear p2
   try clear c4
   try clear c4b0
   try clear c4b1
   try clear c8
   try clear hcz11_0
   try clear hcz11_1
   try clear hcz14_0
   try clear hcz14_1
   try clear hcz9_0
   try clear hcz9_1
   try clear hfz11_0
   try clear hfz11_1
   try clear hfz14_0
   try clear hfz14_1
   try clear hfz9_0
   try clear hfz9_1
   obtain ⟨x455000_1, u455000, HA, HK1, HO_455000, BK454, BK455, HB⟩ := hrel
   cases gk with
   | zero => exact absurd HA.out (by simp [wal_Drop.l0])
   | succ k1 =>
    have H := HA.out
    clear HA
    simp only [wal_Drop.l0] at H
    by_cases c15 : (x455000_1.length : Int) > 0
    ·
     rw [if_pos c15] at H
     have c15b0 := decide_eq_true c15
     have c15b1 : decide (0 < x455000_1.length) = true := decide_eq_true (by omega)
     clear c15
     by_cases c16 : (x455000_1.length : Int) > 1
     ·
      rw [if_pos c16] at H
      have c16b0 := decide_eq_true c16
      have c16b1 : decide (1 < x455000_1.length) = true := decide_eq_true (by omega)
      clear c16
      by_cases c17 : 1 < (x455000_1.length : Int)
      ·
       rw [if_pos c17] at H
       have c17b0 := decide_eq_true c17
       have c17b1 : decide (1 < x455000_1.length) = true := decide_eq_true (by omega)
       clear c17
       replace H := Option.bind_eq_some_iff.mp H
       obtain ⟨t462, A180, H⟩ := H
       (try dsimp only at H)
       have A18 := d' A180
       clear A180
       by_cases c19 : t462 > a1
       ·
        rw [if_pos c19] at H
        have c19b0 := decide_eq_true c19
        clear c19
        by_cases c20 : (wrap64 (t462 - 1)) > a1
        ·
         rw [if_pos c20] at H
         have c20b0 := decide_eq_true c20
         clear c20
         simp only [Option.some.injEq, Prod.mk.injEq] at H
         obtain ⟨rfl, rfl, rfl⟩ := H
         have hnb21 := NB454_455.out
         have hnc21 := NB455_454.out
         have hcz22_0 := bC BK454 0 (u455000)
         have hcz22_1 := bC BK454 1 (.int .i64 t460)
         have hfz22_0 := a' BK454.out 0
         have hfz22_1 := a' BK454.out 1
         obtain ⟨Ao23, co23, eo23, _⟩ := Kd.Q_slice HO_455000.out
         subst eo23
         have p461 : 0 ≤ (1 : Int) := (by omega)
         have q461 : 1 < (x455000_1.length : Int) := oD
         obtain ⟨ad461, A461_0, c461_0, e461, hx461_0, hl461_0, hi461_0⟩ := at_L1 (Kd.Q_reads' HO_455000.out).2.2 1 p461 q461
         cases e461
         (try simp only [show (1 : Int).toNat = 1 from rfl, Nat.reduceMul, Nat.reduceEqDiff, Go.Addr.add, ↓reduceIte] at hx461_0)
         have qi461 : (1 < x455000_1.length) = True := eq_true (by omega)
         (try rw [show ((1 : Int)).toNat = 1 from rfl] at hx461_0)
         have HR461_0 := d' hi461_0
         have HC461_0 := d' hl461_0
         clear hi461_0 hl461_0
         replace p461 := eq_true p461
         replace q461 := eq_true q461
         go_wp2_with (first | ((with_reducible refine gate_callee (f := 35) rfl ?_); refine gL 30 Try.func35 #[.slice A461_0 (rd_L1 x455000_1 1).length c461_0] (h := ?_); (with_reducible refine (wal_first.calls k1 _ _ (rd_L1 x455000_1 1) t462 _ ?side1 ?side2 A18.out).mono ?_); (case side1 => exact Kd.cC HR461_0); (case side2 => exact HC461_0.out); rintro e w24 ⟨rfl, hb⟩; refine ⟨_, rfl, ?_⟩; have n0_ := d' (Kd.Q_below (Kd.eQ HO_455000) hb); have n1_ := bB BK454 hb; have n2_ := bB BK455 hb; have n3_ := d' (Kd.C_below (Kd.cC HR461_0) hb); have n4_ := d' (b' (eH HB) hb); clear HO_455000; clear BK454; clear BK455; clear HR461_0; clear HB; have HO_455000 := n0_; have BK454 := n1_; have BK455 := n2_; have HR461_0 := n3_; have HB := n4_; clear n0_ n1_ n2_ n3_ n4_; (try clear hb); (try clear hb2); (try clear hk); (try clear hi); have hcz25_0 := bC BK454 0 (.slice (some ad461) x455000_1.length co23); have hcz25_1 := bC BK454 1 (.int .i64 t460); have hfz25_0 := a' BK454.out 0; have hfz25_1 := a' BK454.out 1; have hcz26_0 := bC BK455 0 (.slice none 0 0); have hcz26_1 := bC BK455 1 (.int .i64 0); have hfz26_0 := a' BK455.out 0; have hfz26_1 := a' BK455.out 1))
         refine bodyPost_ret (results_ct rfl _ _ gb455 27 #[.slice (some ad461) x455000_1.length co23, .int .i64 t460] (0, 0) _ rfl (by refine eK ?_; refine blk_put (cs := #[.slice (some ad461) x455000_1.length co23, .int .i64 0]) ?_ 1 _ rfl; refine eK ?_; refine blk_put (cs := #[.slice none 0 0, .int .i64 0]) ?_ 0 _ rfl; refine eK ?_; exact BK455.out) Try.underlying27 rfl (by kernel_rfl)) rfl ?_
         exact ⟨_, eE, by (with_reducible repeat (first | apply Kd.Q_alloc | apply Kd.Q_drewN | apply Kd.Q_drew)); exact Kd.Q_mono (Kd.Q_far (p := ⟨gb455, 1, none⟩) (Kd.Q_far (p := ⟨gb455, 0, none⟩) (Kd.Q_types HO_455000.out BK455.out (by decide)) (fun _ hk => hk.2) (.slice (some ad461) x455000_1.length co23)) (fun _ hk => hk.2) (.int .i64 t460)) (fun _ hk => trivial), eH HB⟩
        ·
         rw [if_neg c20] at H
         have c20b0 := decide_eq_false c20
         clear c20
         by_cases c27 : 1 ≤ (x455000_1.length : Int)
         ·
          rw [if_pos c27] at H
          have c27b0 := eq_true c27
          have c27b1 := decide_eq_true c27
          clear c27
          obtain ⟨y463, hy463⟩ : ∃ y_ : List (List Int), y_ = (x455000_1.drop (1 : Int).toNat) := ⟨_, rfl⟩
          replace H : (wal_Drop.l0 k1 a1 y463 t460) = some (r1, r2, r3) := by rw [hy463]; exact H
          have Ny463 := d' hy463
          clear hy463
          have H' := d' H
          clear H
          have hnb28 := NB454_455.out
          have hnc28 := NB455_454.out
          have hcz29_0 := bC BK454 0 (u455000)
          have hcz29_1 := bC BK454 1 (.int .i64 t460)
          have hfz29_0 := a' BK454.out 0
          have hfz29_1 := a' BK454.out 1
          obtain ⟨Ao30, co30, eo30, _⟩ := Kd.Q_slice HO_455000.out
          subst eo30
          have p461 : 0 ≤ (1 : Int) := (by omega)
          have q461 : 1 < (x455000_1.length : Int) := oD
          obtain ⟨ad461, A461_0, c461_0, e461, hx461_0, hl461_0, hi461_0⟩ := at_L1 (Kd.Q_reads' HO_455000.out).2.2 1 p461 q461
          cases e461
          (try simp only [show (1 : Int).toNat = 1 from rfl, Nat.reduceMul, Nat.reduceEqDiff, Go.Addr.add, ↓reduceIte] at hx461_0)
          have qi461 : (1 < x455000_1.length) = True := eq_true (by omega)
          (try rw [show ((1 : Int)).toNat = 1 from rfl] at hx461_0)
          have HR461_0 := d' hi461_0
          have HC461_0 := d' hl461_0
          clear hi461_0 hl461_0
          replace p461 := eq_true p461
          replace q461 := eq_true q461
          go_wp2_with (first | ((with_reducible refine gate_callee (f := 35) rfl ?_); refine gL 30 Try.func35 #[.slice A461_0 (rd_L1 x455000_1 1).length c461_0] (h := ?_); (with_reducible refine (wal_first.calls k1 _ _ (rd_L1 x455000_1 1) t462 _ ?side1 ?side2 A18.out).mono ?_); (case side1 => exact Kd.cC HR461_0); (case side2 => exact HC461_0.out); rintro e w31 ⟨rfl, hb⟩; refine ⟨_, rfl, ?_⟩; have n0_ := d' (Kd.Q_below (Kd.eQ HO_455000) hb); have n1_ := bB BK454 hb; have n2_ := bB BK455 hb; have n3_ := d' (Kd.C_below (Kd.cC HR461_0) hb); have n4_ := d' (b' (eH HB) hb); clear HO_455000; clear BK454; clear BK455; clear HR461_0; clear HB; have HO_455000 := n0_; have BK454 := n1_; have BK455 := n2_; have HR461_0 := n3_; have HB := n4_; clear n0_ n1_ n2_ n3_ n4_; (try clear hb); (try clear hb2); (try clear hk); (try clear hi); have hcz32_0 := bC BK454 0 (.slice (some ad461) x455000_1.length co30); have hcz32_1 := bC BK454 1 (.int .i64 t460); have hfz32_0 := a' BK454.out 0; have hfz32_1 := a' BK454.out 1; have q33 : (1 : Int) ≤ ((x455000_1.length : Int) : Int) := oD; obtain ⟨i033, hi033, _, hsz33, _⟩ := info_parts info25; have hcut33 := cut_from (P := Try.prog) 22 25 .i64 Try.underlying22 hi033 1 hsz33 (some ad461) x455000_1.length co30 1 (by omega) q33; have hr33 := Kd.Q_drop (k := (1 : Int).toNat) HO_455000.out (by omega); obtain ⟨A33, hA33⟩ : ∃ A1, A1 = (if co30 = (1 : Int).toNat then (some ad461) else ((some ad461) : Option Addr).map (·.add ((1 : Int).toNat * 1))) := ⟨_, rfl⟩; obtain ⟨c33, hc33⟩ : ∃ c1, c1 = co30 - (1 : Int).toNat := ⟨_, rfl⟩; have hy33 : y463.length = x455000_1.length - (1 : Int).toNat := (by rw [Ny463.out, List.length_drop]); rw [← Ny463.out] at hr33; rw [← hy33, ← hA33, ← hc33] at hcut33; replace hr33 : Kd.Q (Kd.slice 5 (Kd.int .u8)) 25 w31 w.heap.size (fun _ => True) (.slice A33 y463.length c33) y463 := (by rw [hA33, hc33, hy33]; exact hr33); have HE33 : Aside0 ((Value.slice A33 y463.length c33).ownBlock = (.slice (some ad461) x455000_1.length co30 : Value).ownBlock) := ⟨by rw [hA33]; split <;> (cases ((some ad461) : Option Addr) <;> rfl)⟩; clear hy33 hi033 hsz33 HO_455000 hA33 hc33; have HO465 := d' hr33; clear hr33; replace q33 := eq_true q33))
          go_roundg k1
          case measure => have := HK1.out; omega
          case rel => exact ⟨(y463), (.slice A33 y463.length c33), H', ⟨by have := HK1.out; omega⟩, ⟨by (with_reducible repeat (first | apply Kd.Q_alloc | apply Kd.Q_drewN | apply Kd.Q_drew)); exact Kd.Q_mono (Kd.Q_far (p := ⟨gb454, 0, none⟩) (Kd.Q_types HO465.out BK454.out (by decide)) (fun _ hk => hk.2) (.slice A33 y463.length c33)) (fun _ hk => trivial)⟩, ⟨by refine eK ?_; refine blk_put (cs := #[.slice (some ad461) x455000_1.length co30, .int .i64 t460]) ?_ 0 _ rfl; refine eK ?_; exact BK454.out⟩, ⟨by refine eK ?_; refine blk_far ?_ NB455_454.out _; refine eK ?_; exact BK455.out⟩, ⟨eH HB⟩⟩
         ·
          rw [if_neg c27] at H
          exact absurd H (by simp)
       ·
        rw [if_neg c19] at H
        have c19b0 := decide_eq_false c19
        clear c19
        by_cases c34 : 1 ≤ (x455000_1.length : Int)
        ·
         rw [if_pos c34] at H
         have c34b0 := eq_true c34
         have c34b1 := decide_eq_true c34
         clear c34
         obtain ⟨y466, hy466⟩ : ∃ y_ : List (List Int), y_ = (x455000_1.drop (1 : Int).toNat) := ⟨_, rfl⟩
         replace H : (wal_Drop.l0 k1 a1 y466 t460) = some (r1, r2, r3) := by rw [hy466]; exact H
         have Ny466 := d' hy466
         clear hy466
         have H' := d' H
         clear H
         have hnb35 := NB454_455.out
         have hnc35 := NB455_454.out
         have hcz36_0 := bC BK454 0 (u455000)
         have hcz36_1 := bC BK454 1 (.int .i64 t460)
         have hfz36_0 := a' BK454.out 0
         have hfz36_1 := a' BK454.out 1
         obtain ⟨Ao37, co37, eo37, _⟩ := Kd.Q_slice HO_455000.out
         subst eo37
         have p461 : 0 ≤ (1 : Int) := (by omega)
         have q461 : 1 < (x455000_1.length : Int) := oD
         obtain ⟨ad461, A461_0, c461_0, e461, hx461_0, hl461_0, hi461_0⟩ := at_L1 (Kd.Q_reads' HO_455000.out).2.2 1 p461 q461
         cases e461
         (try simp only [show (1 : Int).toNat = 1 from rfl, Nat.reduceMul, Nat.reduceEqDiff, Go.Addr.add, ↓reduceIte] at hx461_0)
         have qi461 : (1 < x455000_1.length) = True := eq_true (by omega)
         (try rw [show ((1 : Int)).toNat = 1 from rfl] at hx461_0)
         have HR461_0 := d' hi461_0
         have HC461_0 := d' hl461_0
         clear hi461_0 hl461_0
         replace p461 := eq_true p461
         replace q461 := eq_true q461
         go_wp2_with (first | ((with_reducible refine gate_callee (f := 35) rfl ?_); refine gL 30 Try.func35 #[.slice A461_0 (rd_L1 x455000_1 1).length c461_0] (h := ?_); (with_reducible refine (wal_first.calls k1 _ _ (rd_L1 x455000_1 1) t462 _ ?side1 ?side2 A18.out).mono ?_); (case side1 => exact Kd.cC HR461_0); (case side2 => exact HC461_0.out); rintro e w38 ⟨rfl, hb⟩; refine ⟨_, rfl, ?_⟩; have n0_ := d' (Kd.Q_below (Kd.eQ HO_455000) hb); have n1_ := bB BK454 hb; have n2_ := bB BK455 hb; have n3_ := d' (Kd.C_below (Kd.cC HR461_0) hb); have n4_ := d' (b' (eH HB) hb); clear HO_455000; clear BK454; clear BK455; clear HR461_0; clear HB; have HO_455000 := n0_; have BK454 := n1_; have BK455 := n2_; have HR461_0 := n3_; have HB := n4_; clear n0_ n1_ n2_ n3_ n4_; (try clear hb); (try clear hb2); (try clear hk); (try clear hi); have hcz39_0 := bC BK454 0 (.slice (some ad461) x455000_1.length co37); have hcz39_1 := bC BK454 1 (.int .i64 t460); have hfz39_0 := a' BK454.out 0; have hfz39_1 := a' BK454.out 1; have q40 : (1 : Int) ≤ ((x455000_1.length : Int) : Int) := oD; obtain ⟨i040, hi040, _, hsz40, _⟩ := info_parts info25; have hcut40 := cut_from (P := Try.prog) 22 25 .i64 Try.underlying22 hi040 1 hsz40 (some ad461) x455000_1.length co37 1 (by omega) q40; have hr40 := Kd.Q_drop (k := (1 : Int).toNat) HO_455000.out (by omega); obtain ⟨A40, hA40⟩ : ∃ A1, A1 = (if co37 = (1 : Int).toNat then (some ad461) else ((some ad461) : Option Addr).map (·.add ((1 : Int).toNat * 1))) := ⟨_, rfl⟩; obtain ⟨c40, hc40⟩ : ∃ c1, c1 = co37 - (1 : Int).toNat := ⟨_, rfl⟩; have hy40 : y466.length = x455000_1.length - (1 : Int).toNat := (by rw [Ny466.out, List.length_drop]); rw [← Ny466.out] at hr40; rw [← hy40, ← hA40, ← hc40] at hcut40; replace hr40 : Kd.Q (Kd.slice 5 (Kd.int .u8)) 25 w38 w.heap.size (fun _ => True) (.slice A40 y466.length c40) y466 := (by rw [hA40, hc40, hy40]; exact hr40); have HE40 : Aside0 ((Value.slice A40 y466.length c40).ownBlock = (.slice (some ad461) x455000_1.length co37 : Value).ownBlock) := ⟨by rw [hA40]; split <;> (cases ((some ad461) : Option Addr) <;> rfl)⟩; clear hy40 hi040 hsz40 HO_455000 hA40 hc40; have HO468 := d' hr40; clear hr40; replace q40 := eq_true q40))
         go_roundg k1
         case measure => have := HK1.out; omega
         case rel => exact ⟨(y466), (.slice A40 y466.length c40), H', ⟨by have := HK1.out; omega⟩, ⟨by (with_reducible repeat (first | apply Kd.Q_alloc | apply Kd.Q_drewN | apply Kd.Q_drew)); exact Kd.Q_mono (Kd.Q_far (p := ⟨gb454, 0, none⟩) (Kd.Q_types HO468.out BK454.out (by decide)) (fun _ hk => hk.2) (.slice A40 y466.length c40)) (fun _ hk => trivial)⟩, ⟨by refine eK ?_; refine blk_put (cs := #[.slice (some ad461) x455000_1.length co37, .int .i64 t460]) ?_ 0 _ rfl; refine eK ?_; exact BK454.out⟩, ⟨by refine eK ?_; refine blk_far ?_ NB455_454.out _; refine eK ?_; exact BK455.out⟩, ⟨eH HB⟩⟩
        ·
         rw [if_neg c34] at H
         exact absurd H (by simp)
      ·
       rw [if_neg c17] at H
       exact absurd H (by simp)
     ·
      rw [if_neg c16] at H
      have c16b0 := decide_eq_false c16
      have c16b1 : decide (1 < x455000_1.length) = false := decide_eq_false (by omega)
      clear c16
      by_cases c41 : t460 > a1
      ·
       rw [if_pos c41] at H
       have c41b0 := decide_eq_true c41
       clear c41
       by_cases c42 : (wrap64 (t460 - 1)) > a1
       ·
        rw [if_pos c42] at H
        have c42b0 := decide_eq_true c42
        clear c42
        simp only [Option.some.injEq, Prod.mk.injEq] at H
        obtain ⟨rfl, rfl, rfl⟩ := H
        have hnb43 := NB454_455.out
        have hnc43 := NB455_454.out
        have hcz44_0 := bC BK454 0 (u455000)
        have hcz44_1 := bC BK454 1 (.int .i64 t460)
        have hfz44_0 := a' BK454.out 0
        have hfz44_1 := a' BK454.out 1
        obtain ⟨Ao45, co45, eo45, _⟩ := Kd.Q_slice HO_455000.out
        subst eo45
        have hcz46_0 := bC BK455 0 (.slice none 0 0)
        have hcz46_1 := bC BK455 1 (.int .i64 0)
        have hfz46_0 := a' BK455.out 0
        have hfz46_1 := a' BK455.out 1
        go_wp2
        refine bodyPost_ret (results_ct rfl _ _ gb455 27 #[.slice Ao45 x455000_1.length co45, .int .i64 t460] (0, 0) _ rfl (by refine eK ?_; refine blk_put (cs := #[.slice Ao45 x455000_1.length co45, .int .i64 0]) ?_ 1 _ rfl; refine eK ?_; refine blk_put (cs := #[.slice none 0 0, .int .i64 0]) ?_ 0 _ rfl; refine eK ?_; exact BK455.out) Try.underlying27 rfl (by kernel_rfl)) rfl ?_
        exact ⟨_, eE, by (with_reducible repeat (first | apply Kd.Q_alloc | apply Kd.Q_drewN | apply Kd.Q_drew)); exact Kd.Q_mono (Kd.Q_far (p := ⟨gb455, 1, none⟩) (Kd.Q_far (p := ⟨gb455, 0, none⟩) (Kd.Q_types HO_455000.out BK455.out (by decide)) (fun _ hk => hk.2) (.slice Ao45 x455000_1.length co45)) (fun _ hk => hk.2) (.int .i64 t460)) (fun _ hk => trivial), eH HB⟩
       ·
        rw [if_neg c42] at H
        have c42b0 := decide_eq_false c42
        clear c42
        by_cases c47 : 1 ≤ (x455000_1.length : Int)
        ·
         rw [if_pos c47] at H
         have c47b0 := eq_true c47
         have c47b1 := decide_eq_true c47
         clear c47
         obtain ⟨y469, hy469⟩ : ∃ y_ : List (List Int), y_ = (x455000_1.drop (1 : Int).toNat) := ⟨_, rfl⟩
         replace H : (wal_Drop.l0 k1 a1 y469 t460) = some (r1, r2, r3) := by rw [hy469]; exact H
         have Ny469 := d' hy469
         clear hy469
         have H' := d' H
         clear H
         have hnb48 := NB454_455.out
         have hnc48 := NB455_454.out
         have hcz49_0 := bC BK454 0 (u455000)
         have hcz49_1 := bC BK454 1 (.int .i64 t460)
         have hfz49_0 := a' BK454.out 0
         have hfz49_1 := a' BK454.out 1
         obtain ⟨Ao50, co50, eo50, _⟩ := Kd.Q_slice HO_455000.out
         subst eo50
         have q51 : (1 : Int) ≤ ((x455000_1.length : Int) : Int) := oD
         obtain ⟨i051, hi051, _, hsz51, _⟩ := info_parts info25
         have hcut51 := cut_from (P := Try.prog) 22 25 .i64 Try.underlying22 hi051 1 hsz51 Ao50 x455000_1.length co50 1 (by omega) q51
         have hr51 := Kd.Q_drop (k := (1 : Int).toNat) HO_455000.out (by omega)
         obtain ⟨A51, hA51⟩ : ∃ A1, A1 = (if co50 = (1 : Int).toNat then Ao50 else (Ao50 : Option Addr).map (·.add ((1 : Int).toNat * 1))) := ⟨_, rfl⟩
         obtain ⟨c51, hc51⟩ : ∃ c1, c1 = co50 - (1 : Int).toNat := ⟨_, rfl⟩
         have hy51 : y469.length = x455000_1.length - (1 : Int).toNat := (by rw [Ny469.out, List.length_drop])
         rw [← Ny469.out] at hr51
         rw [← hy51, ← hA51, ← hc51] at hcut51
         replace hr51 : Kd.Q (Kd.slice 5 (Kd.int .u8)) 25 wr w.heap.size (fun _ => True) (.slice A51 y469.length c51) y469 := (by rw [hA51, hc51, hy51]; exact hr51)
         have HE51 : Aside0 ((Value.slice A51 y469.length c51).ownBlock = (.slice Ao50 x455000_1.length co50 : Value).ownBlock) := ⟨by rw [hA51]; split <;> (cases (Ao50 : Option Addr) <;> rfl)⟩
         clear hy51 hi051 hsz51 HO_455000 hA51 hc51
         have HO471 := d' hr51
         clear hr51
         replace q51 := eq_true q51
         go_wp2
         go_roundg k1
         case measure => have := HK1.out; omega
         case rel => exact ⟨(y469), (.slice A51 y469.length c51), H', ⟨by have := HK1.out; omega⟩, ⟨by (with_reducible repeat (first | apply Kd.Q_alloc | apply Kd.Q_drewN | apply Kd.Q_drew)); exact Kd.Q_mono (Kd.Q_far (p := ⟨gb454, 0, none⟩) (Kd.Q_types HO471.out BK454.out (by decide)) (fun _ hk => hk.2) (.slice A51 y469.length c51)) (fun _ hk => trivial)⟩, ⟨by refine eK ?_; refine blk_put (cs := #[.slice Ao50 x455000_1.length co50, .int .i64 t460]) ?_ 0 _ rfl; refine eK ?_; exact BK454.out⟩, ⟨by refine eK ?_; refine blk_far ?_ NB455_454.out _; refine eK ?_; exact BK455.out⟩, ⟨eH HB⟩⟩
        ·
         rw [if_neg c47] at H
         exact absurd H (by simp)
      ·
       rw [if_neg c41] at H
       have c41b0 := decide_eq_false c41
       clear c41
       by_cases c52 : 1 ≤ (x455000_1.length : Int)
       ·
        rw [if_pos c52] at H
        have c52b0 := eq_true c52
        have c52b1 := decide_eq_true c52
        clear c52
        obtain ⟨y472, hy472⟩ : ∃ y_ : List (List Int), y_ = (x455000_1.drop (1 : Int).toNat) := ⟨_, rfl⟩
        replace H : (wal_Drop.l0 k1 a1 y472 t460) = some (r1, r2, r3) := by rw [hy472]; exact H
        have Ny472 := d' hy472
        clear hy472
        have H' := d' H
        clear H
        have hnb53 := NB454_455.out
        have hnc53 := NB455_454.out
        have hcz54_0 := bC BK454 0 (u455000)
        have hcz54_1 := bC BK454 1 (.int .i64 t460)
        have hfz54_0 := a' BK454.out 0
        have hfz54_1 := a' BK454.out 1
        obtain ⟨Ao55, co55, eo55, _⟩ := Kd.Q_slice HO_455000.out
        subst eo55
        have q56 : (1 : Int) ≤ ((x455000_1.length : Int) : Int) := oD
        obtain ⟨i056, hi056, _, hsz56, _⟩ := info_parts info25
        have hcut56 := cut_from (P := Try.prog) 22 25 .i64 Try.underlying22 hi056 1 hsz56 Ao55 x455000_1.length co55 1 (by omega) q56
        have hr56 := Kd.Q_drop (k := (1 : Int).toNat) HO_455000.out (by omega)
        obtain ⟨A56, hA56⟩ : ∃ A1, A1 = (if co55 = (1 : Int).toNat then Ao55 else (Ao55 : Option Addr).map (·.add ((1 : Int).toNat * 1))) := ⟨_, rfl⟩
        obtain ⟨c56, hc56⟩ : ∃ c1, c1 = co55 - (1 : Int).toNat := ⟨_, rfl⟩
        have hy56 : y472.length = x455000_1.length - (1 : Int).toNat := (by rw [Ny472.out, List.length_drop])
        rw [← Ny472.out] at hr56
        rw [← hy56, ← hA56, ← hc56] at hcut56
        replace hr56 : Kd.Q (Kd.slice 5 (Kd.int .u8)) 25 wr w.heap.size (fun _ => True) (.slice A56 y472.length c56) y472 := (by rw [hA56, hc56, hy56]; exact hr56)
        have HE56 : Aside0 ((Value.slice A56 y472.length c56).ownBlock = (.slice Ao55 x455000_1.length co55 : Value).ownBlock) := ⟨by rw [hA56]; split <;> (cases (Ao55 : Option Addr) <;> rfl)⟩
        clear hy56 hi056 hsz56 HO_455000 hA56 hc56
        have HO474 := d' hr56
        clear hr56
        replace q56 := eq_true q56
        go_wp2
        go_roundg k1
        case measure => have := HK1.out; omega
        case rel => exact ⟨(y472), (.slice A56 y472.length c56), H', ⟨by have := HK1.out; omega⟩, ⟨by (with_reducible repeat (first | apply Kd.Q_alloc | apply Kd.Q_drewN | apply Kd.Q_drew)); exact Kd.Q_mono (Kd.Q_far (p := ⟨gb454, 0, none⟩) (Kd.Q_types HO474.out BK454.out (by decide)) (fun _ hk => hk.2) (.slice A56 y472.length c56)) (fun _ hk => trivial)⟩, ⟨by refine eK ?_; refine blk_put (cs := #[.slice Ao55 x455000_1.length co55, .int .i64 t460]) ?_ 0 _ rfl; refine eK ?_; exact BK454.out⟩, ⟨by refine eK ?_; refine blk_far ?_ NB455_454.out _; refine eK ?_; exact BK455.out⟩, ⟨eH HB⟩⟩
       ·
        rw [if_neg c52] at H
        exact absurd H (by simp)
    ·
     rw [if_neg c15] at H
     have c15b0 := decide_eq_false c15
     have c15b1 : decide (0 < x455000_1.length) = false := decide_eq_false (by omega)
     clear c15
     simp only [Option.some.injEq, Prod.mk.injEq] at H
     obtain ⟨rfl, rfl, rfl⟩ := H
     have hnb57 := NB454_455.out
     have hnc57 := NB455_454.out
     have hcz58_0 := bC BK454 0 (u455000)
     have hcz58_1 := bC BK454 1 (.int .i64 t460)
     have hfz58_0 := a' BK454.out 0
     have hfz58_1 := a' BK454.out 1
     obtain ⟨Ao59, co59, eo59, _⟩ := Kd.Q_slice HO_455000.out
     subst eo59
     have hcz60_0 := bC BK455 0 (.slice none 0 0)
     have hcz60_1 := bC BK455 1 (.int .i64 0)
     have hfz60_0 := a' BK455.out 0
     have hfz60_1 := a' BK455.out 1
     go_wp2
     refine bodyPost_ret (results_ct rfl _ _ gb455 27 #[.slice Ao59 x455000_1.length co59, .int .i64 t460] (0, 0) _ rfl (by refine eK ?_; refine blk_put (cs := #[.slice Ao59 x455000_1.length co59, .int .i64 0]) ?_ 1 _ rfl; refine eK ?_; refine blk_put (cs := #[.slice none 0 0, .int .i64 0]) ?_ 0 _ rfl; refine eK ?_; exact BK455.out) Try.underlying27 rfl (by kernel_rfl)) rfl ?_
     exact ⟨_, eE, by (with_reducible repeat (first | apply Kd.Q_alloc | apply Kd.Q_drewN | apply Kd.Q_drew)); exact Kd.Q_mono (Kd.Q_far (p := ⟨gb455, 1, none⟩) (Kd.Q_far (p := ⟨gb455, 0, none⟩) (Kd.Q_types HO_455000.out BK455.out (by decide)) (fun _ hk => hk.2) (.slice Ao59 x455000_1.length co59)) (fun _ hk => hk.2) (.int .i64 t460)) (fun _ hk => trivial), eH HB⟩
 ·
  rw [if_neg c4] at H
  have c4b0 := beq_eq_false_iff_ne.mpr c4
  have c4b1 := bne_iff_ne.mpr c4
  simp only [Option.some.injEq, Prod.mk.injEq] at H
  obtain ⟨rfl, rfl, rfl⟩ := H
  go_enter Try.func18, Try.ntmps18
  go_wp2_with (first | ((with_reducible refine gate_dst (N := 2) rfl ?_); refine box_event ?hg (N := 2) ?hd (cs := #[.slice A0_0 l0_0.length c0_0, .int .i64 a0_1]) (t := 27) ?hr ?_; (case hd => rfl); (case hg => rfl); (case hr => go_simp <;> rfl); intro gb454 hg w61 hbox hb; have n0_ := d' (b' (eH HB) hb); have n1_ := d' (hbox); have n2_ := d' ((by rw [hg]; exact (c' (eH HB)) : w.heap.size ≤ gb454)); have n3_ := d' ((by rw [hg]; exact (c' (eH HB)) : w.heap.size ≤ gb454)); clear HB; have HB := n0_; have BK454 := n1_; have GW454 := n2_; have GE454 := n3_; clear n0_ n1_ n2_ n3_; clear hb hbox hg) | ((with_reducible refine gate_dst (N := 4) rfl ?_); refine box_event ?hg (N := 4) ?hd (cs := #[.slice none 0 0, .int .i64 0]) (t := 27) ?hr ?_; (case hd => rfl); (case hg => rfl); (case hr => go_simp <;> rfl); intro gb455 hg w62 hbox hb; have n0_ := bB BK454 hb; have n1_ := d' (b' (eH HB) hb); have n2_ := d' (hbox); have n3_ := d' ((by rw [hg]; exact (c' (eH HB)) : w.heap.size ≤ gb455)); have n4_ := d' ((by rw [hg]; exact (c' (eH HB)) : w.heap.size ≤ gb455)); have n5_ := nL hg BK454; have n6_ := nG hg BK454; clear BK454; clear HB; have BK454 := n0_; have HB := n1_; have BK455 := n2_; have GW455 := n3_; have GE455 := n4_; have NB454_455 := n5_; have NB455_454 := n6_; clear n0_ n1_ n2_ n3_ n4_ n5_ n6_; clear hb hbox hg; have hnb63 := NB454_455.out; have hnc63 := NB455_454.out; have hcz64_0 := bC BK454 0 (.slice A0_0 l0_0.length c0_0); have hcz64_1 := bC BK454 1 (.int .i64 a0_1); have hfz64_0 := a' BK454.out 0; have hfz64_1 := a' BK454.out 1) | ((with_reducible refine gate_callee (f := 21) rfl ?_); refine gL 9 Try.func21 #[.agg #[.slice A0_0 l0_0.length c0_0, .int .i64 a0_1]] (h := ?_); (with_reducible refine (wal_Check.calls k _ _ l0_0 a0_1 t456 _ ?side1 ?side2 A3.out).mono ?_); (case side1 => exact Kd.eC HR0_0 HB); (case side2 => exact HC0_0.out); rintro e w65 ⟨rfl, hb⟩; refine ⟨_, rfl, ?_⟩; have n0_ := bB BK454 hb; have n1_ := bB BK455 hb; have n2_ := d' (b' (eH HB) hb); clear BK454; clear BK455; clear HB; have BK454 := n0_; have BK455 := n1_; have HB := n2_; clear n0_ n1_ n2_; (try clear hb); (try clear hb2); (try clear hk); (try clear hi); have hcz66_0 := bC BK455 0 (.slice none 0 0); have hcz66_1 := bC BK455 1 (.int .i64 0); have hfz66_0 := a' BK455.out 0; have hfz66_1 := a' BK455.out 1))
  refine bodyPost_ret (results_ct rfl _ _ gb455 27 #[.slice none 0 0, .int .i64 0] (0, 0) _ rfl (by refine eK ?_; refine blk_put (cs := #[.slice none 0 0, .int .i64 0]) ?_ 1 _ rfl; refine eK ?_; refine blk_put (cs := #[.slice none 0 0, .int .i64 0]) ?_ 0 _ rfl; refine eK ?_; exact BK455.out) Try.underlying27 rfl (by kernel_rfl)) rfl ?_
  exact ⟨_, eE, Kd.Q_of_R ((Kd.S_R (nS))), eH HB⟩
def fanlightref06_Drop.l0 : Nat → Int → List (List Int) → Int → Option ((List (List Int)) × Int × Int)
 | 0, _, _, _ => none
 | k + 1, x1, x483000, x483001 => if (x483000.length : Int) > 0 then (if (x483000.length : Int) > 1 then (if 1 < (x483000.length : Int) then ((fanlightref06_first.f k (rd_L1 x483000 1)).bind fun t484 => (if (wrap64 (t484 - 1)) > x1 then (some (x483000, x483001, 0)) else (if 1 ≤ (x483000.length : Int) then (fanlightref06_Drop.l0 k x1 (x483000.drop (1 : Int).toNat) x483001) else (none)))) else (none)) else (if (wrap64 (x483001 - 1)) > x1 then (some (x483000, x483001, 0)) else (if 1 ≤ (x483000.length : Int) then (fanlightref06_Drop.l0 k x1 (x483000.drop (1 : Int).toNat) x483001) else (none)))) else (some (x483000, x483001, 0))
def fanlightref06_Drop.f (k : Nat) (l0_0 : List (List Int)) (a0_1 : Int) (a1 : Int) : Option ((List (List Int)) × Int × Int) := (fanlightref06_Check.f k l0_0 a0_1).bind fun t477 => (if t477 = 0 then ((fanlightref06_Own.f k l0_0 a0_1).bind fun bt478 => (fanlightref06_Drop.l0 k a1 bt478.1 bt478.2)) else (some (([] : List (List Int)), 0, 9)))
theorem fanlightref06_Drop.mono_l : ∀ k, (∀ y0 y1 y2, LeO (fanlightref06_Drop.l0 k y0 y1 y2) (fanlightref06_Drop.l0 (k + 1) y0 y1 y2))
 | 0 => fun _ _ _ r h => by simp [fanlightref06_Drop.l0] at h
 | k + 1 => by
  have ih0 := fanlightref06_Drop.mono_l k
  ·
   intro y0 y1 y2
   unfold fanlightref06_Drop.l0
   repeat' first
   | (with_reducible exact ih0 _ _ _)
   | (with_reducible exact fanlightref06_Check.mono _ _ _)
   | (with_reducible exact fanlightref06_Own.mono _ _ _)
   | (with_reducible exact fanlightref06_first.mono _ _)
   | with_reducible first | exact LeO.refl _ | exact LeO.none _ | refine LeO.ite ?_ ?_ | refine LeO.bind ?_ fun _ => ?_
theorem fanlightref06_Drop.mono : ∀ a0 a1 a2 k, LeO (fanlightref06_Drop.f k a0 a1 a2) (fanlightref06_Drop.f (k + 1) a0 a1 a2) := by
 intro a0 a1 a2 k
 have ih0 := fanlightref06_Drop.mono_l k
 unfold fanlightref06_Drop.f
 repeat' first
   | (with_reducible exact ih0 _ _ _)
   | (with_reducible exact fanlightref06_Check.mono _ _ _)
   | (with_reducible exact fanlightref06_Own.mono _ _ _)
   | (with_reducible exact fanlightref06_first.mono _ _)
   | with_reducible first | exact LeO.refl _ | exact LeO.none _ | refine LeO.ite ?_ ?_ | refine LeO.bind ?_ fun _ => ?_
set_option maxHeartbeats 8000000 in
set_option maxRecDepth 100000 in
theorem fanlightref06_Drop.calls (k : Nat) (A0_0 : Option Addr) (c0_0 : Nat) (l0_0 : List (List Int)) (a0_1 : Int) (a1 : Int) (r1 : List (List Int)) (r2 : Int) (r3 : Int) (w : World) (hr0_0 : Kd.C (Kd.slice 5 (Kd.int .u8)) w A0_0 l0_0.length l0_0) (hc0_0 : l0_0.length ≤ c0_0) (h : fanlightref06_Drop.f k l0_0 a0_1 a1 = some (r1, r2, r3)) :
  Calls Try.prog 19 #[.agg #[.slice A0_0 l0_0.length c0_0, .int .i64 a0_1], .int .i64 a1] w fun e w' => ∃ v0_ : Value, e = .returned (.tuple #[.agg #[v0_, .int .i64 r2], .int .i64 r3]) ∧ Kd.Q (Kd.slice 5 (Kd.int .u8)) 25 w' w.heap.size (fun _ => True) v0_ r1 ∧ Below w.heap.size w w' := by
 have hu24 := Try.underlying24
 have HR0_0 := d' hr0_0
 have HC0_0 := d' hc0_0
 clear hr0_0 hc0_0
 have HB := d' (Below.refl w.heap.size w)
 have H : ((fanlightref06_Check.f k l0_0 a0_1).bind fun t477 => (if t477 = 0 then ((fanlightref06_Own.f k l0_0 a0_1).bind fun bt478 => (fanlightref06_Drop.l0 k a1 bt478.1 bt478.2)) else (some (([] : List (List Int)), 0, 9)))) = some (r1, r2, r3) := h
 clear h
 replace H := Option.bind_eq_some_iff.mp H
 obtain ⟨t477, A30, H⟩ := H
 (try dsimp only at H)
 have A3 := d' A30
 clear A30
 by_cases c4 : t477 = 0
 ·
  rw [if_pos c4] at H
  have c4b0 := beq_iff_eq.mpr c4
  have c4b1 := bne_eq_false_iff_eq.mpr c4
  clear c4
  replace H := Option.bind_eq_some_iff.mp H
  obtain ⟨⟨t478, t481⟩, A50, H⟩ := H
  (try dsimp only at H)
  have A5 := d' A50
  clear A50
  have H' := d' H
  clear H
  go_enter Try.func19, Try.ntmps19
  go_wp2_with (first | ((with_reducible refine gate_dst (N := 2) rfl ?_); refine box_event ?hg (N := 2) ?hd (cs := #[.slice A0_0 l0_0.length c0_0, .int .i64 a0_1]) (t := 24) ?hr ?_; (case hd => rfl); (case hg => rfl); (case hr => go_simp <;> rfl); intro gb475 hg w6 hbox hb; have n0_ := d' (b' (eH HB) hb); have n1_ := d' (hbox); have n2_ := d' ((by rw [hg]; exact (c' (eH HB)) : w.heap.size ≤ gb475)); have n3_ := d' ((by rw [hg]; exact (c' (eH HB)) : w.heap.size ≤ gb475)); clear HB; have HB := n0_; have BK475 := n1_; have GW475 := n2_; have GE475 := n3_; clear n0_ n1_ n2_ n3_; clear hb hbox hg) | ((with_reducible refine gate_dst (N := 4) rfl ?_); refine box_event ?hg (N := 4) ?hd (cs := #[.slice none 0 0, .int .i64 0]) (t := 24) ?hr ?_; (case hd => rfl); (case hg => rfl); (case hr => go_simp <;> rfl); intro gb476 hg w7 hbox hb; have n0_ := bB BK475 hb; have n1_ := d' (b' (eH HB) hb); have n2_ := d' (hbox); have n3_ := d' ((by rw [hg]; exact (c' (eH HB)) : w.heap.size ≤ gb476)); have n4_ := d' ((by rw [hg]; exact (c' (eH HB)) : w.heap.size ≤ gb476)); have n5_ := nL hg BK475; have n6_ := nG hg BK475; clear BK475; clear HB; have BK475 := n0_; have HB := n1_; have BK476 := n2_; have GW476 := n3_; have GE476 := n4_; have NB475_476 := n5_; have NB476_475 := n6_; clear n0_ n1_ n2_ n3_ n4_ n5_ n6_; clear hb hbox hg; have hnb8 := NB475_476.out; have hnc8 := NB476_475.out; have hcz9_0 := bC BK475 0 (.slice A0_0 l0_0.length c0_0); have hcz9_1 := bC BK475 1 (.int .i64 a0_1); have hfz9_0 := a' BK475.out 0; have hfz9_1 := a' BK475.out 1) | ((with_reducible refine gate_callee (f := 22) rfl ?_); refine gL 9 Try.func22 #[.agg #[.slice A0_0 l0_0.length c0_0, .int .i64 a0_1]] (h := ?_); (with_reducible refine (fanlightref06_Check.calls k _ _ l0_0 a0_1 t477 _ ?side1 ?side2 A3.out).mono ?_); (case side1 => exact Kd.eC HR0_0 HB); (case side2 => exact HC0_0.out); rintro e w10 ⟨rfl, hb⟩; refine ⟨_, rfl, ?_⟩; have n0_ := bB BK475 hb; have n1_ := bB BK476 hb; have n2_ := d' (b' (eH HB) hb); clear BK475; clear BK476; clear HB; have BK475 := n0_; have BK476 := n1_; have HB := n2_; clear n0_ n1_ n2_; (try clear hb); (try clear hb2); (try clear hk); (try clear hi); have hcz11_0 := bC BK475 0 (.slice A0_0 l0_0.length c0_0); have hcz11_1 := bC BK475 1 (.int .i64 a0_1); have hfz11_0 := a' BK475.out 0; have hfz11_1 := a' BK475.out 1) | ((with_reducible refine gate_callee (f := 30) rfl ?_); refine gL 13 Try.func30 #[.agg #[.slice A0_0 l0_0.length c0_0, .int .i64 a0_1]] (h := ?_); (with_reducible refine (fanlightref06_Own.calls k _ _ l0_0 a0_1 t478 t481 _ ?side1 ?side2 A5.out).mono ?_); (case side1 => exact Kd.eC HR0_0 HB); (case side2 => exact HC0_0.out); rintro e w12 ⟨v479, rfl, ho0, hb⟩; refine ⟨_, rfl, ?_⟩; have n0_ := d' (Kd.S_lower ho0 (c' (eH HB))); have n1_ := bB BK475 hb; have n2_ := bB BK476 hb; have n3_ := d' (b' (eH HB) hb); clear BK475; clear BK476; clear HB; have HO480 := n0_; have BK475 := n1_; have BK476 := n2_; have HB := n3_; clear n0_ n1_ n2_ n3_; (try clear hb); (try clear hb2); (try clear hk); (try clear hi); (try clear ho0)) | ((with_reducible refine gate_dst (N := 6) rfl ?_); refine box_event ?hg (N := 6) ?hd (cs := #[.slice none 0 0, .int .i64 0]) (t := 24) ?hr ?_; (case hd => rfl); (case hg => rfl); (case hr => go_simp <;> rfl); intro gb482 hg w13 hbox hb; have n0_ := d' (Kd.S_below (Kd.eS HO480) hb); have n1_ := bB BK475 hb; have n2_ := bB BK476 hb; have n3_ := d' (b' (eH HB) hb); have n4_ := d' (hbox); have n5_ := d' ((by rw [hg]; exact (c' (eH HB)) : w.heap.size ≤ gb482)); have n6_ := d' ((by rw [hg]; exact (c' (eH HB)) : w.heap.size ≤ gb482)); have n7_ := nL hg BK475; have n8_ := nG hg BK475; have n9_ := nL hg BK476; have n10_ := nG hg BK476; clear HO480; clear BK475; clear BK476; clear HB; have HO480 := n0_; have BK475 := n1_; have BK476 := n2_; have HB := n3_; have BK482 := n4_; have GW482 := n5_; have GE482 := n6_; have NB475_482 := n7_; have NB482_475 := n8_; have NB476_482 := n9_; have NB482_476 := n10_; clear n0_ n1_ n2_ n3_ n4_ n5_ n6_ n7_ n8_ n9_ n10_; clear hb hbox hg; obtain ⟨Ao14, co14, eo14⟩ := Kd.S_slice HO480.out; subst eo14; have hnb15 := NB482_475.out; have hnc15 := NB475_482.out; have hnb16 := NB482_476.out; have hnc16 := NB476_482.out; have hcz17_0 := bC BK482 0 (.slice none 0 0); have hcz17_1 := bC BK482 1 (.int .i64 0); have hfz17_0 := a' BK482.out 0; have hfz17_1 := a' BK482.out 1))
  go_loopg [] k (fun kq w' => ∃ (x477001_1 : Int) (x483000_1 : List (List Int)) (u483000 : Value), Aside0 (fanlightref06_Drop.l0 kq a1 x483000_1 t481 = some (r1, r2, r3)) ∧ Aside0 (kq ≤ k) ∧ Aside0 (Kd.Q (Kd.slice 5 (Kd.int .u8)) 25 w' w.heap.size (fun _ => True) u483000 x483000_1) ∧ Aside0 (w'.heap[gb475]? = some (.cells #[(.slice A0_0 l0_0.length c0_0), .int .i64 a0_1] 24 (0, 0))) ∧ Aside0 (w'.heap[gb476]? = some (.cells #[(.slice none 0 0), .int .i64 x477001_1] 24 (0, 0))) ∧ Aside0 (w'.heap[gb482]? = some (.cells #[u483000, .int .i64 t481] 24 (0, 0))) ∧ Aside0 (Below w.heap.size w w'))
  case atStart => exact ⟨(0), (t478), (.slice Ao14 t478.length co14), H', ⟨Nat.le_refl _⟩, ⟨Kd.Q_of_R ((Kd.S_R (Kd.kS (Kd.S_mono (Kd.S_far (p := ⟨gb482, 1, none⟩) (Kd.S_far (p := ⟨gb482, 0, none⟩) (Kd.S_types HO480.out BK482.out (by decide)) (fun _ hk => hk.2) (.slice Ao14 t478.length co14)) (fun _ hk => hk.2) (.int .i64 t481)) (fun _ hk => trivial)))))⟩, ⟨by refine eK ?_; refine blk_far ?_ NB475_482.out _; refine eK ?_; refine blk_far ?_ NB475_482.out _; refine eK ?_; exact BK475.out⟩, ⟨by refine eK ?_; refine blk_far ?_ NB476_482.out _; refine eK ?_; refine blk_far ?_ NB476_482.out _; refine eK ?_; exact BK476.out⟩, ⟨by refine eK ?_; refine blk_put (cs := #[.slice Ao14 t478.length co14, .int .i64 0]) ?_ 1 _ rfl; refine eK ?_; refine blk_put (cs := #[.slice none 0 0, .int .i64 0]) ?_ 0 _ rfl; refine eK ?_; exact BK482.out⟩, ⟨eH HB⟩⟩
  case round =>
   clear H'
   try clear c1
   try clear c2
   try clear p2
   try clear c3
   try clear c4
   try clear c4b0
   try clear c4b1
   try clear c8
   try clear c15
   try clear c16
   try clear hcz11_0
   try clear hcz11_1
   try clear hcz17_0
   try clear hcz17_1
   try clear hcz9_0
   try clear hcz9_1
   try clear hfz11_0
   try clear hfz11_1
   try clear hfz17_0
   try clear hfz17_1
   try clear hfz9_0
   try clear hfz9_1
   obtain ⟨x477001_1, x483000_1, u483000, HA, HK1, HO_483000, BK475, BK476, BK482, HB⟩ := hrel
   cases gk with
   | zero => exact absurd HA.out (by simp [fanlightref06_Drop.l0])
   | succ k1 =>
    have H := HA.out
    clear HA
    simp only [fanlightref06_Drop.l0] at H
    by_cases c18 : (x483000_1.length : Int) > 0
    ·
     rw [if_pos c18] at H
     have c18b0 := decide_eq_true c18
     have c18b1 : decide (0 < x483000_1.length) = true := decide_eq_true (by omega)
     clear c18
     by_cases c19 : (x483000_1.length : Int) > 1
     ·
      rw [if_pos c19] at H
      have c19b0 := decide_eq_true c19
      have c19b1 : decide (1 < x483000_1.length) = true := decide_eq_true (by omega)
      clear c19
      by_cases c20 : 1 < (x483000_1.length : Int)
      ·
       rw [if_pos c20] at H
       have c20b0 := decide_eq_true c20
       have c20b1 : decide (1 < x483000_1.length) = true := decide_eq_true (by omega)
       clear c20
       replace H := Option.bind_eq_some_iff.mp H
       obtain ⟨t484, A210, H⟩ := H
       (try dsimp only at H)
       have A21 := d' A210
       clear A210
       by_cases c22 : (wrap64 (t484 - 1)) > a1
       ·
        rw [if_pos c22] at H
        have c22b0 := decide_eq_true c22
        clear c22
        simp only [Option.some.injEq, Prod.mk.injEq] at H
        obtain ⟨rfl, rfl, rfl⟩ := H
        have hnb23 := NB482_475.out
        have hnc23 := NB475_482.out
        have hnb24 := NB482_476.out
        have hnc24 := NB476_482.out
        have hcz25_0 := bC BK482 0 (u483000)
        have hcz25_1 := bC BK482 1 (.int .i64 t481)
        have hfz25_0 := a' BK482.out 0
        have hfz25_1 := a' BK482.out 1
        obtain ⟨Ao26, co26, eo26, _⟩ := Kd.Q_slice HO_483000.out
        subst eo26
        have p483 : 0 ≤ (1 : Int) := (by omega)
        have q483 : 1 < (x483000_1.length : Int) := oD
        obtain ⟨ad483, A483_0, c483_0, e483, hx483_0, hl483_0, hi483_0⟩ := at_L1 (Kd.Q_reads' HO_483000.out).2.2 1 p483 q483
        cases e483
        (try simp only [show (1 : Int).toNat = 1 from rfl, Nat.reduceMul, Nat.reduceEqDiff, Go.Addr.add, ↓reduceIte] at hx483_0)
        have qi483 : (1 < x483000_1.length) = True := eq_true (by omega)
        (try rw [show ((1 : Int)).toNat = 1 from rfl] at hx483_0)
        have HR483_0 := d' hi483_0
        have HC483_0 := d' hl483_0
        clear hi483_0 hl483_0
        replace p483 := eq_true p483
        replace q483 := eq_true q483
        go_wp2_with (first | ((with_reducible refine gate_callee (f := 34) rfl ?_); refine gL 29 Try.func34 #[.slice A483_0 (rd_L1 x483000_1 1).length c483_0] (h := ?_); (with_reducible refine (fanlightref06_first.calls k1 _ _ (rd_L1 x483000_1 1) t484 _ ?side1 ?side2 A21.out).mono ?_); (case side1 => exact Kd.cC HR483_0); (case side2 => exact HC483_0.out); rintro e w27 ⟨rfl, hb⟩; refine ⟨_, rfl, ?_⟩; have n0_ := d' (Kd.Q_below (Kd.eQ HO_483000) hb); have n1_ := bB BK475 hb; have n2_ := bB BK476 hb; have n3_ := bB BK482 hb; have n4_ := d' (Kd.C_below (Kd.cC HR483_0) hb); have n5_ := d' (b' (eH HB) hb); clear HO_483000; clear BK475; clear BK476; clear BK482; clear HR483_0; clear HB; have HO_483000 := n0_; have BK475 := n1_; have BK476 := n2_; have BK482 := n3_; have HR483_0 := n4_; have HB := n5_; clear n0_ n1_ n2_ n3_ n4_ n5_; (try clear hb); (try clear hb2); (try clear hk); (try clear hi); have hcz28_0 := bC BK482 0 (.slice (some ad483) x483000_1.length co26); have hcz28_1 := bC BK482 1 (.int .i64 t481); have hfz28_0 := a' BK482.out 0; have hfz28_1 := a' BK482.out 1; have hnb29 := NB476_475.out; have hnc29 := NB475_476.out; have hcz30_0 := bC BK476 0 (.slice none 0 0); have hcz30_1 := bC BK476 1 (.int .i64 x477001_1); have hfz30_0 := a' BK476.out 0; have hfz30_1 := a' BK476.out 1))
        refine bodyPost_ret (results_ct rfl _ _ gb476 24 #[.slice (some ad483) x483000_1.length co26, .int .i64 t481] (0, 0) _ rfl (by refine eK ?_; refine blk_put (cs := #[.slice (some ad483) x483000_1.length co26, .int .i64 x477001_1]) ?_ 1 _ rfl; refine eK ?_; refine blk_put (cs := #[.slice none 0 0, .int .i64 x477001_1]) ?_ 0 _ rfl; refine eK ?_; exact BK476.out) Try.underlying24 rfl (by kernel_rfl)) rfl ?_
        exact ⟨_, eE, by (with_reducible repeat (first | apply Kd.Q_alloc | apply Kd.Q_drewN | apply Kd.Q_drew)); exact Kd.Q_mono (Kd.Q_far (p := ⟨gb476, 1, none⟩) (Kd.Q_far (p := ⟨gb476, 0, none⟩) (Kd.Q_types HO_483000.out BK476.out (by decide)) (fun _ hk => hk.2) (.slice (some ad483) x483000_1.length co26)) (fun _ hk => hk.2) (.int .i64 t481)) (fun _ hk => trivial), eH HB⟩
       ·
        rw [if_neg c22] at H
        have c22b0 := decide_eq_false c22
        clear c22
        by_cases c31 : 1 ≤ (x483000_1.length : Int)
        ·
         rw [if_pos c31] at H
         have c31b0 := eq_true c31
         have c31b1 := decide_eq_true c31
         clear c31
         obtain ⟨y485, hy485⟩ : ∃ y_ : List (List Int), y_ = (x483000_1.drop (1 : Int).toNat) := ⟨_, rfl⟩
         replace H : (fanlightref06_Drop.l0 k1 a1 y485 t481) = some (r1, r2, r3) := by rw [hy485]; exact H
         have Ny485 := d' hy485
         clear hy485
         have H' := d' H
         clear H
         have hnb32 := NB482_475.out
         have hnc32 := NB475_482.out
         have hnb33 := NB482_476.out
         have hnc33 := NB476_482.out
         have hcz34_0 := bC BK482 0 (u483000)
         have hcz34_1 := bC BK482 1 (.int .i64 t481)
         have hfz34_0 := a' BK482.out 0
         have hfz34_1 := a' BK482.out 1
         obtain ⟨Ao35, co35, eo35, _⟩ := Kd.Q_slice HO_483000.out
         subst eo35
         have p483 : 0 ≤ (1 : Int) := (by omega)
         have q483 : 1 < (x483000_1.length : Int) := oD
         obtain ⟨ad483, A483_0, c483_0, e483, hx483_0, hl483_0, hi483_0⟩ := at_L1 (Kd.Q_reads' HO_483000.out).2.2 1 p483 q483
         cases e483
         (try simp only [show (1 : Int).toNat = 1 from rfl, Nat.reduceMul, Nat.reduceEqDiff, Go.Addr.add, ↓reduceIte] at hx483_0)
         have qi483 : (1 < x483000_1.length) = True := eq_true (by omega)
         (try rw [show ((1 : Int)).toNat = 1 from rfl] at hx483_0)
         have HR483_0 := d' hi483_0
         have HC483_0 := d' hl483_0
         clear hi483_0 hl483_0
         replace p483 := eq_true p483
         replace q483 := eq_true q483
         go_wp2_with (first | ((with_reducible refine gate_callee (f := 34) rfl ?_); refine gL 29 Try.func34 #[.slice A483_0 (rd_L1 x483000_1 1).length c483_0] (h := ?_); (with_reducible refine (fanlightref06_first.calls k1 _ _ (rd_L1 x483000_1 1) t484 _ ?side1 ?side2 A21.out).mono ?_); (case side1 => exact Kd.cC HR483_0); (case side2 => exact HC483_0.out); rintro e w36 ⟨rfl, hb⟩; refine ⟨_, rfl, ?_⟩; have n0_ := d' (Kd.Q_below (Kd.eQ HO_483000) hb); have n1_ := bB BK475 hb; have n2_ := bB BK476 hb; have n3_ := bB BK482 hb; have n4_ := d' (Kd.C_below (Kd.cC HR483_0) hb); have n5_ := d' (b' (eH HB) hb); clear HO_483000; clear BK475; clear BK476; clear BK482; clear HR483_0; clear HB; have HO_483000 := n0_; have BK475 := n1_; have BK476 := n2_; have BK482 := n3_; have HR483_0 := n4_; have HB := n5_; clear n0_ n1_ n2_ n3_ n4_ n5_; (try clear hb); (try clear hb2); (try clear hk); (try clear hi); have hcz37_0 := bC BK482 0 (.slice (some ad483) x483000_1.length co35); have hcz37_1 := bC BK482 1 (.int .i64 t481); have hfz37_0 := a' BK482.out 0; have hfz37_1 := a' BK482.out 1; have q38 : (1 : Int) ≤ ((x483000_1.length : Int) : Int) := oD; obtain ⟨i038, hi038, _, hsz38, _⟩ := info_parts info25; have hcut38 := cut_from (P := Try.prog) 22 25 .i64 Try.underlying22 hi038 1 hsz38 (some ad483) x483000_1.length co35 1 (by omega) q38; have hr38 := Kd.Q_drop (k := (1 : Int).toNat) HO_483000.out (by omega); obtain ⟨A38, hA38⟩ : ∃ A1, A1 = (if co35 = (1 : Int).toNat then (some ad483) else ((some ad483) : Option Addr).map (·.add ((1 : Int).toNat * 1))) := ⟨_, rfl⟩; obtain ⟨c38, hc38⟩ : ∃ c1, c1 = co35 - (1 : Int).toNat := ⟨_, rfl⟩; have hy38 : y485.length = x483000_1.length - (1 : Int).toNat := (by rw [Ny485.out, List.length_drop]); rw [← Ny485.out] at hr38; rw [← hy38, ← hA38, ← hc38] at hcut38; replace hr38 : Kd.Q (Kd.slice 5 (Kd.int .u8)) 25 w36 w.heap.size (fun _ => True) (.slice A38 y485.length c38) y485 := (by rw [hA38, hc38, hy38]; exact hr38); have HE38 : Aside0 ((Value.slice A38 y485.length c38).ownBlock = (.slice (some ad483) x483000_1.length co35 : Value).ownBlock) := ⟨by rw [hA38]; split <;> (cases ((some ad483) : Option Addr) <;> rfl)⟩; clear hy38 hi038 hsz38 HO_483000 hA38 hc38; have HO487 := d' hr38; clear hr38; replace q38 := eq_true q38))
         go_roundg k1
         case measure => have := HK1.out; omega
         case rel => exact ⟨(x477001_1), (y485), (.slice A38 y485.length c38), H', ⟨by have := HK1.out; omega⟩, ⟨by (with_reducible repeat (first | apply Kd.Q_alloc | apply Kd.Q_drewN | apply Kd.Q_drew)); exact Kd.Q_mono (Kd.Q_far (p := ⟨gb482, 0, none⟩) (Kd.Q_types HO487.out BK482.out (by decide)) (fun _ hk => hk.2) (.slice A38 y485.length c38)) (fun _ hk => trivial)⟩, ⟨by refine eK ?_; refine blk_far ?_ NB475_482.out _; refine eK ?_; exact BK475.out⟩, ⟨by refine eK ?_; refine blk_far ?_ NB476_482.out _; refine eK ?_; exact BK476.out⟩, ⟨by refine eK ?_; refine blk_put (cs := #[.slice (some ad483) x483000_1.length co35, .int .i64 t481]) ?_ 0 _ rfl; refine eK ?_; exact BK482.out⟩, ⟨eH HB⟩⟩
        ·
         rw [if_neg c31] at H
         exact absurd H (by simp)
      ·
       rw [if_neg c20] at H
       exact absurd H (by simp)
     ·
      rw [if_neg c19] at H
      have c19b0 := decide_eq_false c19
      have c19b1 : decide (1 < x483000_1.length) = false := decide_eq_false (by omega)
      clear c19
      by_cases c39 : (wrap64 (t481 - 1)) > a1
      ·
       rw [if_pos c39] at H
       have c39b0 := decide_eq_true c39
       clear c39
       simp only [Option.some.injEq, Prod.mk.injEq] at H
       obtain ⟨rfl, rfl, rfl⟩ := H
       have hnb40 := NB482_475.out
       have hnc40 := NB475_482.out
       have hnb41 := NB482_476.out
       have hnc41 := NB476_482.out
       have hcz42_0 := bC BK482 0 (u483000)
       have hcz42_1 := bC BK482 1 (.int .i64 t481)
       have hfz42_0 := a' BK482.out 0
       have hfz42_1 := a' BK482.out 1
       obtain ⟨Ao43, co43, eo43, _⟩ := Kd.Q_slice HO_483000.out
       subst eo43
       have hnb44 := NB476_475.out
       have hnc44 := NB475_476.out
       have hcz45_0 := bC BK476 0 (.slice none 0 0)
       have hcz45_1 := bC BK476 1 (.int .i64 x477001_1)
       have hfz45_0 := a' BK476.out 0
       have hfz45_1 := a' BK476.out 1
       go_wp2
       refine bodyPost_ret (results_ct rfl _ _ gb476 24 #[.slice Ao43 x483000_1.length co43, .int .i64 t481] (0, 0) _ rfl (by refine eK ?_; refine blk_put (cs := #[.slice Ao43 x483000_1.length co43, .int .i64 x477001_1]) ?_ 1 _ rfl; refine eK ?_; refine blk_put (cs := #[.slice none 0 0, .int .i64 x477001_1]) ?_ 0 _ rfl; refine eK ?_; exact BK476.out) Try.underlying24 rfl (by kernel_rfl)) rfl ?_
       exact ⟨_, eE, by (with_reducible repeat (first | apply Kd.Q_alloc | apply Kd.Q_drewN | apply Kd.Q_drew)); exact Kd.Q_mono (Kd.Q_far (p := ⟨gb476, 1, none⟩) (Kd.Q_far (p := ⟨gb476, 0, none⟩) (Kd.Q_types HO_483000.out BK476.out (by decide)) (fun _ hk => hk.2) (.slice Ao43 x483000_1.length co43)) (fun _ hk => hk.2) (.int .i64 t481)) (fun _ hk => trivial), eH HB⟩
      ·
       rw [if_neg c39] at H
       have c39b0 := decide_eq_false c39
       clear c39
       by_cases c46 : 1 ≤ (x483000_1.length : Int)
       ·
        rw [if_pos c46] at H
        have c46b0 := eq_true c46
        have c46b1 := decide_eq_true c46
        clear c46
        obtain ⟨y488, hy488⟩ : ∃ y_ : List (List Int), y_ = (x483000_1.drop (1 : Int).toNat) := ⟨_, rfl⟩
        replace H : (fanlightref06_Drop.l0 k1 a1 y488 t481) = some (r1, r2, r3) := by rw [hy488]; exact H
        have Ny488 := d' hy488
        clear hy488
        have H' := d' H
        clear H
        have hnb47 := NB482_475.out
        have hnc47 := NB475_482.out
        have hnb48 := NB482_476.out
        have hnc48 := NB476_482.out
        have hcz49_0 := bC BK482 0 (u483000)
        have hcz49_1 := bC BK482 1 (.int .i64 t481)
        have hfz49_0 := a' BK482.out 0
        have hfz49_1 := a' BK482.out 1
        obtain ⟨Ao50, co50, eo50, _⟩ := Kd.Q_slice HO_483000.out
        subst eo50
        have q51 : (1 : Int) ≤ ((x483000_1.length : Int) : Int) := oD
        obtain ⟨i051, hi051, _, hsz51, _⟩ := info_parts info25
        have hcut51 := cut_from (P := Try.prog) 22 25 .i64 Try.underlying22 hi051 1 hsz51 Ao50 x483000_1.length co50 1 (by omega) q51
        have hr51 := Kd.Q_drop (k := (1 : Int).toNat) HO_483000.out (by omega)
        obtain ⟨A51, hA51⟩ : ∃ A1, A1 = (if co50 = (1 : Int).toNat then Ao50 else (Ao50 : Option Addr).map (·.add ((1 : Int).toNat * 1))) := ⟨_, rfl⟩
        obtain ⟨c51, hc51⟩ : ∃ c1, c1 = co50 - (1 : Int).toNat := ⟨_, rfl⟩
        have hy51 : y488.length = x483000_1.length - (1 : Int).toNat := (by rw [Ny488.out, List.length_drop])
        rw [← Ny488.out] at hr51
        rw [← hy51, ← hA51, ← hc51] at hcut51
        replace hr51 : Kd.Q (Kd.slice 5 (Kd.int .u8)) 25 wr w.heap.size (fun _ => True) (.slice A51 y488.length c51) y488 := (by rw [hA51, hc51, hy51]; exact hr51)
        have HE51 : Aside0 ((Value.slice A51 y488.length c51).ownBlock = (.slice Ao50 x483000_1.length co50 : Value).ownBlock) := ⟨by rw [hA51]; split <;> (cases (Ao50 : Option Addr) <;> rfl)⟩
        clear hy51 hi051 hsz51 HO_483000 hA51 hc51
        have HO490 := d' hr51
        clear hr51
        replace q51 := eq_true q51
        go_wp2
        go_roundg k1
        case measure => have := HK1.out; omega
        case rel => exact ⟨(x477001_1), (y488), (.slice A51 y488.length c51), H', ⟨by have := HK1.out; omega⟩, ⟨by (with_reducible repeat (first | apply Kd.Q_alloc | apply Kd.Q_drewN | apply Kd.Q_drew)); exact Kd.Q_mono (Kd.Q_far (p := ⟨gb482, 0, none⟩) (Kd.Q_types HO490.out BK482.out (by decide)) (fun _ hk => hk.2) (.slice A51 y488.length c51)) (fun _ hk => trivial)⟩, ⟨by refine eK ?_; refine blk_far ?_ NB475_482.out _; refine eK ?_; exact BK475.out⟩, ⟨by refine eK ?_; refine blk_far ?_ NB476_482.out _; refine eK ?_; exact BK476.out⟩, ⟨by refine eK ?_; refine blk_put (cs := #[.slice Ao50 x483000_1.length co50, .int .i64 t481]) ?_ 0 _ rfl; refine eK ?_; exact BK482.out⟩, ⟨eH HB⟩⟩
       ·
        rw [if_neg c46] at H
        exact absurd H (by simp)
    ·
     rw [if_neg c18] at H
     have c18b0 := decide_eq_false c18
     have c18b1 : decide (0 < x483000_1.length) = false := decide_eq_false (by omega)
     clear c18
     simp only [Option.some.injEq, Prod.mk.injEq] at H
     obtain ⟨rfl, rfl, rfl⟩ := H
     have hnb52 := NB482_475.out
     have hnc52 := NB475_482.out
     have hnb53 := NB482_476.out
     have hnc53 := NB476_482.out
     have hcz54_0 := bC BK482 0 (u483000)
     have hcz54_1 := bC BK482 1 (.int .i64 t481)
     have hfz54_0 := a' BK482.out 0
     have hfz54_1 := a' BK482.out 1
     obtain ⟨Ao55, co55, eo55, _⟩ := Kd.Q_slice HO_483000.out
     subst eo55
     have hnb56 := NB476_475.out
     have hnc56 := NB475_476.out
     have hcz57_0 := bC BK476 0 (.slice none 0 0)
     have hcz57_1 := bC BK476 1 (.int .i64 x477001_1)
     have hfz57_0 := a' BK476.out 0
     have hfz57_1 := a' BK476.out 1
     go_wp2
     refine bodyPost_ret (results_ct rfl _ _ gb476 24 #[.slice Ao55 x483000_1.length co55, .int .i64 t481] (0, 0) _ rfl (by refine eK ?_; refine blk_put (cs := #[.slice Ao55 x483000_1.length co55, .int .i64 x477001_1]) ?_ 1 _ rfl; refine eK ?_; refine blk_put (cs := #[.slice none 0 0, .int .i64 x477001_1]) ?_ 0 _ rfl; refine eK ?_; exact BK476.out) Try.underlying24 rfl (by kernel_rfl)) rfl ?_
     exact ⟨_, eE, by (with_reducible repeat (first | apply Kd.Q_alloc | apply Kd.Q_drewN | apply Kd.Q_drew)); exact Kd.Q_mono (Kd.Q_far (p := ⟨gb476, 1, none⟩) (Kd.Q_far (p := ⟨gb476, 0, none⟩) (Kd.Q_types HO_483000.out BK476.out (by decide)) (fun _ hk => hk.2) (.slice Ao55 x483000_1.length co55)) (fun _ hk => hk.2) (.int .i64 t481)) (fun _ hk => trivial), eH HB⟩
 ·
  rw [if_neg c4] at H
  have c4b0 := beq_eq_false_iff_ne.mpr c4
  have c4b1 := bne_iff_ne.mpr c4
  simp only [Option.some.injEq, Prod.mk.injEq] at H
  obtain ⟨rfl, rfl, rfl⟩ := H
  go_enter Try.func19, Try.ntmps19
  go_wp2_with (first | ((with_reducible refine gate_dst (N := 2) rfl ?_); refine box_event ?hg (N := 2) ?hd (cs := #[.slice A0_0 l0_0.length c0_0, .int .i64 a0_1]) (t := 24) ?hr ?_; (case hd => rfl); (case hg => rfl); (case hr => go_simp <;> rfl); intro gb475 hg w58 hbox hb; have n0_ := d' (b' (eH HB) hb); have n1_ := d' (hbox); have n2_ := d' ((by rw [hg]; exact (c' (eH HB)) : w.heap.size ≤ gb475)); have n3_ := d' ((by rw [hg]; exact (c' (eH HB)) : w.heap.size ≤ gb475)); clear HB; have HB := n0_; have BK475 := n1_; have GW475 := n2_; have GE475 := n3_; clear n0_ n1_ n2_ n3_; clear hb hbox hg) | ((with_reducible refine gate_dst (N := 4) rfl ?_); refine box_event ?hg (N := 4) ?hd (cs := #[.slice none 0 0, .int .i64 0]) (t := 24) ?hr ?_; (case hd => rfl); (case hg => rfl); (case hr => go_simp <;> rfl); intro gb476 hg w59 hbox hb; have n0_ := bB BK475 hb; have n1_ := d' (b' (eH HB) hb); have n2_ := d' (hbox); have n3_ := d' ((by rw [hg]; exact (c' (eH HB)) : w.heap.size ≤ gb476)); have n4_ := d' ((by rw [hg]; exact (c' (eH HB)) : w.heap.size ≤ gb476)); have n5_ := nL hg BK475; have n6_ := nG hg BK475; clear BK475; clear HB; have BK475 := n0_; have HB := n1_; have BK476 := n2_; have GW476 := n3_; have GE476 := n4_; have NB475_476 := n5_; have NB476_475 := n6_; clear n0_ n1_ n2_ n3_ n4_ n5_ n6_; clear hb hbox hg; have hnb60 := NB475_476.out; have hnc60 := NB476_475.out; have hcz61_0 := bC BK475 0 (.slice A0_0 l0_0.length c0_0); have hcz61_1 := bC BK475 1 (.int .i64 a0_1); have hfz61_0 := a' BK475.out 0; have hfz61_1 := a' BK475.out 1) | ((with_reducible refine gate_callee (f := 22) rfl ?_); refine gL 9 Try.func22 #[.agg #[.slice A0_0 l0_0.length c0_0, .int .i64 a0_1]] (h := ?_); (with_reducible refine (fanlightref06_Check.calls k _ _ l0_0 a0_1 t477 _ ?side1 ?side2 A3.out).mono ?_); (case side1 => exact Kd.eC HR0_0 HB); (case side2 => exact HC0_0.out); rintro e w62 ⟨rfl, hb⟩; refine ⟨_, rfl, ?_⟩; have n0_ := bB BK475 hb; have n1_ := bB BK476 hb; have n2_ := d' (b' (eH HB) hb); clear BK475; clear BK476; clear HB; have BK475 := n0_; have BK476 := n1_; have HB := n2_; clear n0_ n1_ n2_; (try clear hb); (try clear hb2); (try clear hk); (try clear hi); have hcz63_0 := bC BK476 0 (.slice none 0 0); have hcz63_1 := bC BK476 1 (.int .i64 0); have hfz63_0 := a' BK476.out 0; have hfz63_1 := a' BK476.out 1))
  refine bodyPost_ret (results_ct rfl _ _ gb476 24 #[.slice none 0 0, .int .i64 0] (0, 0) _ rfl (by refine eK ?_; refine blk_put (cs := #[.slice none 0 0, .int .i64 0]) ?_ 1 _ rfl; refine eK ?_; refine blk_put (cs := #[.slice none 0 0, .int .i64 0]) ?_ 0 _ rfl; refine eK ?_; exact BK476.out) Try.underlying24 rfl (by kernel_rfl)) rfl ?_
  exact ⟨_, eE, Kd.Q_of_R ((Kd.S_R (nS))), eH HB⟩
end Go.Proofs.Ytgmkgobapeencaa.S
