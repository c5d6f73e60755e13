import Derived.Test.YtgmkgobapeencaaYS2
import Derived.Test.YtgmkgobapeencaaYAid3
import Derived.Test.YtgmkgobapeencaaYS7
import Derived.Test.YtgmkgobapeencaaYS30
namespace Go.Proofs.Ytgmkgobapeencaa.S
open Go.Proofs.YtgmkgobapeencaaW.PrintWords renaming blk_frozen → b'
open Go.Proofs.YtgmkgobapeencaaW.PrintWords.Aside0 renaming mk → c'
open Bool renaming true → Y, false → Z
open Go.RowKit Go.Proofs.YtgmkgobapeencaaW.PrintWords Go.Proofs.YtgmkgobapeencaaW.PrintLast Go.Proofs.YtgmkgobapeencaaW.PrintMore
attribute [local go_sem] max2_int min2_int max_two min_two max_three min_three max_four min_four
set_option linter.unusedVariables false
set_option linter.unusedSimpArgs false
mutual
def wal_Recover.j0 : Nat → List (List Int) → Int → Bool → Option ((List (List Int)) × Int × Int)
 | 0, _, _, _ => none
 | k + 1, x0, x1, x16 => if x16 = true then (some (([] : List (List Int)), 0, 4)) else (if (x0.length : Int) > 64 then (some (([] : List (List Int)), 0, 3)) else (wal_Recover.l0 k x0 (x0.length : Int) 0 ([] : List (List Int)) x1))
def wal_Recover.l0 : Nat → List (List Int) → Int → Int → List (List Int) → Int → Option ((List (List Int)) × Int × Int)
 | 0, _, _, _, _, _ => none
 | k + 1, x24, x25, x26, x271000, x271001 => if x26 < x25 then (if 0 ≤ x26 then (if x26 < (x24.length : Int) then (if 0 ≤ (mn ((rd_L1 x24 x26).length : Int) 480) then (if (mn ((rd_L1 x24 x26).length : Int) 480) ≤ ((rd_L1 x24 x26).length : Int) then ((some ((rd_L1 x24 x26).take ((mn ((rd_L1 x24 x26).length : Int) 480) : Int).toNat : List Int)).bind fun y272 => ((wal_Scan.f k y272 x271001).bind fun bt276 => (if bt276.2 = 0 then (wal_Recover.j2 k y272 bt276.1 bt276.2 x24 x25 x26 true x271000 x271001) else (wal_Recover.j2 k y272 bt276.1 bt276.2 x24 x25 x26 (decide ((bt276.1.length : Int) > (wrap64 (1099511627776 - x271001)))) x271000 x271001)))) else (none)) else (none)) else (none)) else (none)) else (some (x271000, x271001, 0))
def wal_Recover.j2 : Nat → List Int → List (S60) → Int → List (List Int) → Int → Int → Bool → List (List Int) → Int → Option ((List (List Int)) × Int × Int)
 | 0, _, _, _, _, _, _, _, _, _ => none
 | k + 1, x8, x9, x10, x24, x25, x26, x51, x271000, x271001 => if x51 = true then (some (x271000, x271001, 0)) else (if 0 ≤ x10 then (if x10 ≤ (x8.length : Int) then ((bytes_Clone.f (x8.take (x10 : Int).toNat)).bind fun t284 => (if x271000.length < 5864062014805 then ((some (x271000 ++ [t284] : List (List Int))).bind fun y287 => ((slices_ContainsFunc_byte_byte.f (x8.drop (x10 : Int).toNat)).bind fun t294 => (if t294 = true then (some (y287, wrap64 (x271001 + (x9.length : Int)), 0)) else (wal_Recover.l0 k x24 x25 (wrap64 (x26 + 1)) y287 (wrap64 (x271001 + (x9.length : Int))))))) else (none))) else (none)) else (none))
end
def wal_Recover.f (k : Nat) (l0 : List (List Int)) (a1 : Int) : Option ((List (List Int)) × Int × Int) := if a1 < 1 then (wal_Recover.j0 k l0 a1 true) else (wal_Recover.j0 k l0 a1 (decide (a1 > 1099511627776)))
theorem wal_Recover.mono_l : ∀ k, (∀ y0 y1 y2, LeO (wal_Recover.j0 k y0 y1 y2) (wal_Recover.j0 (k + 1) y0 y1 y2)) ∧ (∀ y0 y1 y2 y3 y4, LeO (wal_Recover.l0 k y0 y1 y2 y3 y4) (wal_Recover.l0 (k + 1) y0 y1 y2 y3 y4)) ∧ (∀ y0 y1 y2 y3 y4 y5 y6 y7 y8, LeO (wal_Recover.j2 k y0 y1 y2 y3 y4 y5 y6 y7 y8) (wal_Recover.j2 (k + 1) y0 y1 y2 y3 y4 y5 y6 y7 y8))
 | 0 => ⟨fun _ _ _ r h => by simp [wal_Recover.j0] at h, fun _ _ _ _ _ r h => by simp [wal_Recover.l0] at h, fun _ _ _ _ _ _ _ _ _ r h => by simp [wal_Recover.j2] at h⟩
 | k + 1 => by
  obtain ⟨ih0, ih1, ih2⟩ := wal_Recover.mono_l k
  refine ⟨?_, ?_, ?_⟩
  ·
   intro y0 y1 y2
   unfold wal_Recover.j0
   repeat' first
   | (with_reducible exact ih0 _ _ _)
   | (with_reducible exact ih1 _ _ _ _ _)
   | (with_reducible exact ih2 _ _ _ _ _ _ _ _ _)
   | (with_reducible exact wal_Scan.mono _ _ _)
   | with_reducible first | exact LeO.refl _ | exact LeO.none _ | refine LeO.ite ?_ ?_ | refine LeO.bind ?_ fun _ => ?_
  ·
   intro y0 y1 y2 y3 y4
   unfold wal_Recover.l0
   repeat' first
   | (with_reducible exact ih0 _ _ _)
   | (with_reducible exact ih1 _ _ _ _ _)
   | (with_reducible exact ih2 _ _ _ _ _ _ _ _ _)
   | (with_reducible exact wal_Scan.mono _ _ _)
   | with_reducible first | exact LeO.refl _ | exact LeO.none _ | refine LeO.ite ?_ ?_ | refine LeO.bind ?_ fun _ => ?_
  ·
   intro y0 y1 y2 y3 y4 y5 y6 y7 y8
   unfold wal_Recover.j2
   repeat' first
   | (with_reducible exact ih0 _ _ _)
   | (with_reducible exact ih1 _ _ _ _ _)
   | (with_reducible exact ih2 _ _ _ _ _ _ _ _ _)
   | (with_reducible exact wal_Scan.mono _ _ _)
   | with_reducible first | exact LeO.refl _ | exact LeO.none _ | refine LeO.ite ?_ ?_ | refine LeO.bind ?_ fun _ => ?_
theorem wal_Recover.mono : ∀ a0 a1 k, LeO (wal_Recover.f k a0 a1) (wal_Recover.f (k + 1) a0 a1) := by
 intro a0 a1 k
 obtain ⟨ih0, ih1, ih2⟩ := wal_Recover.mono_l k
 unfold wal_Recover.f
 repeat' first
   | (with_reducible exact ih0 _ _ _)
   | (with_reducible exact ih1 _ _ _ _ _)
   | (with_reducible exact ih2 _ _ _ _ _ _ _ _ _)
   | (with_reducible exact wal_Scan.mono _ _ _)
   | with_reducible first | exact LeO.refl _ | exact LeO.none _ | refine LeO.ite ?_ ?_ | refine LeO.bind ?_ fun _ => ?_
def wal_Recover.T12 : Bool × List (List Nat × List Nat) := (true,[([],[]),([0],[0]),([],[]),([],[]),([2,3],[2,3]),([4],[4]),([5],[5]),([1,6,5],[1,6]),([0,1,2,3,4,5,6,7],[]),([8,7,7,0,1,2,3,4,5,6,7],[7,8])])
def wal_Recover.B12 : List Nat := [0,1,0,0,12,28,60,127,255,511]
theorem wal_Recover.tab12 : rtab .any (opsOf Try.f25 12) = wal_Recover.T12 := by kernel_rfl
theorem wal_Recover.bits12 : waitsOk wal_Recover.T12.2 wal_Recover.B12 = true := by kernel_rfl
set_option maxHeartbeats 8000000 in
set_option maxRecDepth 100000 in
theorem wal_Recover.calls (k : Nat) (A0 : Option Addr) (c0 : Nat) (l0 : List (List Int)) (a1 : Int) (r1 : List (List Int)) (r2 : Int) (r3 : Int) (w : World) (hr0 : Kd.C (Kd.slice 5 (Kd.int .u8)) w A0 l0.length l0) (hc0 : l0.length ≤ c0) (h : wal_Recover.f k l0 a1 = some (r1, r2, r3)) :
  Calls Try.prog 25 #[.slice A0 l0.length c0, .int .i64 a1] w fun e w' => ∃ v0_ : Value, e = .returned (.tuple #[.agg #[v0_, .int .i64 r2], .int .i64 r3]) ∧ Kd.S (Kd.slice 5 (Kd.int .u8)) 25 w' w.heap.size (fun _ => True) v0_ r1 ∧ Below w.heap.size w w' := by
 have hu27 := Try.underlying27
 have HR0 := c' hr0
 have HC0 := c' hc0
 clear hr0 hc0
 have HB := c' (Below.refl w.heap.size w)
 have H : (if a1 < 1 then (wal_Recover.j0 k l0 a1 true) else (wal_Recover.j0 k l0 a1 (decide (a1 > 1099511627776)))) = some (r1, r2, r3) := h
 clear h
 have HC3 := c' H
 clear H
 go_enter Try.func25, Try.ntmps25
 go_upto_region 1 with (first | ((with_reducible refine gate_dst (N := 4) rfl ?_); (try (refine gate_guard (by rfl) ?_; dsimp only)); refine box_event ?hg (N := 4) ?hd (cs := #[.slice none 0 0, .int .i64 0]) (t := 27) ?hr ?_; (case hd => rfl); (case hg => rfl); (case hr => go_simp <;> rfl); intro gb269 hg w4 hbox hb; have n0_ := c' (below_step (eH HB) hb); have n1_ := c' (hbox); have n2_ := c' ((by rw [hg]; exact (below_size (eH HB)) : w.heap.size ≤ gb269)); have n3_ := c' ((by rw [hg]; exact (below_size (eH HB)) : w.heap.size ≤ gb269)); clear HB; have HB := n0_; have BK269 := n1_; have GW269 := n2_; have GE269 := n3_; clear n0_ n1_ n2_ n3_; clear hb hbox hg))
 (try simp only [Act.put, List.setIfInBounds_toArray, List.set_cons_zero, List.set_cons_succ])
 go_cut [16] (fun v16 wc => ∃ (kq : Nat) (x16_2 : Bool), v16 = .bool x16_2 ∧ Aside0 (wal_Recover.j0 kq l0 a1 x16_2 = some (r1, r2, r3)) ∧ Aside0 (kq ≤ k) ∧ Aside0 (wc.heap[gb269]? = some (.cells #[(.slice none 0 0), .int .i64 0] 27 (0, 0))) ∧ Aside0 (Below w.heap.size w wc))
 case first =>
  have H := HC3.out
  clear HC3
  by_cases c5 : a1 < 1
  ·
   rw [if_pos c5] at H
   have c5b0 := decide_eq_true c5
   clear c5
   (first | rw [c5b0] | (simp only [i64_w, i32_w]; rw [c5b0]) | rw [c5b1] | skip)
   have H' := c' H
   clear H
   go_wp2
   go_meet
   case rel => exact ⟨_, (true), rS, H', ⟨by first | omega | exact Nat.le_refl _⟩, ⟨eB BK269⟩, ⟨eH HB⟩⟩
  ·
   rw [if_neg c5] at H
   have c5b0 := decide_eq_false c5
   clear c5
   (first | rw [c5b0] | (simp only [i64_w, i32_w]; rw [c5b0]) | rw [c5b1] | skip)
   have H' := c' H
   clear H
   go_wp2
   go_meet
   case rel => exact ⟨_, (decide (a1 > 1099511627776)), rS, H', ⟨by first | omega | exact Nat.le_refl _⟩, ⟨eB BK269⟩, ⟨eH HB⟩⟩
 case rest =>
  clear HC3
  try clear c2
  try clear p2
  try clear c5
  try clear c5b0
  obtain ⟨kq, x16_2, rfl, HA, HJ2, BK269, HB⟩ := hcut
  cases kq with
  | zero => exact absurd HA.out (by simp [wal_Recover.j0])
  | succ kj2 =>
   have H := HA.out
   clear HA
   simp only [wal_Recover.j0] at H
   by_cases c6 : x16_2 = true
   ·
    subst c6
    have H1 : (some (([] : List (List Int)), 0, 4)) = some (r1, r2, r3) := by rw [if_pos rfl] at H; exact H
    clear H
    have H := H1
    clear H1
    simp only [Option.some.injEq, Prod.mk.injEq] at H
    obtain ⟨rfl, rfl, rfl⟩ := H
    have hcz7_0 := bC BK269 0 (.slice none 0 0)
    have hcz7_1 := bC BK269 1 (.int .i64 0)
    have hfz7_0 := b' BK269.out 0
    have hfz7_1 := b' BK269.out 1
    go_wp2
    refine bodyPost_ret (results_ct rfl _ _ gb269 27 #[.slice none 0 0, .int .i64 0] (0, 0) _ rfl (by refine eK ?_; refine blk_put (cs := #[.slice none 0 0, .int .i64 0]) ?_ 1 _ rfl; refine eK ?_; refine blk_put (cs := #[.slice none 0 0, .int .i64 0]) ?_ 0 _ rfl; refine eK ?_; exact BK269.out) Try.underlying27 rfl (by kernel_rfl)) rfl ?_
    exact ⟨_, eE, nS, eH HB⟩
   ·
    replace c6 := Bool.eq_false_iff.mpr c6
    subst c6
    have H1 : (if (l0.length : Int) > 64 then (some (([] : List (List Int)), 0, 3)) else (wal_Recover.l0 kj2 l0 (l0.length : Int) 0 ([] : List (List Int)) a1)) = some (r1, r2, r3) := by rw [if_neg (show ¬ (false = true) by decide)] at H; exact H
    clear H
    have H := H1
    clear H1
    by_cases c8 : (l0.length : Int) > 64
    ·
     rw [if_pos c8] at H
     have c8b0 := decide_eq_true c8
     have c8b1 : decide (64 < l0.length) = true := decide_eq_true (by omega)
     clear c8
     simp only [Option.some.injEq, Prod.mk.injEq] at H
     obtain ⟨rfl, rfl, rfl⟩ := H
     have hcz9_0 := bC BK269 0 (.slice none 0 0)
     have hcz9_1 := bC BK269 1 (.int .i64 0)
     have hfz9_0 := b' BK269.out 0
     have hfz9_1 := b' BK269.out 1
     go_wp2
     refine bodyPost_ret (results_ct rfl _ _ gb269 27 #[.slice none 0 0, .int .i64 0] (0, 0) _ rfl (by refine eK ?_; refine blk_put (cs := #[.slice none 0 0, .int .i64 0]) ?_ 1 _ rfl; refine eK ?_; refine blk_put (cs := #[.slice none 0 0, .int .i64 0]) ?_ 0 _ rfl; refine eK ?_; exact BK269.out) Try.underlying27 rfl (by kernel_rfl)) rfl ?_
     exact ⟨_, eE, nS, eH HB⟩
    ·
     rw [if_neg c8] at H
     have c8b0 := decide_eq_false c8
     have c8b1 : decide (64 < l0.length) = false := decide_eq_false (by omega)
     clear c8
     have H' := c' H
     clear H
     go_wp2_with (first | ((with_reducible refine gate_dst (N := 6) rfl ?_); (try (refine gate_guard (by rfl) ?_; dsimp only)); refine box_event ?hg (N := 6) ?hd (cs := #[.slice none 0 0, .int .i64 0]) (t := 27) ?hr ?_; (case hd => rfl); (case hg => rfl); (case hr => go_simp <;> rfl); intro gb270 hg w10 hbox hb; have n0_ := bB BK269 hb; have n1_ := c' (below_step (eH HB) hb); have n2_ := c' (hbox); have n3_ := c' ((by rw [hg]; exact (below_size (eH HB)) : w.heap.size ≤ gb270)); have n4_ := c' ((by rw [hg]; exact (below_size (eH HB)) : w.heap.size ≤ gb270)); have n5_ := nL hg BK269; have n6_ := nG hg BK269; clear BK269; clear HB; have BK269 := n0_; have HB := n1_; have BK270 := n2_; have GW270 := n3_; have GE270 := n4_; have NB269_270 := n5_; have NB270_269 := n6_; clear n0_ n1_ n2_ n3_ n4_ n5_ n6_; clear hb hbox hg; have hnb11 := NB270_269.out; have hnc11 := NB269_270.out; have hcz12_0 := bC BK270 0 (.slice none 0 0); have hcz12_1 := bC BK270 1 (.int .i64 0); have hfz12_0 := b' BK270.out 0; have hfz12_1 := b' BK270.out 1))
     go_loopg [26] kj2 (fun kq v26 w' => ∃ (x26_2 : Int) (x271000_2 : List (List Int)) (x271001_2 : Int) (u271000 : Value), v26 = .int .i64 x26_2 ∧ Aside0 (wal_Recover.l0 kq l0 (l0.length : Int) x26_2 x271000_2 x271001_2 = some (r1, r2, r3)) ∧ Aside0 (kq ≤ kj2) ∧ Aside0 (Kd.S (Kd.slice 5 (Kd.int .u8)) 25 w' w.heap.size (fun _ => True) u271000 x271000_2) ∧ Aside0 (w'.heap[gb269]? = some (.cells #[(.slice none 0 0), .int .i64 0] 27 (0, 0))) ∧ Aside0 (w'.heap[gb270]? = some (.cells #[u271000, .int .i64 x271001_2] 27 (0, 0))) ∧ Aside0 (Below w.heap.size w w'))
     case atStart => exact ⟨(0), (([] : List (List Int))), (a1), (.slice none 0 0), rS, H', ⟨Nat.le_refl _⟩, ⟨nS⟩, ⟨by refine eK ?_; refine blk_far ?_ NB269_270.out _; refine eK ?_; refine blk_far ?_ NB269_270.out _; refine eK ?_; exact BK269.out⟩, ⟨by refine eK ?_; refine blk_put (cs := #[.slice none 0 0, .int .i64 0]) ?_ 1 _ rfl; refine eK ?_; refine blk_put (cs := #[.slice none 0 0, .int .i64 0]) ?_ 0 _ rfl; refine eK ?_; exact BK270.out⟩, ⟨eH HB⟩⟩
     case round =>
      clear H'
      try clear c1
      try clear c2
      try clear p2
      try clear c5
      try clear c5b0
      try clear c6
      try clear c8
      try clear c8b0
      try clear c8b1
      try clear c11
      try clear hcz12_0
      try clear hcz12_1
      try clear hcz7_0
      try clear hcz7_1
      try clear hcz9_0
      try clear hcz9_1
      try clear hfz12_0
      try clear hfz12_1
      try clear hfz7_0
      try clear hfz7_1
      try clear hfz9_0
      try clear hfz9_1
      try clear p2
      obtain ⟨x26_2, x271000_2, x271001_2, u271000, rfl, HA, HK2, HO_271000, BK269, BK270, HB⟩ := hrel
      cases gk with
      | zero => exact absurd HA.out (by simp [wal_Recover.l0])
      | succ k2 =>
       have H := HA.out
       clear HA
       simp only [wal_Recover.l0] at H
       by_cases c13 : x26_2 < (l0.length : Int)
       ·
        rw [if_pos c13] at H
        have c13b0 := decide_eq_true c13
        clear c13
        by_cases c14 : 0 ≤ x26_2
        ·
         rw [if_pos c14] at H
         have c14b0 := decide_eq_true c14
         clear c14
         by_cases c15 : x26_2 < (l0.length : Int)
         ·
          rw [if_pos c15] at H
          have c15b0 := decide_eq_true c15
          clear c15
          obtain ⟨ji16, hji16⟩ : ∃ j_ : Int, (mn ((rd_L1 l0 x26_2).length : Int) 480) = j_ := ⟨_, rfl⟩
          replace H : (if 0 ≤ (ji16) then (if (ji16) ≤ ((rd_L1 l0 x26_2).length : Int) then ((some ((rd_L1 l0 x26_2).take ((ji16) : Int).toNat : List Int)).bind fun y272 => ((wal_Scan.f k2 y272 x271001_2).bind fun bt276 => (if bt276.2 = 0 then (wal_Recover.j2 k2 y272 bt276.1 bt276.2 l0 (l0.length : Int) x26_2 true x271000_2 x271001_2) else (wal_Recover.j2 k2 y272 bt276.1 bt276.2 l0 (l0.length : Int) x26_2 (decide ((bt276.1.length : Int) > (wrap64 (1099511627776 - x271001_2)))) x271000_2 x271001_2)))) else (none)) else (none)) = some (r1, r2, r3) := by first | (rw [hji16] at H; exact H) | (simp only [hji16] at H ⊢; exact H)
          have hji16_ : (if 480 < ((rd_L1 l0 x26_2).length : Int) then 480 else ((rd_L1 l0 x26_2).length : Int)) = ji16 := hji16
          by_cases c17 : 0 ≤ (ji16)
          ·
           rw [if_pos c17] at H
           have c17b0 := eq_true c17
           have c17b1 := decide_eq_true c17
           clear c17
           by_cases c18 : (ji16) ≤ ((rd_L1 l0 x26_2).length : Int)
           ·
            rw [if_pos c18] at H
            have c18b0 := eq_true c18
            have c18b1 := decide_eq_true c18
            clear c18
            obtain ⟨y272, hy272⟩ : ∃ y_ : List Int, y_ = ((rd_L1 l0 x26_2).take ((ji16) : Int).toNat) := ⟨_, rfl⟩
            replace H : ((wal_Scan.f k2 y272 x271001_2).bind fun bt276 => (if bt276.2 = 0 then (wal_Recover.j2 k2 y272 bt276.1 bt276.2 l0 (l0.length : Int) x26_2 true x271000_2 x271001_2) else (wal_Recover.j2 k2 y272 bt276.1 bt276.2 l0 (l0.length : Int) x26_2 (decide ((bt276.1.length : Int) > (wrap64 (1099511627776 - x271001_2)))) x271000_2 x271001_2))) = some (r1, r2, r3) := by rw [hy272]; exact H
            have Ny272 := c' hy272
            clear hy272
            replace H := Option.bind_eq_some_iff.mp H
            obtain ⟨⟨t276, t277⟩, A190, H⟩ := H
            (try dsimp only at H)
            have A19 := c' A190
            clear A190
            have HC20 := c' H
            clear H
            have p271 : 0 ≤ (x26_2 : Int) := oD
            have q271 : x26_2 < (l0.length : Int) := oD
            obtain ⟨ad271, A271_0, c271_0, e271, hx271_0, hl271_0, hi271_0⟩ := at_L1 HR0.out x26_2 p271 q271
            cases e271
            replace hx271_0 := (HB.out.cell (World.block_lt_of_cell? w _ hx271_0)).trans hx271_0
            have HR271_0 := c' hi271_0
            have HC271_0 := c' hl271_0
            clear hi271_0 hl271_0
            replace p271 := eq_true p271
            replace q271 := eq_true q271
            have q21 : ((ji16) : Int) ≤ (((rd_L1 l0 x26_2).length : Int) : Int) := oD
            obtain ⟨i021, hi021, _, hsz21, _⟩ := info_parts info5
            have hroom21 : (rd_L1 l0 x26_2).length ≤ c271_0 := HC271_0.out
            have hC21 : Kd.C (Kd.int .u8) _ A271_0 (rd_L1 l0 x26_2).length (rd_L1 l0 x26_2) := HR271_0.out
            have hcut21 := cut_to (P := Try.prog) 25 5 .i64 Try.underlying25 hi021 A271_0 (rd_L1 l0 x26_2).length c271_0 (ji16) (oD) q21 hroom21
            have hr21 := Kd.C_take (m := ((ji16) : Int).toNat) hC21 (by omega)
            have hy21 : y272.length = ((ji16) : Int).toNat := (by rw [Ny272.out, List.length_take]; omega)
            rw [← Ny272.out] at hr21
            rw [← hy21] at hcut21
            have HR275 := c' hr21
            have HC275 := c' (show y272.length ≤ c271_0 from by omega)
            clear hr21 hC21 hroom21 hi021 hsz21
            have KY21 := c' hy21
            clear hy21
            replace q21 := eq_true q21
            have hnb22 := NB270_269.out
            have hnc22 := NB269_270.out
            have hcz23_0 := bC BK270 0 (u271000)
            have hcz23_1 := bC BK270 1 (.int .i64 x271001_2)
            have hfz23_0 := b' BK270.out 0
            have hfz23_1 := b' BK270.out 1
            go_upto_region 11 with (first | ((with_reducible refine gate_callee (f := 36) rfl ?_); refine gL 39 Try.func36 #[.slice A271_0 y272.length c271_0, .int .i64 x271001_2] (h := ?_); (with_reducible refine (wal_Scan.calls k2 _ _ y272 x271001_2 t276 t277 _ ?side1 ?side2 A19.out).mono ?_); (case side1 => exact Kd.eC HR275 HB); (case side2 => exact HC275.out); rintro e w24 ⟨v278, rfl, ho0, hb⟩; refine ⟨_, rfl, ?_⟩; have n0_ := c' (Kd.S_below (Kd.eS HO_271000) hb); have n1_ := c' (Kd.S_lower ho0 (below_size (eH HB))); have n2_ := bB BK269 hb; have n3_ := bB BK270 hb; have n4_ := c' (below_step (eH HB) hb); clear HO_271000; clear BK269; clear BK270; clear HB; have HO_271000 := n0_; have HO279 := n1_; have BK269 := n2_; have BK270 := n3_; have HB := n4_; clear n0_ n1_ n2_ n3_ n4_; (try clear hb); (try clear hb2); (try clear hk); (try clear hi); (try clear ho0)))
            (try simp only [Act.put, List.setIfInBounds_toArray, List.set_cons_zero, List.set_cons_succ])
            go_cut [51] (fun v51 wc => ∃ (kq : Nat) (x51_19 : Bool), v51 = .bool x51_19 ∧ Aside0 (wal_Recover.j2 kq y272 t276 t277 l0 (l0.length : Int) x26_2 x51_19 x271000_2 x271001_2 = some (r1, r2, r3)) ∧ Aside0 (kq ≤ k2) ∧ Aside0 (Kd.S k60 60 wc w.heap.size (fun _ => True) v278 t276) ∧ Aside0 (Kd.S (Kd.slice 5 (Kd.int .u8)) 25 wc w.heap.size (fun _ => True) u271000 x271000_2) ∧ Aside0 (wc.heap[gb269]? = some (.cells #[(.slice none 0 0), .int .i64 0] 27 (0, 0))) ∧ Aside0 (wc.heap[gb270]? = some (.cells #[u271000, .int .i64 x271001_2] 27 (0, 0))) ∧ Aside0 (Below w.heap.size w wc))
            case first =>
             have H := HC20.out
             clear HC20
             by_cases c25 : t277 = 0
             ·
              rw [if_pos c25] at H
              have c25b0 := beq_iff_eq.mpr c25
              have c25b1 := bne_eq_false_iff_eq.mpr c25
              clear c25
              (first | rw [c25b0] | (simp only [i64_w, i32_w]; rw [c25b0]) | rw [c25b1] | skip)
              have H' := c' H
              clear H
              go_wp2
              go_meet
              case rel => exact ⟨_, (true), rS, H', ⟨by have := HJ2.out; have := HK2.out; first | omega | exact Nat.le_refl _⟩, ⟨Kd.eS HO279⟩, ⟨Kd.eS HO_271000⟩, ⟨eB BK269⟩, ⟨eB BK270⟩, ⟨eH HB⟩⟩
             ·
              rw [if_neg c25] at H
              have c25b0 := beq_eq_false_iff_ne.mpr c25
              have c25b1 := bne_iff_ne.mpr c25
              (first | rw [c25b0] | (simp only [i64_w, i32_w]; rw [c25b0]) | rw [c25b1] | skip)
              have H' := c' H
              clear H
              obtain ⟨Ao26, co26, eo26⟩ := Kd.S_slice HO279.out
              subst eo26
              have hnb27 := NB270_269.out
              have hnc27 := NB269_270.out
              have hcz28_0 := bC BK270 0 (u271000)
              have hcz28_1 := bC BK270 1 (.int .i64 x271001_2)
              have hfz28_0 := b' BK270.out 0
              have hfz28_1 := b' BK270.out 1
              go_wp2
              go_meet
              case rel => exact ⟨_, (decide ((t276.length : Int) > (wrap64 (1099511627776 - x271001_2)))), rS, H', ⟨by have := HJ2.out; have := HK2.out; first | omega | exact Nat.le_refl _⟩, ⟨Kd.eS HO279⟩, ⟨Kd.eS HO_271000⟩, ⟨eB BK269⟩, ⟨eB BK270⟩, ⟨eH HB⟩⟩
            case rest =>
             clear HC20
             try clear c1
             try clear c2
             try clear p2
             try clear q2
             try clear hx2
             try clear c3
             try clear c5
             try clear c5b0
             try clear c6
             try clear p6
             try clear c8
             try clear c8b0
             try clear c8b1
             try clear c11
             try clear c13
             try clear c13b0
             try clear c14
             try clear c14b0
             try clear c15
             try clear c15b0
             try clear c17
             try clear c17b0
             try clear c17b1
             try clear c18
             try clear c18b0
             try clear c18b1
             try clear q21
             try clear c22
             try clear c25
             try clear c25b0
             try clear c25b1
             try clear c27
             try clear p27
             try clear q27
             try clear hx27
             try clear hcz12_0
             try clear hcz12_1
             try clear hcz23_0
             try clear hcz23_1
             try clear hcz28_0
             try clear hcz28_1
             try clear hcz7_0
             try clear hcz7_1
             try clear hcz9_0
             try clear hcz9_1
             try clear hfz12_0
             try clear hfz12_1
             try clear hfz23_0
             try clear hfz23_1
             try clear hfz28_0
             try clear hfz28_1
             try clear hfz7_0
             try clear hfz7_1
             try clear hfz9_0
             try clear hfz9_1
             try clear hx271_0
             try clear p2
             try clear p271
             try clear q21
             try clear q271
             obtain ⟨kq, x51_19, rfl, HA, HJ19, HO_9, HO_271000, BK269, BK270, HB⟩ := hcut
             cases kq with
             | zero => exact absurd HA.out (by simp [wal_Recover.j2])
             | succ kj19 =>
              have H := HA.out
              clear HA
              simp only [wal_Recover.j2] at H
              by_cases c29 : x51_19 = true
              ·
               subst c29
               have H1 : (some (x271000_2, x271001_2, 0)) = some (r1, r2, r3) := by rw [if_pos rfl] at H; exact H
               clear H
               have H := H1
               clear H1
               simp only [Option.some.injEq, Prod.mk.injEq] at H
               obtain ⟨rfl, rfl, rfl⟩ := H
               have hnb30 := NB270_269.out
               have hnc30 := NB269_270.out
               have hcz31_0 := bC BK270 0 (u271000)
               have hcz31_1 := bC BK270 1 (.int .i64 x271001_2)
               have hfz31_0 := b' BK270.out 0
               have hfz31_1 := b' BK270.out 1
               obtain ⟨Ao32, co32, eo32⟩ := Kd.S_slice HO_271000.out
               subst eo32
               have hcz33_0 := bC BK269 0 (.slice none 0 0)
               have hcz33_1 := bC BK269 1 (.int .i64 0)
               have hfz33_0 := b' BK269.out 0
               have hfz33_1 := b' BK269.out 1
               go_wp2
               refine bodyPost_ret (results_ct rfl _ _ gb269 27 #[.slice Ao32 x271000_2.length co32, .int .i64 x271001_2] (0, 0) _ rfl (by refine eK ?_; refine blk_put (cs := #[.slice Ao32 x271000_2.length co32, .int .i64 0]) ?_ 1 _ rfl; refine eK ?_; refine blk_put (cs := #[.slice none 0 0, .int .i64 0]) ?_ 0 _ rfl; refine eK ?_; exact BK269.out) Try.underlying27 rfl (by kernel_rfl)) rfl ?_
               exact ⟨_, by first | rfl | (simp [errW_none, errW_some] <;> rfl) | (simp only [← hji16]; first | rfl | (simp [errW_none, errW_some] <;> rfl)) | (simp [*, errW_none, errW_some] <;> rfl), by (with_reducible repeat (first | apply Kd.S_alloc | apply Kd.S_drewN | apply Kd.S_drew)); exact Kd.S_mono (Kd.S_far (p := ⟨gb269, 1, none⟩) (Kd.S_far (p := ⟨gb269, 0, none⟩) (Kd.S_types HO_271000.out BK269.out (by decide)) (fun _ hk => hk.2) (.slice Ao32 x271000_2.length co32)) (fun _ hk => hk.2) (.int .i64 x271001_2)) (fun _ hk => trivial), eH HB⟩
              ·
               replace c29 := Bool.eq_false_iff.mpr c29
               subst c29
               have H1 : (if 0 ≤ t277 then (if t277 ≤ (y272.length : Int) then ((bytes_Clone.f (y272.take (t277 : Int).toNat)).bind fun t284 => (if x271000_2.length < 5864062014805 then ((some (x271000_2 ++ [t284] : List (List Int))).bind fun y287 => ((slices_ContainsFunc_byte_byte.f (y272.drop (t277 : Int).toNat)).bind fun t294 => (if t294 = true then (some (y287, wrap64 (x271001_2 + (t276.length : Int)), 0)) else (wal_Recover.l0 kj19 l0 (l0.length : Int) (wrap64 (x26_2 + 1)) y287 (wrap64 (x271001_2 + (t276.length : Int))))))) else (none))) else (none)) else (none)) = some (r1, r2, r3) := by rw [if_neg (show ¬ (false = true) by decide)] at H; exact H
               clear H
               have H := H1
               clear H1
               by_cases c34 : 0 ≤ t277
               ·
                rw [if_pos c34] at H
                have c34b0 := eq_true c34
                have c34b1 := decide_eq_true c34
                clear c34
                by_cases c35 : t277 ≤ (y272.length : Int)
                ·
                 rw [if_pos c35] at H
                 have c35b0 := eq_true c35
                 have c35b1 := decide_eq_true c35
                 clear c35
                 obtain ⟨y280, hy280⟩ : ∃ y_ : List Int, y_ = (y272.take (t277 : Int).toNat) := ⟨_, rfl⟩
                 replace H : ((bytes_Clone.f y280).bind fun t284 => (if x271000_2.length < 5864062014805 then ((some (x271000_2 ++ [t284] : List (List Int))).bind fun y287 => ((slices_ContainsFunc_byte_byte.f (y272.drop (t277 : Int).toNat)).bind fun t294 => (if t294 = true then (some (y287, wrap64 (x271001_2 + (t276.length : Int)), 0)) else (wal_Recover.l0 kj19 l0 (l0.length : Int) (wrap64 (x26_2 + 1)) y287 (wrap64 (x271001_2 + (t276.length : Int))))))) else (none))) = some (r1, r2, r3) := by rw [hy280]; exact H
                 have Ny280 := c' hy280
                 clear hy280
                 replace H := Option.bind_eq_some_iff.mp H
                 obtain ⟨t284, A360, H⟩ := H
                 (try dsimp only at H)
                 have A36 := c' A360
                 clear A360
                 by_cases c37 : x271000_2.length < 5864062014805
                 ·
                  rw [if_pos c37] at H
                  have LMc37 := c' c37
                  clear c37
                  obtain ⟨y287, hy287⟩ : ∃ y_ : List (List Int), y_ = (x271000_2 ++ [t284]) := ⟨_, rfl⟩
                  replace H : ((slices_ContainsFunc_byte_byte.f (y272.drop (t277 : Int).toNat)).bind fun t294 => (if t294 = true then (some (y287, wrap64 (x271001_2 + (t276.length : Int)), 0)) else (wal_Recover.l0 kj19 l0 (l0.length : Int) (wrap64 (x26_2 + 1)) y287 (wrap64 (x271001_2 + (t276.length : Int)))))) = some (r1, r2, r3) := by rw [hy287]; exact H
                  have Ny287 := c' hy287
                  clear hy287
                  have c38b0 := eq_true (oD : 0 ≤ t277)
                  have c39b0 := eq_true (oD : t277 ≤ (y272.length : Int))
                  obtain ⟨y290, hy290⟩ : ∃ y_ : List Int, y_ = (y272.drop (t277 : Int).toNat) := ⟨_, rfl⟩
                  replace H : ((slices_ContainsFunc_byte_byte.f y290).bind fun t294 => (if t294 = true then (some (y287, wrap64 (x271001_2 + (t276.length : Int)), 0)) else (wal_Recover.l0 kj19 l0 (l0.length : Int) (wrap64 (x26_2 + 1)) y287 (wrap64 (x271001_2 + (t276.length : Int)))))) = some (r1, r2, r3) := by rw [hy290]; exact H
                  have Ny290 := c' hy290
                  clear hy290
                  replace H := Option.bind_eq_some_iff.mp H
                  obtain ⟨t294, A400, H⟩ := H
                  (try dsimp only at H)
                  have A40 := c' A400
                  clear A400
                  by_cases c41 : t294 = true
                  ·
                   subst c41
                   have H1 : (some (y287, wrap64 (x271001_2 + (t276.length : Int)), 0)) = some (r1, r2, r3) := by rw [if_pos rfl] at H; exact H
                   clear H
                   have H := H1
                   clear H1
                   simp only [Option.some.injEq, Prod.mk.injEq] at H
                   obtain ⟨rfl, rfl, rfl⟩ := H
                   try go_wp2
                   have n0_ := c' (Kd.S_drew HO_9.out)
                   have n1_ := c' (Kd.S_drew HO_271000.out)
                   have n2_ := c' (blk_drew BK269.out)
                   have n3_ := c' (blk_drew BK270.out)
                   have n4_ := c' (below_drew1 HB.out)
                   clear HO_9
                   clear HO_271000
                   clear BK269
                   clear BK270
                   clear HB
                   have HO_9 := n0_
                   have HO_271000 := n1_
                   have BK269 := n2_
                   have BK270 := n3_
                   have HB := n4_
                   clear n0_ n1_ n2_ n3_ n4_
                   have q43 : (t277 : Int) ≤ ((y272.length : Int) : Int) := oD
                   obtain ⟨i043, hi043, _, hsz43, _⟩ := info_parts info5
                   have hroom43 : y272.length ≤ c271_0 := HC275.out
                   have hC43 : Kd.C (Kd.int .u8) _ A271_0 y272.length y272 := HR275.out
                   have hcut43 := cut_to (P := Try.prog) 25 5 .i64 Try.underlying25 hi043 A271_0 y272.length c271_0 t277 (oD) q43 hroom43
                   have hr43 := Kd.C_take (m := (t277 : Int).toNat) hC43 (by omega)
                   have hy43 : y280.length = (t277 : Int).toNat := (by rw [Ny280.out, List.length_take]; omega)
                   rw [← Ny280.out] at hr43
                   rw [← hy43] at hcut43
                   have HR283 := c' hr43
                   have HC283 := c' (show y280.length ≤ c271_0 from by omega)
                   clear hr43 hC43 hroom43 hi043 hsz43
                   have KY43 := c' hy43
                   clear hy43
                   replace q43 := eq_true q43
                   refine start_ (n := 10) (S := fun w' => w'.cell? ⟨gb270, 0, none⟩ = some (u271000) ∧ w'.cell? ⟨gb270, 1, none⟩ = some (.int .i64 x271001_2)) (ds := [9]) #[Z,Z,Z,Z,Z,Z,Z,Z,Z,Z] (by kernel_rfl) rfl rfl ⟨(blk_cell BK270.out 0).trans rfl, (blk_cell BK270.out 1).trans rfl⟩ (fun hHeld => ?_); refine with_tabW wal_Recover.tab12 wal_Recover.bits12 (fun HT_ HW_ => ?_)
                   generalize wc.drew = w42 at HO_9 HO_271000 BK269 BK270 HB HR283 hHeld ⊢
                   refine pP 0 52 #[Y,Z,Z,Z,Z,Z,Z,Z,Z,Z] HT_ (h := ?_)
                   refine pP 2 54 #[Y,Z,Y,Z,Z,Z,Z,Z,Z,Z] HT_ (h := ?_)
                   refine pP 3 55 #[Y,Z,Y,Y,Z,Z,Z,Z,Z,Z] HT_ (h := ?_)
                   refine pP 4 56 #[Y,Z,Y,Y,Y,Z,Z,Z,Z,Z] HT_ (h := ?_)
                   refine tP 1 53 #[Y,Y,Y,Y,Y,Z,Z,Z,Z,Z] HT_ HW_ hHeld (hy := by refine Or.inl ⟨by rfl, ?_⟩; rintro w' ⟨s0, s1⟩; go_simp; with_reducible rfl) (h := ?_)
                   refine one_ (i := 5) (N := some 57) #[Y,Y,Y,Y,Y,Y,Z,Z,Z,Z] rfl rfl (one_of HT_.out (by kernel_rfl)) (by decide) (fun K hK => ?_)
                   refine goes_ Try.func37 (by kernel_rfl) rfl #[.slice A271_0 y280.length c271_0] (by rfl) rfl rfl (by (try simp only [List.map_toArray, List.map_cons, List.map_nil]); first | done | rfl | (simp only [List.length_drop, List.length_take]; rfl)) ?_
                   with_reducible refine (bytes_Clone.calls _ _ y280 t284 _ ?side1 ?side2 A36.out).mono ?_
                   (case side1 => exact Kd.eC HR283 HB)
                   (case side2 => exact HC283.out)
                   rintro e w44 ⟨v285, rfl, ho0, hb⟩
                   refine ⟨_, rfl, ?_⟩
                   have n0_ := c' (Kd.S_elder' (Kd.eS HO_9) (Kd.R_base ho0) hb)
                   have n1_ := c' (Kd.S_elder' (Kd.eS HO_271000) (Kd.R_base ho0) hb)
                   have n2_ := c' (Kd.R_lower ho0 (below_size (eH HB)))
                   have n3_ := bB BK269 hb
                   have n4_ := bB BK270 hb
                   have n5_ := c' (below_step (eH HB) hb)
                   clear HO_9
                   clear HO_271000
                   clear BK269
                   clear BK270
                   clear HB
                   have HO_9 := n0_
                   have HO_271000 := n1_
                   have HO286 := n2_
                   have BK269 := n3_
                   have BK270 := n4_
                   have HB := n5_
                   clear n0_ n1_ n2_ n3_ n4_ n5_
                   (try clear hb)
                   (try clear hb2)
                   (try clear hk)
                   (try clear hi)
                   (try clear ho0)
                   obtain ⟨Ao46, co46, eo46⟩ := Kd.R_slice HO286.out
                   (first | subst eo46 | (injection eo46 with f1_ f2_ f3_; have f4_ := f1_.symm; have f5_ := f3_.symm; clear f1_ f2_ f3_; subst f4_; subst f5_))
                   refine hK.out _ _ ⟨(blk_cell BK270.out 0).trans rfl, (blk_cell BK270.out 1).trans rfl⟩ (fun hHeld => ?_)
                   clear hK K
                   refine norm_ (a' := ?_) ?_ ?_
                   rotate_left
                   ·
                    show Act.put _ (some 57) _ = _
                    exact uP
                   refine one_ (i := 6) (N := some 58) #[Y,Y,Y,Y,Y,Y,Y,Z,Z,Z] rfl rfl (one_of HT_.out (by kernel_rfl)) (by decide) (fun K hK => ?_)
                   refine value_ (w1 := ?_) (v := ?_) (by rfl) rfl ?_ ?_
                   rotate_left 2
                   ·
                    go_simp
                    constructor
                    ·
                     rfl
                    ·
                     rfl
                   refine hK.out _ _ ⟨(blk_cell (blk_alloc BK270.out _) 0).trans rfl, (blk_cell (blk_alloc BK270.out _) 1).trans rfl⟩ (fun hHeld => ?_)
                   clear hK K
                   refine norm_ (a' := ?_) ?_ ?_
                   rotate_left
                   ·
                    show Act.put _ (some 58) _ = _
                    exact uP
                   refine one_ (i := 7) (N := some 59) #[Y,Y,Y,Y,Y,Y,Y,Y,Z,Z] rfl rfl (one_of HT_.out (by kernel_rfl)) (by decide) (fun K hK => ?_)
                   refine Kd.S_append_step (Kd.slice 5 (Kd.int .u8)) (w0 := w) w.heap.size (by rfl) (.tmp 53) (.tmp 58) 22 25 (.slice none 0 0) 24 rfl Try.underlying22 info25 rfl (by decide) (by omega) u271000 x271000_2 t284 [.slice Ao46 t284.length co46] (fun _ => True) (fun k_ => some k_ = (.slice Ao46 t284.length co46 : Value).ownBlock) rfl rfl ?aP (fun k_ hk_ => ((Kd.R_mono (ok' := fun k_ => ((fun _ => True)) k_ ∧ some k_ ≠ (u271000 : Value).ownBlock) (Kd.R_apart' (HO286.out) (Kd.S_typed HO_271000.out) (by decide)) (fun k_ hk => ⟨trivial, hk.2⟩))).1 k_ hk_.symm) ?aF ?aO ?aB ?aS ?aL ?_
                   (case aP => exact Kd.M_row (Kd.R_mono (Kd.R_tight rfl (Kd.R_mono (ok' := fun k_ => ((fun _ => True)) k_ ∧ some k_ ≠ (u271000 : Value).ownBlock) (Kd.R_apart' (HO286.out) (Kd.S_typed HO_271000.out) (by decide)) (fun k_ hk => ⟨trivial, hk.2⟩))) (fun _ h_ => h_)))
                   (case aB => exact (eH HB))
                   (case aF => exact (fun _ _ => trivial))
                   (case aO => exact (Kd.kS (Kd.S_mono HO_271000.out (fun k_ hk => ⟨trivial, fun e_ => hk.2 e_⟩))))
                   (case aS => exact (below_size (eH HB)))
                   (case aL => have := LMc37.out; omega)
                   intro v288 w45 ho hb hg hat
                   rw [← Ny287.out] at ho
                   have n0_ := c' (Kd.S_over' (Kd.eS HO_9) (Kd.S_typed (Kd.eS HO_271000)) (by decide) hg)
                   have n1_ := c' (blk_grown (g := gb269) (o := .cells #[.slice none 0 0, .int .i64 0] 27 (0, 0)) (eB BK269) hg (Kd.S_ne HO_271000.out BK269.out (by decide)))
                   have n2_ := c' (blk_grown (g := gb270) (o := .cells #[u271000, .int .i64 x271001_2] 27 (0, 0)) (eB BK270) hg (Kd.S_ne HO_271000.out BK270.out (by decide)))
                   have n3_ := c' (hb)
                   have n4_ := c' (ho)
                   clear HO_9
                   clear BK269
                   clear BK270
                   clear HB
                   clear HO_271000
                   clear HO286
                   have HO_9 := n0_
                   have BK269 := n1_
                   have BK270 := n2_
                   have HB := n3_
                   have HO289 := n4_
                   clear n0_ n1_ n2_ n3_ n4_
                   clear ho hb hg hat
                   obtain ⟨Ao47, co47, eo47⟩ := Kd.S_slice HO289.out
                   (first | subst eo47 | (injection eo47 with f1_ f2_ f3_; have f4_ := f1_.symm; have f5_ := f3_.symm; clear f1_ f2_ f3_; subst f4_; subst f5_))
                   refine hK.out _ _ ⟨(blk_cell BK270.out 0).trans rfl, (blk_cell BK270.out 1).trans rfl⟩ (fun hHeld => ?_)
                   clear hK K
                   refine norm_ (a' := ?_) ?_ ?_
                   rotate_left
                   ·
                    show Act.put _ (some 59) _ = _
                    exact uP
                   refine pP 8 60 #[Y,Y,Y,Y,Y,Y,Y,Y,Y,Z] HT_ (h := ?_)
                   refine last_ (i := 9) (N := none) #[Y,Y,Y,Y,Y,Y,Y,Y,Y,Y] rfl rfl (one_of HT_.out (by kernel_rfl)) (by decide) (fun K hK => ?_)
                   have hs48 : w45.cell? ⟨gb270, 0, none⟩ = some (u271000) := (blk_cell BK270.out 0).trans rfl
                   have hfs48 := b' BK270.out 0
                   have hns48_0 := NB269_270.out
                   have hms48_0 := NB270_269.out
                   refine skip_ (w1 := ?_) (by rfl) rfl ?_ ?_
                   rotate_left
                   ·
                    go_simp
                    rfl
                   refine hK.out _ _ ?_
                   clear hK K
                   refine done_ (done_of HT_.out (by kernel_rfl)) ?_
                   have n0_ : Aside0 (Kd.S k60 60 (w45.setCell ⟨gb270, 0, none⟩ (.slice Ao47 y287.length co47)) w.heap.size (fun _ => True) v278 t276) := ⟨by (with_reducible repeat (first | apply Kd.S_alloc | apply Kd.S_drewN | apply Kd.S_drew)); exact Kd.S_mono (Kd.S_far (p := ⟨gb270, 0, none⟩) (Kd.S_types HO_9.out BK270.out (by decide)) (fun _ hk => hk.2) (.slice Ao47 y287.length co47)) (fun _ hk => trivial)⟩
                   have n1_ : Aside0 (Kd.S (Kd.slice 5 (Kd.int .u8)) 25 (w45.setCell ⟨gb270, 0, none⟩ (.slice Ao47 y287.length co47)) w.heap.size (fun _ => True) (.slice Ao47 y287.length co47) y287) := ⟨by (with_reducible repeat (first | apply Kd.S_alloc | apply Kd.S_drewN | apply Kd.S_drew)); exact Kd.S_mono (Kd.S_far (p := ⟨gb270, 0, none⟩) (Kd.S_types HO289.out BK270.out (by decide)) (fun _ hk => hk.2) (.slice Ao47 y287.length co47)) (fun _ hk => trivial)⟩
                   have n2_ : Aside0 ((w45.setCell ⟨gb270, 0, none⟩ (.slice Ao47 y287.length co47)).heap[gb269]? = some (.cells #[.slice none 0 0, .int .i64 0] 27 (0, 0))) := ⟨by refine eK ?_; refine blk_far ?_ NB269_270.out _; refine eK ?_; exact BK269.out⟩
                   have n3_ : Aside0 ((w45.setCell ⟨gb270, 0, none⟩ (.slice Ao47 y287.length co47)).heap[gb270]? = some (.cells #[.slice Ao47 y287.length co47, .int .i64 x271001_2] 27 (0, 0))) := ⟨by refine eK ?_; refine blk_put (cs := #[u271000, .int .i64 x271001_2]) ?_ 0 _ rfl; refine eK ?_; exact BK270.out⟩
                   have n4_ : Aside0 (Below w.heap.size w (w45.setCell ⟨gb270, 0, none⟩ (.slice Ao47 y287.length co47))) := ⟨eH HB⟩
                   (try clear HO_9)
                   (try clear HO289)
                   (try clear BK269)
                   (try clear BK270)
                   (try clear HB)
                   generalize (w45.setCell ⟨gb270, 0, none⟩ (.slice Ao47 y287.length co47)) = w49 at n0_ n1_ n2_ n3_ n4_ ⊢
                   have HO_9 := n0_
                   have HO289 := n1_
                   have BK269 := n2_
                   have BK270 := n3_
                   have HB := n4_
                   clear n0_ n1_ n2_ n3_ n4_
                   have hnb50 := NB270_269.out
                   have hnc50 := NB269_270.out
                   have hcz51_0 := bC BK270 0 (.slice Ao47 y287.length co47)
                   have hcz51_1 := bC BK270 1 (.int .i64 x271001_2)
                   have hfz51_0 := b' BK270.out 0
                   have hfz51_1 := b' BK270.out 1
                   obtain ⟨Ao52, co52, eo52⟩ := Kd.S_slice HO_9.out
                   subst eo52
                   try go_wp2_with (first | ((with_reducible refine gate_store (t := 3) (p := 66) rfl ?_); refine store_event (t := 3) (p := 66) (v := ?vo_w53) (w1 := (w49.setCell ⟨gb270, 1, none⟩ (.int .i64 (wrap64 (x271001_2 + (t276.length : Int)))))) ?hg ?ho ?hn ?hr ?_; (case ho => rfl); (case hg => rfl); (case hn => rfl); (case hr => go_simp <;> rfl); intro w53 hw; have n0_ : Aside0 (Kd.S k60 60 w53 w.heap.size (fun _ => True) (.slice Ao52 t276.length co52) t276) := ⟨(by rw [hw]; exact (Kd.kS (Kd.S_mono (Kd.S_far (p := ⟨gb270, 1, none⟩) (Kd.S_types HO_9.out BK270.out (by decide)) (fun _ hk => hk.2) (.int .i64 (wrap64 (x271001_2 + (t276.length : Int))))) (fun _ hk => trivial))))⟩; have n1_ : Aside0 (Kd.S (Kd.slice 5 (Kd.int .u8)) 25 w53 w.heap.size (fun _ => True) (.slice Ao47 y287.length co47) y287) := ⟨(by rw [hw]; exact (Kd.kS (Kd.S_mono (Kd.S_far (p := ⟨gb270, 1, none⟩) (Kd.S_types HO289.out BK270.out (by decide)) (fun _ hk => hk.2) (.int .i64 (wrap64 (x271001_2 + (t276.length : Int))))) (fun _ hk => trivial))))⟩; have n2_ : Aside0 (w53.heap[gb269]? = some (.cells #[.slice none 0 0, .int .i64 0] 27 (0, 0))) := ⟨(by rw [hw]; exact (by refine eK ?_; refine blk_far ?_ NB269_270.out _; refine eK ?_; exact BK269.out))⟩; have n3_ : Aside0 (w53.heap[gb270]? = some (.cells #[.slice Ao47 y287.length co47, .int .i64 (wrap64 (x271001_2 + (t276.length : Int)))] 27 (0, 0))) := ⟨(by rw [hw]; exact (by refine eK ?_; refine blk_put (cs := #[.slice Ao47 y287.length co47, .int .i64 x271001_2]) ?_ 1 _ rfl; refine eK ?_; exact BK270.out))⟩; have n4_ : Aside0 (Below w.heap.size w w53) := ⟨(by rw [hw]; exact (eH HB))⟩; clear hw; clear HO_9; clear HO289; clear BK269; clear BK270; clear HB; have HO_9 := n0_; have HO289 := n1_; have BK269 := n2_; have BK270 := n3_; have HB := n4_; clear n0_ n1_ n2_ n3_ n4_; have q54 : (t277 : Int) ≤ ((y272.length : Int) : Int) := oD; obtain ⟨i054, hi054, _, hsz54, _⟩ := info_parts info5; have hroom54 : y272.length ≤ c271_0 := HC275.out; have hC54 : Kd.C (Kd.int .u8) _ A271_0 y272.length y272 := HR275.out; have q054 : (0 : Int) ≤ (t277 : Int) := oD; have hcut54 := cut_from (P := Try.prog) 25 5 .i64 Try.underlying25 hi054 1 hsz54 A271_0 y272.length c271_0 t277 q054 q54; have hr54 := Kd.C_drop (m := (t277 : Int).toNat) (c := c271_0) hC54 (by omega) hroom54; obtain ⟨A54, hA54⟩ : ∃ A1, A1 = (if c271_0 = (t277 : Int).toNat then A271_0 else (A271_0 : Option Addr).map (·.add ((t277 : Int).toNat * 1))) := ⟨_, rfl⟩; obtain ⟨c54, hc54⟩ : ∃ c1, c1 = c271_0 - (t277 : Int).toNat := ⟨_, rfl⟩; have hy54 : y290.length = y272.length - (t277 : Int).toNat := (by rw [Ny290.out, List.length_drop] <;> omega); rw [show (y272).drop (t277 : Int).toNat = y290 from Ny290.out.symm] at hr54; replace hr54 : Kd.C (Kd.int .u8) _ A54 y290.length y290 := (by rw [hA54]; exact hr54); rw [← hy54, ← hA54, ← hc54] at hcut54; have HR293 := c' hr54; have HC293 := c' (show y290.length ≤ c54 from by rw [hy54, hc54]; exact Nat.sub_le_sub_right hroom54 _); clear hr54 hC54 hroom54 hi054 hsz54 hc54; have KY54 := c' hy54; have KA54 := c' hA54; clear hy54 hA54; replace q54 := eq_true q54) | ((with_reducible refine gate_callee (f := 38) rfl ?_); refine gL 70 Try.func38 #[.slice A54 y290.length c54, .func (.func 39) #[] #[]] (h := ?_); (with_reducible refine (slices_ContainsFunc_byte_byte.calls _ _ y290 true _ ?side1 ?side2 A40.out).mono ?_); (case side1 => exact Kd.eC HR293 HB); (case side2 => exact HC293.out); rintro e w' ⟨rfl, ⟨nd, rfl⟩⟩; refine ⟨_, rfl, ?_⟩; (try (rw [drewN_self w53]; generalize hq_ : World.drewN w53 _ = w53; have n0_ : Aside0 (Kd.S (Kd.slice 5 (Kd.int .u8)) 25 w53 w.heap.size (fun _ => True) (.slice Ao47 y287.length co47) y287) := ⟨by rw [← hq_]; exact (Kd.eS HO289)⟩; have n1_ : Aside0 (Kd.S k60 60 w53 w.heap.size (fun _ => True) (.slice Ao52 t276.length co52) t276) := ⟨by rw [← hq_]; exact (Kd.eS HO_9)⟩; have n2_ : Aside0 (w53.heap[gb269]? = some (.cells #[.slice none 0 0, .int .i64 0] 27 (0, 0))) := ⟨by rw [← hq_]; exact (eB BK269)⟩; have n3_ : Aside0 (w53.heap[gb270]? = some (.cells #[.slice Ao47 y287.length co47, .int .i64 (wrap64 (x271001_2 + (t276.length : Int)))] 27 (0, 0))) := ⟨by rw [← hq_]; exact (eB BK270)⟩; have n4_ : Aside0 (Below w.heap.size w w53) := ⟨by rw [← hq_]; exact (eH HB)⟩; clear HO289 HO_9 BK269 BK270 HB hq_; have HO289 := n0_; have HO_9 := n1_; have BK269 := n2_; have BK270 := n3_; have HB := n4_; clear n0_ n1_ n2_ n3_ n4_)); have hcz55_0 := bC BK270 0 (.slice Ao47 y287.length co47); have hcz55_1 : w53.cell? ⟨gb270, 1, none⟩ = some (.int .i64 (wrap64 (x271001_2 + (t276.length : Int)))) := (blk_cell BK270.out 1).trans rfl; have hfz55_0 := b' BK270.out 0; have hfz55_1 := b' BK270.out 1; have hcz56_0 := bC BK269 0 (.slice none 0 0); have hcz56_1 := bC BK269 1 (.int .i64 0); have hfz56_0 := b' BK269.out 0; have hfz56_1 := b' BK269.out 1))
                   refine bodyPost_ret (results_ct rfl _ _ gb269 27 #[.slice Ao47 y287.length co47, .int .i64 (wrap64 (x271001_2 + (t276.length : Int)))] (0, 0) _ rfl (by refine eK ?_; refine blk_put (cs := #[.slice Ao47 y287.length co47, .int .i64 0]) ?_ 1 _ rfl; refine eK ?_; refine blk_put (cs := #[.slice none 0 0, .int .i64 0]) ?_ 0 _ rfl; refine eK ?_; exact BK269.out) Try.underlying27 rfl (by kernel_rfl)) rfl ?_
                   exact ⟨_, by first | rfl | (simp [errW_none, errW_some] <;> rfl) | (simp only [← hji16]; first | rfl | (simp [errW_none, errW_some] <;> rfl)) | (simp [*, errW_none, errW_some] <;> rfl), by (with_reducible repeat (first | apply Kd.S_alloc | apply Kd.S_drewN | apply Kd.S_drew)); exact Kd.S_mono (Kd.S_far (p := ⟨gb269, 1, none⟩) (Kd.S_far (p := ⟨gb269, 0, none⟩) (Kd.S_types HO289.out BK269.out (by decide)) (fun _ hk => hk.2) (.slice Ao47 y287.length co47)) (fun _ hk => hk.2) (.int .i64 (wrap64 (x271001_2 + (t276.length : Int))))) (fun _ hk => trivial), eH HB⟩
                  ·
                   replace c41 := Bool.eq_false_iff.mpr c41
                   subst c41
                   have H1 : (wal_Recover.l0 kj19 l0 (l0.length : Int) (wrap64 (x26_2 + 1)) y287 (wrap64 (x271001_2 + (t276.length : Int)))) = some (r1, r2, r3) := by rw [if_neg (show ¬ (false = true) by decide)] at H; exact H
                   clear H
                   have H := H1
                   clear H1
                   have H' := c' H
                   clear H
                   try go_wp2
                   have n0_ := c' (Kd.S_drew HO_9.out)
                   have n1_ := c' (Kd.S_drew HO_271000.out)
                   have n2_ := c' (blk_drew BK269.out)
                   have n3_ := c' (blk_drew BK270.out)
                   have n4_ := c' (below_drew1 HB.out)
                   clear HO_9
                   clear HO_271000
                   clear BK269
                   clear BK270
                   clear HB
                   have HO_9 := n0_
                   have HO_271000 := n1_
                   have BK269 := n2_
                   have BK270 := n3_
                   have HB := n4_
                   clear n0_ n1_ n2_ n3_ n4_
                   have q58 : (t277 : Int) ≤ ((y272.length : Int) : Int) := oD
                   obtain ⟨i058, hi058, _, hsz58, _⟩ := info_parts info5
                   have hroom58 : y272.length ≤ c271_0 := HC275.out
                   have hC58 : Kd.C (Kd.int .u8) _ A271_0 y272.length y272 := HR275.out
                   have hcut58 := cut_to (P := Try.prog) 25 5 .i64 Try.underlying25 hi058 A271_0 y272.length c271_0 t277 (oD) q58 hroom58
                   have hr58 := Kd.C_take (m := (t277 : Int).toNat) hC58 (by omega)
                   have hy58 : y280.length = (t277 : Int).toNat := (by rw [Ny280.out, List.length_take]; omega)
                   rw [← Ny280.out] at hr58
                   rw [← hy58] at hcut58
                   have HR283 := c' hr58
                   have HC283 := c' (show y280.length ≤ c271_0 from by omega)
                   clear hr58 hC58 hroom58 hi058 hsz58
                   have KY58 := c' hy58
                   clear hy58
                   replace q58 := eq_true q58
                   refine start_ (n := 10) (S := fun w' => w'.cell? ⟨gb270, 0, none⟩ = some (u271000) ∧ w'.cell? ⟨gb270, 1, none⟩ = some (.int .i64 x271001_2)) (ds := [9]) #[Z,Z,Z,Z,Z,Z,Z,Z,Z,Z] (by kernel_rfl) rfl rfl ⟨(blk_cell BK270.out 0).trans rfl, (blk_cell BK270.out 1).trans rfl⟩ (fun hHeld => ?_); refine with_tabW wal_Recover.tab12 wal_Recover.bits12 (fun HT_ HW_ => ?_)
                   generalize wc.drew = w57 at HO_9 HO_271000 BK269 BK270 HB HR283 hHeld ⊢
                   refine pP 0 52 #[Y,Z,Z,Z,Z,Z,Z,Z,Z,Z] HT_ (h := ?_)
                   refine pP 2 54 #[Y,Z,Y,Z,Z,Z,Z,Z,Z,Z] HT_ (h := ?_)
                   refine pP 3 55 #[Y,Z,Y,Y,Z,Z,Z,Z,Z,Z] HT_ (h := ?_)
                   refine pP 4 56 #[Y,Z,Y,Y,Y,Z,Z,Z,Z,Z] HT_ (h := ?_)
                   refine tP 1 53 #[Y,Y,Y,Y,Y,Z,Z,Z,Z,Z] HT_ HW_ hHeld (hy := by refine Or.inl ⟨by rfl, ?_⟩; rintro w' ⟨s0, s1⟩; go_simp; with_reducible rfl) (h := ?_)
                   refine one_ (i := 5) (N := some 57) #[Y,Y,Y,Y,Y,Y,Z,Z,Z,Z] rfl rfl (one_of HT_.out (by kernel_rfl)) (by decide) (fun K hK => ?_)
                   refine goes_ Try.func37 (by kernel_rfl) rfl #[.slice A271_0 y280.length c271_0] (by rfl) rfl rfl (by (try simp only [List.map_toArray, List.map_cons, List.map_nil]); first | done | rfl | (simp only [List.length_drop, List.length_take]; rfl)) ?_
                   with_reducible refine (bytes_Clone.calls _ _ y280 t284 _ ?side1 ?side2 A36.out).mono ?_
                   (case side1 => exact Kd.eC HR283 HB)
                   (case side2 => exact HC283.out)
                   rintro e w59 ⟨v285, rfl, ho0, hb⟩
                   refine ⟨_, rfl, ?_⟩
                   have n0_ := c' (Kd.S_elder' (Kd.eS HO_9) (Kd.R_base ho0) hb)
                   have n1_ := c' (Kd.S_elder' (Kd.eS HO_271000) (Kd.R_base ho0) hb)
                   have n2_ := c' (Kd.R_lower ho0 (below_size (eH HB)))
                   have n3_ := bB BK269 hb
                   have n4_ := bB BK270 hb
                   have n5_ := c' (below_step (eH HB) hb)
                   clear HO_9
                   clear HO_271000
                   clear BK269
                   clear BK270
                   clear HB
                   have HO_9 := n0_
                   have HO_271000 := n1_
                   have HO286 := n2_
                   have BK269 := n3_
                   have BK270 := n4_
                   have HB := n5_
                   clear n0_ n1_ n2_ n3_ n4_ n5_
                   (try clear hb)
                   (try clear hb2)
                   (try clear hk)
                   (try clear hi)
                   (try clear ho0)
                   obtain ⟨Ao61, co61, eo61⟩ := Kd.R_slice HO286.out
                   (first | subst eo61 | (injection eo61 with f1_ f2_ f3_; have f4_ := f1_.symm; have f5_ := f3_.symm; clear f1_ f2_ f3_; subst f4_; subst f5_))
                   refine hK.out _ _ ⟨(blk_cell BK270.out 0).trans rfl, (blk_cell BK270.out 1).trans rfl⟩ (fun hHeld => ?_)
                   clear hK K
                   refine norm_ (a' := ?_) ?_ ?_
                   rotate_left
                   ·
                    show Act.put _ (some 57) _ = _
                    exact uP
                   refine one_ (i := 6) (N := some 58) #[Y,Y,Y,Y,Y,Y,Y,Z,Z,Z] rfl rfl (one_of HT_.out (by kernel_rfl)) (by decide) (fun K hK => ?_)
                   refine value_ (w1 := ?_) (v := ?_) (by rfl) rfl ?_ ?_
                   rotate_left 2
                   ·
                    go_simp
                    constructor
                    ·
                     rfl
                    ·
                     rfl
                   refine hK.out _ _ ⟨(blk_cell (blk_alloc BK270.out _) 0).trans rfl, (blk_cell (blk_alloc BK270.out _) 1).trans rfl⟩ (fun hHeld => ?_)
                   clear hK K
                   refine norm_ (a' := ?_) ?_ ?_
                   rotate_left
                   ·
                    show Act.put _ (some 58) _ = _
                    exact uP
                   refine one_ (i := 7) (N := some 59) #[Y,Y,Y,Y,Y,Y,Y,Y,Z,Z] rfl rfl (one_of HT_.out (by kernel_rfl)) (by decide) (fun K hK => ?_)
                   refine Kd.S_append_step (Kd.slice 5 (Kd.int .u8)) (w0 := w) w.heap.size (by rfl) (.tmp 53) (.tmp 58) 22 25 (.slice none 0 0) 24 rfl Try.underlying22 info25 rfl (by decide) (by omega) u271000 x271000_2 t284 [.slice Ao61 t284.length co61] (fun _ => True) (fun k_ => some k_ = (.slice Ao61 t284.length co61 : Value).ownBlock) rfl rfl ?aP (fun k_ hk_ => ((Kd.R_mono (ok' := fun k_ => ((fun _ => True)) k_ ∧ some k_ ≠ (u271000 : Value).ownBlock) (Kd.R_apart' (HO286.out) (Kd.S_typed HO_271000.out) (by decide)) (fun k_ hk => ⟨trivial, hk.2⟩))).1 k_ hk_.symm) ?aF ?aO ?aB ?aS ?aL ?_
                   (case aP => exact Kd.M_row (Kd.R_mono (Kd.R_tight rfl (Kd.R_mono (ok' := fun k_ => ((fun _ => True)) k_ ∧ some k_ ≠ (u271000 : Value).ownBlock) (Kd.R_apart' (HO286.out) (Kd.S_typed HO_271000.out) (by decide)) (fun k_ hk => ⟨trivial, hk.2⟩))) (fun _ h_ => h_)))
                   (case aB => exact (eH HB))
                   (case aF => exact (fun _ _ => trivial))
                   (case aO => exact (Kd.kS (Kd.S_mono HO_271000.out (fun k_ hk => ⟨trivial, fun e_ => hk.2 e_⟩))))
                   (case aS => exact (below_size (eH HB)))
                   (case aL => have := LMc37.out; omega)
                   intro v288 w60 ho hb hg hat
                   rw [← Ny287.out] at ho
                   have n0_ := c' (Kd.S_over' (Kd.eS HO_9) (Kd.S_typed (Kd.eS HO_271000)) (by decide) hg)
                   have n1_ := c' (blk_grown (g := gb269) (o := .cells #[.slice none 0 0, .int .i64 0] 27 (0, 0)) (eB BK269) hg (Kd.S_ne HO_271000.out BK269.out (by decide)))
                   have n2_ := c' (blk_grown (g := gb270) (o := .cells #[u271000, .int .i64 x271001_2] 27 (0, 0)) (eB BK270) hg (Kd.S_ne HO_271000.out BK270.out (by decide)))
                   have n3_ := c' (hb)
                   have n4_ := c' (ho)
                   clear HO_9
                   clear BK269
                   clear BK270
                   clear HB
                   clear HO_271000
                   clear HO286
                   have HO_9 := n0_
                   have BK269 := n1_
                   have BK270 := n2_
                   have HB := n3_
                   have HO289 := n4_
                   clear n0_ n1_ n2_ n3_ n4_
                   clear ho hb hg hat
                   obtain ⟨Ao62, co62, eo62⟩ := Kd.S_slice HO289.out
                   (first | subst eo62 | (injection eo62 with f1_ f2_ f3_; have f4_ := f1_.symm; have f5_ := f3_.symm; clear f1_ f2_ f3_; subst f4_; subst f5_))
                   refine hK.out _ _ ⟨(blk_cell BK270.out 0).trans rfl, (blk_cell BK270.out 1).trans rfl⟩ (fun hHeld => ?_)
                   clear hK K
                   refine norm_ (a' := ?_) ?_ ?_
                   rotate_left
                   ·
                    show Act.put _ (some 59) _ = _
                    exact uP
                   refine pP 8 60 #[Y,Y,Y,Y,Y,Y,Y,Y,Y,Z] HT_ (h := ?_)
                   refine last_ (i := 9) (N := none) #[Y,Y,Y,Y,Y,Y,Y,Y,Y,Y] rfl rfl (one_of HT_.out (by kernel_rfl)) (by decide) (fun K hK => ?_)
                   have hs63 : w60.cell? ⟨gb270, 0, none⟩ = some (u271000) := (blk_cell BK270.out 0).trans rfl
                   have hfs63 := b' BK270.out 0
                   have hns63_0 := NB269_270.out
                   have hms63_0 := NB270_269.out
                   refine skip_ (w1 := ?_) (by rfl) rfl ?_ ?_
                   rotate_left
                   ·
                    go_simp
                    rfl
                   refine hK.out _ _ ?_
                   clear hK K
                   refine done_ (done_of HT_.out (by kernel_rfl)) ?_
                   have n0_ : Aside0 (Kd.S k60 60 (w60.setCell ⟨gb270, 0, none⟩ (.slice Ao62 y287.length co62)) w.heap.size (fun _ => True) v278 t276) := ⟨by (with_reducible repeat (first | apply Kd.S_alloc | apply Kd.S_drewN | apply Kd.S_drew)); exact Kd.S_mono (Kd.S_far (p := ⟨gb270, 0, none⟩) (Kd.S_types HO_9.out BK270.out (by decide)) (fun _ hk => hk.2) (.slice Ao62 y287.length co62)) (fun _ hk => trivial)⟩
                   have n1_ : Aside0 (Kd.S (Kd.slice 5 (Kd.int .u8)) 25 (w60.setCell ⟨gb270, 0, none⟩ (.slice Ao62 y287.length co62)) w.heap.size (fun _ => True) (.slice Ao62 y287.length co62) y287) := ⟨by (with_reducible repeat (first | apply Kd.S_alloc | apply Kd.S_drewN | apply Kd.S_drew)); exact Kd.S_mono (Kd.S_far (p := ⟨gb270, 0, none⟩) (Kd.S_types HO289.out BK270.out (by decide)) (fun _ hk => hk.2) (.slice Ao62 y287.length co62)) (fun _ hk => trivial)⟩
                   have n2_ : Aside0 ((w60.setCell ⟨gb270, 0, none⟩ (.slice Ao62 y287.length co62)).heap[gb269]? = some (.cells #[.slice none 0 0, .int .i64 0] 27 (0, 0))) := ⟨by refine eK ?_; refine blk_far ?_ NB269_270.out _; refine eK ?_; exact BK269.out⟩
                   have n3_ : Aside0 ((w60.setCell ⟨gb270, 0, none⟩ (.slice Ao62 y287.length co62)).heap[gb270]? = some (.cells #[.slice Ao62 y287.length co62, .int .i64 x271001_2] 27 (0, 0))) := ⟨by refine eK ?_; refine blk_put (cs := #[u271000, .int .i64 x271001_2]) ?_ 0 _ rfl; refine eK ?_; exact BK270.out⟩
                   have n4_ : Aside0 (Below w.heap.size w (w60.setCell ⟨gb270, 0, none⟩ (.slice Ao62 y287.length co62))) := ⟨eH HB⟩
                   (try clear HO_9)
                   (try clear HO289)
                   (try clear BK269)
                   (try clear BK270)
                   (try clear HB)
                   generalize (w60.setCell ⟨gb270, 0, none⟩ (.slice Ao62 y287.length co62)) = w64 at n0_ n1_ n2_ n3_ n4_ ⊢
                   have HO_9 := n0_
                   have HO289 := n1_
                   have BK269 := n2_
                   have BK270 := n3_
                   have HB := n4_
                   clear n0_ n1_ n2_ n3_ n4_
                   have hnb65 := NB270_269.out
                   have hnc65 := NB269_270.out
                   have hcz66_0 := bC BK270 0 (.slice Ao62 y287.length co62)
                   have hcz66_1 := bC BK270 1 (.int .i64 x271001_2)
                   have hfz66_0 := b' BK270.out 0
                   have hfz66_1 := b' BK270.out 1
                   obtain ⟨Ao67, co67, eo67⟩ := Kd.S_slice HO_9.out
                   subst eo67
                   try go_wp2_with (first | ((with_reducible refine gate_store (t := 3) (p := 66) rfl ?_); refine store_event (t := 3) (p := 66) (v := ?vo_w68) (w1 := (w64.setCell ⟨gb270, 1, none⟩ (.int .i64 (wrap64 (x271001_2 + (t276.length : Int)))))) ?hg ?ho ?hn ?hr ?_; (case ho => rfl); (case hg => rfl); (case hn => rfl); (case hr => go_simp <;> rfl); intro w68 hw; have n0_ : Aside0 (Kd.S k60 60 w68 w.heap.size (fun _ => True) (.slice Ao67 t276.length co67) t276) := ⟨(by rw [hw]; exact (Kd.kS (Kd.S_mono (Kd.S_far (p := ⟨gb270, 1, none⟩) (Kd.S_types HO_9.out BK270.out (by decide)) (fun _ hk => hk.2) (.int .i64 (wrap64 (x271001_2 + (t276.length : Int))))) (fun _ hk => trivial))))⟩; have n1_ : Aside0 (Kd.S (Kd.slice 5 (Kd.int .u8)) 25 w68 w.heap.size (fun _ => True) (.slice Ao62 y287.length co62) y287) := ⟨(by rw [hw]; exact (Kd.kS (Kd.S_mono (Kd.S_far (p := ⟨gb270, 1, none⟩) (Kd.S_types HO289.out BK270.out (by decide)) (fun _ hk => hk.2) (.int .i64 (wrap64 (x271001_2 + (t276.length : Int))))) (fun _ hk => trivial))))⟩; have n2_ : Aside0 (w68.heap[gb269]? = some (.cells #[.slice none 0 0, .int .i64 0] 27 (0, 0))) := ⟨(by rw [hw]; exact (by refine eK ?_; refine blk_far ?_ NB269_270.out _; refine eK ?_; exact BK269.out))⟩; have n3_ : Aside0 (w68.heap[gb270]? = some (.cells #[.slice Ao62 y287.length co62, .int .i64 (wrap64 (x271001_2 + (t276.length : Int)))] 27 (0, 0))) := ⟨(by rw [hw]; exact (by refine eK ?_; refine blk_put (cs := #[.slice Ao62 y287.length co62, .int .i64 x271001_2]) ?_ 1 _ rfl; refine eK ?_; exact BK270.out))⟩; have n4_ : Aside0 (Below w.heap.size w w68) := ⟨(by rw [hw]; exact (eH HB))⟩; clear hw; clear HO_9; clear HO289; clear BK269; clear BK270; clear HB; have HO_9 := n0_; have HO289 := n1_; have BK269 := n2_; have BK270 := n3_; have HB := n4_; clear n0_ n1_ n2_ n3_ n4_; have q69 : (t277 : Int) ≤ ((y272.length : Int) : Int) := oD; obtain ⟨i069, hi069, _, hsz69, _⟩ := info_parts info5; have hroom69 : y272.length ≤ c271_0 := HC275.out; have hC69 : Kd.C (Kd.int .u8) _ A271_0 y272.length y272 := HR275.out; have q069 : (0 : Int) ≤ (t277 : Int) := oD; have hcut69 := cut_from (P := Try.prog) 25 5 .i64 Try.underlying25 hi069 1 hsz69 A271_0 y272.length c271_0 t277 q069 q69; have hr69 := Kd.C_drop (m := (t277 : Int).toNat) (c := c271_0) hC69 (by omega) hroom69; obtain ⟨A69, hA69⟩ : ∃ A1, A1 = (if c271_0 = (t277 : Int).toNat then A271_0 else (A271_0 : Option Addr).map (·.add ((t277 : Int).toNat * 1))) := ⟨_, rfl⟩; obtain ⟨c69, hc69⟩ : ∃ c1, c1 = c271_0 - (t277 : Int).toNat := ⟨_, rfl⟩; have hy69 : y290.length = y272.length - (t277 : Int).toNat := (by rw [Ny290.out, List.length_drop] <;> omega); rw [show (y272).drop (t277 : Int).toNat = y290 from Ny290.out.symm] at hr69; replace hr69 : Kd.C (Kd.int .u8) _ A69 y290.length y290 := (by rw [hA69]; exact hr69); rw [← hy69, ← hA69, ← hc69] at hcut69; have HR293 := c' hr69; have HC293 := c' (show y290.length ≤ c69 from by rw [hy69, hc69]; exact Nat.sub_le_sub_right hroom69 _); clear hr69 hC69 hroom69 hi069 hsz69 hc69; have KY69 := c' hy69; have KA69 := c' hA69; clear hy69 hA69; replace q69 := eq_true q69) | ((with_reducible refine gate_callee (f := 38) rfl ?_); refine gL 70 Try.func38 #[.slice A69 y290.length c69, .func (.func 39) #[] #[]] (h := ?_); (with_reducible refine (slices_ContainsFunc_byte_byte.calls _ _ y290 false _ ?side1 ?side2 A40.out).mono ?_); (case side1 => exact Kd.eC HR293 HB); (case side2 => exact HC293.out); rintro e w' ⟨rfl, ⟨nd, rfl⟩⟩; refine ⟨_, rfl, ?_⟩))
                   go_roundg kj19
                   case measure => have := HJ2.out; have := HK2.out; have := HJ19.out; omega
                   case rel => exact ⟨(wrap64 (x26_2 + 1)), (y287), (wrap64 (x271001_2 + (t276.length : Int))), (.slice Ao62 y287.length co62), rS, H', ⟨by have := HJ2.out; have := HK2.out; have := HJ19.out; omega⟩, ⟨Kd.eS HO289⟩, ⟨eB BK269⟩, ⟨eB BK270⟩, ⟨eH HB⟩⟩
                 ·
                  rw [if_neg c37] at H
                  exact absurd H (by simp)
                ·
                 rw [if_neg c35] at H
                 exact absurd H (by simp)
               ·
                rw [if_neg c34] at H
                exact absurd H (by simp)
           ·
            rw [if_neg c18] at H
            exact absurd H (by simp)
          ·
           rw [if_neg c17] at H
           exact absurd H (by simp)
         ·
          rw [if_neg c15] at H
          exact absurd H (by simp)
        ·
         rw [if_neg c14] at H
         exact absurd H (by simp)
       ·
        rw [if_neg c13] at H
        have c13b0 := decide_eq_false c13
        clear c13
        simp only [Option.some.injEq, Prod.mk.injEq] at H
        obtain ⟨rfl, rfl, rfl⟩ := H
        have hnb70 := NB270_269.out
        have hnc70 := NB269_270.out
        have hcz71_0 := bC BK270 0 (u271000)
        have hcz71_1 := bC BK270 1 (.int .i64 x271001_2)
        have hfz71_0 := b' BK270.out 0
        have hfz71_1 := b' BK270.out 1
        obtain ⟨Ao72, co72, eo72⟩ := Kd.S_slice HO_271000.out
        subst eo72
        have hcz73_0 := bC BK269 0 (.slice none 0 0)
        have hcz73_1 := bC BK269 1 (.int .i64 0)
        have hfz73_0 := b' BK269.out 0
        have hfz73_1 := b' BK269.out 1
        go_wp2
        refine bodyPost_ret (results_ct rfl _ _ gb269 27 #[.slice Ao72 x271000_2.length co72, .int .i64 x271001_2] (0, 0) _ rfl (by refine eK ?_; refine blk_put (cs := #[.slice Ao72 x271000_2.length co72, .int .i64 0]) ?_ 1 _ rfl; refine eK ?_; refine blk_put (cs := #[.slice none 0 0, .int .i64 0]) ?_ 0 _ rfl; refine eK ?_; exact BK269.out) Try.underlying27 rfl (by kernel_rfl)) rfl ?_
        exact ⟨_, eE, by (with_reducible repeat (first | apply Kd.S_alloc | apply Kd.S_drewN | apply Kd.S_drew)); exact Kd.S_mono (Kd.S_far (p := ⟨gb269, 1, none⟩) (Kd.S_far (p := ⟨gb269, 0, none⟩) (Kd.S_types HO_271000.out BK269.out (by decide)) (fun _ hk => hk.2) (.slice Ao72 x271000_2.length co72)) (fun _ hk => hk.2) (.int .i64 x271001_2)) (fun _ hk => trivial), eH HB⟩
end Go.Proofs.Ytgmkgobapeencaa.S
