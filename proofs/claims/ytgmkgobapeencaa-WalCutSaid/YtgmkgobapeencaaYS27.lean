import Derived.Test.YtgmkgobapeencaaYS2
import Derived.Test.YtgmkgobapeencaaYAid3
import Derived.Test.YtgmkgobapeencaaYS14
import Derived.Test.YtgmkgobapeencaaYS15
namespace Go.Proofs.Ytgmkgobapeencaa.S
open Go.Proofs.YtgmkgobapeencaaW.PrintWords.Kd renaming N_mono → b', V_mono → c', N_far → f', N_drew → g', S_base → h', N_drewN → k', N_alloc → l', freshB → m', N_below → n'
open Go.Proofs.YtgmkgobapeencaaW.PrintWords renaming below_size → d', blk_cell → e', blk_frozen → j'
open List renaming setIfInBounds_toArray → o', set_cons_zero → p', set_cons_succ → q'
open Go.Proofs.YtgmkgobapeencaaW.PrintWords.Aside0 renaming mk → r'
open Bool renaming true → Y, false → Z
open Go.RowKit Go.Proofs.YtgmkgobapeencaaW.PrintWords Go.Proofs.YtgmkgobapeencaaW.PrintLast Go.Proofs.YtgmkgobapeencaaW.PrintMore
attribute [local go_sem] max2_int min2_int max_two min_two max_three min_three max_four min_four
set_option linter.unusedVariables false
set_option linter.unusedSimpArgs false
mutual
def fanlightlaw06_filled.l0 : Nat → List (List Int) → List (S57) → Int → List (List Int) → Int → Option ((List (List Int)) × Int × (List (S57)) × Bool)
 | 0, _, _, _, _, _ => none
 | k + 1, x1, x8, x9, x553000, x553001 => if x9 < (x1.length : Int) then (fanlightlaw06_filled.j1 k x1 x8 x9 (decide (x9 < 30)) x553000 x553001) else (fanlightlaw06_filled.j1 k x1 x8 x9 false x553000 x553001)
def fanlightlaw06_filled.j1 : Nat → List (List Int) → List (S57) → Int → Bool → List (List Int) → Int → Option ((List (List Int)) × Int × (List (S57)) × Bool)
 | 0, _, _, _, _, _, _ => none
 | k + 1, x1, x8, x9, x26, x553000, x553001 => if x26 = true then (if 0 ≤ x9 then (if x9 < (x1.length : Int) then ((wal_Append.f k x553000 x553001 (rd_L1 x1 x9)).bind fun bt554 => (if ((rd_L1 x1 x9).length : Int) > 400 then ((fanlightlaw06_num.f bt554.2.2.2).bind fun t562 => (if t562 = 5 then (fanlightlaw06_filled.l0 k x1 x8 (wrap64 (x9 + 1)) x553000 x553001) else (some (x553000, x553001, x8, false)))) else ((fanlightlaw06_num.f bt554.2.2.2).bind fun t563 => (if t563 = 0 then (if x8.length < 4398046511104 then (fanlightlaw06_filled.l0 k x1 (x8 ++ [(⟨x553001, rd_L1 x1 x9⟩ : S57)]) (wrap64 (x9 + 1)) bt554.1 bt554.2.1) else (none)) else (some (x553000, x553001, x8, false)))))) else (none)) else (none)) else (some (x553000, x553001, x8, true))
end
def fanlightlaw06_filled.f (k : Nat) (a0 : Int) (l1 : List (List Int)) : Option ((List (List Int)) × Int × (List (S57)) × Bool) := fanlightlaw06_filled.l0 k l1 ([] : List (S57)) 0 ([] : List (List Int)) (wrap64 (1 + (Int.tmod (wrap64 ((Int.tmod a0 1000) + 1000)) 1000)))
theorem fanlightlaw06_filled.mono_l : ∀ k, (∀ y0 y1 y2 y3 y4, LeO (fanlightlaw06_filled.l0 k y0 y1 y2 y3 y4) (fanlightlaw06_filled.l0 (k + 1) y0 y1 y2 y3 y4)) ∧ (∀ y0 y1 y2 y3 y4 y5, LeO (fanlightlaw06_filled.j1 k y0 y1 y2 y3 y4 y5) (fanlightlaw06_filled.j1 (k + 1) y0 y1 y2 y3 y4 y5))
 | 0 => ⟨fun _ _ _ _ _ r h => by simp [fanlightlaw06_filled.l0] at h, fun _ _ _ _ _ _ r h => by simp [fanlightlaw06_filled.j1] at h⟩
 | k + 1 => by
  obtain ⟨ih0, ih1⟩ := fanlightlaw06_filled.mono_l k
  refine ⟨?_, ?_⟩
  ·
   intro y0 y1 y2 y3 y4
   unfold fanlightlaw06_filled.l0
   repeat' first
   | (with_reducible exact ih0 _ _ _ _ _)
   | (with_reducible exact ih1 _ _ _ _ _ _)
   | (with_reducible exact wal_Append.mono _ _ _ _)
   | with_reducible first | exact LeO.refl _ | exact LeO.none _ | refine LeO.ite ?_ ?_ | refine LeO.bind ?_ fun _ => ?_
  ·
   intro y0 y1 y2 y3 y4 y5
   unfold fanlightlaw06_filled.j1
   repeat' first
   | (with_reducible exact ih0 _ _ _ _ _)
   | (with_reducible exact ih1 _ _ _ _ _ _)
   | (with_reducible exact wal_Append.mono _ _ _ _)
   | with_reducible first | exact LeO.refl _ | exact LeO.none _ | refine LeO.ite ?_ ?_ | refine LeO.bind ?_ fun _ => ?_
theorem fanlightlaw06_filled.mono : ∀ a0 a1 k, LeO (fanlightlaw06_filled.f k a0 a1) (fanlightlaw06_filled.f (k + 1) a0 a1) := by
 intro a0 a1 k
 obtain ⟨ih0, ih1⟩ := fanlightlaw06_filled.mono_l k
 unfold fanlightlaw06_filled.f
 repeat' first
   | (with_reducible exact ih0 _ _ _ _ _)
   | (with_reducible exact ih1 _ _ _ _ _ _)
   | (with_reducible exact wal_Append.mono _ _ _ _)
   | with_reducible first | exact LeO.refl _ | exact LeO.none _ | refine LeO.ite ?_ ?_ | refine LeO.bind ?_ fun _ => ?_
def fanlightlaw06_filled.T6 : Bool × List (List Nat × List Nat) := (true,[([],[]),([],[]),([],[]),([1,2],[1,2]),([3],[3]),([0,4],[0,4]),([5],[5]),([6],[6]),([6],[6]),([6],[6]),([],[]),([10,7,5,0,1,2,3,4,5,6,7,10],[7,10]),([8,11,0,1,2,3,4,5,6,7,8,10,11],[8]),([9,12,0,1,2,3,4,5,6,7,8,9,10,11,12],[9])])
def fanlightlaw06_filled.B6 : List Nat := [0,0,0,6,14,31,63,127,127,127,0,1279,3583,8191]
theorem fanlightlaw06_filled.tab6 : rtab .any (opsOf Try.f24 6) = fanlightlaw06_filled.T6 := by kernel_rfl
theorem fanlightlaw06_filled.bits6 : waitsOk fanlightlaw06_filled.T6.2 fanlightlaw06_filled.B6 = true := by kernel_rfl
def fanlightlaw06_filled.T12 : Bool × List (List Nat × List Nat) := (true,[([],[]),([],[]),([1],[1]),([],[]),([],[]),([3,4],[3,4]),([5],[5]),([2,6],[2,6]),([7],[7]),([0,8],[0,8]),([9,9,0,1,2,3,4,5,6,7,8,9],[0,9])])
def fanlightlaw06_filled.B12 : List Nat := [0,0,2,0,0,24,56,126,254,511,1023]
theorem fanlightlaw06_filled.tab12 : rtab .any (opsOf Try.f24 12) = fanlightlaw06_filled.T12 := by kernel_rfl
theorem fanlightlaw06_filled.bits12 : waitsOk fanlightlaw06_filled.T12.2 fanlightlaw06_filled.B12 = true := by kernel_rfl
set_option maxHeartbeats 8000000 in
set_option maxRecDepth 100000 in
theorem fanlightlaw06_filled.calls (k : Nat) (a0 : Int) (P1_ : Nat → Prop) (A1 : Option Addr) (c1 : Nat) (l1 : List (List Int)) (r1 : List (List Int)) (r2 : Int) (r3 : List (S57)) (r4 : Bool) (w : World) (hs1 : Kd.V (Kd.slice 5 (Kd.int .u8)) 25 w w.heap.size (fun k_ => P1_ k_) (.slice A1 l1.length c1) l1) (h : fanlightlaw06_filled.f k a0 l1 = some (r1, r2, r3, r4)) :
  Calls Try.prog 24 #[.int .i64 a0, .slice A1 l1.length c1] w fun e w' => ∃ v0_ v2_ : Value, e = .returned (.tuple #[.agg #[v0_, .int .i64 r2], v2_, .bool r4]) ∧ Kd.N (Kd.slice 5 (Kd.int .u8)) 25 w' w.heap.size (fun k_ => (P1_ k_ ∨ w.heap.size ≤ k_) ∧ some k_ ≠ (v2_ : Value).ownBlock) v0_ r1 ∧ Kd.N k57 57 w' w.heap.size (fun k_ => (P1_ k_ ∨ w.heap.size ≤ k_) ∧ some k_ ≠ (v0_ : Value).ownBlock) v2_ r3 ∧ Below w.heap.size w w' := by
 have hu27 := Try.underlying27
 have hu57 := Try.underlying57
 have HO1 := r' (show Kd.V (Kd.slice 5 (Kd.int .u8)) 25 w w.heap.size (fun k_ => (P1_ k_ ∨ w.heap.size ≤ k_)) (.slice A1 l1.length c1) l1 from c' hs1 (fun k_ hk => .inl hk))
 have HB := r' (Below.refl w.heap.size w)
 have H : (fanlightlaw06_filled.l0 k l1 ([] : List (S57)) 0 ([] : List (List Int)) (wrap64 (1 + (Int.tmod (wrap64 ((Int.tmod a0 1000) + 1000)) 1000)))) = some (r1, r2, r3, r4) := h
 clear h
 have H' := r' H
 clear H
 go_enter Try.func24, Try.ntmps24
 go_wp2_with (first | ((with_reducible refine gate_dst (N := 4) rfl ?_); refine box_event ?hg (N := 4) ?hd (cs := #[.slice none 0 0, .int .i64 0]) (t := 27) ?hr ?_; (case hd => rfl); (case hg => rfl); (case hr => go_simp <;> rfl); intro gb551 hg w3 hbox hb; have n0_ := r' (Kd.V_below (Kd.V_elderB (Kd.eV HO1) gb551 (Nat.le_of_eq hg.symm)) hb); have n1_ := r' (below_step (eH HB) hb); have n2_ := r' (hbox); have n3_ := r' ((by rw [hg]; exact (d' (eH HB)) : w.heap.size ≤ gb551)); have n4_ := r' ((by rw [hg]; exact (d' (eH HB)) : w.heap.size ≤ gb551)); clear HO1; clear HB; have HO1 := n0_; have HB := n1_; have BK551 := n2_; have GW551 := n3_; have GE551 := n4_; clear n0_ n1_ n2_ n3_ n4_; clear hb hbox hg) | ((with_reducible refine gate_dst (N := 7) rfl ?_); refine box_event ?hg (N := 7) ?hd (cs := #[.slice none 0 0, .int .i64 0]) (t := 27) ?hr ?_; (case hd => rfl); (case hg => rfl); (case hr => go_simp <;> rfl); intro gb552 hg w4 hbox hb; have n0_ := r' (Kd.V_below (Kd.V_elderB (Kd.eV HO1) gb552 (Nat.le_of_eq hg.symm)) hb); have n1_ := bB BK551 hb; have n2_ := r' (below_step (eH HB) hb); have n3_ := r' (hbox); have n4_ := r' ((by rw [hg]; exact (d' (eH HB)) : w.heap.size ≤ gb552)); have n5_ := r' ((by rw [hg]; exact (d' (eH HB)) : w.heap.size ≤ gb552)); have n6_ := nL hg BK551; have n7_ := nG hg BK551; clear HO1; clear BK551; clear HB; have HO1 := n0_; have BK551 := n1_; have HB := n2_; have BK552 := n3_; have GW552 := n4_; have GE552 := n5_; have NB551_552 := n6_; have NB552_551 := n7_; clear n0_ n1_ n2_ n3_ n4_ n5_ n6_ n7_; clear hb hbox hg; have hnb5 := NB552_551.out; have hnc5 := NB551_552.out; have hcz6_0 := bC BK552 0 (.slice none 0 0); have hcz6_1 := bC BK552 1 (.int .i64 0); have hfz6_0 := j' BK552.out 0; have hfz6_1 := j' BK552.out 1))
 go_loopg [8, 9] k (fun kq v8 v9 w' => ∃ (x8_1 : List (S57)) (x9_1 : Int) (x552001_1 : Int) (x553000_1 : List (List Int)) (x553001_1 : Int) (u553000 : Value), v9 = .int .i64 x9_1 ∧ Aside0 (fanlightlaw06_filled.l0 kq l1 x8_1 x9_1 x553000_1 x553001_1 = some (r1, r2, r3, r4)) ∧ Aside0 (kq ≤ k) ∧ Aside0 (Kd.V (Kd.slice 5 (Kd.int .u8)) 25 w' w.heap.size (fun k_ => (P1_ k_ ∨ w.heap.size ≤ k_) ∧ some k_ ≠ (v8 : Value).ownBlock ∧ some k_ ≠ (u553000 : Value).ownBlock ∧ k_ ≠ gb551 ∧ k_ ≠ gb552) (.slice A1 l1.length c1) l1) ∧ Aside0 (Kd.N k57 57 w' w.heap.size (fun k_ => (P1_ k_ ∨ w.heap.size ≤ k_) ∧ some k_ ≠ (u553000 : Value).ownBlock ∧ k_ ≠ gb551 ∧ k_ ≠ gb552) v8 x8_1) ∧ Aside0 (Kd.N (Kd.slice 5 (Kd.int .u8)) 25 w' w.heap.size (fun k_ => (P1_ k_ ∨ w.heap.size ≤ k_) ∧ some k_ ≠ (v8 : Value).ownBlock ∧ k_ ≠ gb551 ∧ k_ ≠ gb552) u553000 x553000_1) ∧ Aside0 (w'.heap[gb551]? = some (.cells #[(.slice none 0 0), .int .i64 x552001_1] 27 (0, 0))) ∧ Aside0 (w'.heap[gb552]? = some (.cells #[u553000, .int .i64 x553001_1] 27 (0, 0))) ∧ Aside0 (Below w.heap.size w w'))
 case atStart => exact ⟨(([] : List (S57))), (0), (0), (([] : List (List Int))), (wrap64 (1 + (Int.tmod (wrap64 ((Int.tmod a0 1000) + 1000)) 1000))), (.slice none 0 0), rS, H', ⟨Nat.le_refl _⟩, ⟨by (with_reducible repeat (first | apply Kd.V_alloc | apply Kd.V_drewN | apply Kd.V_drew)); exact c' (Kd.V_far (p := ⟨gb552, 1, none⟩) (Kd.V_far (p := ⟨gb552, 0, none⟩) (c' HO1.out (fun k_ hk => (⟨hk, hk.2⟩ : _ ∧ k_ ≠ gb552))) (fun _ hk => hk.2) (.slice none 0 0)) (fun _ hk => hk.2) (.int .i64 (wrap64 (1 + (Int.tmod (wrap64 ((Int.tmod a0 1000) + 1000)) 1000))))) (fun _ hk => ⟨hk.1.1.1, ⟨(by simp [Value.ownBlock]), ⟨(by simp [Value.ownBlock]), ⟨hk.1.1.2, hk.1.2⟩⟩⟩⟩)⟩, ⟨nS⟩, ⟨nS⟩, ⟨by refine eK ?_; refine blk_far ?_ NB551_552.out _; refine eK ?_; refine blk_far ?_ NB551_552.out _; refine eK ?_; exact BK551.out⟩, ⟨by refine eK ?_; refine blk_put (cs := #[.slice none 0 0, .int .i64 0]) ?_ 1 _ rfl; refine eK ?_; refine blk_put (cs := #[.slice none 0 0, .int .i64 0]) ?_ 0 _ rfl; refine eK ?_; exact BK552.out⟩, ⟨eH HB⟩⟩
 case round =>
  clear H'
  try clear c1
  try clear c2
  try clear p2
  try clear c5
  try clear p6
  try clear hcz6_0
  try clear hcz6_1
  try clear hfz6_0
  try clear hfz6_1
  obtain ⟨x8_1, x9_1, x552001_1, x553000_1, x553001_1, u553000, rfl, HA, HK1, HO_1, HO_8, HO_553000, BK551, BK552, HB⟩ := hrel
  cases gk with
  | zero => exact absurd HA.out (by simp [fanlightlaw06_filled.l0])
  | succ k1 =>
   have H := HA.out
   clear HA
   simp only [fanlightlaw06_filled.l0] at H
   have HC7 := r' H
   clear H
   go_upto_region 4 with (fail)
   go_cut [26] (fun v26 wc => ∃ (kq : Nat) (x26_6 : Bool), v26 = .bool x26_6 ∧ Aside0 (fanlightlaw06_filled.j1 kq l1 x8_1 x9_1 x26_6 x553000_1 x553001_1 = some (r1, r2, r3, r4)) ∧ Aside0 (kq ≤ k1) ∧ Aside0 (Kd.V (Kd.slice 5 (Kd.int .u8)) 25 wc w.heap.size (fun k_ => (P1_ k_ ∨ w.heap.size ≤ k_) ∧ some k_ ≠ (u8 : Value).ownBlock ∧ some k_ ≠ (u553000 : Value).ownBlock ∧ k_ ≠ gb551 ∧ k_ ≠ gb552) (.slice A1 l1.length c1) l1) ∧ Aside0 (Kd.N k57 57 wc w.heap.size (fun k_ => (P1_ k_ ∨ w.heap.size ≤ k_) ∧ some k_ ≠ (u553000 : Value).ownBlock ∧ k_ ≠ gb551 ∧ k_ ≠ gb552) u8 x8_1) ∧ Aside0 (Kd.N (Kd.slice 5 (Kd.int .u8)) 25 wc w.heap.size (fun k_ => (P1_ k_ ∨ w.heap.size ≤ k_) ∧ some k_ ≠ (u8 : Value).ownBlock ∧ k_ ≠ gb551 ∧ k_ ≠ gb552) u553000 x553000_1) ∧ Aside0 (wc.heap[gb551]? = some (.cells #[(.slice none 0 0), .int .i64 x552001_1] 27 (0, 0))) ∧ Aside0 (wc.heap[gb552]? = some (.cells #[u553000, .int .i64 x553001_1] 27 (0, 0))) ∧ Aside0 (Below w.heap.size w wc))
   case first =>
    have H := HC7.out
    clear HC7
    by_cases c8 : x9_1 < (l1.length : Int)
    ·
     rw [if_pos c8] at H
     have c8b0 := decide_eq_true c8
     clear c8
     (first | rw [c8b0] | (simp only [i64_w, i32_w]; rw [c8b0]) | rw [c8b1] | skip)
     have H' := r' H
     clear H
     go_wp2
     go_meet
     case rel => exact ⟨_, (decide (x9_1 < 30)), rS, H', ⟨by have := HK1.out; first | omega | exact Nat.le_refl _⟩, ⟨Kd.eV HO_1⟩, ⟨Kd.eN HO_8⟩, ⟨Kd.eN HO_553000⟩, ⟨eB BK551⟩, ⟨eB BK552⟩, ⟨eH HB⟩⟩
    ·
     rw [if_neg c8] at H
     have c8b0 := decide_eq_false c8
     clear c8
     (first | rw [c8b0] | (simp only [i64_w, i32_w]; rw [c8b0]) | rw [c8b1] | skip)
     have H' := r' H
     clear H
     go_wp2
     go_meet
     case rel => exact ⟨_, (false), rS, H', ⟨by have := HK1.out; first | omega | exact Nat.le_refl _⟩, ⟨Kd.eV HO_1⟩, ⟨Kd.eN HO_8⟩, ⟨Kd.eN HO_553000⟩, ⟨eB BK551⟩, ⟨eB BK552⟩, ⟨eH HB⟩⟩
   case rest =>
    clear HC7
    try clear c1
    try clear c2
    try clear p2
    try clear c5
    try clear p6
    try clear c8
    try clear c8b0
    try clear hcz6_0
    try clear hcz6_1
    try clear hfz6_0
    try clear hfz6_1
    try clear p2
    try clear p6
    obtain ⟨kq, x26_6, rfl, HA, HJ6, HO_1, HO_8, HO_553000, BK551, BK552, HB⟩ := hcut
    cases kq with
    | zero => exact absurd HA.out (by simp [fanlightlaw06_filled.j1])
    | succ kj6 =>
     have H := HA.out
     clear HA
     simp only [fanlightlaw06_filled.j1] at H
     by_cases c9 : x26_6 = true
     ·
      subst c9
      have H1 : (if 0 ≤ x9_1 then (if x9_1 < (l1.length : Int) then ((wal_Append.f kj6 x553000_1 x553001_1 (rd_L1 l1 x9_1)).bind fun bt554 => (if ((rd_L1 l1 x9_1).length : Int) > 400 then ((fanlightlaw06_num.f bt554.2.2.2).bind fun t562 => (if t562 = 5 then (fanlightlaw06_filled.l0 kj6 l1 x8_1 (wrap64 (x9_1 + 1)) x553000_1 x553001_1) else (some (x553000_1, x553001_1, x8_1, false)))) else ((fanlightlaw06_num.f bt554.2.2.2).bind fun t563 => (if t563 = 0 then (if x8_1.length < 4398046511104 then (fanlightlaw06_filled.l0 kj6 l1 (x8_1 ++ [(⟨x553001_1, rd_L1 l1 x9_1⟩ : S57)]) (wrap64 (x9_1 + 1)) bt554.1 bt554.2.1) else (none)) else (some (x553000_1, x553001_1, x8_1, false)))))) else (none)) else (none)) = some (r1, r2, r3, r4) := by rw [if_pos rfl] at H; exact H
      clear H
      have H := H1
      clear H1
      by_cases c10 : 0 ≤ x9_1
      ·
       rw [if_pos c10] at H
       have c10b0 := decide_eq_true c10
       clear c10
       by_cases c11 : x9_1 < (l1.length : Int)
       ·
        rw [if_pos c11] at H
        have c11b0 := decide_eq_true c11
        clear c11
        replace H := Option.bind_eq_some_iff.mp H
        obtain ⟨⟨t554, t557, t558, t559⟩, A120, H⟩ := H
        (try dsimp only at H)
        have A12 := r' A120
        clear A120
        by_cases c13 : ((rd_L1 l1 x9_1).length : Int) > 400
        ·
         rw [if_pos c13] at H
         have c13b0 := decide_eq_true c13
         have c13b1 : decide (400 < (rd_L1 l1 x9_1).length) = true := decide_eq_true (by omega)
         clear c13
         replace H := Option.bind_eq_some_iff.mp H
         obtain ⟨t562, A140, H⟩ := H
         (try dsimp only at H)
         have A14 := r' A140
         clear A140
         by_cases c15 : t562 = 5
         ·
          rw [if_pos c15] at H
          have c15b0 := beq_iff_eq.mpr c15
          have c15b1 := bne_eq_false_iff_eq.mpr c15
          clear c15
          have H' := r' H
          clear H
          obtain ⟨Ao16, co16, eo16⟩ := Kd.N_slice HO_553000.out
          subst eo16
          try go_wp2
          have n0_ := r' (Kd.V_drew HO_1.out)
          have n1_ := r' (g' HO_8.out)
          have n2_ := r' (g' HO_553000.out)
          have n3_ := r' (blk_drew BK551.out)
          have n4_ := r' (blk_drew BK552.out)
          have n5_ := r' (below_drew1 HB.out)
          clear HO_1
          clear HO_8
          clear HO_553000
          clear BK551
          clear BK552
          clear HB
          have HO_1 := n0_
          have HO_8 := n1_
          have HO_553000 := n2_
          have BK551 := n3_
          have BK552 := n4_
          have HB := n5_
          clear n0_ n1_ n2_ n3_ n4_ n5_
          have p553 : 0 ≤ (x9_1 : Int) := oD
          have q553 : x9_1 < (l1.length : Int) := oD
          obtain ⟨ad553, A553_0, c553_0, e553, hx553_0, hl553_0, hi553_0⟩ := at_L1 (Kd.V_reads' HO_1.out).2.2 x9_1 p553 q553
          cases e553
          obtain ⟨ce553, hce553, hMe553, hcc553⟩ := Kd.V_get HO_1.out [] x9_1 p553 (by first | exact q553 | exact oD | (have e_ := (Kd.V_reads' HO_1.out).1; omega))
          obtain ⟨ua553_0, uc553_0, rfl, ul553_0, ge553_0⟩ := Kd.FK_slice_open hMe553
          have hv553_0 := hcc553 0 _ rfl
          rw [Nat.add_zero, show ((Kd.slice 5 (Kd.int .u8))).sz = 1 from rfl, Nat.mul_one] at hv553_0
          replace hv553_0 := Option.some.inj (hv553_0.symm.trans hx553_0)
          injection hv553_0 with hva_ hvn_ hvc_
          rw [hva_] at ge553_0
          rw [hvc_] at ul553_0
          have HL553_0 := r' (show Kd.V (Kd.int .u8) 5 _ w.heap.size _ _ (rd_L1 l1 x9_1) from Kd.V_mk ul553_0 ge553_0)
          clear hva_ hvn_ hvc_ ge553_0 ul553_0
          clear hcc553 hce553
          have HR553_0 := r' hi553_0
          have HC553_0 := r' hl553_0
          clear hi553_0 hl553_0
          replace p553 := eq_true p553
          replace q553 := eq_true q553
          refine start_ (n := 14) (S := fun w' => w'.cell? ⟨gb552, 0, none⟩ = some (.slice Ao16 x553000_1.length co16) ∧ w'.cell? ⟨gb552, 1, none⟩ = some (.int .i64 x553001_1) ∧ w'.cell? (ad553.add (x9_1).toNat) = some (.slice A553_0 (rd_L1 l1 x9_1).length c553_0)) (ds := []) #[Z,Z,Z,Z,Z,Z,Z,Z,Z,Z,Z,Z,Z,Z] (by kernel_rfl) rfl rfl ⟨(e' BK552.out 0).trans rfl, (e' BK552.out 1).trans rfl, hx553_0⟩ (fun hHeld => ?_); refine with_tabW fanlightlaw06_filled.tab6 fanlightlaw06_filled.bits6 (fun HT_ HW_ => ?_)
          generalize wc.drew = w17 at HO_1 HO_8 HO_553000 BK551 BK552 HB HL553_0 HR553_0 hx553_0 hHeld ⊢
          refine pP 1 31 #[Z,Y,Z,Z,Z,Z,Z,Z,Z,Z,Z,Z,Z,Z] HT_ (h := ?_)
          refine pP 2 32 #[Z,Y,Y,Z,Z,Z,Z,Z,Z,Z,Z,Z,Z,Z] HT_ (h := ?_)
          refine pP 3 33 #[Z,Y,Y,Y,Z,Z,Z,Z,Z,Z,Z,Z,Z,Z] HT_ (h := ?_)
          refine tP 0 30 #[Y,Y,Y,Y,Z,Z,Z,Z,Z,Z,Z,Z,Z,Z] HT_ HW_ hHeld (hy := by refine Or.inl ⟨by rfl, ?_⟩; rintro w' ⟨s0, s1, s2⟩; go_simp; with_reducible rfl) (h := ?_)
          refine tP 4 34 #[Y,Y,Y,Y,Y,Z,Z,Z,Z,Z,Z,Z,Z,Z] HT_ HW_ hHeld (hy := by refine Or.inl ⟨by rfl, ?_⟩; rintro w' ⟨s0, s1, s2⟩; go_simp; with_reducible rfl) (h := ?_)
          refine join_ (σ := Value × Nat) 3 #[Y,Y,Y,Y,Y,Y,Y,Y,Y,Y,Y,Z,Z,Z] (fun s_ => [(35, .tuple #[.agg #[s_.1, .int .i64 t557], .int .i64 t558, .int .i64 t559]), (10, .pointer (some ⟨s_.2, 0, none⟩)), (29, .tuple #[.agg #[s_.1, .int .i64 t557], .int .i64 t558, .int .i64 t559]), (36, .agg #[s_.1, .int .i64 t557]), (37, .int .i64 t558), (38, .int .i64 t559)]) (fun s_ w' => (w'.cell? ⟨gb552, 0, none⟩ = some (.slice Ao16 x553000_1.length co16) ∧ w'.cell? ⟨gb552, 1, none⟩ = some (.int .i64 x553001_1) ∧ w'.cell? (ad553.add (x9_1).toNat) = some (.slice A553_0 (rd_L1 l1 x9_1).length c553_0)) ∧ (Kd.V (Kd.int .u8) 5 w' w.heap.size (fun k_ => (P1_ k_ ∨ w.heap.size ≤ k_) ∧ some k_ ≠ (s_.1 : Value).ownBlock ∧ some k_ ≠ (.slice Ao16 x553000_1.length co16 : Value).ownBlock ∧ some k_ ≠ (u8 : Value).ownBlock ∧ k_ ≠ gb551 ∧ k_ ≠ gb552 ∧ k_ ≠ s_.2) (.slice A553_0 (rd_L1 l1 x9_1).length c553_0) (rd_L1 l1 x9_1)) ∧ (Kd.N (Kd.slice 5 (Kd.int .u8)) 25 w' w.heap.size (fun k_ => (P1_ k_ ∨ w.heap.size ≤ k_) ∧ some k_ ≠ (.slice Ao16 x553000_1.length co16 : Value).ownBlock ∧ some k_ ≠ (u8 : Value).ownBlock ∧ k_ ≠ gb551 ∧ k_ ≠ gb552 ∧ k_ ≠ s_.2) s_.1 t554) ∧ (Kd.V (Kd.slice 5 (Kd.int .u8)) 25 w' w.heap.size (fun k_ => (P1_ k_ ∨ w.heap.size ≤ k_) ∧ some k_ ≠ (s_.1 : Value).ownBlock ∧ some k_ ≠ (.slice Ao16 x553000_1.length co16 : Value).ownBlock ∧ some k_ ≠ (u8 : Value).ownBlock ∧ k_ ≠ gb551 ∧ k_ ≠ gb552 ∧ k_ ≠ s_.2) (.slice (some ad553) l1.length c1) l1) ∧ (Kd.N (Kd.slice 5 (Kd.int .u8)) 25 w' w.heap.size (fun k_ => (P1_ k_ ∨ w.heap.size ≤ k_) ∧ some k_ ≠ (s_.1 : Value).ownBlock ∧ some k_ ≠ (u8 : Value).ownBlock ∧ k_ ≠ gb551 ∧ k_ ≠ gb552 ∧ k_ ≠ s_.2) (.slice Ao16 x553000_1.length co16) x553000_1) ∧ (Kd.N k57 57 w' w.heap.size (fun k_ => (P1_ k_ ∨ w.heap.size ≤ k_) ∧ some k_ ≠ (s_.1 : Value).ownBlock ∧ some k_ ≠ (.slice Ao16 x553000_1.length co16 : Value).ownBlock ∧ k_ ≠ gb551 ∧ k_ ≠ gb552 ∧ k_ ≠ s_.2) u8 x8_1) ∧ (w'.heap[gb551]? = some (.cells #[.slice none 0 0, .int .i64 x552001_1] 27 (0, 0))) ∧ (w'.heap[gb552]? = some (.cells #[.slice Ao16 x553000_1.length co16, .int .i64 x553001_1] 27 (0, 0))) ∧ (w'.heap[s_.2]? = some (.cells #[.slice none 0 0, .int .i64 0] 27 (0, 0))) ∧ (w.heap.size ≤ s_.2) ∧ (w.heap.size ≤ s_.2) ∧ (gb551 ≠ s_.2) ∧ (s_.2 ≠ gb551) ∧ (gb552 ≠ s_.2) ∧ (s_.2 ≠ gb552) ∧ (Below w.heap.size w w')) ?_ ?_
          rotate_left
          ·
           intro hCont
           refine two_ (i := 5) (j := 10) (Ni := some 35) (Nj := some 10) #[Y,Y,Y,Y,Y,Y,Z,Z,Z,Z,Z,Z,Z,Z] #[Y,Y,Y,Y,Y,Z,Z,Z,Z,Z,Y,Z,Z,Z] rfl rfl rfl rfl (two_of HT_.out (by kernel_rfl)) (by decide) (by decide) (fun K hK => ?_) (fun K hK => ?_)
           ·
            skip
            refine goes_ Try.func11 (by kernel_rfl) rfl #[.agg #[.slice Ao16 x553000_1.length co16, .int .i64 x553001_1], .slice A553_0 (rd_L1 l1 x9_1).length c553_0] (by rfl) rfl rfl (by (try simp only [List.map_toArray, List.map_cons, List.map_nil]); first | done | rfl | (simp only [List.length_drop, List.length_take]; rfl)) ?_
            with_reducible refine (wal_Append.calls kj6 _ _ x553000_1 x553001_1 _ _ (rd_L1 l1 x9_1) t554 t557 t558 t559 _ ?side1 ?side2 ?side3 ?side4 A12.out).mono ?_
            (case side1 => exact Kd.kC (Kd.N_reads' HO_553000.out).2.2)
            (case side2 => exact (Kd.N_reads' HO_553000.out).2.1)
            (case side3 => exact Kd.cC HR553_0)
            (case side4 => exact HC553_0.out)
            rintro e w18 ⟨v555, rfl, ho0, hb⟩
            have HS2_ := (hb.cell (World.block_lt_of_cell? _ _ (hHeld.2.2))).trans (hHeld.2.2)
            refine ⟨_, rfl, ?_⟩
            have n0_ := r' (Kd.V_elder' (Kd.eV HO_1) (h' ho0) hb)
            have n1_ := r' (Kd.N_elder' (Kd.eN HO_8) (h' ho0) hb)
            have n2_ := r' (Kd.N_elder' (Kd.eN HO_553000) (h' ho0) hb)
            have n3_ := r' (Kd.V_elder' (Kd.eV HL553_0) (h' ho0) hb)
            have n4_ := r' (Kd.N_lower (b' (ok' := fun k_ => (P1_ k_ ∨ w.heap.size ≤ k_) ∧ some k_ ≠ (u8 : Value).ownBlock ∧ some k_ ≠ (.slice Ao16 x553000_1.length co16 : Value).ownBlock ∧ k_ ≠ gb551 ∧ k_ ≠ gb552) (Kd.S_N (Kd.S_bound ho0)) (fun k_ hk_ => ⟨(.inr (Nat.le_trans (d' (eH HB)) hk_.2.1)), (Kd.fresh' (Kd.N_lt (Kd.eN HO_8)) k_ hk_.2.1), (Kd.fresh' (Kd.N_lt (Kd.eN HO_553000)) k_ hk_.2.1), (m' (g := gb551) (o := .cells #[.slice none 0 0, .int .i64 x552001_1] 27 (0, 0)) (eB BK551) k_ hk_.2.1), (m' (g := gb552) (o := .cells #[.slice Ao16 x553000_1.length co16, .int .i64 x553001_1] 27 (0, 0)) (eB BK552) k_ hk_.2.1)⟩)) (d' (eH HB)))
            have n5_ := bB BK551 hb
            have n6_ := bB BK552 hb
            have n7_ := r' (Kd.C_below (Kd.cC HR553_0) hb)
            have n8_ := r' (below_step (eH HB) hb)
            clear HO_1
            clear HO_8
            clear HO_553000
            clear HL553_0
            clear BK551
            clear BK552
            clear HR553_0
            clear HB
            have HO_1 := n0_
            have HO_8 := n1_
            have HO_553000 := n2_
            have HL553_0 := n3_
            have HO556 := n4_
            have BK551 := n5_
            have BK552 := n6_
            have HR553_0 := n7_
            have HB := n8_
            clear n0_ n1_ n2_ n3_ n4_ n5_ n6_ n7_ n8_
            (try clear hb)
            (try clear hb2)
            (try clear hk)
            (try clear hi)
            (try clear ho0)
            refine hK.out _ _ ⟨(e' BK552.out 0).trans rfl, (e' BK552.out 1).trans rfl, HS2_⟩ (fun hHeld => ?_)
            clear hK K
            refine norm_ (a' := ?_) ?_ ?_
            rotate_left
            ·
             show Act.put _ (some 35) _ = _
             exact uP
            refine pP 6 29 #[Y,Y,Y,Y,Y,Y,Y,Z,Z,Z,Z,Z,Z,Z] HT_ (h := ?_)
            refine pP 7 36 #[Y,Y,Y,Y,Y,Y,Y,Y,Z,Z,Z,Z,Z,Z] HT_ (h := ?_)
            refine pP 8 37 #[Y,Y,Y,Y,Y,Y,Y,Y,Y,Z,Z,Z,Z,Z] HT_ (h := ?_)
            refine pP 9 38 #[Y,Y,Y,Y,Y,Y,Y,Y,Y,Y,Z,Z,Z,Z] HT_ (h := ?_)
            refine one_ (i := 10) (N := some 10) #[Y,Y,Y,Y,Y,Y,Y,Y,Y,Y,Y,Z,Z,Z] rfl rfl (one_of HT_.out (by kernel_rfl)) (by decide) (fun K hK => ?_)
            refine box_step ?hg (N := 10) ?hd (cs := #[.slice none 0 0, .int .i64 0]) (t := 27) ?hr ?_; (case hd => rfl); (case hg => rfl); (case hr => go_simp <;> rfl)
            intro gb560 hg w19 hbox hb
            have HS2_ := (hb.cell (World.block_lt_of_cell? _ _ (hHeld.2.2))).trans (hHeld.2.2)
            have n0_ := r' (Kd.V_below (Kd.V_elderB (Kd.eV HO_1) gb560 (Nat.le_of_eq hg.symm)) hb)
            have n1_ := r' (n' (Kd.N_elderB (Kd.eN HO_8) gb560 (Nat.le_of_eq hg.symm)) hb)
            have n2_ := r' (n' (Kd.N_elderB (Kd.eN HO_553000) gb560 (Nat.le_of_eq hg.symm)) hb)
            have n3_ := r' (Kd.V_below (Kd.V_elderB (Kd.eV HL553_0) gb560 (Nat.le_of_eq hg.symm)) hb)
            have n4_ := r' (n' (Kd.N_elderB (Kd.eN HO556) gb560 (Nat.le_of_eq hg.symm)) hb)
            have n5_ := bB BK551 hb
            have n6_ := bB BK552 hb
            have n7_ := r' (Kd.C_below (Kd.cC HR553_0) hb)
            have n8_ := r' (below_step (eH HB) hb)
            have n9_ := r' (hbox)
            have n10_ := r' ((by rw [hg]; exact (d' (eH HB)) : w.heap.size ≤ gb560))
            have n11_ := r' ((by rw [hg]; exact (d' (eH HB)) : w.heap.size ≤ gb560))
            have n12_ := nL hg BK551
            have n13_ := nG hg BK551
            have n14_ := nL hg BK552
            have n15_ := nG hg BK552
            clear HO_1
            clear HO_8
            clear HO_553000
            clear HL553_0
            clear HO556
            clear BK551
            clear BK552
            clear HR553_0
            clear HB
            have HO_1 := n0_
            have HO_8 := n1_
            have HO_553000 := n2_
            have HL553_0 := n3_
            have HO556 := n4_
            have BK551 := n5_
            have BK552 := n6_
            have HR553_0 := n7_
            have HB := n8_
            have BK560 := n9_
            have GW560 := n10_
            have GE560 := n11_
            have NB551_560 := n12_
            have NB560_551 := n13_
            have NB552_560 := n14_
            have NB560_552 := n15_
            clear n0_ n1_ n2_ n3_ n4_ n5_ n6_ n7_ n8_ n9_ n10_ n11_ n12_ n13_ n14_ n15_
            clear hb hbox hg
            refine hK.out _ _ ⟨(e' BK552.out 0).trans rfl, (e' BK552.out 1).trans rfl, HS2_⟩ (fun hHeld => ?_)
            clear hK K
            refine norm_ (a' := ?_) ?_ ?_
            rotate_left
            ·
             show Act.put _ (some 10) _ = _
             exact uP
            exact norm_ (by simp only [putAll, Act.put, o', p', q']) (hCont (v555, gb560) _ ⟨hHeld, (Kd.kV (c' HL553_0.out (fun _ hk => ⟨hk.1.1.1, ⟨hk.1.2, ⟨hk.1.1.2.2.1, ⟨hk.1.1.2.1, ⟨hk.1.1.2.2.2.1, ⟨hk.1.1.2.2.2.2, hk.2⟩⟩⟩⟩⟩⟩))), (Kd.kN (b' HO556.out (fun _ hk => ⟨hk.1.1, ⟨hk.1.2.2.1, ⟨hk.1.2.1, ⟨hk.1.2.2.2.1, ⟨hk.1.2.2.2.2, hk.2⟩⟩⟩⟩⟩))), (Kd.kV (c' HO_1.out (fun _ hk => ⟨hk.1.1.1, ⟨hk.1.2, ⟨hk.1.1.2.2.1, ⟨hk.1.1.2.1, ⟨hk.1.1.2.2.2.1, ⟨hk.1.1.2.2.2.2, hk.2⟩⟩⟩⟩⟩⟩))), (Kd.kN (b' HO_553000.out (fun _ hk => ⟨hk.1.1.1, ⟨hk.1.2, ⟨hk.1.1.2.1, ⟨hk.1.1.2.2.1, ⟨hk.1.1.2.2.2, hk.2⟩⟩⟩⟩⟩))), (Kd.kN (b' HO_8.out (fun _ hk => ⟨hk.1.1.1, ⟨hk.1.2, ⟨hk.1.1.2.1, ⟨hk.1.1.2.2.1, ⟨hk.1.1.2.2.2, hk.2⟩⟩⟩⟩⟩))), (eB BK551), (eB BK552), (eB BK560), GW560.out, GE560.out, NB551_560.out, NB560_551.out, NB552_560.out, NB560_552.out, (eH HB)⟩)
           ·
            skip
            refine box_step ?hg (N := 10) ?hd (cs := #[.slice none 0 0, .int .i64 0]) (t := 27) ?hr ?_; (case hd => rfl); (case hg => rfl); (case hr => go_simp <;> rfl)
            intro gb560 hg w18 hbox hb
            have HS2_ := (hb.cell (World.block_lt_of_cell? _ _ (hHeld.2.2))).trans (hHeld.2.2)
            have n0_ := r' (Kd.V_below (Kd.V_elderB (Kd.eV HO_1) gb560 (Nat.le_of_eq hg.symm)) hb)
            have n1_ := r' (n' (Kd.N_elderB (Kd.eN HO_8) gb560 (Nat.le_of_eq hg.symm)) hb)
            have n2_ := r' (n' (Kd.N_elderB (Kd.eN HO_553000) gb560 (Nat.le_of_eq hg.symm)) hb)
            have n3_ := r' (Kd.V_below (Kd.V_elderB (Kd.eV HL553_0) gb560 (Nat.le_of_eq hg.symm)) hb)
            have n4_ := bB BK551 hb
            have n5_ := bB BK552 hb
            have n6_ := r' (Kd.C_below (Kd.cC HR553_0) hb)
            have n7_ := r' (below_step (eH HB) hb)
            have n8_ := r' (hbox)
            have n9_ := r' ((by rw [hg]; exact (d' (eH HB)) : w.heap.size ≤ gb560))
            have n10_ := r' ((by rw [hg]; exact (d' (eH HB)) : w.heap.size ≤ gb560))
            have n11_ := nL hg BK551
            have n12_ := nG hg BK551
            have n13_ := nL hg BK552
            have n14_ := nG hg BK552
            clear HO_1
            clear HO_8
            clear HO_553000
            clear HL553_0
            clear BK551
            clear BK552
            clear HR553_0
            clear HB
            have HO_1 := n0_
            have HO_8 := n1_
            have HO_553000 := n2_
            have HL553_0 := n3_
            have BK551 := n4_
            have BK552 := n5_
            have HR553_0 := n6_
            have HB := n7_
            have BK560 := n8_
            have GW560 := n9_
            have GE560 := n10_
            have NB551_560 := n11_
            have NB560_551 := n12_
            have NB552_560 := n13_
            have NB560_552 := n14_
            clear n0_ n1_ n2_ n3_ n4_ n5_ n6_ n7_ n8_ n9_ n10_ n11_ n12_ n13_ n14_
            clear hb hbox hg
            refine hK.out _ _ ⟨(e' BK552.out 0).trans rfl, (e' BK552.out 1).trans rfl, HS2_⟩ (fun hHeld => ?_)
            clear hK K
            refine norm_ (a' := ?_) ?_ ?_
            rotate_left
            ·
             show Act.put _ (some 10) _ = _
             exact uP
            refine one_ (i := 5) (N := some 35) #[Y,Y,Y,Y,Y,Y,Z,Z,Z,Z,Y,Z,Z,Z] rfl rfl (one_of HT_.out (by kernel_rfl)) (by decide) (fun K hK => ?_)
            refine goes_ Try.func11 (by kernel_rfl) rfl #[.agg #[.slice Ao16 x553000_1.length co16, .int .i64 x553001_1], .slice A553_0 (rd_L1 l1 x9_1).length c553_0] (by rfl) rfl rfl (by (try simp only [List.map_toArray, List.map_cons, List.map_nil]); first | done | rfl | (simp only [List.length_drop, List.length_take]; rfl)) ?_
            with_reducible refine (wal_Append.calls kj6 _ _ x553000_1 x553001_1 _ _ (rd_L1 l1 x9_1) t554 t557 t558 t559 _ ?side1 ?side2 ?side3 ?side4 A12.out).mono ?_
            (case side1 => exact Kd.kC (Kd.N_reads' HO_553000.out).2.2)
            (case side2 => exact (Kd.N_reads' HO_553000.out).2.1)
            (case side3 => exact Kd.cC HR553_0)
            (case side4 => exact HC553_0.out)
            rintro e w19 ⟨v555, rfl, ho0, hb⟩
            have HS2_ := (hb.cell (World.block_lt_of_cell? _ _ (hHeld.2.2))).trans (hHeld.2.2)
            refine ⟨_, rfl, ?_⟩
            have n0_ := r' (Kd.V_elder' (Kd.eV HO_1) (h' ho0) hb)
            have n1_ := r' (Kd.N_elder' (Kd.eN HO_8) (h' ho0) hb)
            have n2_ := r' (Kd.N_elder' (Kd.eN HO_553000) (h' ho0) hb)
            have n3_ := r' (Kd.V_elder' (Kd.eV HL553_0) (h' ho0) hb)
            have n4_ := r' (Kd.N_lower (b' (ok' := fun k_ => (P1_ k_ ∨ w.heap.size ≤ k_) ∧ some k_ ≠ (u8 : Value).ownBlock ∧ some k_ ≠ (.slice Ao16 x553000_1.length co16 : Value).ownBlock ∧ k_ ≠ gb551 ∧ k_ ≠ gb552 ∧ k_ ≠ gb560) (Kd.S_N (Kd.S_bound ho0)) (fun k_ hk_ => ⟨(.inr (Nat.le_trans (d' (eH HB)) hk_.2.1)), (Kd.fresh' (Kd.N_lt (Kd.eN HO_8)) k_ hk_.2.1), (Kd.fresh' (Kd.N_lt (Kd.eN HO_553000)) k_ hk_.2.1), (m' (g := gb551) (o := .cells #[.slice none 0 0, .int .i64 x552001_1] 27 (0, 0)) (eB BK551) k_ hk_.2.1), (m' (g := gb552) (o := .cells #[.slice Ao16 x553000_1.length co16, .int .i64 x553001_1] 27 (0, 0)) (eB BK552) k_ hk_.2.1), (m' (g := gb560) (o := .cells #[.slice none 0 0, .int .i64 0] 27 (0, 0)) (eB BK560) k_ hk_.2.1)⟩)) (d' (eH HB)))
            have n5_ := bB BK551 hb
            have n6_ := bB BK552 hb
            have n7_ := r' (Kd.C_below (Kd.cC HR553_0) hb)
            have n8_ := bB BK560 hb
            have n9_ := r' (below_step (eH HB) hb)
            clear HO_1
            clear HO_8
            clear HO_553000
            clear HL553_0
            clear BK551
            clear BK552
            clear HR553_0
            clear BK560
            clear HB
            have HO_1 := n0_
            have HO_8 := n1_
            have HO_553000 := n2_
            have HL553_0 := n3_
            have HO556 := n4_
            have BK551 := n5_
            have BK552 := n6_
            have HR553_0 := n7_
            have BK560 := n8_
            have HB := n9_
            clear n0_ n1_ n2_ n3_ n4_ n5_ n6_ n7_ n8_ n9_
            (try clear hb)
            (try clear hb2)
            (try clear hk)
            (try clear hi)
            (try clear ho0)
            refine hK.out _ _ ⟨(e' BK552.out 0).trans rfl, (e' BK552.out 1).trans rfl, HS2_⟩ (fun hHeld => ?_)
            clear hK K
            refine norm_ (a' := ?_) ?_ ?_
            rotate_left
            ·
             show Act.put _ (some 35) _ = _
             exact uP
            refine pP 6 29 #[Y,Y,Y,Y,Y,Y,Y,Z,Z,Z,Y,Z,Z,Z] HT_ (h := ?_)
            refine pP 7 36 #[Y,Y,Y,Y,Y,Y,Y,Y,Z,Z,Y,Z,Z,Z] HT_ (h := ?_)
            refine pP 8 37 #[Y,Y,Y,Y,Y,Y,Y,Y,Y,Z,Y,Z,Z,Z] HT_ (h := ?_)
            refine pP 9 38 #[Y,Y,Y,Y,Y,Y,Y,Y,Y,Y,Y,Z,Z,Z] HT_ (h := ?_)
            exact norm_ (by simp only [putAll, Act.put, o', p', q']) (hCont (v555, gb560) _ ⟨hHeld, (Kd.kV (c' HL553_0.out (fun _ hk => ⟨hk.1.1.1, ⟨hk.2, ⟨hk.1.1.2.2.1, ⟨hk.1.1.2.1, ⟨hk.1.1.2.2.2.1, ⟨hk.1.1.2.2.2.2, hk.1.2⟩⟩⟩⟩⟩⟩))), (Kd.kN (b' HO556.out (fun _ hk => ⟨hk.1, ⟨hk.2.2.1, ⟨hk.2.1, ⟨hk.2.2.2.1, ⟨hk.2.2.2.2.1, hk.2.2.2.2.2⟩⟩⟩⟩⟩))), (Kd.kV (c' HO_1.out (fun _ hk => ⟨hk.1.1.1, ⟨hk.2, ⟨hk.1.1.2.2.1, ⟨hk.1.1.2.1, ⟨hk.1.1.2.2.2.1, ⟨hk.1.1.2.2.2.2, hk.1.2⟩⟩⟩⟩⟩⟩))), (Kd.kN (b' HO_553000.out (fun _ hk => ⟨hk.1.1.1, ⟨hk.2, ⟨hk.1.1.2.1, ⟨hk.1.1.2.2.1, ⟨hk.1.1.2.2.2, hk.1.2⟩⟩⟩⟩⟩))), (Kd.kN (b' HO_8.out (fun _ hk => ⟨hk.1.1.1, ⟨hk.2, ⟨hk.1.1.2.1, ⟨hk.1.1.2.2.1, ⟨hk.1.1.2.2.2, hk.1.2⟩⟩⟩⟩⟩))), (eB BK551), (eB BK552), (eB BK560), GW560.out, GE560.out, NB551_560.out, NB560_551.out, NB552_560.out, NB560_552.out, (eH HB)⟩)
          rintro ⟨v555, gb560⟩ w20 ⟨hS_, h0_, h1_, h2_, h3_, h4_, h5_, h6_, h7_, h8_, h9_, h10_, h11_, h12_, h13_, h14_⟩
          have n0_ : Aside0 (Kd.V (Kd.int .u8) 5 w20 w.heap.size (fun k_ => (P1_ k_ ∨ w.heap.size ≤ k_) ∧ some k_ ≠ (v555 : Value).ownBlock ∧ some k_ ≠ (.slice Ao16 x553000_1.length co16 : Value).ownBlock ∧ some k_ ≠ (u8 : Value).ownBlock ∧ k_ ≠ gb551 ∧ k_ ≠ gb552 ∧ k_ ≠ gb560) (.slice A553_0 (rd_L1 l1 x9_1).length c553_0) (rd_L1 l1 x9_1)) := ⟨h0_⟩
          have n1_ : Aside0 (Kd.N (Kd.slice 5 (Kd.int .u8)) 25 w20 w.heap.size (fun k_ => (P1_ k_ ∨ w.heap.size ≤ k_) ∧ some k_ ≠ (.slice Ao16 x553000_1.length co16 : Value).ownBlock ∧ some k_ ≠ (u8 : Value).ownBlock ∧ k_ ≠ gb551 ∧ k_ ≠ gb552 ∧ k_ ≠ gb560) v555 t554) := ⟨h1_⟩
          have n2_ : Aside0 (Kd.V (Kd.slice 5 (Kd.int .u8)) 25 w20 w.heap.size (fun k_ => (P1_ k_ ∨ w.heap.size ≤ k_) ∧ some k_ ≠ (v555 : Value).ownBlock ∧ some k_ ≠ (.slice Ao16 x553000_1.length co16 : Value).ownBlock ∧ some k_ ≠ (u8 : Value).ownBlock ∧ k_ ≠ gb551 ∧ k_ ≠ gb552 ∧ k_ ≠ gb560) (.slice (some ad553) l1.length c1) l1) := ⟨h2_⟩
          have n3_ : Aside0 (Kd.N (Kd.slice 5 (Kd.int .u8)) 25 w20 w.heap.size (fun k_ => (P1_ k_ ∨ w.heap.size ≤ k_) ∧ some k_ ≠ (v555 : Value).ownBlock ∧ some k_ ≠ (u8 : Value).ownBlock ∧ k_ ≠ gb551 ∧ k_ ≠ gb552 ∧ k_ ≠ gb560) (.slice Ao16 x553000_1.length co16) x553000_1) := ⟨h3_⟩
          have n4_ : Aside0 (Kd.N k57 57 w20 w.heap.size (fun k_ => (P1_ k_ ∨ w.heap.size ≤ k_) ∧ some k_ ≠ (v555 : Value).ownBlock ∧ some k_ ≠ (.slice Ao16 x553000_1.length co16 : Value).ownBlock ∧ k_ ≠ gb551 ∧ k_ ≠ gb552 ∧ k_ ≠ gb560) u8 x8_1) := ⟨h4_⟩
          have n5_ : Aside0 (w20.heap[gb551]? = some (.cells #[.slice none 0 0, .int .i64 x552001_1] 27 (0, 0))) := ⟨h5_⟩
          have n6_ : Aside0 (w20.heap[gb552]? = some (.cells #[.slice Ao16 x553000_1.length co16, .int .i64 x553001_1] 27 (0, 0))) := ⟨h6_⟩
          have n7_ : Aside0 (w20.heap[gb560]? = some (.cells #[.slice none 0 0, .int .i64 0] 27 (0, 0))) := ⟨h7_⟩
          have n8_ : Aside0 (w.heap.size ≤ gb560) := ⟨h8_⟩
          have n9_ : Aside0 (w.heap.size ≤ gb560) := ⟨h9_⟩
          have n10_ : Aside0 (gb551 ≠ gb560) := ⟨h10_⟩
          have n11_ : Aside0 (gb560 ≠ gb551) := ⟨h11_⟩
          have n12_ : Aside0 (gb552 ≠ gb560) := ⟨h12_⟩
          have n13_ : Aside0 (gb560 ≠ gb552) := ⟨h13_⟩
          have n14_ : Aside0 (Below w.heap.size w w20) := ⟨h14_⟩
          clear HO_1
          clear HO_8
          clear HO_553000
          clear BK551
          clear BK552
          clear HB
          clear h0_ h1_ h2_ h3_ h4_ h5_ h6_ h7_ h8_ h9_ h10_ h11_ h12_ h13_ h14_
          have HL553_0 := n0_
          have HO556 := n1_
          have HO_1 := n2_
          have HO_553000 := n3_
          have HO_8 := n4_
          have BK551 := n5_
          have BK552 := n6_
          have BK560 := n7_
          have GW560 := n8_
          have GE560 := n9_
          have NB551_560 := n10_
          have NB560_551 := n11_
          have NB552_560 := n12_
          have NB560_552 := n13_
          have HB := n14_
          clear n0_ n1_ n2_ n3_ n4_ n5_ n6_ n7_ n8_ n9_ n10_ n11_ n12_ n13_ n14_
          have hHeld : w20.cell? ⟨gb552, 0, none⟩ = some (.slice Ao16 x553000_1.length co16) ∧ w20.cell? ⟨gb552, 1, none⟩ = some (.int .i64 x553001_1) ∧ w20.cell? (ad553.add (x9_1).toNat) = some (.slice A553_0 (rd_L1 l1 x9_1).length c553_0) := hS_
          obtain ⟨Ao21, co21, eo21⟩ := Kd.N_slice HO556.out
          (first | subst eo21 | (injection eo21 with f1_ f2_ f3_; have f4_ := f1_.symm; have f5_ := f3_.symm; clear f1_ f2_ f3_; subst f4_; subst f5_))
          refine norm_ (a' := ?_) ?_ ?_
          rotate_left
          ·
           simp only [putAll, Act.put, o', p', q']
           rfl
          refine one_ (i := 11) (N := none) #[Y,Y,Y,Y,Y,Y,Y,Y,Y,Y,Y,Y,Z,Z] rfl rfl (one_of HT_.out (by kernel_rfl)) (by decide) (fun K hK => ?_)
          have hs22 : w20.cell? ⟨gb560, 0, none⟩ = some (.slice none 0 0) := (e' BK560.out 0).trans rfl
          have hfs22 := j' BK560.out 0
          have hns22_0 := NB551_560.out
          have hns22_1 := NB552_560.out
          have hms22_0 := NB560_551.out
          have hms22_1 := NB560_552.out
          have hs23 : w20.cell? ⟨gb560, 1, none⟩ = some (.int .i64 0) := (e' BK560.out 1).trans rfl
          have hfs23 := j' BK560.out 1
          have hns23_0 := NB551_560.out
          have hns23_1 := NB552_560.out
          have hms23_0 := NB560_551.out
          have hms23_1 := NB560_552.out
          refine skip_ (w1 := ?_) (by rfl) rfl ?_ ?_
          rotate_left
          ·
           go_simp
           rfl
          refine hK.out _ _ ⟨((cell_far (p := ⟨gb560, _, none⟩) NB552_560.out _).trans (((cell_far (p := ⟨gb560, _, none⟩) NB552_560.out _).trans (hHeld.1)))), ((cell_far (p := ⟨gb560, _, none⟩) NB552_560.out _).trans (((cell_far (p := ⟨gb560, _, none⟩) NB552_560.out _).trans (hHeld.2.1)))), ((cell_far (p := ⟨gb560, _, none⟩) (by first | exact Kd.own_blk (Kd.V_away' HO_1.out p553 q553 (fun _ hk => hk.2.2.2.2.2.2)) | (rw [add_block]; exact Kd.own_blk (Kd.V_away' HO_1.out p553 q553 (fun _ hk => hk.2.2.2.2.2.2))) | (show (Addr.add _ _).block ≠ _; rw [add_block]; exact Kd.own_blk (Kd.V_away' HO_1.out p553 q553 (fun _ hk => hk.2.2.2.2.2.2))) | (dsimp only; exact Kd.own_blk (Kd.V_away' HO_1.out p553 q553 (fun _ hk => hk.2.2.2.2.2.2)))) _).trans (((cell_far (p := ⟨gb560, _, none⟩) (by first | exact Kd.own_blk (Kd.V_away' HO_1.out p553 q553 (fun _ hk => hk.2.2.2.2.2.2)) | (rw [add_block]; exact Kd.own_blk (Kd.V_away' HO_1.out p553 q553 (fun _ hk => hk.2.2.2.2.2.2))) | (show (Addr.add _ _).block ≠ _; rw [add_block]; exact Kd.own_blk (Kd.V_away' HO_1.out p553 q553 (fun _ hk => hk.2.2.2.2.2.2))) | (dsimp only; exact Kd.own_blk (Kd.V_away' HO_1.out p553 q553 (fun _ hk => hk.2.2.2.2.2.2)))) _).trans (hHeld.2.2))))⟩ (fun hHeld => ?_)
          clear hK K
          refine pP 12 11 #[Y,Y,Y,Y,Y,Y,Y,Y,Y,Y,Y,Y,Y,Z] HT_ (h := ?_)
          refine pP 13 12 #[Y,Y,Y,Y,Y,Y,Y,Y,Y,Y,Y,Y,Y,Y] HT_ (h := ?_)
          refine done_ (done_of HT_.out (by kernel_rfl)) ?_
          have n0_ : Aside0 (Kd.V (Kd.slice 5 (Kd.int .u8)) 25 ((w20.setCell ⟨gb560, 0, none⟩ (.slice Ao21 t554.length co21)).setCell ⟨gb560, 1, none⟩ (.int .i64 t557)) w.heap.size (fun k_ => (P1_ k_ ∨ w.heap.size ≤ k_) ∧ some k_ ≠ (u8 : Value).ownBlock ∧ some k_ ≠ (.slice Ao16 x553000_1.length co16 : Value).ownBlock ∧ some k_ ≠ (.slice Ao21 t554.length co21 : Value).ownBlock ∧ k_ ≠ gb551 ∧ k_ ≠ gb552 ∧ k_ ≠ gb560) (.slice (some ad553) l1.length c1) l1) := ⟨by (with_reducible repeat (first | apply Kd.V_alloc | apply Kd.V_drewN | apply Kd.V_drew)); exact c' (Kd.V_far (p := ⟨gb560, 1, none⟩) (Kd.V_far (p := ⟨gb560, 0, none⟩) (c' HO_1.out (fun k_ hk => (⟨hk, hk.2.2.2.2.2.2⟩ : _ ∧ k_ ≠ gb560))) (fun _ hk => hk.2) (.slice Ao21 t554.length co21)) (fun _ hk => hk.2) (.int .i64 t557)) (fun _ hk => ⟨hk.1.1, ⟨hk.1.2.2.2.1, ⟨hk.1.2.2.1, ⟨hk.1.2.1, ⟨hk.1.2.2.2.2.1, ⟨hk.1.2.2.2.2.2.1, hk.1.2.2.2.2.2.2⟩⟩⟩⟩⟩⟩)⟩
          have n1_ : Aside0 (Kd.N k57 57 ((w20.setCell ⟨gb560, 0, none⟩ (.slice Ao21 t554.length co21)).setCell ⟨gb560, 1, none⟩ (.int .i64 t557)) w.heap.size (fun k_ => (P1_ k_ ∨ w.heap.size ≤ k_) ∧ some k_ ≠ (.slice Ao16 x553000_1.length co16 : Value).ownBlock ∧ some k_ ≠ (.slice Ao21 t554.length co21 : Value).ownBlock ∧ k_ ≠ gb551 ∧ k_ ≠ gb552 ∧ k_ ≠ gb560) u8 x8_1) := ⟨by (with_reducible repeat (first | apply l' | apply k' | apply g')); exact b' (f' (p := ⟨gb560, 1, none⟩) (f' (p := ⟨gb560, 0, none⟩) (b' HO_8.out (fun k_ hk => (⟨hk, hk.2.2.2.2.2⟩ : _ ∧ k_ ≠ gb560))) (fun _ hk => hk.2) (.slice Ao21 t554.length co21)) (fun _ hk => hk.2) (.int .i64 t557)) (fun _ hk => ⟨hk.1.1, ⟨hk.1.2.2.1, ⟨hk.1.2.1, ⟨hk.1.2.2.2.1, ⟨hk.1.2.2.2.2.1, hk.1.2.2.2.2.2⟩⟩⟩⟩⟩)⟩
          have n2_ : Aside0 (Kd.N (Kd.slice 5 (Kd.int .u8)) 25 ((w20.setCell ⟨gb560, 0, none⟩ (.slice Ao21 t554.length co21)).setCell ⟨gb560, 1, none⟩ (.int .i64 t557)) w.heap.size (fun k_ => (P1_ k_ ∨ w.heap.size ≤ k_) ∧ some k_ ≠ (u8 : Value).ownBlock ∧ some k_ ≠ (.slice Ao21 t554.length co21 : Value).ownBlock ∧ k_ ≠ gb551 ∧ k_ ≠ gb552 ∧ k_ ≠ gb560) (.slice Ao16 x553000_1.length co16) x553000_1) := ⟨by (with_reducible repeat (first | apply l' | apply k' | apply g')); exact b' (f' (p := ⟨gb560, 1, none⟩) (f' (p := ⟨gb560, 0, none⟩) (b' HO_553000.out (fun k_ hk => (⟨hk, hk.2.2.2.2.2⟩ : _ ∧ k_ ≠ gb560))) (fun _ hk => hk.2) (.slice Ao21 t554.length co21)) (fun _ hk => hk.2) (.int .i64 t557)) (fun _ hk => ⟨hk.1.1, ⟨hk.1.2.2.1, ⟨hk.1.2.1, ⟨hk.1.2.2.2.1, ⟨hk.1.2.2.2.2.1, hk.1.2.2.2.2.2⟩⟩⟩⟩⟩)⟩
          have n3_ : Aside0 (Kd.V (Kd.int .u8) 5 ((w20.setCell ⟨gb560, 0, none⟩ (.slice Ao21 t554.length co21)).setCell ⟨gb560, 1, none⟩ (.int .i64 t557)) w.heap.size (fun k_ => (P1_ k_ ∨ w.heap.size ≤ k_) ∧ some k_ ≠ (u8 : Value).ownBlock ∧ some k_ ≠ (.slice Ao16 x553000_1.length co16 : Value).ownBlock ∧ some k_ ≠ (.slice Ao21 t554.length co21 : Value).ownBlock ∧ k_ ≠ gb551 ∧ k_ ≠ gb552 ∧ k_ ≠ gb560) (.slice A553_0 (rd_L1 l1 x9_1).length c553_0) (rd_L1 l1 x9_1)) := ⟨by (with_reducible repeat (first | apply Kd.V_alloc | apply Kd.V_drewN | apply Kd.V_drew)); exact c' (Kd.V_far (p := ⟨gb560, 1, none⟩) (Kd.V_far (p := ⟨gb560, 0, none⟩) (c' HL553_0.out (fun k_ hk => (⟨hk, hk.2.2.2.2.2.2⟩ : _ ∧ k_ ≠ gb560))) (fun _ hk => hk.2) (.slice Ao21 t554.length co21)) (fun _ hk => hk.2) (.int .i64 t557)) (fun _ hk => ⟨hk.1.1, ⟨hk.1.2.2.2.1, ⟨hk.1.2.2.1, ⟨hk.1.2.1, ⟨hk.1.2.2.2.2.1, ⟨hk.1.2.2.2.2.2.1, hk.1.2.2.2.2.2.2⟩⟩⟩⟩⟩⟩)⟩
          have n4_ : Aside0 (Kd.N (Kd.slice 5 (Kd.int .u8)) 25 ((w20.setCell ⟨gb560, 0, none⟩ (.slice Ao21 t554.length co21)).setCell ⟨gb560, 1, none⟩ (.int .i64 t557)) w.heap.size (fun k_ => (P1_ k_ ∨ w.heap.size ≤ k_) ∧ some k_ ≠ (u8 : Value).ownBlock ∧ some k_ ≠ (.slice Ao16 x553000_1.length co16 : Value).ownBlock ∧ k_ ≠ gb551 ∧ k_ ≠ gb552 ∧ k_ ≠ gb560) (.slice Ao21 t554.length co21) t554) := ⟨by (with_reducible repeat (first | apply l' | apply k' | apply g')); exact b' (f' (p := ⟨gb560, 1, none⟩) (f' (p := ⟨gb560, 0, none⟩) (b' HO556.out (fun k_ hk => (⟨hk, hk.2.2.2.2.2⟩ : _ ∧ k_ ≠ gb560))) (fun _ hk => hk.2) (.slice Ao21 t554.length co21)) (fun _ hk => hk.2) (.int .i64 t557)) (fun _ hk => ⟨hk.1.1, ⟨hk.1.2.2.1, ⟨hk.1.2.1, ⟨hk.1.2.2.2.1, ⟨hk.1.2.2.2.2.1, hk.1.2.2.2.2.2⟩⟩⟩⟩⟩)⟩
          have n5_ : Aside0 (((w20.setCell ⟨gb560, 0, none⟩ (.slice Ao21 t554.length co21)).setCell ⟨gb560, 1, none⟩ (.int .i64 t557)).heap[gb551]? = some (.cells #[.slice none 0 0, .int .i64 x552001_1] 27 (0, 0))) := ⟨by refine eK ?_; refine blk_far ?_ NB551_560.out _; refine eK ?_; refine blk_far ?_ NB551_560.out _; refine eK ?_; exact BK551.out⟩
          have n6_ : Aside0 (((w20.setCell ⟨gb560, 0, none⟩ (.slice Ao21 t554.length co21)).setCell ⟨gb560, 1, none⟩ (.int .i64 t557)).heap[gb552]? = some (.cells #[.slice Ao16 x553000_1.length co16, .int .i64 x553001_1] 27 (0, 0))) := ⟨by refine eK ?_; refine blk_far ?_ NB552_560.out _; refine eK ?_; refine blk_far ?_ NB552_560.out _; refine eK ?_; exact BK552.out⟩
          have n7_ : Aside0 (((w20.setCell ⟨gb560, 0, none⟩ (.slice Ao21 t554.length co21)).setCell ⟨gb560, 1, none⟩ (.int .i64 t557)).heap[gb560]? = some (.cells #[.slice Ao21 t554.length co21, .int .i64 t557] 27 (0, 0))) := ⟨by refine eK ?_; refine blk_put (cs := #[.slice Ao21 t554.length co21, .int .i64 0]) ?_ 1 _ rfl; refine eK ?_; refine blk_put (cs := #[.slice none 0 0, .int .i64 0]) ?_ 0 _ rfl; refine eK ?_; exact BK560.out⟩
          have n8_ : Aside0 (Below w.heap.size w ((w20.setCell ⟨gb560, 0, none⟩ (.slice Ao21 t554.length co21)).setCell ⟨gb560, 1, none⟩ (.int .i64 t557))) := ⟨eH HB⟩
          (try clear HO_1)
          (try clear HO_8)
          (try clear HO_553000)
          (try clear HL553_0)
          (try clear HO556)
          (try clear BK551)
          (try clear BK552)
          (try clear BK560)
          (try clear HB)
          generalize ((w20.setCell ⟨gb560, 0, none⟩ (.slice Ao21 t554.length co21)).setCell ⟨gb560, 1, none⟩ (.int .i64 t557)) = w24 at n0_ n1_ n2_ n3_ n4_ n5_ n6_ n7_ n8_ ⊢
          have HO_1 := n0_
          have HO_8 := n1_
          have HO_553000 := n2_
          have HL553_0 := n3_
          have HO556 := n4_
          have BK551 := n5_
          have BK552 := n6_
          have BK560 := n7_
          have HB := n8_
          clear n0_ n1_ n2_ n3_ n4_ n5_ n6_ n7_ n8_
          have p561 : 0 ≤ (x9_1 : Int) := oD
          have q561 : x9_1 < (l1.length : Int) := oD
          obtain ⟨ad561, A561_0, c561_0, e561, hx561_0, hl561_0, hi561_0⟩ := at_L1 (Kd.V_reads' HO_1.out).2.2 x9_1 p561 q561
          obtain rfl : ad553 = ad561 := (by injection e561)
          obtain ⟨ce561, hce561, hMe561, hcc561⟩ := Kd.V_get HO_1.out [] x9_1 p561 (by first | exact q561 | exact oD | (have e_ := (Kd.V_reads' HO_1.out).1; omega))
          obtain ⟨ua561_0, uc561_0, rfl, ul561_0, ge561_0⟩ := Kd.FK_slice_open hMe561
          have hv561_0 := hcc561 0 _ rfl
          rw [Nat.add_zero, show ((Kd.slice 5 (Kd.int .u8))).sz = 1 from rfl, Nat.mul_one] at hv561_0
          replace hv561_0 := Option.some.inj (hv561_0.symm.trans hx561_0)
          injection hv561_0 with hva_ hvn_ hvc_
          rw [hva_] at ge561_0
          rw [hvc_] at ul561_0
          have HL561_0 := r' (show Kd.V (Kd.int .u8) 5 _ w.heap.size _ _ (rd_L1 l1 x9_1) from Kd.V_mk ul561_0 ge561_0)
          clear hva_ hvn_ hvc_ ge561_0 ul561_0
          clear hcc561 hce561
          have HR561_0 := r' hi561_0
          have HC561_0 := r' hl561_0
          clear hi561_0 hl561_0
          replace p561 := eq_true p561
          replace q561 := eq_true q561
          try go_wp2_with (first | ((with_reducible refine gate_callee (f := 14) rfl ?_); refine gL 46 Try.func14 #[.int .i64 t559] (h := ?_); (with_reducible refine (fanlightlaw06_num.calls t559 t562 _ A14.out).mono ?_); rintro e w' ⟨rfl, ⟨nd, rfl⟩⟩; refine ⟨_, rfl, ?_⟩))
          go_roundg kj6
          case measure => have := HK1.out; have := HJ6.out; omega
          case rel => exact ⟨(x8_1), (wrap64 (x9_1 + 1)), (x552001_1), (x553000_1), (x553001_1), (.slice Ao16 x553000_1.length co16), rS, H', ⟨by have := HK1.out; have := HJ6.out; omega⟩, ⟨by (with_reducible repeat (first | apply Kd.V_alloc | apply Kd.V_drewN | apply Kd.V_drew)); exact c' HO_1.out (fun _ hk => ⟨hk.1, ⟨hk.2.1, ⟨hk.2.2.1, ⟨hk.2.2.2.2.1, hk.2.2.2.2.2.1⟩⟩⟩⟩)⟩, ⟨by (with_reducible repeat (first | apply l' | apply k' | apply g')); exact b' HO_8.out (fun _ hk => ⟨hk.1, ⟨hk.2.1, ⟨hk.2.2.2.1, hk.2.2.2.2.1⟩⟩⟩)⟩, ⟨by (with_reducible repeat (first | apply l' | apply k' | apply g')); exact b' HO_553000.out (fun _ hk => ⟨hk.1, ⟨hk.2.1, ⟨hk.2.2.2.1, hk.2.2.2.2.1⟩⟩⟩)⟩, ⟨eB BK551⟩, ⟨eB BK552⟩, ⟨eH HB⟩⟩
         ·
          rw [if_neg c15] at H
          have c15b0 := beq_eq_false_iff_ne.mpr c15
          have c15b1 := bne_iff_ne.mpr c15
          simp only [Option.some.injEq, Prod.mk.injEq] at H
          obtain ⟨rfl, rfl, rfl, rfl⟩ := H
          obtain ⟨Ao25, co25, eo25⟩ := Kd.N_slice HO_553000.out
          subst eo25
          try go_wp2
          have n0_ := r' (Kd.V_drew HO_1.out)
          have n1_ := r' (g' HO_8.out)
          have n2_ := r' (g' HO_553000.out)
          have n3_ := r' (blk_drew BK551.out)
          have n4_ := r' (blk_drew BK552.out)
          have n5_ := r' (below_drew1 HB.out)
          clear HO_1
          clear HO_8
          clear HO_553000
          clear BK551
          clear BK552
          clear HB
          have HO_1 := n0_
          have HO_8 := n1_
          have HO_553000 := n2_
          have BK551 := n3_
          have BK552 := n4_
          have HB := n5_
          clear n0_ n1_ n2_ n3_ n4_ n5_
          have p553 : 0 ≤ (x9_1 : Int) := oD
          have q553 : x9_1 < (l1.length : Int) := oD
          obtain ⟨ad553, A553_0, c553_0, e553, hx553_0, hl553_0, hi553_0⟩ := at_L1 (Kd.V_reads' HO_1.out).2.2 x9_1 p553 q553
          cases e553
          obtain ⟨ce553, hce553, hMe553, hcc553⟩ := Kd.V_get HO_1.out [] x9_1 p553 (by first | exact q553 | exact oD | (have e_ := (Kd.V_reads' HO_1.out).1; omega))
          obtain ⟨ua553_0, uc553_0, rfl, ul553_0, ge553_0⟩ := Kd.FK_slice_open hMe553
          have hv553_0 := hcc553 0 _ rfl
          rw [Nat.add_zero, show ((Kd.slice 5 (Kd.int .u8))).sz = 1 from rfl, Nat.mul_one] at hv553_0
          replace hv553_0 := Option.some.inj (hv553_0.symm.trans hx553_0)
          injection hv553_0 with hva_ hvn_ hvc_
          rw [hva_] at ge553_0
          rw [hvc_] at ul553_0
          have HL553_0 := r' (show Kd.V (Kd.int .u8) 5 _ w.heap.size _ _ (rd_L1 l1 x9_1) from Kd.V_mk ul553_0 ge553_0)
          clear hva_ hvn_ hvc_ ge553_0 ul553_0
          clear hcc553 hce553
          have HR553_0 := r' hi553_0
          have HC553_0 := r' hl553_0
          clear hi553_0 hl553_0
          replace p553 := eq_true p553
          replace q553 := eq_true q553
          refine start_ (n := 14) (S := fun w' => w'.cell? ⟨gb552, 0, none⟩ = some (.slice Ao25 x553000_1.length co25) ∧ w'.cell? ⟨gb552, 1, none⟩ = some (.int .i64 x553001_1) ∧ w'.cell? (ad553.add (x9_1).toNat) = some (.slice A553_0 (rd_L1 l1 x9_1).length c553_0)) (ds := []) #[Z,Z,Z,Z,Z,Z,Z,Z,Z,Z,Z,Z,Z,Z] (by kernel_rfl) rfl rfl ⟨(e' BK552.out 0).trans rfl, (e' BK552.out 1).trans rfl, hx553_0⟩ (fun hHeld => ?_); refine with_tabW fanlightlaw06_filled.tab6 fanlightlaw06_filled.bits6 (fun HT_ HW_ => ?_)
          generalize wc.drew = w26 at HO_1 HO_8 HO_553000 BK551 BK552 HB HL553_0 HR553_0 hx553_0 hHeld ⊢
          refine pP 1 31 #[Z,Y,Z,Z,Z,Z,Z,Z,Z,Z,Z,Z,Z,Z] HT_ (h := ?_)
          refine pP 2 32 #[Z,Y,Y,Z,Z,Z,Z,Z,Z,Z,Z,Z,Z,Z] HT_ (h := ?_)
          refine pP 3 33 #[Z,Y,Y,Y,Z,Z,Z,Z,Z,Z,Z,Z,Z,Z] HT_ (h := ?_)
          refine tP 0 30 #[Y,Y,Y,Y,Z,Z,Z,Z,Z,Z,Z,Z,Z,Z] HT_ HW_ hHeld (hy := by refine Or.inl ⟨by rfl, ?_⟩; rintro w' ⟨s0, s1, s2⟩; go_simp; with_reducible rfl) (h := ?_)
          refine tP 4 34 #[Y,Y,Y,Y,Y,Z,Z,Z,Z,Z,Z,Z,Z,Z] HT_ HW_ hHeld (hy := by refine Or.inl ⟨by rfl, ?_⟩; rintro w' ⟨s0, s1, s2⟩; go_simp; with_reducible rfl) (h := ?_)
          refine join_ (σ := Value × Nat) 3 #[Y,Y,Y,Y,Y,Y,Y,Y,Y,Y,Y,Z,Z,Z] (fun s_ => [(35, .tuple #[.agg #[s_.1, .int .i64 t557], .int .i64 t558, .int .i64 t559]), (10, .pointer (some ⟨s_.2, 0, none⟩)), (29, .tuple #[.agg #[s_.1, .int .i64 t557], .int .i64 t558, .int .i64 t559]), (36, .agg #[s_.1, .int .i64 t557]), (37, .int .i64 t558), (38, .int .i64 t559)]) (fun s_ w' => (w'.cell? ⟨gb552, 0, none⟩ = some (.slice Ao25 x553000_1.length co25) ∧ w'.cell? ⟨gb552, 1, none⟩ = some (.int .i64 x553001_1) ∧ w'.cell? (ad553.add (x9_1).toNat) = some (.slice A553_0 (rd_L1 l1 x9_1).length c553_0)) ∧ (Kd.V (Kd.int .u8) 5 w' w.heap.size (fun k_ => (P1_ k_ ∨ w.heap.size ≤ k_) ∧ some k_ ≠ (s_.1 : Value).ownBlock ∧ some k_ ≠ (.slice Ao25 x553000_1.length co25 : Value).ownBlock ∧ some k_ ≠ (u8 : Value).ownBlock ∧ k_ ≠ gb551 ∧ k_ ≠ gb552 ∧ k_ ≠ s_.2) (.slice A553_0 (rd_L1 l1 x9_1).length c553_0) (rd_L1 l1 x9_1)) ∧ (Kd.N (Kd.slice 5 (Kd.int .u8)) 25 w' w.heap.size (fun k_ => (P1_ k_ ∨ w.heap.size ≤ k_) ∧ some k_ ≠ (.slice Ao25 x553000_1.length co25 : Value).ownBlock ∧ some k_ ≠ (u8 : Value).ownBlock ∧ k_ ≠ gb551 ∧ k_ ≠ gb552 ∧ k_ ≠ s_.2) s_.1 t554) ∧ (Kd.V (Kd.slice 5 (Kd.int .u8)) 25 w' w.heap.size (fun k_ => (P1_ k_ ∨ w.heap.size ≤ k_) ∧ some k_ ≠ (s_.1 : Value).ownBlock ∧ some k_ ≠ (.slice Ao25 x553000_1.length co25 : Value).ownBlock ∧ some k_ ≠ (u8 : Value).ownBlock ∧ k_ ≠ gb551 ∧ k_ ≠ gb552 ∧ k_ ≠ s_.2) (.slice (some ad553) l1.length c1) l1) ∧ (Kd.N (Kd.slice 5 (Kd.int .u8)) 25 w' w.heap.size (fun k_ => (P1_ k_ ∨ w.heap.size ≤ k_) ∧ some k_ ≠ (s_.1 : Value).ownBlock ∧ some k_ ≠ (u8 : Value).ownBlock ∧ k_ ≠ gb551 ∧ k_ ≠ gb552 ∧ k_ ≠ s_.2) (.slice Ao25 x553000_1.length co25) x553000_1) ∧ (Kd.N k57 57 w' w.heap.size (fun k_ => (P1_ k_ ∨ w.heap.size ≤ k_) ∧ some k_ ≠ (s_.1 : Value).ownBlock ∧ some k_ ≠ (.slice Ao25 x553000_1.length co25 : Value).ownBlock ∧ k_ ≠ gb551 ∧ k_ ≠ gb552 ∧ k_ ≠ s_.2) u8 x8_1) ∧ (w'.heap[gb551]? = some (.cells #[.slice none 0 0, .int .i64 x552001_1] 27 (0, 0))) ∧ (w'.heap[gb552]? = some (.cells #[.slice Ao25 x553000_1.length co25, .int .i64 x553001_1] 27 (0, 0))) ∧ (w'.heap[s_.2]? = some (.cells #[.slice none 0 0, .int .i64 0] 27 (0, 0))) ∧ (w.heap.size ≤ s_.2) ∧ (w.heap.size ≤ s_.2) ∧ (gb551 ≠ s_.2) ∧ (s_.2 ≠ gb551) ∧ (gb552 ≠ s_.2) ∧ (s_.2 ≠ gb552) ∧ (Below w.heap.size w w')) ?_ ?_
          rotate_left
          ·
           intro hCont
           refine two_ (i := 5) (j := 10) (Ni := some 35) (Nj := some 10) #[Y,Y,Y,Y,Y,Y,Z,Z,Z,Z,Z,Z,Z,Z] #[Y,Y,Y,Y,Y,Z,Z,Z,Z,Z,Y,Z,Z,Z] rfl rfl rfl rfl (two_of HT_.out (by kernel_rfl)) (by decide) (by decide) (fun K hK => ?_) (fun K hK => ?_)
           ·
            skip
            refine goes_ Try.func11 (by kernel_rfl) rfl #[.agg #[.slice Ao25 x553000_1.length co25, .int .i64 x553001_1], .slice A553_0 (rd_L1 l1 x9_1).length c553_0] (by rfl) rfl rfl (by (try simp only [List.map_toArray, List.map_cons, List.map_nil]); first | done | rfl | (simp only [List.length_drop, List.length_take]; rfl)) ?_
            with_reducible refine (wal_Append.calls kj6 _ _ x553000_1 x553001_1 _ _ (rd_L1 l1 x9_1) t554 t557 t558 t559 _ ?side1 ?side2 ?side3 ?side4 A12.out).mono ?_
            (case side1 => exact Kd.kC (Kd.N_reads' HO_553000.out).2.2)
            (case side2 => exact (Kd.N_reads' HO_553000.out).2.1)
            (case side3 => exact Kd.cC HR553_0)
            (case side4 => exact HC553_0.out)
            rintro e w27 ⟨v555, rfl, ho0, hb⟩
            have HS2_ := (hb.cell (World.block_lt_of_cell? _ _ (hHeld.2.2))).trans (hHeld.2.2)
            refine ⟨_, rfl, ?_⟩
            have n0_ := r' (Kd.V_elder' (Kd.eV HO_1) (h' ho0) hb)
            have n1_ := r' (Kd.N_elder' (Kd.eN HO_8) (h' ho0) hb)
            have n2_ := r' (Kd.N_elder' (Kd.eN HO_553000) (h' ho0) hb)
            have n3_ := r' (Kd.V_elder' (Kd.eV HL553_0) (h' ho0) hb)
            have n4_ := r' (Kd.N_lower (b' (ok' := fun k_ => (P1_ k_ ∨ w.heap.size ≤ k_) ∧ some k_ ≠ (u8 : Value).ownBlock ∧ some k_ ≠ (.slice Ao25 x553000_1.length co25 : Value).ownBlock ∧ k_ ≠ gb551 ∧ k_ ≠ gb552) (Kd.S_N (Kd.S_bound ho0)) (fun k_ hk_ => ⟨(.inr (Nat.le_trans (d' (eH HB)) hk_.2.1)), (Kd.fresh' (Kd.N_lt (Kd.eN HO_8)) k_ hk_.2.1), (Kd.fresh' (Kd.N_lt (Kd.eN HO_553000)) k_ hk_.2.1), (m' (g := gb551) (o := .cells #[.slice none 0 0, .int .i64 x552001_1] 27 (0, 0)) (eB BK551) k_ hk_.2.1), (m' (g := gb552) (o := .cells #[.slice Ao25 x553000_1.length co25, .int .i64 x553001_1] 27 (0, 0)) (eB BK552) k_ hk_.2.1)⟩)) (d' (eH HB)))
            have n5_ := bB BK551 hb
            have n6_ := bB BK552 hb
            have n7_ := r' (Kd.C_below (Kd.cC HR553_0) hb)
            have n8_ := r' (below_step (eH HB) hb)
            clear HO_1
            clear HO_8
            clear HO_553000
            clear HL553_0
            clear BK551
            clear BK552
            clear HR553_0
            clear HB
            have HO_1 := n0_
            have HO_8 := n1_
            have HO_553000 := n2_
            have HL553_0 := n3_
            have HO556 := n4_
            have BK551 := n5_
            have BK552 := n6_
            have HR553_0 := n7_
            have HB := n8_
            clear n0_ n1_ n2_ n3_ n4_ n5_ n6_ n7_ n8_
            (try clear hb)
            (try clear hb2)
            (try clear hk)
            (try clear hi)
            (try clear ho0)
            refine hK.out _ _ ⟨(e' BK552.out 0).trans rfl, (e' BK552.out 1).trans rfl, HS2_⟩ (fun hHeld => ?_)
            clear hK K
            refine norm_ (a' := ?_) ?_ ?_
            rotate_left
            ·
             show Act.put _ (some 35) _ = _
             exact uP
            refine pP 6 29 #[Y,Y,Y,Y,Y,Y,Y,Z,Z,Z,Z,Z,Z,Z] HT_ (h := ?_)
            refine pP 7 36 #[Y,Y,Y,Y,Y,Y,Y,Y,Z,Z,Z,Z,Z,Z] HT_ (h := ?_)
            refine pP 8 37 #[Y,Y,Y,Y,Y,Y,Y,Y,Y,Z,Z,Z,Z,Z] HT_ (h := ?_)
            refine pP 9 38 #[Y,Y,Y,Y,Y,Y,Y,Y,Y,Y,Z,Z,Z,Z] HT_ (h := ?_)
            refine one_ (i := 10) (N := some 10) #[Y,Y,Y,Y,Y,Y,Y,Y,Y,Y,Y,Z,Z,Z] rfl rfl (one_of HT_.out (by kernel_rfl)) (by decide) (fun K hK => ?_)
            refine box_step ?hg (N := 10) ?hd (cs := #[.slice none 0 0, .int .i64 0]) (t := 27) ?hr ?_; (case hd => rfl); (case hg => rfl); (case hr => go_simp <;> rfl)
            intro gb560 hg w28 hbox hb
            have HS2_ := (hb.cell (World.block_lt_of_cell? _ _ (hHeld.2.2))).trans (hHeld.2.2)
            have n0_ := r' (Kd.V_below (Kd.V_elderB (Kd.eV HO_1) gb560 (Nat.le_of_eq hg.symm)) hb)
            have n1_ := r' (n' (Kd.N_elderB (Kd.eN HO_8) gb560 (Nat.le_of_eq hg.symm)) hb)
            have n2_ := r' (n' (Kd.N_elderB (Kd.eN HO_553000) gb560 (Nat.le_of_eq hg.symm)) hb)
            have n3_ := r' (Kd.V_below (Kd.V_elderB (Kd.eV HL553_0) gb560 (Nat.le_of_eq hg.symm)) hb)
            have n4_ := r' (n' (Kd.N_elderB (Kd.eN HO556) gb560 (Nat.le_of_eq hg.symm)) hb)
            have n5_ := bB BK551 hb
            have n6_ := bB BK552 hb
            have n7_ := r' (Kd.C_below (Kd.cC HR553_0) hb)
            have n8_ := r' (below_step (eH HB) hb)
            have n9_ := r' (hbox)
            have n10_ := r' ((by rw [hg]; exact (d' (eH HB)) : w.heap.size ≤ gb560))
            have n11_ := r' ((by rw [hg]; exact (d' (eH HB)) : w.heap.size ≤ gb560))
            have n12_ := nL hg BK551
            have n13_ := nG hg BK551
            have n14_ := nL hg BK552
            have n15_ := nG hg BK552
            clear HO_1
            clear HO_8
            clear HO_553000
            clear HL553_0
            clear HO556
            clear BK551
            clear BK552
            clear HR553_0
            clear HB
            have HO_1 := n0_
            have HO_8 := n1_
            have HO_553000 := n2_
            have HL553_0 := n3_
            have HO556 := n4_
            have BK551 := n5_
            have BK552 := n6_
            have HR553_0 := n7_
            have HB := n8_
            have BK560 := n9_
            have GW560 := n10_
            have GE560 := n11_
            have NB551_560 := n12_
            have NB560_551 := n13_
            have NB552_560 := n14_
            have NB560_552 := n15_
            clear n0_ n1_ n2_ n3_ n4_ n5_ n6_ n7_ n8_ n9_ n10_ n11_ n12_ n13_ n14_ n15_
            clear hb hbox hg
            refine hK.out _ _ ⟨(e' BK552.out 0).trans rfl, (e' BK552.out 1).trans rfl, HS2_⟩ (fun hHeld => ?_)
            clear hK K
            refine norm_ (a' := ?_) ?_ ?_
            rotate_left
            ·
             show Act.put _ (some 10) _ = _
             exact uP
            exact norm_ (by simp only [putAll, Act.put, o', p', q']) (hCont (v555, gb560) _ ⟨hHeld, (Kd.kV (c' HL553_0.out (fun _ hk => ⟨hk.1.1.1, ⟨hk.1.2, ⟨hk.1.1.2.2.1, ⟨hk.1.1.2.1, ⟨hk.1.1.2.2.2.1, ⟨hk.1.1.2.2.2.2, hk.2⟩⟩⟩⟩⟩⟩))), (Kd.kN (b' HO556.out (fun _ hk => ⟨hk.1.1, ⟨hk.1.2.2.1, ⟨hk.1.2.1, ⟨hk.1.2.2.2.1, ⟨hk.1.2.2.2.2, hk.2⟩⟩⟩⟩⟩))), (Kd.kV (c' HO_1.out (fun _ hk => ⟨hk.1.1.1, ⟨hk.1.2, ⟨hk.1.1.2.2.1, ⟨hk.1.1.2.1, ⟨hk.1.1.2.2.2.1, ⟨hk.1.1.2.2.2.2, hk.2⟩⟩⟩⟩⟩⟩))), (Kd.kN (b' HO_553000.out (fun _ hk => ⟨hk.1.1.1, ⟨hk.1.2, ⟨hk.1.1.2.1, ⟨hk.1.1.2.2.1, ⟨hk.1.1.2.2.2, hk.2⟩⟩⟩⟩⟩))), (Kd.kN (b' HO_8.out (fun _ hk => ⟨hk.1.1.1, ⟨hk.1.2, ⟨hk.1.1.2.1, ⟨hk.1.1.2.2.1, ⟨hk.1.1.2.2.2, hk.2⟩⟩⟩⟩⟩))), (eB BK551), (eB BK552), (eB BK560), GW560.out, GE560.out, NB551_560.out, NB560_551.out, NB552_560.out, NB560_552.out, (eH HB)⟩)
           ·
            skip
            refine box_step ?hg (N := 10) ?hd (cs := #[.slice none 0 0, .int .i64 0]) (t := 27) ?hr ?_; (case hd => rfl); (case hg => rfl); (case hr => go_simp <;> rfl)
            intro gb560 hg w27 hbox hb
            have HS2_ := (hb.cell (World.block_lt_of_cell? _ _ (hHeld.2.2))).trans (hHeld.2.2)
            have n0_ := r' (Kd.V_below (Kd.V_elderB (Kd.eV HO_1) gb560 (Nat.le_of_eq hg.symm)) hb)
            have n1_ := r' (n' (Kd.N_elderB (Kd.eN HO_8) gb560 (Nat.le_of_eq hg.symm)) hb)
            have n2_ := r' (n' (Kd.N_elderB (Kd.eN HO_553000) gb560 (Nat.le_of_eq hg.symm)) hb)
            have n3_ := r' (Kd.V_below (Kd.V_elderB (Kd.eV HL553_0) gb560 (Nat.le_of_eq hg.symm)) hb)
            have n4_ := bB BK551 hb
            have n5_ := bB BK552 hb
            have n6_ := r' (Kd.C_below (Kd.cC HR553_0) hb)
            have n7_ := r' (below_step (eH HB) hb)
            have n8_ := r' (hbox)
            have n9_ := r' ((by rw [hg]; exact (d' (eH HB)) : w.heap.size ≤ gb560))
            have n10_ := r' ((by rw [hg]; exact (d' (eH HB)) : w.heap.size ≤ gb560))
            have n11_ := nL hg BK551
            have n12_ := nG hg BK551
            have n13_ := nL hg BK552
            have n14_ := nG hg BK552
            clear HO_1
            clear HO_8
            clear HO_553000
            clear HL553_0
            clear BK551
            clear BK552
            clear HR553_0
            clear HB
            have HO_1 := n0_
            have HO_8 := n1_
            have HO_553000 := n2_
            have HL553_0 := n3_
            have BK551 := n4_
            have BK552 := n5_
            have HR553_0 := n6_
            have HB := n7_
            have BK560 := n8_
            have GW560 := n9_
            have GE560 := n10_
            have NB551_560 := n11_
            have NB560_551 := n12_
            have NB552_560 := n13_
            have NB560_552 := n14_
            clear n0_ n1_ n2_ n3_ n4_ n5_ n6_ n7_ n8_ n9_ n10_ n11_ n12_ n13_ n14_
            clear hb hbox hg
            refine hK.out _ _ ⟨(e' BK552.out 0).trans rfl, (e' BK552.out 1).trans rfl, HS2_⟩ (fun hHeld => ?_)
            clear hK K
            refine norm_ (a' := ?_) ?_ ?_
            rotate_left
            ·
             show Act.put _ (some 10) _ = _
             exact uP
            refine one_ (i := 5) (N := some 35) #[Y,Y,Y,Y,Y,Y,Z,Z,Z,Z,Y,Z,Z,Z] rfl rfl (one_of HT_.out (by kernel_rfl)) (by decide) (fun K hK => ?_)
            refine goes_ Try.func11 (by kernel_rfl) rfl #[.agg #[.slice Ao25 x553000_1.length co25, .int .i64 x553001_1], .slice A553_0 (rd_L1 l1 x9_1).length c553_0] (by rfl) rfl rfl (by (try simp only [List.map_toArray, List.map_cons, List.map_nil]); first | done | rfl | (simp only [List.length_drop, List.length_take]; rfl)) ?_
            with_reducible refine (wal_Append.calls kj6 _ _ x553000_1 x553001_1 _ _ (rd_L1 l1 x9_1) t554 t557 t558 t559 _ ?side1 ?side2 ?side3 ?side4 A12.out).mono ?_
            (case side1 => exact Kd.kC (Kd.N_reads' HO_553000.out).2.2)
            (case side2 => exact (Kd.N_reads' HO_553000.out).2.1)
            (case side3 => exact Kd.cC HR553_0)
            (case side4 => exact HC553_0.out)
            rintro e w28 ⟨v555, rfl, ho0, hb⟩
            have HS2_ := (hb.cell (World.block_lt_of_cell? _ _ (hHeld.2.2))).trans (hHeld.2.2)
            refine ⟨_, rfl, ?_⟩
            have n0_ := r' (Kd.V_elder' (Kd.eV HO_1) (h' ho0) hb)
            have n1_ := r' (Kd.N_elder' (Kd.eN HO_8) (h' ho0) hb)
            have n2_ := r' (Kd.N_elder' (Kd.eN HO_553000) (h' ho0) hb)
            have n3_ := r' (Kd.V_elder' (Kd.eV HL553_0) (h' ho0) hb)
            have n4_ := r' (Kd.N_lower (b' (ok' := fun k_ => (P1_ k_ ∨ w.heap.size ≤ k_) ∧ some k_ ≠ (u8 : Value).ownBlock ∧ some k_ ≠ (.slice Ao25 x553000_1.length co25 : Value).ownBlock ∧ k_ ≠ gb551 ∧ k_ ≠ gb552 ∧ k_ ≠ gb560) (Kd.S_N (Kd.S_bound ho0)) (fun k_ hk_ => ⟨(.inr (Nat.le_trans (d' (eH HB)) hk_.2.1)), (Kd.fresh' (Kd.N_lt (Kd.eN HO_8)) k_ hk_.2.1), (Kd.fresh' (Kd.N_lt (Kd.eN HO_553000)) k_ hk_.2.1), (m' (g := gb551) (o := .cells #[.slice none 0 0, .int .i64 x552001_1] 27 (0, 0)) (eB BK551) k_ hk_.2.1), (m' (g := gb552) (o := .cells #[.slice Ao25 x553000_1.length co25, .int .i64 x553001_1] 27 (0, 0)) (eB BK552) k_ hk_.2.1), (m' (g := gb560) (o := .cells #[.slice none 0 0, .int .i64 0] 27 (0, 0)) (eB BK560) k_ hk_.2.1)⟩)) (d' (eH HB)))
            have n5_ := bB BK551 hb
            have n6_ := bB BK552 hb
            have n7_ := r' (Kd.C_below (Kd.cC HR553_0) hb)
            have n8_ := bB BK560 hb
            have n9_ := r' (below_step (eH HB) hb)
            clear HO_1
            clear HO_8
            clear HO_553000
            clear HL553_0
            clear BK551
            clear BK552
            clear HR553_0
            clear BK560
            clear HB
            have HO_1 := n0_
            have HO_8 := n1_
            have HO_553000 := n2_
            have HL553_0 := n3_
            have HO556 := n4_
            have BK551 := n5_
            have BK552 := n6_
            have HR553_0 := n7_
            have BK560 := n8_
            have HB := n9_
            clear n0_ n1_ n2_ n3_ n4_ n5_ n6_ n7_ n8_ n9_
            (try clear hb)
            (try clear hb2)
            (try clear hk)
            (try clear hi)
            (try clear ho0)
            refine hK.out _ _ ⟨(e' BK552.out 0).trans rfl, (e' BK552.out 1).trans rfl, HS2_⟩ (fun hHeld => ?_)
            clear hK K
            refine norm_ (a' := ?_) ?_ ?_
            rotate_left
            ·
             show Act.put _ (some 35) _ = _
             exact uP
            refine pP 6 29 #[Y,Y,Y,Y,Y,Y,Y,Z,Z,Z,Y,Z,Z,Z] HT_ (h := ?_)
            refine pP 7 36 #[Y,Y,Y,Y,Y,Y,Y,Y,Z,Z,Y,Z,Z,Z] HT_ (h := ?_)
            refine pP 8 37 #[Y,Y,Y,Y,Y,Y,Y,Y,Y,Z,Y,Z,Z,Z] HT_ (h := ?_)
            refine pP 9 38 #[Y,Y,Y,Y,Y,Y,Y,Y,Y,Y,Y,Z,Z,Z] HT_ (h := ?_)
            exact norm_ (by simp only [putAll, Act.put, o', p', q']) (hCont (v555, gb560) _ ⟨hHeld, (Kd.kV (c' HL553_0.out (fun _ hk => ⟨hk.1.1.1, ⟨hk.2, ⟨hk.1.1.2.2.1, ⟨hk.1.1.2.1, ⟨hk.1.1.2.2.2.1, ⟨hk.1.1.2.2.2.2, hk.1.2⟩⟩⟩⟩⟩⟩))), (Kd.kN (b' HO556.out (fun _ hk => ⟨hk.1, ⟨hk.2.2.1, ⟨hk.2.1, ⟨hk.2.2.2.1, ⟨hk.2.2.2.2.1, hk.2.2.2.2.2⟩⟩⟩⟩⟩))), (Kd.kV (c' HO_1.out (fun _ hk => ⟨hk.1.1.1, ⟨hk.2, ⟨hk.1.1.2.2.1, ⟨hk.1.1.2.1, ⟨hk.1.1.2.2.2.1, ⟨hk.1.1.2.2.2.2, hk.1.2⟩⟩⟩⟩⟩⟩))), (Kd.kN (b' HO_553000.out (fun _ hk => ⟨hk.1.1.1, ⟨hk.2, ⟨hk.1.1.2.1, ⟨hk.1.1.2.2.1, ⟨hk.1.1.2.2.2, hk.1.2⟩⟩⟩⟩⟩))), (Kd.kN (b' HO_8.out (fun _ hk => ⟨hk.1.1.1, ⟨hk.2, ⟨hk.1.1.2.1, ⟨hk.1.1.2.2.1, ⟨hk.1.1.2.2.2, hk.1.2⟩⟩⟩⟩⟩))), (eB BK551), (eB BK552), (eB BK560), GW560.out, GE560.out, NB551_560.out, NB560_551.out, NB552_560.out, NB560_552.out, (eH HB)⟩)
          rintro ⟨v555, gb560⟩ w29 ⟨hS_, h0_, h1_, h2_, h3_, h4_, h5_, h6_, h7_, h8_, h9_, h10_, h11_, h12_, h13_, h14_⟩
          have n0_ : Aside0 (Kd.V (Kd.int .u8) 5 w29 w.heap.size (fun k_ => (P1_ k_ ∨ w.heap.size ≤ k_) ∧ some k_ ≠ (v555 : Value).ownBlock ∧ some k_ ≠ (.slice Ao25 x553000_1.length co25 : Value).ownBlock ∧ some k_ ≠ (u8 : Value).ownBlock ∧ k_ ≠ gb551 ∧ k_ ≠ gb552 ∧ k_ ≠ gb560) (.slice A553_0 (rd_L1 l1 x9_1).length c553_0) (rd_L1 l1 x9_1)) := ⟨h0_⟩
          have n1_ : Aside0 (Kd.N (Kd.slice 5 (Kd.int .u8)) 25 w29 w.heap.size (fun k_ => (P1_ k_ ∨ w.heap.size ≤ k_) ∧ some k_ ≠ (.slice Ao25 x553000_1.length co25 : Value).ownBlock ∧ some k_ ≠ (u8 : Value).ownBlock ∧ k_ ≠ gb551 ∧ k_ ≠ gb552 ∧ k_ ≠ gb560) v555 t554) := ⟨h1_⟩
          have n2_ : Aside0 (Kd.V (Kd.slice 5 (Kd.int .u8)) 25 w29 w.heap.size (fun k_ => (P1_ k_ ∨ w.heap.size ≤ k_) ∧ some k_ ≠ (v555 : Value).ownBlock ∧ some k_ ≠ (.slice Ao25 x553000_1.length co25 : Value).ownBlock ∧ some k_ ≠ (u8 : Value).ownBlock ∧ k_ ≠ gb551 ∧ k_ ≠ gb552 ∧ k_ ≠ gb560) (.slice (some ad553) l1.length c1) l1) := ⟨h2_⟩
          have n3_ : Aside0 (Kd.N (Kd.slice 5 (Kd.int .u8)) 25 w29 w.heap.size (fun k_ => (P1_ k_ ∨ w.heap.size ≤ k_) ∧ some k_ ≠ (v555 : Value).ownBlock ∧ some k_ ≠ (u8 : Value).ownBlock ∧ k_ ≠ gb551 ∧ k_ ≠ gb552 ∧ k_ ≠ gb560) (.slice Ao25 x553000_1.length co25) x553000_1) := ⟨h3_⟩
          have n4_ : Aside0 (Kd.N k57 57 w29 w.heap.size (fun k_ => (P1_ k_ ∨ w.heap.size ≤ k_) ∧ some k_ ≠ (v555 : Value).ownBlock ∧ some k_ ≠ (.slice Ao25 x553000_1.length co25 : Value).ownBlock ∧ k_ ≠ gb551 ∧ k_ ≠ gb552 ∧ k_ ≠ gb560) u8 x8_1) := ⟨h4_⟩
          have n5_ : Aside0 (w29.heap[gb551]? = some (.cells #[.slice none 0 0, .int .i64 x552001_1] 27 (0, 0))) := ⟨h5_⟩
          have n6_ : Aside0 (w29.heap[gb552]? = some (.cells #[.slice Ao25 x553000_1.length co25, .int .i64 x553001_1] 27 (0, 0))) := ⟨h6_⟩
          have n7_ : Aside0 (w29.heap[gb560]? = some (.cells #[.slice none 0 0, .int .i64 0] 27 (0, 0))) := ⟨h7_⟩
          have n8_ : Aside0 (w.heap.size ≤ gb560) := ⟨h8_⟩
          have n9_ : Aside0 (w.heap.size ≤ gb560) := ⟨h9_⟩
          have n10_ : Aside0 (gb551 ≠ gb560) := ⟨h10_⟩
          have n11_ : Aside0 (gb560 ≠ gb551) := ⟨h11_⟩
          have n12_ : Aside0 (gb552 ≠ gb560) := ⟨h12_⟩
          have n13_ : Aside0 (gb560 ≠ gb552) := ⟨h13_⟩
          have n14_ : Aside0 (Below w.heap.size w w29) := ⟨h14_⟩
          clear HO_1
          clear HO_8
          clear HO_553000
          clear BK551
          clear BK552
          clear HB
          clear h0_ h1_ h2_ h3_ h4_ h5_ h6_ h7_ h8_ h9_ h10_ h11_ h12_ h13_ h14_
          have HL553_0 := n0_
          have HO556 := n1_
          have HO_1 := n2_
          have HO_553000 := n3_
          have HO_8 := n4_
          have BK551 := n5_
          have BK552 := n6_
          have BK560 := n7_
          have GW560 := n8_
          have GE560 := n9_
          have NB551_560 := n10_
          have NB560_551 := n11_
          have NB552_560 := n12_
          have NB560_552 := n13_
          have HB := n14_
          clear n0_ n1_ n2_ n3_ n4_ n5_ n6_ n7_ n8_ n9_ n10_ n11_ n12_ n13_ n14_
          have hHeld : w29.cell? ⟨gb552, 0, none⟩ = some (.slice Ao25 x553000_1.length co25) ∧ w29.cell? ⟨gb552, 1, none⟩ = some (.int .i64 x553001_1) ∧ w29.cell? (ad553.add (x9_1).toNat) = some (.slice A553_0 (rd_L1 l1 x9_1).length c553_0) := hS_
          obtain ⟨Ao30, co30, eo30⟩ := Kd.N_slice HO556.out
          (first | subst eo30 | (injection eo30 with f1_ f2_ f3_; have f4_ := f1_.symm; have f5_ := f3_.symm; clear f1_ f2_ f3_; subst f4_; subst f5_))
          refine norm_ (a' := ?_) ?_ ?_
          rotate_left
          ·
           simp only [putAll, Act.put, o', p', q']
           rfl
          refine one_ (i := 11) (N := none) #[Y,Y,Y,Y,Y,Y,Y,Y,Y,Y,Y,Y,Z,Z] rfl rfl (one_of HT_.out (by kernel_rfl)) (by decide) (fun K hK => ?_)
          have hs31 : w29.cell? ⟨gb560, 0, none⟩ = some (.slice none 0 0) := (e' BK560.out 0).trans rfl
          have hfs31 := j' BK560.out 0
          have hns31_0 := NB551_560.out
          have hns31_1 := NB552_560.out
          have hms31_0 := NB560_551.out
          have hms31_1 := NB560_552.out
          have hs32 : w29.cell? ⟨gb560, 1, none⟩ = some (.int .i64 0) := (e' BK560.out 1).trans rfl
          have hfs32 := j' BK560.out 1
          have hns32_0 := NB551_560.out
          have hns32_1 := NB552_560.out
          have hms32_0 := NB560_551.out
          have hms32_1 := NB560_552.out
          refine skip_ (w1 := ?_) (by rfl) rfl ?_ ?_
          rotate_left
          ·
           go_simp
           rfl
          refine hK.out _ _ ⟨((cell_far (p := ⟨gb560, _, none⟩) NB552_560.out _).trans (((cell_far (p := ⟨gb560, _, none⟩) NB552_560.out _).trans (hHeld.1)))), ((cell_far (p := ⟨gb560, _, none⟩) NB552_560.out _).trans (((cell_far (p := ⟨gb560, _, none⟩) NB552_560.out _).trans (hHeld.2.1)))), ((cell_far (p := ⟨gb560, _, none⟩) (by first | exact Kd.own_blk (Kd.V_away' HO_1.out p553 q553 (fun _ hk => hk.2.2.2.2.2.2)) | (rw [add_block]; exact Kd.own_blk (Kd.V_away' HO_1.out p553 q553 (fun _ hk => hk.2.2.2.2.2.2))) | (show (Addr.add _ _).block ≠ _; rw [add_block]; exact Kd.own_blk (Kd.V_away' HO_1.out p553 q553 (fun _ hk => hk.2.2.2.2.2.2))) | (dsimp only; exact Kd.own_blk (Kd.V_away' HO_1.out p553 q553 (fun _ hk => hk.2.2.2.2.2.2)))) _).trans (((cell_far (p := ⟨gb560, _, none⟩) (by first | exact Kd.own_blk (Kd.V_away' HO_1.out p553 q553 (fun _ hk => hk.2.2.2.2.2.2)) | (rw [add_block]; exact Kd.own_blk (Kd.V_away' HO_1.out p553 q553 (fun _ hk => hk.2.2.2.2.2.2))) | (show (Addr.add _ _).block ≠ _; rw [add_block]; exact Kd.own_blk (Kd.V_away' HO_1.out p553 q553 (fun _ hk => hk.2.2.2.2.2.2))) | (dsimp only; exact Kd.own_blk (Kd.V_away' HO_1.out p553 q553 (fun _ hk => hk.2.2.2.2.2.2)))) _).trans (hHeld.2.2))))⟩ (fun hHeld => ?_)
          clear hK K
          refine pP 12 11 #[Y,Y,Y,Y,Y,Y,Y,Y,Y,Y,Y,Y,Y,Z] HT_ (h := ?_)
          refine pP 13 12 #[Y,Y,Y,Y,Y,Y,Y,Y,Y,Y,Y,Y,Y,Y] HT_ (h := ?_)
          refine done_ (done_of HT_.out (by kernel_rfl)) ?_
          have n0_ : Aside0 (Kd.V (Kd.slice 5 (Kd.int .u8)) 25 ((w29.setCell ⟨gb560, 0, none⟩ (.slice Ao30 t554.length co30)).setCell ⟨gb560, 1, none⟩ (.int .i64 t557)) w.heap.size (fun k_ => (P1_ k_ ∨ w.heap.size ≤ k_) ∧ some k_ ≠ (u8 : Value).ownBlock ∧ some k_ ≠ (.slice Ao25 x553000_1.length co25 : Value).ownBlock ∧ some k_ ≠ (.slice Ao30 t554.length co30 : Value).ownBlock ∧ k_ ≠ gb551 ∧ k_ ≠ gb552 ∧ k_ ≠ gb560) (.slice (some ad553) l1.length c1) l1) := ⟨by (with_reducible repeat (first | apply Kd.V_alloc | apply Kd.V_drewN | apply Kd.V_drew)); exact c' (Kd.V_far (p := ⟨gb560, 1, none⟩) (Kd.V_far (p := ⟨gb560, 0, none⟩) (c' HO_1.out (fun k_ hk => (⟨hk, hk.2.2.2.2.2.2⟩ : _ ∧ k_ ≠ gb560))) (fun _ hk => hk.2) (.slice Ao30 t554.length co30)) (fun _ hk => hk.2) (.int .i64 t557)) (fun _ hk => ⟨hk.1.1, ⟨hk.1.2.2.2.1, ⟨hk.1.2.2.1, ⟨hk.1.2.1, ⟨hk.1.2.2.2.2.1, ⟨hk.1.2.2.2.2.2.1, hk.1.2.2.2.2.2.2⟩⟩⟩⟩⟩⟩)⟩
          have n1_ : Aside0 (Kd.N k57 57 ((w29.setCell ⟨gb560, 0, none⟩ (.slice Ao30 t554.length co30)).setCell ⟨gb560, 1, none⟩ (.int .i64 t557)) w.heap.size (fun k_ => (P1_ k_ ∨ w.heap.size ≤ k_) ∧ some k_ ≠ (.slice Ao25 x553000_1.length co25 : Value).ownBlock ∧ some k_ ≠ (.slice Ao30 t554.length co30 : Value).ownBlock ∧ k_ ≠ gb551 ∧ k_ ≠ gb552 ∧ k_ ≠ gb560) u8 x8_1) := ⟨by (with_reducible repeat (first | apply l' | apply k' | apply g')); exact b' (f' (p := ⟨gb560, 1, none⟩) (f' (p := ⟨gb560, 0, none⟩) (b' HO_8.out (fun k_ hk => (⟨hk, hk.2.2.2.2.2⟩ : _ ∧ k_ ≠ gb560))) (fun _ hk => hk.2) (.slice Ao30 t554.length co30)) (fun _ hk => hk.2) (.int .i64 t557)) (fun _ hk => ⟨hk.1.1, ⟨hk.1.2.2.1, ⟨hk.1.2.1, ⟨hk.1.2.2.2.1, ⟨hk.1.2.2.2.2.1, hk.1.2.2.2.2.2⟩⟩⟩⟩⟩)⟩
          have n2_ : Aside0 (Kd.N (Kd.slice 5 (Kd.int .u8)) 25 ((w29.setCell ⟨gb560, 0, none⟩ (.slice Ao30 t554.length co30)).setCell ⟨gb560, 1, none⟩ (.int .i64 t557)) w.heap.size (fun k_ => (P1_ k_ ∨ w.heap.size ≤ k_) ∧ some k_ ≠ (u8 : Value).ownBlock ∧ some k_ ≠ (.slice Ao30 t554.length co30 : Value).ownBlock ∧ k_ ≠ gb551 ∧ k_ ≠ gb552 ∧ k_ ≠ gb560) (.slice Ao25 x553000_1.length co25) x553000_1) := ⟨by (with_reducible repeat (first | apply l' | apply k' | apply g')); exact b' (f' (p := ⟨gb560, 1, none⟩) (f' (p := ⟨gb560, 0, none⟩) (b' HO_553000.out (fun k_ hk => (⟨hk, hk.2.2.2.2.2⟩ : _ ∧ k_ ≠ gb560))) (fun _ hk => hk.2) (.slice Ao30 t554.length co30)) (fun _ hk => hk.2) (.int .i64 t557)) (fun _ hk => ⟨hk.1.1, ⟨hk.1.2.2.1, ⟨hk.1.2.1, ⟨hk.1.2.2.2.1, ⟨hk.1.2.2.2.2.1, hk.1.2.2.2.2.2⟩⟩⟩⟩⟩)⟩
          have n3_ : Aside0 (Kd.V (Kd.int .u8) 5 ((w29.setCell ⟨gb560, 0, none⟩ (.slice Ao30 t554.length co30)).setCell ⟨gb560, 1, none⟩ (.int .i64 t557)) w.heap.size (fun k_ => (P1_ k_ ∨ w.heap.size ≤ k_) ∧ some k_ ≠ (u8 : Value).ownBlock ∧ some k_ ≠ (.slice Ao25 x553000_1.length co25 : Value).ownBlock ∧ some k_ ≠ (.slice Ao30 t554.length co30 : Value).ownBlock ∧ k_ ≠ gb551 ∧ k_ ≠ gb552 ∧ k_ ≠ gb560) (.slice A553_0 (rd_L1 l1 x9_1).length c553_0) (rd_L1 l1 x9_1)) := ⟨by (with_reducible repeat (first | apply Kd.V_alloc | apply Kd.V_drewN | apply Kd.V_drew)); exact c' (Kd.V_far (p := ⟨gb560, 1, none⟩) (Kd.V_far (p := ⟨gb560, 0, none⟩) (c' HL553_0.out (fun k_ hk => (⟨hk, hk.2.2.2.2.2.2⟩ : _ ∧ k_ ≠ gb560))) (fun _ hk => hk.2) (.slice Ao30 t554.length co30)) (fun _ hk => hk.2) (.int .i64 t557)) (fun _ hk => ⟨hk.1.1, ⟨hk.1.2.2.2.1, ⟨hk.1.2.2.1, ⟨hk.1.2.1, ⟨hk.1.2.2.2.2.1, ⟨hk.1.2.2.2.2.2.1, hk.1.2.2.2.2.2.2⟩⟩⟩⟩⟩⟩)⟩
          have n4_ : Aside0 (Kd.N (Kd.slice 5 (Kd.int .u8)) 25 ((w29.setCell ⟨gb560, 0, none⟩ (.slice Ao30 t554.length co30)).setCell ⟨gb560, 1, none⟩ (.int .i64 t557)) w.heap.size (fun k_ => (P1_ k_ ∨ w.heap.size ≤ k_) ∧ some k_ ≠ (u8 : Value).ownBlock ∧ some k_ ≠ (.slice Ao25 x553000_1.length co25 : Value).ownBlock ∧ k_ ≠ gb551 ∧ k_ ≠ gb552 ∧ k_ ≠ gb560) (.slice Ao30 t554.length co30) t554) := ⟨by (with_reducible repeat (first | apply l' | apply k' | apply g')); exact b' (f' (p := ⟨gb560, 1, none⟩) (f' (p := ⟨gb560, 0, none⟩) (b' HO556.out (fun k_ hk => (⟨hk, hk.2.2.2.2.2⟩ : _ ∧ k_ ≠ gb560))) (fun _ hk => hk.2) (.slice Ao30 t554.length co30)) (fun _ hk => hk.2) (.int .i64 t557)) (fun _ hk => ⟨hk.1.1, ⟨hk.1.2.2.1, ⟨hk.1.2.1, ⟨hk.1.2.2.2.1, ⟨hk.1.2.2.2.2.1, hk.1.2.2.2.2.2⟩⟩⟩⟩⟩)⟩
          have n5_ : Aside0 (((w29.setCell ⟨gb560, 0, none⟩ (.slice Ao30 t554.length co30)).setCell ⟨gb560, 1, none⟩ (.int .i64 t557)).heap[gb551]? = some (.cells #[.slice none 0 0, .int .i64 x552001_1] 27 (0, 0))) := ⟨by refine eK ?_; refine blk_far ?_ NB551_560.out _; refine eK ?_; refine blk_far ?_ NB551_560.out _; refine eK ?_; exact BK551.out⟩
          have n6_ : Aside0 (((w29.setCell ⟨gb560, 0, none⟩ (.slice Ao30 t554.length co30)).setCell ⟨gb560, 1, none⟩ (.int .i64 t557)).heap[gb552]? = some (.cells #[.slice Ao25 x553000_1.length co25, .int .i64 x553001_1] 27 (0, 0))) := ⟨by refine eK ?_; refine blk_far ?_ NB552_560.out _; refine eK ?_; refine blk_far ?_ NB552_560.out _; refine eK ?_; exact BK552.out⟩
          have n7_ : Aside0 (((w29.setCell ⟨gb560, 0, none⟩ (.slice Ao30 t554.length co30)).setCell ⟨gb560, 1, none⟩ (.int .i64 t557)).heap[gb560]? = some (.cells #[.slice Ao30 t554.length co30, .int .i64 t557] 27 (0, 0))) := ⟨by refine eK ?_; refine blk_put (cs := #[.slice Ao30 t554.length co30, .int .i64 0]) ?_ 1 _ rfl; refine eK ?_; refine blk_put (cs := #[.slice none 0 0, .int .i64 0]) ?_ 0 _ rfl; refine eK ?_; exact BK560.out⟩
          have n8_ : Aside0 (Below w.heap.size w ((w29.setCell ⟨gb560, 0, none⟩ (.slice Ao30 t554.length co30)).setCell ⟨gb560, 1, none⟩ (.int .i64 t557))) := ⟨eH HB⟩
          (try clear HO_1)
          (try clear HO_8)
          (try clear HO_553000)
          (try clear HL553_0)
          (try clear HO556)
          (try clear BK551)
          (try clear BK552)
          (try clear BK560)
          (try clear HB)
          generalize ((w29.setCell ⟨gb560, 0, none⟩ (.slice Ao30 t554.length co30)).setCell ⟨gb560, 1, none⟩ (.int .i64 t557)) = w33 at n0_ n1_ n2_ n3_ n4_ n5_ n6_ n7_ n8_ ⊢
          have HO_1 := n0_
          have HO_8 := n1_
          have HO_553000 := n2_
          have HL553_0 := n3_
          have HO556 := n4_
          have BK551 := n5_
          have BK552 := n6_
          have BK560 := n7_
          have HB := n8_
          clear n0_ n1_ n2_ n3_ n4_ n5_ n6_ n7_ n8_
          have p561 : 0 ≤ (x9_1 : Int) := oD
          have q561 : x9_1 < (l1.length : Int) := oD
          obtain ⟨ad561, A561_0, c561_0, e561, hx561_0, hl561_0, hi561_0⟩ := at_L1 (Kd.V_reads' HO_1.out).2.2 x9_1 p561 q561
          obtain rfl : ad553 = ad561 := (by injection e561)
          obtain ⟨ce561, hce561, hMe561, hcc561⟩ := Kd.V_get HO_1.out [] x9_1 p561 (by first | exact q561 | exact oD | (have e_ := (Kd.V_reads' HO_1.out).1; omega))
          obtain ⟨ua561_0, uc561_0, rfl, ul561_0, ge561_0⟩ := Kd.FK_slice_open hMe561
          have hv561_0 := hcc561 0 _ rfl
          rw [Nat.add_zero, show ((Kd.slice 5 (Kd.int .u8))).sz = 1 from rfl, Nat.mul_one] at hv561_0
          replace hv561_0 := Option.some.inj (hv561_0.symm.trans hx561_0)
          injection hv561_0 with hva_ hvn_ hvc_
          rw [hva_] at ge561_0
          rw [hvc_] at ul561_0
          have HL561_0 := r' (show Kd.V (Kd.int .u8) 5 _ w.heap.size _ _ (rd_L1 l1 x9_1) from Kd.V_mk ul561_0 ge561_0)
          clear hva_ hvn_ hvc_ ge561_0 ul561_0
          clear hcc561 hce561
          have HR561_0 := r' hi561_0
          have HC561_0 := r' hl561_0
          clear hi561_0 hl561_0
          replace p561 := eq_true p561
          replace q561 := eq_true q561
          try go_wp2_with (first | ((with_reducible refine gate_callee (f := 14) rfl ?_); refine gL 46 Try.func14 #[.int .i64 t559] (h := ?_); (with_reducible refine (fanlightlaw06_num.calls t559 t562 _ A14.out).mono ?_); rintro e w' ⟨rfl, ⟨nd, rfl⟩⟩; refine ⟨_, rfl, ?_⟩; (try (rw [drewN_self w33]; generalize hq_ : World.drewN w33 _ = w33; have n0_ : Aside0 (Kd.V (Kd.int .u8) 5 w33 w.heap.size (fun k_ => (P1_ k_ ∨ w.heap.size ≤ k_) ∧ some k_ ≠ (.slice Ao30 t554.length co30 : Value).ownBlock ∧ some k_ ≠ (.slice Ao25 x553000_1.length co25 : Value).ownBlock ∧ some k_ ≠ (u8 : Value).ownBlock ∧ k_ ≠ gb551 ∧ k_ ≠ gb552 ∧ k_ ≠ gb560) (.slice A553_0 (rd_L1 l1 x9_1).length c553_0) (rd_L1 l1 x9_1)) := ⟨by rw [← hq_]; exact (Kd.kV (c' HL553_0.out (fun _ hk => ⟨hk.1, ⟨hk.2.2.2.1, ⟨hk.2.2.1, ⟨hk.2.1, ⟨hk.2.2.2.2.1, ⟨hk.2.2.2.2.2.1, hk.2.2.2.2.2.2⟩⟩⟩⟩⟩⟩)))⟩; have n1_ : Aside0 (Kd.V (Kd.int .u8) 5 w33 w.heap.size (fun k_ => (P1_ k_ ∨ w.heap.size ≤ k_) ∧ some k_ ≠ (.slice Ao30 t554.length co30 : Value).ownBlock ∧ some k_ ≠ (.slice Ao25 x553000_1.length co25 : Value).ownBlock ∧ some k_ ≠ (u8 : Value).ownBlock ∧ k_ ≠ gb551 ∧ k_ ≠ gb552 ∧ k_ ≠ gb560) (.slice A561_0 (rd_L1 l1 x9_1).length c561_0) (rd_L1 l1 x9_1)) := ⟨by rw [← hq_]; exact (Kd.kV (c' HL561_0.out (fun _ hk => ⟨hk.1, ⟨hk.2.2.2.1, ⟨hk.2.2.1, ⟨hk.2.1, ⟨hk.2.2.2.2.1, ⟨hk.2.2.2.2.2.1, hk.2.2.2.2.2.2⟩⟩⟩⟩⟩⟩)))⟩; have n2_ : Aside0 (Kd.N (Kd.slice 5 (Kd.int .u8)) 25 w33 w.heap.size (fun k_ => (P1_ k_ ∨ w.heap.size ≤ k_) ∧ some k_ ≠ (.slice Ao25 x553000_1.length co25 : Value).ownBlock ∧ some k_ ≠ (u8 : Value).ownBlock ∧ k_ ≠ gb551 ∧ k_ ≠ gb552 ∧ k_ ≠ gb560) (.slice Ao30 t554.length co30) t554) := ⟨by rw [← hq_]; exact (Kd.kN (b' HO556.out (fun _ hk => ⟨hk.1, ⟨hk.2.2.1, ⟨hk.2.1, ⟨hk.2.2.2.1, ⟨hk.2.2.2.2.1, hk.2.2.2.2.2⟩⟩⟩⟩⟩)))⟩; have n3_ : Aside0 (Kd.V (Kd.slice 5 (Kd.int .u8)) 25 w33 w.heap.size (fun k_ => (P1_ k_ ∨ w.heap.size ≤ k_) ∧ some k_ ≠ (.slice Ao30 t554.length co30 : Value).ownBlock ∧ some k_ ≠ (.slice Ao25 x553000_1.length co25 : Value).ownBlock ∧ some k_ ≠ (u8 : Value).ownBlock ∧ k_ ≠ gb551 ∧ k_ ≠ gb552 ∧ k_ ≠ gb560) (.slice (some ad553) l1.length c1) l1) := ⟨by rw [← hq_]; exact (Kd.kV (c' HO_1.out (fun _ hk => ⟨hk.1, ⟨hk.2.2.2.1, ⟨hk.2.2.1, ⟨hk.2.1, ⟨hk.2.2.2.2.1, ⟨hk.2.2.2.2.2.1, hk.2.2.2.2.2.2⟩⟩⟩⟩⟩⟩)))⟩; have n4_ : Aside0 (Kd.N (Kd.slice 5 (Kd.int .u8)) 25 w33 w.heap.size (fun k_ => (P1_ k_ ∨ w.heap.size ≤ k_) ∧ some k_ ≠ (.slice Ao30 t554.length co30 : Value).ownBlock ∧ some k_ ≠ (u8 : Value).ownBlock ∧ k_ ≠ gb551 ∧ k_ ≠ gb552 ∧ k_ ≠ gb560) (.slice Ao25 x553000_1.length co25) x553000_1) := ⟨by rw [← hq_]; exact (Kd.kN (b' HO_553000.out (fun _ hk => ⟨hk.1, ⟨hk.2.2.1, ⟨hk.2.1, ⟨hk.2.2.2.1, ⟨hk.2.2.2.2.1, hk.2.2.2.2.2⟩⟩⟩⟩⟩)))⟩; have n5_ : Aside0 (Kd.N k57 57 w33 w.heap.size (fun k_ => (P1_ k_ ∨ w.heap.size ≤ k_) ∧ some k_ ≠ (.slice Ao30 t554.length co30 : Value).ownBlock ∧ some k_ ≠ (.slice Ao25 x553000_1.length co25 : Value).ownBlock ∧ k_ ≠ gb551 ∧ k_ ≠ gb552 ∧ k_ ≠ gb560) u8 x8_1) := ⟨by rw [← hq_]; exact (Kd.kN (b' HO_8.out (fun _ hk => ⟨hk.1, ⟨hk.2.2.1, ⟨hk.2.1, ⟨hk.2.2.2.1, ⟨hk.2.2.2.2.1, hk.2.2.2.2.2⟩⟩⟩⟩⟩)))⟩; have n6_ : Aside0 (w33.heap[gb551]? = some (.cells #[.slice none 0 0, .int .i64 x552001_1] 27 (0, 0))) := ⟨by rw [← hq_]; exact (eB BK551)⟩; have n7_ : Aside0 (w33.heap[gb552]? = some (.cells #[.slice Ao25 x553000_1.length co25, .int .i64 x553001_1] 27 (0, 0))) := ⟨by rw [← hq_]; exact (eB BK552)⟩; have n8_ : Aside0 (w33.heap[gb560]? = some (.cells #[.slice Ao30 t554.length co30, .int .i64 t557] 27 (0, 0))) := ⟨by rw [← hq_]; exact (eB BK560)⟩; have n9_ : Aside0 (Below w.heap.size w w33) := ⟨by rw [← hq_]; exact (eH HB)⟩; have n10_ : Aside0 (Kd.C (Kd.int .u8) w33 A561_0 (rd_L1 l1 x9_1).length (rd_L1 l1 x9_1)) := ⟨by rw [← hq_]; exact (Kd.cC HR561_0)⟩; clear HL553_0 HL561_0 HO556 HO_1 HO_553000 HO_8 BK551 BK552 BK560 HB HR561_0 hq_; have HL553_0 := n0_; have HL561_0 := n1_; have HO556 := n2_; have HO_1 := n3_; have HO_553000 := n4_; have HO_8 := n5_; have BK551 := n6_; have BK552 := n7_; have BK560 := n8_; have HB := n9_; have HR561_0 := n10_; clear n0_ n1_ n2_ n3_ n4_ n5_ n6_ n7_ n8_ n9_ n10_)); have hnb34 := NB552_551.out; have hnc34 := NB551_552.out; have hnb35 := NB552_560.out; have hnc35 := NB560_552.out; have hcz36_0 := bC BK552 0 (.slice Ao25 x553000_1.length co25); have hcz36_1 := bC BK552 1 (.int .i64 x553001_1); have hfz36_0 := j' BK552.out 0; have hfz36_1 := j' BK552.out 1; have hnb37 := NB551_560.out; have hnc37 := NB560_551.out; have hcz38_0 := bC BK551 0 (.slice none 0 0); have hcz38_1 := bC BK551 1 (.int .i64 x552001_1); have hfz38_0 := j' BK551.out 0; have hfz38_1 := j' BK551.out 1))
          refine bodyPost_ret (results_ctt rfl _ _ gb551 27 #[.slice Ao25 x553000_1.length co25, .int .i64 x553001_1] (0, 0) _ rfl (by refine eK ?_; refine blk_put (cs := #[.slice Ao25 x553000_1.length co25, .int .i64 x552001_1]) ?_ 1 _ rfl; refine eK ?_; refine blk_put (cs := #[.slice none 0 0, .int .i64 x552001_1]) ?_ 0 _ rfl; refine eK ?_; exact BK551.out) Try.underlying27 rfl (by kernel_rfl)) rfl ?_
          exact ⟨_, _, eE, by (with_reducible repeat (first | apply l' | apply k' | apply g')); exact b' (f' (p := ⟨gb551, 1, none⟩) (f' (p := ⟨gb551, 0, none⟩) (b' HO_553000.out (fun k_ hk => (⟨hk, hk.2.2.2.1⟩ : _ ∧ k_ ≠ gb551))) (fun _ hk => hk.2) (.slice Ao25 x553000_1.length co25)) (fun _ hk => hk.2) (.int .i64 x553001_1)) (fun _ hk => ⟨hk.1.1, hk.1.2.2.1⟩), by (with_reducible repeat (first | apply l' | apply k' | apply g')); exact b' (f' (p := ⟨gb551, 1, none⟩) (f' (p := ⟨gb551, 0, none⟩) (b' HO_8.out (fun k_ hk => (⟨hk, hk.2.2.2.1⟩ : _ ∧ k_ ≠ gb551))) (fun _ hk => hk.2) (.slice Ao25 x553000_1.length co25)) (fun _ hk => hk.2) (.int .i64 x553001_1)) (fun _ hk => ⟨hk.1.1, hk.1.2.2.1⟩), eH HB⟩
        ·
         rw [if_neg c13] at H
         have c13b0 := decide_eq_false c13
         have c13b1 : decide (400 < (rd_L1 l1 x9_1).length) = false := decide_eq_false (by omega)
         clear c13
         replace H := Option.bind_eq_some_iff.mp H
         obtain ⟨t563, A390, H⟩ := H
         (try dsimp only at H)
         have A39 := r' A390
         clear A390
         by_cases c40 : t563 = 0
         ·
          rw [if_pos c40] at H
          have c40b0 := beq_iff_eq.mpr c40
          have c40b1 := bne_eq_false_iff_eq.mpr c40
          clear c40
          by_cases c41 : x8_1.length < 4398046511104
          ·
           rw [if_pos c41] at H
           have LMc41 := r' c41
           clear c41
           obtain ⟨y565, hy565⟩ : ∃ y_ : List (S57), y_ = (x8_1 ++ [(⟨x553001_1, rd_L1 l1 x9_1⟩ : S57)]) := ⟨_, rfl⟩
           replace H : (fanlightlaw06_filled.l0 kj6 l1 y565 (wrap64 (x9_1 + 1)) t554 t557) = some (r1, r2, r3, r4) := by rw [hy565]; exact H
           have Ny565 := r' hy565
           clear hy565
           have H' := r' H
           clear H
           obtain ⟨Ao42, co42, eo42⟩ := Kd.N_slice HO_553000.out
           subst eo42
           try go_wp2
           have n0_ := r' (Kd.V_drew HO_1.out)
           have n1_ := r' (g' HO_8.out)
           have n2_ := r' (g' HO_553000.out)
           have n3_ := r' (blk_drew BK551.out)
           have n4_ := r' (blk_drew BK552.out)
           have n5_ := r' (below_drew1 HB.out)
           clear HO_1
           clear HO_8
           clear HO_553000
           clear BK551
           clear BK552
           clear HB
           have HO_1 := n0_
           have HO_8 := n1_
           have HO_553000 := n2_
           have BK551 := n3_
           have BK552 := n4_
           have HB := n5_
           clear n0_ n1_ n2_ n3_ n4_ n5_
           have p553 : 0 ≤ (x9_1 : Int) := oD
           have q553 : x9_1 < (l1.length : Int) := oD
           obtain ⟨ad553, A553_0, c553_0, e553, hx553_0, hl553_0, hi553_0⟩ := at_L1 (Kd.V_reads' HO_1.out).2.2 x9_1 p553 q553
           cases e553
           obtain ⟨ce553, hce553, hMe553, hcc553⟩ := Kd.V_get HO_1.out [] x9_1 p553 (by first | exact q553 | exact oD | (have e_ := (Kd.V_reads' HO_1.out).1; omega))
           obtain ⟨ua553_0, uc553_0, rfl, ul553_0, ge553_0⟩ := Kd.FK_slice_open hMe553
           have hv553_0 := hcc553 0 _ rfl
           rw [Nat.add_zero, show ((Kd.slice 5 (Kd.int .u8))).sz = 1 from rfl, Nat.mul_one] at hv553_0
           replace hv553_0 := Option.some.inj (hv553_0.symm.trans hx553_0)
           injection hv553_0 with hva_ hvn_ hvc_
           rw [hva_] at ge553_0
           rw [hvc_] at ul553_0
           have HL553_0 := r' (show Kd.V (Kd.int .u8) 5 _ w.heap.size _ _ (rd_L1 l1 x9_1) from Kd.V_mk ul553_0 ge553_0)
           clear hva_ hvn_ hvc_ ge553_0 ul553_0
           clear hcc553 hce553
           have HR553_0 := r' hi553_0
           have HC553_0 := r' hl553_0
           clear hi553_0 hl553_0
           replace p553 := eq_true p553
           replace q553 := eq_true q553
           refine start_ (n := 14) (S := fun w' => w'.cell? ⟨gb552, 0, none⟩ = some (.slice Ao42 x553000_1.length co42) ∧ w'.cell? ⟨gb552, 1, none⟩ = some (.int .i64 x553001_1) ∧ w'.cell? (ad553.add (x9_1).toNat) = some (.slice A553_0 (rd_L1 l1 x9_1).length c553_0)) (ds := []) #[Z,Z,Z,Z,Z,Z,Z,Z,Z,Z,Z,Z,Z,Z] (by kernel_rfl) rfl rfl ⟨(e' BK552.out 0).trans rfl, (e' BK552.out 1).trans rfl, hx553_0⟩ (fun hHeld => ?_); refine with_tabW fanlightlaw06_filled.tab6 fanlightlaw06_filled.bits6 (fun HT_ HW_ => ?_)
           generalize wc.drew = w43 at HO_1 HO_8 HO_553000 BK551 BK552 HB HL553_0 HR553_0 hx553_0 hHeld ⊢
           refine pP 1 31 #[Z,Y,Z,Z,Z,Z,Z,Z,Z,Z,Z,Z,Z,Z] HT_ (h := ?_)
           refine pP 2 32 #[Z,Y,Y,Z,Z,Z,Z,Z,Z,Z,Z,Z,Z,Z] HT_ (h := ?_)
           refine pP 3 33 #[Z,Y,Y,Y,Z,Z,Z,Z,Z,Z,Z,Z,Z,Z] HT_ (h := ?_)
           refine tP 0 30 #[Y,Y,Y,Y,Z,Z,Z,Z,Z,Z,Z,Z,Z,Z] HT_ HW_ hHeld (hy := by refine Or.inl ⟨by rfl, ?_⟩; rintro w' ⟨s0, s1, s2⟩; go_simp; with_reducible rfl) (h := ?_)
           refine tP 4 34 #[Y,Y,Y,Y,Y,Z,Z,Z,Z,Z,Z,Z,Z,Z] HT_ HW_ hHeld (hy := by refine Or.inl ⟨by rfl, ?_⟩; rintro w' ⟨s0, s1, s2⟩; go_simp; with_reducible rfl) (h := ?_)
           refine join_ (σ := Value × Nat) 3 #[Y,Y,Y,Y,Y,Y,Y,Y,Y,Y,Y,Z,Z,Z] (fun s_ => [(35, .tuple #[.agg #[s_.1, .int .i64 t557], .int .i64 t558, .int .i64 t559]), (10, .pointer (some ⟨s_.2, 0, none⟩)), (29, .tuple #[.agg #[s_.1, .int .i64 t557], .int .i64 t558, .int .i64 t559]), (36, .agg #[s_.1, .int .i64 t557]), (37, .int .i64 t558), (38, .int .i64 t559)]) (fun s_ w' => (w'.cell? ⟨gb552, 0, none⟩ = some (.slice Ao42 x553000_1.length co42) ∧ w'.cell? ⟨gb552, 1, none⟩ = some (.int .i64 x553001_1) ∧ w'.cell? (ad553.add (x9_1).toNat) = some (.slice A553_0 (rd_L1 l1 x9_1).length c553_0)) ∧ (Kd.V (Kd.int .u8) 5 w' w.heap.size (fun k_ => (P1_ k_ ∨ w.heap.size ≤ k_) ∧ some k_ ≠ (s_.1 : Value).ownBlock ∧ some k_ ≠ (.slice Ao42 x553000_1.length co42 : Value).ownBlock ∧ some k_ ≠ (u8 : Value).ownBlock ∧ k_ ≠ gb551 ∧ k_ ≠ gb552 ∧ k_ ≠ s_.2) (.slice A553_0 (rd_L1 l1 x9_1).length c553_0) (rd_L1 l1 x9_1)) ∧ (Kd.N (Kd.slice 5 (Kd.int .u8)) 25 w' w.heap.size (fun k_ => (P1_ k_ ∨ w.heap.size ≤ k_) ∧ some k_ ≠ (.slice Ao42 x553000_1.length co42 : Value).ownBlock ∧ some k_ ≠ (u8 : Value).ownBlock ∧ k_ ≠ gb551 ∧ k_ ≠ gb552 ∧ k_ ≠ s_.2) s_.1 t554) ∧ (Kd.V (Kd.slice 5 (Kd.int .u8)) 25 w' w.heap.size (fun k_ => (P1_ k_ ∨ w.heap.size ≤ k_) ∧ some k_ ≠ (s_.1 : Value).ownBlock ∧ some k_ ≠ (.slice Ao42 x553000_1.length co42 : Value).ownBlock ∧ some k_ ≠ (u8 : Value).ownBlock ∧ k_ ≠ gb551 ∧ k_ ≠ gb552 ∧ k_ ≠ s_.2) (.slice (some ad553) l1.length c1) l1) ∧ (Kd.N (Kd.slice 5 (Kd.int .u8)) 25 w' w.heap.size (fun k_ => (P1_ k_ ∨ w.heap.size ≤ k_) ∧ some k_ ≠ (s_.1 : Value).ownBlock ∧ some k_ ≠ (u8 : Value).ownBlock ∧ k_ ≠ gb551 ∧ k_ ≠ gb552 ∧ k_ ≠ s_.2) (.slice Ao42 x553000_1.length co42) x553000_1) ∧ (Kd.N k57 57 w' w.heap.size (fun k_ => (P1_ k_ ∨ w.heap.size ≤ k_) ∧ some k_ ≠ (s_.1 : Value).ownBlock ∧ some k_ ≠ (.slice Ao42 x553000_1.length co42 : Value).ownBlock ∧ k_ ≠ gb551 ∧ k_ ≠ gb552 ∧ k_ ≠ s_.2) u8 x8_1) ∧ (w'.heap[gb551]? = some (.cells #[.slice none 0 0, .int .i64 x552001_1] 27 (0, 0))) ∧ (w'.heap[gb552]? = some (.cells #[.slice Ao42 x553000_1.length co42, .int .i64 x553001_1] 27 (0, 0))) ∧ (w'.heap[s_.2]? = some (.cells #[.slice none 0 0, .int .i64 0] 27 (0, 0))) ∧ (w.heap.size ≤ s_.2) ∧ (w.heap.size ≤ s_.2) ∧ (gb551 ≠ s_.2) ∧ (s_.2 ≠ gb551) ∧ (gb552 ≠ s_.2) ∧ (s_.2 ≠ gb552) ∧ (Below w.heap.size w w')) ?_ ?_
           rotate_left
           ·
            intro hCont
            refine two_ (i := 5) (j := 10) (Ni := some 35) (Nj := some 10) #[Y,Y,Y,Y,Y,Y,Z,Z,Z,Z,Z,Z,Z,Z] #[Y,Y,Y,Y,Y,Z,Z,Z,Z,Z,Y,Z,Z,Z] rfl rfl rfl rfl (two_of HT_.out (by kernel_rfl)) (by decide) (by decide) (fun K hK => ?_) (fun K hK => ?_)
            ·
             skip
             refine goes_ Try.func11 (by kernel_rfl) rfl #[.agg #[.slice Ao42 x553000_1.length co42, .int .i64 x553001_1], .slice A553_0 (rd_L1 l1 x9_1).length c553_0] (by rfl) rfl rfl (by (try simp only [List.map_toArray, List.map_cons, List.map_nil]); first | done | rfl | (simp only [List.length_drop, List.length_take]; rfl)) ?_
             with_reducible refine (wal_Append.calls kj6 _ _ x553000_1 x553001_1 _ _ (rd_L1 l1 x9_1) t554 t557 t558 t559 _ ?side1 ?side2 ?side3 ?side4 A12.out).mono ?_
             (case side1 => exact Kd.kC (Kd.N_reads' HO_553000.out).2.2)
             (case side2 => exact (Kd.N_reads' HO_553000.out).2.1)
             (case side3 => exact Kd.cC HR553_0)
             (case side4 => exact HC553_0.out)
             rintro e w44 ⟨v555, rfl, ho0, hb⟩
             have HS2_ := (hb.cell (World.block_lt_of_cell? _ _ (hHeld.2.2))).trans (hHeld.2.2)
             refine ⟨_, rfl, ?_⟩
             have n0_ := r' (Kd.V_elder' (Kd.eV HO_1) (h' ho0) hb)
             have n1_ := r' (Kd.N_elder' (Kd.eN HO_8) (h' ho0) hb)
             have n2_ := r' (Kd.N_elder' (Kd.eN HO_553000) (h' ho0) hb)
             have n3_ := r' (Kd.V_elder' (Kd.eV HL553_0) (h' ho0) hb)
             have n4_ := r' (Kd.N_lower (b' (ok' := fun k_ => (P1_ k_ ∨ w.heap.size ≤ k_) ∧ some k_ ≠ (u8 : Value).ownBlock ∧ some k_ ≠ (.slice Ao42 x553000_1.length co42 : Value).ownBlock ∧ k_ ≠ gb551 ∧ k_ ≠ gb552) (Kd.S_N (Kd.S_bound ho0)) (fun k_ hk_ => ⟨(.inr (Nat.le_trans (d' (eH HB)) hk_.2.1)), (Kd.fresh' (Kd.N_lt (Kd.eN HO_8)) k_ hk_.2.1), (Kd.fresh' (Kd.N_lt (Kd.eN HO_553000)) k_ hk_.2.1), (m' (g := gb551) (o := .cells #[.slice none 0 0, .int .i64 x552001_1] 27 (0, 0)) (eB BK551) k_ hk_.2.1), (m' (g := gb552) (o := .cells #[.slice Ao42 x553000_1.length co42, .int .i64 x553001_1] 27 (0, 0)) (eB BK552) k_ hk_.2.1)⟩)) (d' (eH HB)))
             have n5_ := bB BK551 hb
             have n6_ := bB BK552 hb
             have n7_ := r' (Kd.C_below (Kd.cC HR553_0) hb)
             have n8_ := r' (below_step (eH HB) hb)
             clear HO_1
             clear HO_8
             clear HO_553000
             clear HL553_0
             clear BK551
             clear BK552
             clear HR553_0
             clear HB
             have HO_1 := n0_
             have HO_8 := n1_
             have HO_553000 := n2_
             have HL553_0 := n3_
             have HO556 := n4_
             have BK551 := n5_
             have BK552 := n6_
             have HR553_0 := n7_
             have HB := n8_
             clear n0_ n1_ n2_ n3_ n4_ n5_ n6_ n7_ n8_
             (try clear hb)
             (try clear hb2)
             (try clear hk)
             (try clear hi)
             (try clear ho0)
             refine hK.out _ _ ⟨(e' BK552.out 0).trans rfl, (e' BK552.out 1).trans rfl, HS2_⟩ (fun hHeld => ?_)
             clear hK K
             refine norm_ (a' := ?_) ?_ ?_
             rotate_left
             ·
              show Act.put _ (some 35) _ = _
              exact uP
             refine pP 6 29 #[Y,Y,Y,Y,Y,Y,Y,Z,Z,Z,Z,Z,Z,Z] HT_ (h := ?_)
             refine pP 7 36 #[Y,Y,Y,Y,Y,Y,Y,Y,Z,Z,Z,Z,Z,Z] HT_ (h := ?_)
             refine pP 8 37 #[Y,Y,Y,Y,Y,Y,Y,Y,Y,Z,Z,Z,Z,Z] HT_ (h := ?_)
             refine pP 9 38 #[Y,Y,Y,Y,Y,Y,Y,Y,Y,Y,Z,Z,Z,Z] HT_ (h := ?_)
             refine one_ (i := 10) (N := some 10) #[Y,Y,Y,Y,Y,Y,Y,Y,Y,Y,Y,Z,Z,Z] rfl rfl (one_of HT_.out (by kernel_rfl)) (by decide) (fun K hK => ?_)
             refine box_step ?hg (N := 10) ?hd (cs := #[.slice none 0 0, .int .i64 0]) (t := 27) ?hr ?_; (case hd => rfl); (case hg => rfl); (case hr => go_simp <;> rfl)
             intro gb560 hg w45 hbox hb
             have HS2_ := (hb.cell (World.block_lt_of_cell? _ _ (hHeld.2.2))).trans (hHeld.2.2)
             have n0_ := r' (Kd.V_below (Kd.V_elderB (Kd.eV HO_1) gb560 (Nat.le_of_eq hg.symm)) hb)
             have n1_ := r' (n' (Kd.N_elderB (Kd.eN HO_8) gb560 (Nat.le_of_eq hg.symm)) hb)
             have n2_ := r' (n' (Kd.N_elderB (Kd.eN HO_553000) gb560 (Nat.le_of_eq hg.symm)) hb)
             have n3_ := r' (Kd.V_below (Kd.V_elderB (Kd.eV HL553_0) gb560 (Nat.le_of_eq hg.symm)) hb)
             have n4_ := r' (n' (Kd.N_elderB (Kd.eN HO556) gb560 (Nat.le_of_eq hg.symm)) hb)
             have n5_ := bB BK551 hb
             have n6_ := bB BK552 hb
             have n7_ := r' (Kd.C_below (Kd.cC HR553_0) hb)
             have n8_ := r' (below_step (eH HB) hb)
             have n9_ := r' (hbox)
             have n10_ := r' ((by rw [hg]; exact (d' (eH HB)) : w.heap.size ≤ gb560))
             have n11_ := r' ((by rw [hg]; exact (d' (eH HB)) : w.heap.size ≤ gb560))
             have n12_ := nL hg BK551
             have n13_ := nG hg BK551
             have n14_ := nL hg BK552
             have n15_ := nG hg BK552
             clear HO_1
             clear HO_8
             clear HO_553000
             clear HL553_0
             clear HO556
             clear BK551
             clear BK552
             clear HR553_0
             clear HB
             have HO_1 := n0_
             have HO_8 := n1_
             have HO_553000 := n2_
             have HL553_0 := n3_
             have HO556 := n4_
             have BK551 := n5_
             have BK552 := n6_
             have HR553_0 := n7_
             have HB := n8_
             have BK560 := n9_
             have GW560 := n10_
             have GE560 := n11_
             have NB551_560 := n12_
             have NB560_551 := n13_
             have NB552_560 := n14_
             have NB560_552 := n15_
             clear n0_ n1_ n2_ n3_ n4_ n5_ n6_ n7_ n8_ n9_ n10_ n11_ n12_ n13_ n14_ n15_
             clear hb hbox hg
             refine hK.out _ _ ⟨(e' BK552.out 0).trans rfl, (e' BK552.out 1).trans rfl, HS2_⟩ (fun hHeld => ?_)
             clear hK K
             refine norm_ (a' := ?_) ?_ ?_
             rotate_left
             ·
              show Act.put _ (some 10) _ = _
              exact uP
             exact norm_ (by simp only [putAll, Act.put, o', p', q']) (hCont (v555, gb560) _ ⟨hHeld, (Kd.kV (c' HL553_0.out (fun _ hk => ⟨hk.1.1.1, ⟨hk.1.2, ⟨hk.1.1.2.2.1, ⟨hk.1.1.2.1, ⟨hk.1.1.2.2.2.1, ⟨hk.1.1.2.2.2.2, hk.2⟩⟩⟩⟩⟩⟩))), (Kd.kN (b' HO556.out (fun _ hk => ⟨hk.1.1, ⟨hk.1.2.2.1, ⟨hk.1.2.1, ⟨hk.1.2.2.2.1, ⟨hk.1.2.2.2.2, hk.2⟩⟩⟩⟩⟩))), (Kd.kV (c' HO_1.out (fun _ hk => ⟨hk.1.1.1, ⟨hk.1.2, ⟨hk.1.1.2.2.1, ⟨hk.1.1.2.1, ⟨hk.1.1.2.2.2.1, ⟨hk.1.1.2.2.2.2, hk.2⟩⟩⟩⟩⟩⟩))), (Kd.kN (b' HO_553000.out (fun _ hk => ⟨hk.1.1.1, ⟨hk.1.2, ⟨hk.1.1.2.1, ⟨hk.1.1.2.2.1, ⟨hk.1.1.2.2.2, hk.2⟩⟩⟩⟩⟩))), (Kd.kN (b' HO_8.out (fun _ hk => ⟨hk.1.1.1, ⟨hk.1.2, ⟨hk.1.1.2.1, ⟨hk.1.1.2.2.1, ⟨hk.1.1.2.2.2, hk.2⟩⟩⟩⟩⟩))), (eB BK551), (eB BK552), (eB BK560), GW560.out, GE560.out, NB551_560.out, NB560_551.out, NB552_560.out, NB560_552.out, (eH HB)⟩)
            ·
             skip
             refine box_step ?hg (N := 10) ?hd (cs := #[.slice none 0 0, .int .i64 0]) (t := 27) ?hr ?_; (case hd => rfl); (case hg => rfl); (case hr => go_simp <;> rfl)
             intro gb560 hg w44 hbox hb
             have HS2_ := (hb.cell (World.block_lt_of_cell? _ _ (hHeld.2.2))).trans (hHeld.2.2)
             have n0_ := r' (Kd.V_below (Kd.V_elderB (Kd.eV HO_1) gb560 (Nat.le_of_eq hg.symm)) hb)
             have n1_ := r' (n' (Kd.N_elderB (Kd.eN HO_8) gb560 (Nat.le_of_eq hg.symm)) hb)
             have n2_ := r' (n' (Kd.N_elderB (Kd.eN HO_553000) gb560 (Nat.le_of_eq hg.symm)) hb)
             have n3_ := r' (Kd.V_below (Kd.V_elderB (Kd.eV HL553_0) gb560 (Nat.le_of_eq hg.symm)) hb)
             have n4_ := bB BK551 hb
             have n5_ := bB BK552 hb
             have n6_ := r' (Kd.C_below (Kd.cC HR553_0) hb)
             have n7_ := r' (below_step (eH HB) hb)
             have n8_ := r' (hbox)
             have n9_ := r' ((by rw [hg]; exact (d' (eH HB)) : w.heap.size ≤ gb560))
             have n10_ := r' ((by rw [hg]; exact (d' (eH HB)) : w.heap.size ≤ gb560))
             have n11_ := nL hg BK551
             have n12_ := nG hg BK551
             have n13_ := nL hg BK552
             have n14_ := nG hg BK552
             clear HO_1
             clear HO_8
             clear HO_553000
             clear HL553_0
             clear BK551
             clear BK552
             clear HR553_0
             clear HB
             have HO_1 := n0_
             have HO_8 := n1_
             have HO_553000 := n2_
             have HL553_0 := n3_
             have BK551 := n4_
             have BK552 := n5_
             have HR553_0 := n6_
             have HB := n7_
             have BK560 := n8_
             have GW560 := n9_
             have GE560 := n10_
             have NB551_560 := n11_
             have NB560_551 := n12_
             have NB552_560 := n13_
             have NB560_552 := n14_
             clear n0_ n1_ n2_ n3_ n4_ n5_ n6_ n7_ n8_ n9_ n10_ n11_ n12_ n13_ n14_
             clear hb hbox hg
             refine hK.out _ _ ⟨(e' BK552.out 0).trans rfl, (e' BK552.out 1).trans rfl, HS2_⟩ (fun hHeld => ?_)
             clear hK K
             refine norm_ (a' := ?_) ?_ ?_
             rotate_left
             ·
              show Act.put _ (some 10) _ = _
              exact uP
             refine one_ (i := 5) (N := some 35) #[Y,Y,Y,Y,Y,Y,Z,Z,Z,Z,Y,Z,Z,Z] rfl rfl (one_of HT_.out (by kernel_rfl)) (by decide) (fun K hK => ?_)
             refine goes_ Try.func11 (by kernel_rfl) rfl #[.agg #[.slice Ao42 x553000_1.length co42, .int .i64 x553001_1], .slice A553_0 (rd_L1 l1 x9_1).length c553_0] (by rfl) rfl rfl (by (try simp only [List.map_toArray, List.map_cons, List.map_nil]); first | done | rfl | (simp only [List.length_drop, List.length_take]; rfl)) ?_
             with_reducible refine (wal_Append.calls kj6 _ _ x553000_1 x553001_1 _ _ (rd_L1 l1 x9_1) t554 t557 t558 t559 _ ?side1 ?side2 ?side3 ?side4 A12.out).mono ?_
             (case side1 => exact Kd.kC (Kd.N_reads' HO_553000.out).2.2)
             (case side2 => exact (Kd.N_reads' HO_553000.out).2.1)
             (case side3 => exact Kd.cC HR553_0)
             (case side4 => exact HC553_0.out)
             rintro e w45 ⟨v555, rfl, ho0, hb⟩
             have HS2_ := (hb.cell (World.block_lt_of_cell? _ _ (hHeld.2.2))).trans (hHeld.2.2)
             refine ⟨_, rfl, ?_⟩
             have n0_ := r' (Kd.V_elder' (Kd.eV HO_1) (h' ho0) hb)
             have n1_ := r' (Kd.N_elder' (Kd.eN HO_8) (h' ho0) hb)
             have n2_ := r' (Kd.N_elder' (Kd.eN HO_553000) (h' ho0) hb)
             have n3_ := r' (Kd.V_elder' (Kd.eV HL553_0) (h' ho0) hb)
             have n4_ := r' (Kd.N_lower (b' (ok' := fun k_ => (P1_ k_ ∨ w.heap.size ≤ k_) ∧ some k_ ≠ (u8 : Value).ownBlock ∧ some k_ ≠ (.slice Ao42 x553000_1.length co42 : Value).ownBlock ∧ k_ ≠ gb551 ∧ k_ ≠ gb552 ∧ k_ ≠ gb560) (Kd.S_N (Kd.S_bound ho0)) (fun k_ hk_ => ⟨(.inr (Nat.le_trans (d' (eH HB)) hk_.2.1)), (Kd.fresh' (Kd.N_lt (Kd.eN HO_8)) k_ hk_.2.1), (Kd.fresh' (Kd.N_lt (Kd.eN HO_553000)) k_ hk_.2.1), (m' (g := gb551) (o := .cells #[.slice none 0 0, .int .i64 x552001_1] 27 (0, 0)) (eB BK551) k_ hk_.2.1), (m' (g := gb552) (o := .cells #[.slice Ao42 x553000_1.length co42, .int .i64 x553001_1] 27 (0, 0)) (eB BK552) k_ hk_.2.1), (m' (g := gb560) (o := .cells #[.slice none 0 0, .int .i64 0] 27 (0, 0)) (eB BK560) k_ hk_.2.1)⟩)) (d' (eH HB)))
             have n5_ := bB BK551 hb
             have n6_ := bB BK552 hb
             have n7_ := r' (Kd.C_below (Kd.cC HR553_0) hb)
             have n8_ := bB BK560 hb
             have n9_ := r' (below_step (eH HB) hb)
             clear HO_1
             clear HO_8
             clear HO_553000
             clear HL553_0
             clear BK551
             clear BK552
             clear HR553_0
             clear BK560
             clear HB
             have HO_1 := n0_
             have HO_8 := n1_
             have HO_553000 := n2_
             have HL553_0 := n3_
             have HO556 := n4_
             have BK551 := n5_
             have BK552 := n6_
             have HR553_0 := n7_
             have BK560 := n8_
             have HB := n9_
             clear n0_ n1_ n2_ n3_ n4_ n5_ n6_ n7_ n8_ n9_
             (try clear hb)
             (try clear hb2)
             (try clear hk)
             (try clear hi)
             (try clear ho0)
             refine hK.out _ _ ⟨(e' BK552.out 0).trans rfl, (e' BK552.out 1).trans rfl, HS2_⟩ (fun hHeld => ?_)
             clear hK K
             refine norm_ (a' := ?_) ?_ ?_
             rotate_left
             ·
              show Act.put _ (some 35) _ = _
              exact uP
             refine pP 6 29 #[Y,Y,Y,Y,Y,Y,Y,Z,Z,Z,Y,Z,Z,Z] HT_ (h := ?_)
             refine pP 7 36 #[Y,Y,Y,Y,Y,Y,Y,Y,Z,Z,Y,Z,Z,Z] HT_ (h := ?_)
             refine pP 8 37 #[Y,Y,Y,Y,Y,Y,Y,Y,Y,Z,Y,Z,Z,Z] HT_ (h := ?_)
             refine pP 9 38 #[Y,Y,Y,Y,Y,Y,Y,Y,Y,Y,Y,Z,Z,Z] HT_ (h := ?_)
             exact norm_ (by simp only [putAll, Act.put, o', p', q']) (hCont (v555, gb560) _ ⟨hHeld, (Kd.kV (c' HL553_0.out (fun _ hk => ⟨hk.1.1.1, ⟨hk.2, ⟨hk.1.1.2.2.1, ⟨hk.1.1.2.1, ⟨hk.1.1.2.2.2.1, ⟨hk.1.1.2.2.2.2, hk.1.2⟩⟩⟩⟩⟩⟩))), (Kd.kN (b' HO556.out (fun _ hk => ⟨hk.1, ⟨hk.2.2.1, ⟨hk.2.1, ⟨hk.2.2.2.1, ⟨hk.2.2.2.2.1, hk.2.2.2.2.2⟩⟩⟩⟩⟩))), (Kd.kV (c' HO_1.out (fun _ hk => ⟨hk.1.1.1, ⟨hk.2, ⟨hk.1.1.2.2.1, ⟨hk.1.1.2.1, ⟨hk.1.1.2.2.2.1, ⟨hk.1.1.2.2.2.2, hk.1.2⟩⟩⟩⟩⟩⟩))), (Kd.kN (b' HO_553000.out (fun _ hk => ⟨hk.1.1.1, ⟨hk.2, ⟨hk.1.1.2.1, ⟨hk.1.1.2.2.1, ⟨hk.1.1.2.2.2, hk.1.2⟩⟩⟩⟩⟩))), (Kd.kN (b' HO_8.out (fun _ hk => ⟨hk.1.1.1, ⟨hk.2, ⟨hk.1.1.2.1, ⟨hk.1.1.2.2.1, ⟨hk.1.1.2.2.2, hk.1.2⟩⟩⟩⟩⟩))), (eB BK551), (eB BK552), (eB BK560), GW560.out, GE560.out, NB551_560.out, NB560_551.out, NB552_560.out, NB560_552.out, (eH HB)⟩)
           rintro ⟨v555, gb560⟩ w46 ⟨hS_, h0_, h1_, h2_, h3_, h4_, h5_, h6_, h7_, h8_, h9_, h10_, h11_, h12_, h13_, h14_⟩
           have n0_ : Aside0 (Kd.V (Kd.int .u8) 5 w46 w.heap.size (fun k_ => (P1_ k_ ∨ w.heap.size ≤ k_) ∧ some k_ ≠ (v555 : Value).ownBlock ∧ some k_ ≠ (.slice Ao42 x553000_1.length co42 : Value).ownBlock ∧ some k_ ≠ (u8 : Value).ownBlock ∧ k_ ≠ gb551 ∧ k_ ≠ gb552 ∧ k_ ≠ gb560) (.slice A553_0 (rd_L1 l1 x9_1).length c553_0) (rd_L1 l1 x9_1)) := ⟨h0_⟩
           have n1_ : Aside0 (Kd.N (Kd.slice 5 (Kd.int .u8)) 25 w46 w.heap.size (fun k_ => (P1_ k_ ∨ w.heap.size ≤ k_) ∧ some k_ ≠ (.slice Ao42 x553000_1.length co42 : Value).ownBlock ∧ some k_ ≠ (u8 : Value).ownBlock ∧ k_ ≠ gb551 ∧ k_ ≠ gb552 ∧ k_ ≠ gb560) v555 t554) := ⟨h1_⟩
           have n2_ : Aside0 (Kd.V (Kd.slice 5 (Kd.int .u8)) 25 w46 w.heap.size (fun k_ => (P1_ k_ ∨ w.heap.size ≤ k_) ∧ some k_ ≠ (v555 : Value).ownBlock ∧ some k_ ≠ (.slice Ao42 x553000_1.length co42 : Value).ownBlock ∧ some k_ ≠ (u8 : Value).ownBlock ∧ k_ ≠ gb551 ∧ k_ ≠ gb552 ∧ k_ ≠ gb560) (.slice (some ad553) l1.length c1) l1) := ⟨h2_⟩
           have n3_ : Aside0 (Kd.N (Kd.slice 5 (Kd.int .u8)) 25 w46 w.heap.size (fun k_ => (P1_ k_ ∨ w.heap.size ≤ k_) ∧ some k_ ≠ (v555 : Value).ownBlock ∧ some k_ ≠ (u8 : Value).ownBlock ∧ k_ ≠ gb551 ∧ k_ ≠ gb552 ∧ k_ ≠ gb560) (.slice Ao42 x553000_1.length co42) x553000_1) := ⟨h3_⟩
           have n4_ : Aside0 (Kd.N k57 57 w46 w.heap.size (fun k_ => (P1_ k_ ∨ w.heap.size ≤ k_) ∧ some k_ ≠ (v555 : Value).ownBlock ∧ some k_ ≠ (.slice Ao42 x553000_1.length co42 : Value).ownBlock ∧ k_ ≠ gb551 ∧ k_ ≠ gb552 ∧ k_ ≠ gb560) u8 x8_1) := ⟨h4_⟩
           have n5_ : Aside0 (w46.heap[gb551]? = some (.cells #[.slice none 0 0, .int .i64 x552001_1] 27 (0, 0))) := ⟨h5_⟩
           have n6_ : Aside0 (w46.heap[gb552]? = some (.cells #[.slice Ao42 x553000_1.length co42, .int .i64 x553001_1] 27 (0, 0))) := ⟨h6_⟩
           have n7_ : Aside0 (w46.heap[gb560]? = some (.cells #[.slice none 0 0, .int .i64 0] 27 (0, 0))) := ⟨h7_⟩
           have n8_ : Aside0 (w.heap.size ≤ gb560) := ⟨h8_⟩
           have n9_ : Aside0 (w.heap.size ≤ gb560) := ⟨h9_⟩
           have n10_ : Aside0 (gb551 ≠ gb560) := ⟨h10_⟩
           have n11_ : Aside0 (gb560 ≠ gb551) := ⟨h11_⟩
           have n12_ : Aside0 (gb552 ≠ gb560) := ⟨h12_⟩
           have n13_ : Aside0 (gb560 ≠ gb552) := ⟨h13_⟩
           have n14_ : Aside0 (Below w.heap.size w w46) := ⟨h14_⟩
           clear HO_1
           clear HO_8
           clear HO_553000
           clear BK551
           clear BK552
           clear HB
           clear h0_ h1_ h2_ h3_ h4_ h5_ h6_ h7_ h8_ h9_ h10_ h11_ h12_ h13_ h14_
           have HL553_0 := n0_
           have HO556 := n1_
           have HO_1 := n2_
           have HO_553000 := n3_
           have HO_8 := n4_
           have BK551 := n5_
           have BK552 := n6_
           have BK560 := n7_
           have GW560 := n8_
           have GE560 := n9_
           have NB551_560 := n10_
           have NB560_551 := n11_
           have NB552_560 := n12_
           have NB560_552 := n13_
           have HB := n14_
           clear n0_ n1_ n2_ n3_ n4_ n5_ n6_ n7_ n8_ n9_ n10_ n11_ n12_ n13_ n14_
           have hHeld : w46.cell? ⟨gb552, 0, none⟩ = some (.slice Ao42 x553000_1.length co42) ∧ w46.cell? ⟨gb552, 1, none⟩ = some (.int .i64 x553001_1) ∧ w46.cell? (ad553.add (x9_1).toNat) = some (.slice A553_0 (rd_L1 l1 x9_1).length c553_0) := hS_
           obtain ⟨Ao47, co47, eo47⟩ := Kd.N_slice HO556.out
           (first | subst eo47 | (injection eo47 with f1_ f2_ f3_; have f4_ := f1_.symm; have f5_ := f3_.symm; clear f1_ f2_ f3_; subst f4_; subst f5_))
           refine norm_ (a' := ?_) ?_ ?_
           rotate_left
           ·
            simp only [putAll, Act.put, o', p', q']
            rfl
           refine one_ (i := 11) (N := none) #[Y,Y,Y,Y,Y,Y,Y,Y,Y,Y,Y,Y,Z,Z] rfl rfl (one_of HT_.out (by kernel_rfl)) (by decide) (fun K hK => ?_)
           have hs48 : w46.cell? ⟨gb560, 0, none⟩ = some (.slice none 0 0) := (e' BK560.out 0).trans rfl
           have hfs48 := j' BK560.out 0
           have hns48_0 := NB551_560.out
           have hns48_1 := NB552_560.out
           have hms48_0 := NB560_551.out
           have hms48_1 := NB560_552.out
           have hs49 : w46.cell? ⟨gb560, 1, none⟩ = some (.int .i64 0) := (e' BK560.out 1).trans rfl
           have hfs49 := j' BK560.out 1
           have hns49_0 := NB551_560.out
           have hns49_1 := NB552_560.out
           have hms49_0 := NB560_551.out
           have hms49_1 := NB560_552.out
           refine skip_ (w1 := ?_) (by rfl) rfl ?_ ?_
           rotate_left
           ·
            go_simp
            rfl
           refine hK.out _ _ ⟨((cell_far (p := ⟨gb560, _, none⟩) NB552_560.out _).trans (((cell_far (p := ⟨gb560, _, none⟩) NB552_560.out _).trans (hHeld.1)))), ((cell_far (p := ⟨gb560, _, none⟩) NB552_560.out _).trans (((cell_far (p := ⟨gb560, _, none⟩) NB552_560.out _).trans (hHeld.2.1)))), ((cell_far (p := ⟨gb560, _, none⟩) (by first | exact Kd.own_blk (Kd.V_away' HO_1.out p553 q553 (fun _ hk => hk.2.2.2.2.2.2)) | (rw [add_block]; exact Kd.own_blk (Kd.V_away' HO_1.out p553 q553 (fun _ hk => hk.2.2.2.2.2.2))) | (show (Addr.add _ _).block ≠ _; rw [add_block]; exact Kd.own_blk (Kd.V_away' HO_1.out p553 q553 (fun _ hk => hk.2.2.2.2.2.2))) | (dsimp only; exact Kd.own_blk (Kd.V_away' HO_1.out p553 q553 (fun _ hk => hk.2.2.2.2.2.2)))) _).trans (((cell_far (p := ⟨gb560, _, none⟩) (by first | exact Kd.own_blk (Kd.V_away' HO_1.out p553 q553 (fun _ hk => hk.2.2.2.2.2.2)) | (rw [add_block]; exact Kd.own_blk (Kd.V_away' HO_1.out p553 q553 (fun _ hk => hk.2.2.2.2.2.2))) | (show (Addr.add _ _).block ≠ _; rw [add_block]; exact Kd.own_blk (Kd.V_away' HO_1.out p553 q553 (fun _ hk => hk.2.2.2.2.2.2))) | (dsimp only; exact Kd.own_blk (Kd.V_away' HO_1.out p553 q553 (fun _ hk => hk.2.2.2.2.2.2)))) _).trans (hHeld.2.2))))⟩ (fun hHeld => ?_)
           clear hK K
           refine pP 12 11 #[Y,Y,Y,Y,Y,Y,Y,Y,Y,Y,Y,Y,Y,Z] HT_ (h := ?_)
           refine pP 13 12 #[Y,Y,Y,Y,Y,Y,Y,Y,Y,Y,Y,Y,Y,Y] HT_ (h := ?_)
           refine done_ (done_of HT_.out (by kernel_rfl)) ?_
           have n0_ : Aside0 (Kd.V (Kd.slice 5 (Kd.int .u8)) 25 ((w46.setCell ⟨gb560, 0, none⟩ (.slice Ao47 t554.length co47)).setCell ⟨gb560, 1, none⟩ (.int .i64 t557)) w.heap.size (fun k_ => (P1_ k_ ∨ w.heap.size ≤ k_) ∧ some k_ ≠ (u8 : Value).ownBlock ∧ some k_ ≠ (.slice Ao42 x553000_1.length co42 : Value).ownBlock ∧ some k_ ≠ (.slice Ao47 t554.length co47 : Value).ownBlock ∧ k_ ≠ gb551 ∧ k_ ≠ gb552 ∧ k_ ≠ gb560) (.slice (some ad553) l1.length c1) l1) := ⟨by (with_reducible repeat (first | apply Kd.V_alloc | apply Kd.V_drewN | apply Kd.V_drew)); exact c' (Kd.V_far (p := ⟨gb560, 1, none⟩) (Kd.V_far (p := ⟨gb560, 0, none⟩) (c' HO_1.out (fun k_ hk => (⟨hk, hk.2.2.2.2.2.2⟩ : _ ∧ k_ ≠ gb560))) (fun _ hk => hk.2) (.slice Ao47 t554.length co47)) (fun _ hk => hk.2) (.int .i64 t557)) (fun _ hk => ⟨hk.1.1, ⟨hk.1.2.2.2.1, ⟨hk.1.2.2.1, ⟨hk.1.2.1, ⟨hk.1.2.2.2.2.1, ⟨hk.1.2.2.2.2.2.1, hk.1.2.2.2.2.2.2⟩⟩⟩⟩⟩⟩)⟩
           have n1_ : Aside0 (Kd.N k57 57 ((w46.setCell ⟨gb560, 0, none⟩ (.slice Ao47 t554.length co47)).setCell ⟨gb560, 1, none⟩ (.int .i64 t557)) w.heap.size (fun k_ => (P1_ k_ ∨ w.heap.size ≤ k_) ∧ some k_ ≠ (.slice Ao42 x553000_1.length co42 : Value).ownBlock ∧ some k_ ≠ (.slice Ao47 t554.length co47 : Value).ownBlock ∧ k_ ≠ gb551 ∧ k_ ≠ gb552 ∧ k_ ≠ gb560) u8 x8_1) := ⟨by (with_reducible repeat (first | apply l' | apply k' | apply g')); exact b' (f' (p := ⟨gb560, 1, none⟩) (f' (p := ⟨gb560, 0, none⟩) (b' HO_8.out (fun k_ hk => (⟨hk, hk.2.2.2.2.2⟩ : _ ∧ k_ ≠ gb560))) (fun _ hk => hk.2) (.slice Ao47 t554.length co47)) (fun _ hk => hk.2) (.int .i64 t557)) (fun _ hk => ⟨hk.1.1, ⟨hk.1.2.2.1, ⟨hk.1.2.1, ⟨hk.1.2.2.2.1, ⟨hk.1.2.2.2.2.1, hk.1.2.2.2.2.2⟩⟩⟩⟩⟩)⟩
           have n2_ : Aside0 (Kd.N (Kd.slice 5 (Kd.int .u8)) 25 ((w46.setCell ⟨gb560, 0, none⟩ (.slice Ao47 t554.length co47)).setCell ⟨gb560, 1, none⟩ (.int .i64 t557)) w.heap.size (fun k_ => (P1_ k_ ∨ w.heap.size ≤ k_) ∧ some k_ ≠ (u8 : Value).ownBlock ∧ some k_ ≠ (.slice Ao47 t554.length co47 : Value).ownBlock ∧ k_ ≠ gb551 ∧ k_ ≠ gb552 ∧ k_ ≠ gb560) (.slice Ao42 x553000_1.length co42) x553000_1) := ⟨by (with_reducible repeat (first | apply l' | apply k' | apply g')); exact b' (f' (p := ⟨gb560, 1, none⟩) (f' (p := ⟨gb560, 0, none⟩) (b' HO_553000.out (fun k_ hk => (⟨hk, hk.2.2.2.2.2⟩ : _ ∧ k_ ≠ gb560))) (fun _ hk => hk.2) (.slice Ao47 t554.length co47)) (fun _ hk => hk.2) (.int .i64 t557)) (fun _ hk => ⟨hk.1.1, ⟨hk.1.2.2.1, ⟨hk.1.2.1, ⟨hk.1.2.2.2.1, ⟨hk.1.2.2.2.2.1, hk.1.2.2.2.2.2⟩⟩⟩⟩⟩)⟩
           have n3_ : Aside0 (Kd.V (Kd.int .u8) 5 ((w46.setCell ⟨gb560, 0, none⟩ (.slice Ao47 t554.length co47)).setCell ⟨gb560, 1, none⟩ (.int .i64 t557)) w.heap.size (fun k_ => (P1_ k_ ∨ w.heap.size ≤ k_) ∧ some k_ ≠ (u8 : Value).ownBlock ∧ some k_ ≠ (.slice Ao42 x553000_1.length co42 : Value).ownBlock ∧ some k_ ≠ (.slice Ao47 t554.length co47 : Value).ownBlock ∧ k_ ≠ gb551 ∧ k_ ≠ gb552 ∧ k_ ≠ gb560) (.slice A553_0 (rd_L1 l1 x9_1).length c553_0) (rd_L1 l1 x9_1)) := ⟨by (with_reducible repeat (first | apply Kd.V_alloc | apply Kd.V_drewN | apply Kd.V_drew)); exact c' (Kd.V_far (p := ⟨gb560, 1, none⟩) (Kd.V_far (p := ⟨gb560, 0, none⟩) (c' HL553_0.out (fun k_ hk => (⟨hk, hk.2.2.2.2.2.2⟩ : _ ∧ k_ ≠ gb560))) (fun _ hk => hk.2) (.slice Ao47 t554.length co47)) (fun _ hk => hk.2) (.int .i64 t557)) (fun _ hk => ⟨hk.1.1, ⟨hk.1.2.2.2.1, ⟨hk.1.2.2.1, ⟨hk.1.2.1, ⟨hk.1.2.2.2.2.1, ⟨hk.1.2.2.2.2.2.1, hk.1.2.2.2.2.2.2⟩⟩⟩⟩⟩⟩)⟩
           have n4_ : Aside0 (Kd.N (Kd.slice 5 (Kd.int .u8)) 25 ((w46.setCell ⟨gb560, 0, none⟩ (.slice Ao47 t554.length co47)).setCell ⟨gb560, 1, none⟩ (.int .i64 t557)) w.heap.size (fun k_ => (P1_ k_ ∨ w.heap.size ≤ k_) ∧ some k_ ≠ (u8 : Value).ownBlock ∧ some k_ ≠ (.slice Ao42 x553000_1.length co42 : Value).ownBlock ∧ k_ ≠ gb551 ∧ k_ ≠ gb552 ∧ k_ ≠ gb560) (.slice Ao47 t554.length co47) t554) := ⟨by (with_reducible repeat (first | apply l' | apply k' | apply g')); exact b' (f' (p := ⟨gb560, 1, none⟩) (f' (p := ⟨gb560, 0, none⟩) (b' HO556.out (fun k_ hk => (⟨hk, hk.2.2.2.2.2⟩ : _ ∧ k_ ≠ gb560))) (fun _ hk => hk.2) (.slice Ao47 t554.length co47)) (fun _ hk => hk.2) (.int .i64 t557)) (fun _ hk => ⟨hk.1.1, ⟨hk.1.2.2.1, ⟨hk.1.2.1, ⟨hk.1.2.2.2.1, ⟨hk.1.2.2.2.2.1, hk.1.2.2.2.2.2⟩⟩⟩⟩⟩)⟩
           have n5_ : Aside0 (((w46.setCell ⟨gb560, 0, none⟩ (.slice Ao47 t554.length co47)).setCell ⟨gb560, 1, none⟩ (.int .i64 t557)).heap[gb551]? = some (.cells #[.slice none 0 0, .int .i64 x552001_1] 27 (0, 0))) := ⟨by refine eK ?_; refine blk_far ?_ NB551_560.out _; refine eK ?_; refine blk_far ?_ NB551_560.out _; refine eK ?_; exact BK551.out⟩
           have n6_ : Aside0 (((w46.setCell ⟨gb560, 0, none⟩ (.slice Ao47 t554.length co47)).setCell ⟨gb560, 1, none⟩ (.int .i64 t557)).heap[gb552]? = some (.cells #[.slice Ao42 x553000_1.length co42, .int .i64 x553001_1] 27 (0, 0))) := ⟨by refine eK ?_; refine blk_far ?_ NB552_560.out _; refine eK ?_; refine blk_far ?_ NB552_560.out _; refine eK ?_; exact BK552.out⟩
           have n7_ : Aside0 (((w46.setCell ⟨gb560, 0, none⟩ (.slice Ao47 t554.length co47)).setCell ⟨gb560, 1, none⟩ (.int .i64 t557)).heap[gb560]? = some (.cells #[.slice Ao47 t554.length co47, .int .i64 t557] 27 (0, 0))) := ⟨by refine eK ?_; refine blk_put (cs := #[.slice Ao47 t554.length co47, .int .i64 0]) ?_ 1 _ rfl; refine eK ?_; refine blk_put (cs := #[.slice none 0 0, .int .i64 0]) ?_ 0 _ rfl; refine eK ?_; exact BK560.out⟩
           have n8_ : Aside0 (Below w.heap.size w ((w46.setCell ⟨gb560, 0, none⟩ (.slice Ao47 t554.length co47)).setCell ⟨gb560, 1, none⟩ (.int .i64 t557))) := ⟨eH HB⟩
           (try clear HO_1)
           (try clear HO_8)
           (try clear HO_553000)
           (try clear HL553_0)
           (try clear HO556)
           (try clear BK551)
           (try clear BK552)
           (try clear BK560)
           (try clear HB)
           generalize ((w46.setCell ⟨gb560, 0, none⟩ (.slice Ao47 t554.length co47)).setCell ⟨gb560, 1, none⟩ (.int .i64 t557)) = w50 at n0_ n1_ n2_ n3_ n4_ n5_ n6_ n7_ n8_ ⊢
           have HO_1 := n0_
           have HO_8 := n1_
           have HO_553000 := n2_
           have HL553_0 := n3_
           have HO556 := n4_
           have BK551 := n5_
           have BK552 := n6_
           have BK560 := n7_
           have HB := n8_
           clear n0_ n1_ n2_ n3_ n4_ n5_ n6_ n7_ n8_
           have p561 : 0 ≤ (x9_1 : Int) := oD
           have q561 : x9_1 < (l1.length : Int) := oD
           obtain ⟨ad561, A561_0, c561_0, e561, hx561_0, hl561_0, hi561_0⟩ := at_L1 (Kd.V_reads' HO_1.out).2.2 x9_1 p561 q561
           obtain rfl : ad553 = ad561 := (by injection e561)
           obtain ⟨ce561, hce561, hMe561, hcc561⟩ := Kd.V_get HO_1.out [] x9_1 p561 (by first | exact q561 | exact oD | (have e_ := (Kd.V_reads' HO_1.out).1; omega))
           obtain ⟨ua561_0, uc561_0, rfl, ul561_0, ge561_0⟩ := Kd.FK_slice_open hMe561
           have hv561_0 := hcc561 0 _ rfl
           rw [Nat.add_zero, show ((Kd.slice 5 (Kd.int .u8))).sz = 1 from rfl, Nat.mul_one] at hv561_0
           replace hv561_0 := Option.some.inj (hv561_0.symm.trans hx561_0)
           injection hv561_0 with hva_ hvn_ hvc_
           rw [hva_] at ge561_0
           rw [hvc_] at ul561_0
           have HL561_0 := r' (show Kd.V (Kd.int .u8) 5 _ w.heap.size _ _ (rd_L1 l1 x9_1) from Kd.V_mk ul561_0 ge561_0)
           clear hva_ hvn_ hvc_ ge561_0 ul561_0
           clear hcc561 hce561
           have HR561_0 := r' hi561_0
           have HC561_0 := r' hl561_0
           clear hi561_0 hl561_0
           replace p561 := eq_true p561
           replace q561 := eq_true q561
           try go_wp2_with (first | ((with_reducible refine gate_callee (f := 14) rfl ?_); refine gL 51 Try.func14 #[.int .i64 t559] (h := ?_); (with_reducible refine (fanlightlaw06_num.calls t559 t563 _ A39.out).mono ?_); rintro e w' ⟨rfl, ⟨nd, rfl⟩⟩; refine ⟨_, rfl, ?_⟩; (try (rw [drewN_self w50]; generalize hq_ : World.drewN w50 _ = w50; have n0_ : Aside0 (Kd.V (Kd.int .u8) 5 w50 w.heap.size (fun k_ => (P1_ k_ ∨ w.heap.size ≤ k_) ∧ some k_ ≠ (.slice Ao47 t554.length co47 : Value).ownBlock ∧ some k_ ≠ (.slice Ao42 x553000_1.length co42 : Value).ownBlock ∧ some k_ ≠ (u8 : Value).ownBlock ∧ k_ ≠ gb551 ∧ k_ ≠ gb552 ∧ k_ ≠ gb560) (.slice A553_0 (rd_L1 l1 x9_1).length c553_0) (rd_L1 l1 x9_1)) := ⟨by rw [← hq_]; exact (Kd.kV (c' HL553_0.out (fun _ hk => ⟨hk.1, ⟨hk.2.2.2.1, ⟨hk.2.2.1, ⟨hk.2.1, ⟨hk.2.2.2.2.1, ⟨hk.2.2.2.2.2.1, hk.2.2.2.2.2.2⟩⟩⟩⟩⟩⟩)))⟩; have n1_ : Aside0 (Kd.V (Kd.int .u8) 5 w50 w.heap.size (fun k_ => (P1_ k_ ∨ w.heap.size ≤ k_) ∧ some k_ ≠ (.slice Ao47 t554.length co47 : Value).ownBlock ∧ some k_ ≠ (.slice Ao42 x553000_1.length co42 : Value).ownBlock ∧ some k_ ≠ (u8 : Value).ownBlock ∧ k_ ≠ gb551 ∧ k_ ≠ gb552 ∧ k_ ≠ gb560) (.slice A561_0 (rd_L1 l1 x9_1).length c561_0) (rd_L1 l1 x9_1)) := ⟨by rw [← hq_]; exact (Kd.kV (c' HL561_0.out (fun _ hk => ⟨hk.1, ⟨hk.2.2.2.1, ⟨hk.2.2.1, ⟨hk.2.1, ⟨hk.2.2.2.2.1, ⟨hk.2.2.2.2.2.1, hk.2.2.2.2.2.2⟩⟩⟩⟩⟩⟩)))⟩; have n2_ : Aside0 (Kd.N (Kd.slice 5 (Kd.int .u8)) 25 w50 w.heap.size (fun k_ => (P1_ k_ ∨ w.heap.size ≤ k_) ∧ some k_ ≠ (.slice Ao42 x553000_1.length co42 : Value).ownBlock ∧ some k_ ≠ (u8 : Value).ownBlock ∧ k_ ≠ gb551 ∧ k_ ≠ gb552 ∧ k_ ≠ gb560) (.slice Ao47 t554.length co47) t554) := ⟨by rw [← hq_]; exact (Kd.kN (b' HO556.out (fun _ hk => ⟨hk.1, ⟨hk.2.2.1, ⟨hk.2.1, ⟨hk.2.2.2.1, ⟨hk.2.2.2.2.1, hk.2.2.2.2.2⟩⟩⟩⟩⟩)))⟩; have n3_ : Aside0 (Kd.V (Kd.slice 5 (Kd.int .u8)) 25 w50 w.heap.size (fun k_ => (P1_ k_ ∨ w.heap.size ≤ k_) ∧ some k_ ≠ (.slice Ao47 t554.length co47 : Value).ownBlock ∧ some k_ ≠ (.slice Ao42 x553000_1.length co42 : Value).ownBlock ∧ some k_ ≠ (u8 : Value).ownBlock ∧ k_ ≠ gb551 ∧ k_ ≠ gb552 ∧ k_ ≠ gb560) (.slice (some ad553) l1.length c1) l1) := ⟨by rw [← hq_]; exact (Kd.kV (c' HO_1.out (fun _ hk => ⟨hk.1, ⟨hk.2.2.2.1, ⟨hk.2.2.1, ⟨hk.2.1, ⟨hk.2.2.2.2.1, ⟨hk.2.2.2.2.2.1, hk.2.2.2.2.2.2⟩⟩⟩⟩⟩⟩)))⟩; have n4_ : Aside0 (Kd.N (Kd.slice 5 (Kd.int .u8)) 25 w50 w.heap.size (fun k_ => (P1_ k_ ∨ w.heap.size ≤ k_) ∧ some k_ ≠ (.slice Ao47 t554.length co47 : Value).ownBlock ∧ some k_ ≠ (u8 : Value).ownBlock ∧ k_ ≠ gb551 ∧ k_ ≠ gb552 ∧ k_ ≠ gb560) (.slice Ao42 x553000_1.length co42) x553000_1) := ⟨by rw [← hq_]; exact (Kd.kN (b' HO_553000.out (fun _ hk => ⟨hk.1, ⟨hk.2.2.1, ⟨hk.2.1, ⟨hk.2.2.2.1, ⟨hk.2.2.2.2.1, hk.2.2.2.2.2⟩⟩⟩⟩⟩)))⟩; have n5_ : Aside0 (Kd.N k57 57 w50 w.heap.size (fun k_ => (P1_ k_ ∨ w.heap.size ≤ k_) ∧ some k_ ≠ (.slice Ao47 t554.length co47 : Value).ownBlock ∧ some k_ ≠ (.slice Ao42 x553000_1.length co42 : Value).ownBlock ∧ k_ ≠ gb551 ∧ k_ ≠ gb552 ∧ k_ ≠ gb560) u8 x8_1) := ⟨by rw [← hq_]; exact (Kd.kN (b' HO_8.out (fun _ hk => ⟨hk.1, ⟨hk.2.2.1, ⟨hk.2.1, ⟨hk.2.2.2.1, ⟨hk.2.2.2.2.1, hk.2.2.2.2.2⟩⟩⟩⟩⟩)))⟩; have n6_ : Aside0 (w50.heap[gb551]? = some (.cells #[.slice none 0 0, .int .i64 x552001_1] 27 (0, 0))) := ⟨by rw [← hq_]; exact (eB BK551)⟩; have n7_ : Aside0 (w50.heap[gb552]? = some (.cells #[.slice Ao42 x553000_1.length co42, .int .i64 x553001_1] 27 (0, 0))) := ⟨by rw [← hq_]; exact (eB BK552)⟩; have n8_ : Aside0 (w50.heap[gb560]? = some (.cells #[.slice Ao47 t554.length co47, .int .i64 t557] 27 (0, 0))) := ⟨by rw [← hq_]; exact (eB BK560)⟩; have n9_ : Aside0 (Below w.heap.size w w50) := ⟨by rw [← hq_]; exact (eH HB)⟩; have n10_ : Aside0 (Kd.C (Kd.int .u8) w50 A561_0 (rd_L1 l1 x9_1).length (rd_L1 l1 x9_1)) := ⟨by rw [← hq_]; exact (Kd.cC HR561_0)⟩; clear HL553_0 HL561_0 HO556 HO_1 HO_553000 HO_8 BK551 BK552 BK560 HB HR561_0 hq_; have HL553_0 := n0_; have HL561_0 := n1_; have HO556 := n2_; have HO_1 := n3_; have HO_553000 := n4_; have HO_8 := n5_; have BK551 := n6_; have BK552 := n7_; have BK560 := n8_; have HB := n9_; have HR561_0 := n10_; clear n0_ n1_ n2_ n3_ n4_ n5_ n6_ n7_ n8_ n9_ n10_))))
           have n0_ := r' (Kd.V_drew HO_1.out)
           have n1_ := r' (g' HO_8.out)
           have n2_ := r' (g' HO_553000.out)
           have n3_ := r' (Kd.V_drew HL553_0.out)
           have n4_ := r' (g' HO556.out)
           have n5_ := r' (Kd.V_drew HL561_0.out)
           have n6_ := r' (blk_drew BK551.out)
           have n7_ := r' (blk_drew BK552.out)
           have n8_ := r' (blk_drew BK560.out)
           have n9_ := r' (Kd.C_drew HR561_0.out)
           have n10_ := r' (below_drew1 HB.out)
           clear HO_1
           clear HO_8
           clear HO_553000
           clear HL553_0
           clear HO556
           clear HL561_0
           clear BK551
           clear BK552
           clear BK560
           clear HR561_0
           clear HB
           have HO_1 := n0_
           have HO_8 := n1_
           have HO_553000 := n2_
           have HL553_0 := n3_
           have HO556 := n4_
           have HL561_0 := n5_
           have BK551 := n6_
           have BK552 := n7_
           have BK560 := n8_
           have HR561_0 := n9_
           have HB := n10_
           clear n0_ n1_ n2_ n3_ n4_ n5_ n6_ n7_ n8_ n9_ n10_
           have p564 : 0 ≤ (x9_1 : Int) := oD
           have q564 : x9_1 < (l1.length : Int) := oD
           obtain ⟨ad564, A564_0, c564_0, e564, hx564_0, hl564_0, hi564_0⟩ := at_L1 (Kd.V_reads' HO_1.out).2.2 x9_1 p564 q564
           obtain rfl : ad553 = ad564 := (by injection e564)
           obtain ⟨ce564, hce564, hMe564, hcc564⟩ := Kd.V_get HO_1.out [] x9_1 p564 (by first | exact q564 | exact oD | (have e_ := (Kd.V_reads' HO_1.out).1; omega))
           obtain ⟨ua564_0, uc564_0, rfl, ul564_0, ge564_0⟩ := Kd.FK_slice_open hMe564
           have hv564_0 := hcc564 0 _ rfl
           rw [Nat.add_zero, show ((Kd.slice 5 (Kd.int .u8))).sz = 1 from rfl, Nat.mul_one] at hv564_0
           replace hv564_0 := Option.some.inj (hv564_0.symm.trans hx564_0)
           injection hv564_0 with hva_ hvn_ hvc_
           rw [hva_] at ge564_0
           rw [hvc_] at ul564_0
           have HL564_0 := r' (show Kd.V (Kd.int .u8) 5 _ w.heap.size _ _ (rd_L1 l1 x9_1) from Kd.V_mk ul564_0 ge564_0)
           clear hva_ hvn_ hvc_ ge564_0 ul564_0
           clear hcc564 hce564
           have HR564_0 := r' hi564_0
           have HC564_0 := r' hl564_0
           clear hi564_0 hl564_0
           replace p564 := eq_true p564
           replace q564 := eq_true q564
           refine start_ (n := 11) (S := fun w' => w'.cell? ⟨gb552, 0, none⟩ = some (.slice Ao42 x553000_1.length co42) ∧ w'.cell? ⟨gb552, 1, none⟩ = some (.int .i64 x553001_1) ∧ w'.cell? (ad553.add (x9_1).toNat) = some (.slice A564_0 (rd_L1 l1 x9_1).length c564_0)) (ds := [8, 9]) #[Z,Z,Z,Z,Z,Z,Z,Z,Z,Z,Z] (by kernel_rfl) rfl rfl ⟨(e' BK552.out 0).trans rfl, (e' BK552.out 1).trans rfl, hx564_0⟩ (fun hHeld => ?_); refine with_tabW fanlightlaw06_filled.tab12 fanlightlaw06_filled.bits12 (fun HT_ HW_ => ?_)
           generalize w50.drew = w51 at HO_1 HO_8 HO_553000 HL553_0 HO556 HL561_0 BK551 BK552 BK560 HR561_0 HB HL564_0 HR564_0 hx564_0 hHeld ⊢
           refine pP 0 55 #[Y,Z,Z,Z,Z,Z,Z,Z,Z,Z,Z] HT_ (h := ?_)
           refine pP 1 56 #[Y,Y,Z,Z,Z,Z,Z,Z,Z,Z,Z] HT_ (h := ?_)
           refine pP 3 58 #[Y,Y,Z,Y,Z,Z,Z,Z,Z,Z,Z] HT_ (h := ?_)
           refine pP 4 59 #[Y,Y,Z,Y,Y,Z,Z,Z,Z,Z,Z] HT_ (h := ?_)
           refine pP 5 60 #[Y,Y,Z,Y,Y,Y,Z,Z,Z,Z,Z] HT_ (h := ?_)
           refine tP 2 57 #[Y,Y,Y,Y,Y,Y,Z,Z,Z,Z,Z] HT_ HW_ hHeld (hy := by refine Or.inl ⟨by rfl, ?_⟩; rintro w' ⟨s0, s1, s2⟩; go_simp; with_reducible rfl) (h := ?_)
           refine tP 6 61 #[Y,Y,Y,Y,Y,Y,Y,Z,Z,Z,Z] HT_ HW_ hHeld (hy := by refine Or.inl ⟨by rfl, ?_⟩; rintro w' ⟨s0, s1, s2⟩; go_simp; with_reducible rfl) (h := ?_)
           refine pP 7 62 #[Y,Y,Y,Y,Y,Y,Y,Y,Z,Z,Z] HT_ (h := ?_)
           refine last_ (i := 8) (N := some 63) #[Y,Y,Y,Y,Y,Y,Y,Y,Y,Z,Z] rfl rfl (one_of HT_.out (by kernel_rfl)) (by decide) (fun K hK => ?_)
           refine value_ (w1 := ?_) (v := ?_) (by rfl) rfl ?_ ?_
           rotate_left 2
           ·
            go_simp
            constructor
            ·
             rfl
            ·
             rfl
           refine hK.out _ _ ?_
           clear hK K
           refine norm_ (a' := ?_) ?_ ?_
           rotate_left
           ·
            show Act.put _ (some 63) _ = _
            exact uP
           refine last_ (i := 9) (N := some 64) #[Y,Y,Y,Y,Y,Y,Y,Y,Y,Y,Z] rfl rfl (one_of HT_.out (by kernel_rfl)) (by decide) (fun K hK => ?_)
           refine Kd.N_append_step k57 (w0 := w) w.heap.size (by rfl) (.tmp 55) (.tmp 63) 42 57 (.agg #[(.int .i64 0), (.slice none 0 0)]) 32 rfl Try.underlying42 info57 rfl (by decide) (by omega) u8 x8_1 (⟨x553001_1, rd_L1 l1 x9_1⟩ : S57) [.int .i64 x553001_1, .slice A564_0 (rd_L1 l1 x9_1).length c564_0] (fun k_ => (P1_ k_ ∨ w.heap.size ≤ k_) ∧ some k_ ≠ (.slice Ao42 x553000_1.length co42 : Value).ownBlock ∧ some k_ ≠ (.slice Ao47 t554.length co47 : Value).ownBlock ∧ k_ ≠ gb551 ∧ k_ ≠ gb552 ∧ k_ ≠ gb560) (fun k_ => ((fun k_ => (P1_ k_ ∨ w.heap.size ≤ k_) ∧ some k_ ≠ (.slice Ao42 x553000_1.length co42 : Value).ownBlock ∧ some k_ ≠ (.slice Ao47 t554.length co47 : Value).ownBlock ∧ k_ ≠ gb551 ∧ k_ ≠ gb552 ∧ k_ ≠ gb560)) k_ ∧ some k_ ≠ (u8 : Value).ownBlock) rfl rfl ?aP (fun _ hk => hk) ?aF ?aO ?aB ?aS ?aL ?_
           (case aP => exact (k57_mkF _ _ (⟨x553001_1, rd_L1 l1 x9_1⟩ : S57) (Kd.V_reads' (c' (ok' := (fun k_ => ((fun k_ => (P1_ k_ ∨ w.heap.size ≤ k_) ∧ some k_ ≠ (.slice Ao42 x553000_1.length co42 : Value).ownBlock ∧ some k_ ≠ (.slice Ao47 t554.length co47 : Value).ownBlock ∧ k_ ≠ gb551 ∧ k_ ≠ gb552 ∧ k_ ≠ gb560)) k_ ∧ some k_ ≠ (u8 : Value).ownBlock)) (HL564_0.out) (fun k_ hk => ⟨⟨hk.1, ⟨hk.2.2.1, ⟨hk.2.1, ⟨hk.2.2.2.2.1, ⟨hk.2.2.2.2.2.1, hk.2.2.2.2.2.2⟩⟩⟩⟩⟩, hk.2.2.2.1⟩))).2.1 (Kd.V_F (c' (ok' := (fun k_ => ((fun k_ => (P1_ k_ ∨ w.heap.size ≤ k_) ∧ some k_ ≠ (.slice Ao42 x553000_1.length co42 : Value).ownBlock ∧ some k_ ≠ (.slice Ao47 t554.length co47 : Value).ownBlock ∧ k_ ≠ gb551 ∧ k_ ≠ gb552 ∧ k_ ≠ gb560)) k_ ∧ some k_ ≠ (u8 : Value).ownBlock)) (HL564_0.out) (fun k_ hk => ⟨⟨hk.1, ⟨hk.2.2.1, ⟨hk.2.1, ⟨hk.2.2.2.2.1, ⟨hk.2.2.2.2.2.1, hk.2.2.2.2.2.2⟩⟩⟩⟩⟩, hk.2.2.2.1⟩)))))
           (case aB => exact (eH HB))
           (case aF => exact (fun k_ hk => ⟨(.inr (Nat.le_trans (d' (eH HB)) hk)), Kd.fresh' (Kd.N_lt (Kd.eN HO_553000)) k_ hk, Kd.fresh' (Kd.N_lt (Kd.eN HO556)) k_ hk, m' (g := gb551) (o := .cells #[.slice none 0 0, .int .i64 x552001_1] 27 (0, 0)) (eB BK551) k_ hk, m' (g := gb552) (o := .cells #[.slice Ao42 x553000_1.length co42, .int .i64 x553001_1] 27 (0, 0)) (eB BK552) k_ hk, m' (g := gb560) (o := .cells #[.slice Ao47 t554.length co47, .int .i64 t557] 27 (0, 0)) (eB BK560) k_ hk⟩))
           (case aO => exact (Kd.kN (b' HO_8.out (fun _ hk => ⟨hk.1, ⟨hk.2.2.1, ⟨hk.2.1, ⟨hk.2.2.2.1, ⟨hk.2.2.2.2.1, hk.2.2.2.2.2⟩⟩⟩⟩⟩))))
           (case aS => exact (d' (eH HB)))
           (case aL => have := LMc41.out; omega)
           intro v566 w52 ho hb hg hat
           rw [← Ny565.out] at ho
           have n0_ := r' (Kd.V_afterv (ok := (fun k_ => (P1_ k_ ∨ w.heap.size ≤ k_) ∧ some k_ ≠ (.slice Ao42 x553000_1.length co42 : Value).ownBlock ∧ some k_ ≠ (.slice Ao47 t554.length co47 : Value).ownBlock ∧ k_ ≠ gb551 ∧ k_ ≠ gb552 ∧ k_ ≠ gb560)) (Kd.kV (c' HO_1.out (fun _ hk => ⟨⟨hk.1, ⟨hk.2.2.1, ⟨hk.2.1, ⟨hk.2.2.2.2.1, ⟨hk.2.2.2.2.2.1, hk.2.2.2.2.2.2⟩⟩⟩⟩⟩, hk.2.2.2.1⟩))) hg hat)
           have n1_ := r' (Kd.N_afterv (ok := (fun k_ => (P1_ k_ ∨ w.heap.size ≤ k_) ∧ some k_ ≠ (.slice Ao47 t554.length co47 : Value).ownBlock ∧ k_ ≠ gb551 ∧ k_ ≠ gb552 ∧ k_ ≠ gb560)) (Kd.kN (b' HO_553000.out (fun _ hk => ⟨⟨hk.1, ⟨hk.2.1, ⟨hk.2.2.2.1, ⟨hk.2.2.2.2.1, hk.2.2.2.2.2⟩⟩⟩⟩, hk.2.2.1⟩))) hg hat)
           have n2_ := r' (blk_grown (g := gb551) (o := .cells #[.slice none 0 0, .int .i64 x552001_1] 27 (0, 0)) (eB BK551) hg (Kd.N_ne HO_8.out BK551.out (by decide)))
           have n3_ := r' (blk_grown (g := gb552) (o := .cells #[.slice Ao42 x553000_1.length co42, .int .i64 x553001_1] 27 (0, 0)) (eB BK552) hg (Kd.N_ne HO_8.out BK552.out (by decide)))
           have n4_ := r' (Kd.V_afterv (ok := (fun k_ => (P1_ k_ ∨ w.heap.size ≤ k_) ∧ some k_ ≠ (.slice Ao42 x553000_1.length co42 : Value).ownBlock ∧ some k_ ≠ (.slice Ao47 t554.length co47 : Value).ownBlock ∧ k_ ≠ gb551 ∧ k_ ≠ gb552 ∧ k_ ≠ gb560)) (Kd.kV (c' HL553_0.out (fun _ hk => ⟨⟨hk.1, ⟨hk.2.2.1, ⟨hk.2.1, ⟨hk.2.2.2.2.1, ⟨hk.2.2.2.2.2.1, hk.2.2.2.2.2.2⟩⟩⟩⟩⟩, hk.2.2.2.1⟩))) hg hat)
           have n5_ := r' (Kd.N_afterv (ok := (fun k_ => (P1_ k_ ∨ w.heap.size ≤ k_) ∧ some k_ ≠ (.slice Ao42 x553000_1.length co42 : Value).ownBlock ∧ k_ ≠ gb551 ∧ k_ ≠ gb552 ∧ k_ ≠ gb560)) (Kd.kN (b' HO556.out (fun _ hk => ⟨⟨hk.1, ⟨hk.2.1, ⟨hk.2.2.2.1, ⟨hk.2.2.2.2.1, hk.2.2.2.2.2⟩⟩⟩⟩, hk.2.2.1⟩))) hg hat)
           have n6_ := r' (blk_grown (g := gb560) (o := .cells #[.slice Ao47 t554.length co47, .int .i64 t557] 27 (0, 0)) (eB BK560) hg (Kd.N_ne HO_8.out BK560.out (by decide)))
           have n7_ := r' (Kd.V_afterv (ok := (fun k_ => (P1_ k_ ∨ w.heap.size ≤ k_) ∧ some k_ ≠ (.slice Ao42 x553000_1.length co42 : Value).ownBlock ∧ some k_ ≠ (.slice Ao47 t554.length co47 : Value).ownBlock ∧ k_ ≠ gb551 ∧ k_ ≠ gb552 ∧ k_ ≠ gb560)) (Kd.kV (c' HL561_0.out (fun _ hk => ⟨⟨hk.1, ⟨hk.2.2.1, ⟨hk.2.1, ⟨hk.2.2.2.2.1, ⟨hk.2.2.2.2.2.1, hk.2.2.2.2.2.2⟩⟩⟩⟩⟩, hk.2.2.2.1⟩))) hg hat)
           have n8_ := r' (Kd.V_afterv (ok := (fun k_ => (P1_ k_ ∨ w.heap.size ≤ k_) ∧ some k_ ≠ (.slice Ao42 x553000_1.length co42 : Value).ownBlock ∧ some k_ ≠ (.slice Ao47 t554.length co47 : Value).ownBlock ∧ k_ ≠ gb551 ∧ k_ ≠ gb552 ∧ k_ ≠ gb560)) (Kd.kV (c' HL564_0.out (fun _ hk => ⟨⟨hk.1, ⟨hk.2.2.1, ⟨hk.2.1, ⟨hk.2.2.2.2.1, ⟨hk.2.2.2.2.2.1, hk.2.2.2.2.2.2⟩⟩⟩⟩⟩, hk.2.2.2.1⟩))) hg hat)
           have n9_ := r' (hb)
           have n10_ := r' (ho)
           clear HO_1
           clear HO_553000
           clear BK551
           clear BK552
           clear HL553_0
           clear HO556
           clear BK560
           clear HL561_0
           clear HL564_0
           clear HB
           clear HO_8
           have HO_1 := n0_
           have HO_553000 := n1_
           have BK551 := n2_
           have BK552 := n3_
           have HL553_0 := n4_
           have HO556 := n5_
           have BK560 := n6_
           have HL561_0 := n7_
           have HL564_0 := n8_
           have HB := n9_
           have HO567 := n10_
           clear n0_ n1_ n2_ n3_ n4_ n5_ n6_ n7_ n8_ n9_ n10_
           clear ho hb hg hat
           refine hK.out _ _ ?_
           clear hK K
           refine norm_ (a' := ?_) ?_ ?_
           rotate_left
           ·
            show Act.put _ (some 64) _ = _
            exact uP
           refine pP 10 8 #[Y,Y,Y,Y,Y,Y,Y,Y,Y,Y,Y] HT_ (h := ?_)
           refine done_ (done_of HT_.out (by kernel_rfl)) ?_
           have hnb53 := NB560_551.out
           have hnc53 := NB551_560.out
           have hnb54 := NB560_552.out
           have hnc54 := NB552_560.out
           have hcz55_0 := bC BK560 0 (.slice Ao47 t554.length co47)
           have hcz55_1 := bC BK560 1 (.int .i64 t557)
           have hfz55_0 := j' BK560.out 0
           have hfz55_1 := j' BK560.out 1
           have hnb56 := NB552_551.out
           have hnc56 := NB551_552.out
           have hcz57_0 := bC BK552 0 (.slice Ao42 x553000_1.length co42)
           have hcz57_1 := bC BK552 1 (.int .i64 x553001_1)
           have hfz57_0 := j' BK552.out 0
           have hfz57_1 := j' BK552.out 1
           try go_wp2
           go_roundg kj6
           case measure => have := HK1.out; have := HJ6.out; omega
           case rel => exact ⟨(y565), (wrap64 (x9_1 + 1)), (x552001_1), (t554), (t557), (.slice Ao47 t554.length co47), rS, H', ⟨by have := HK1.out; have := HJ6.out; omega⟩, ⟨by (with_reducible repeat (first | apply Kd.V_alloc | apply Kd.V_drewN | apply Kd.V_drew)); exact c' (Kd.V_far (p := ⟨gb552, 1, none⟩) (Kd.V_far (p := ⟨gb552, 0, none⟩) (c' HO_1.out (fun k_ hk => (⟨hk, hk.1.2.2.2.2.1⟩ : _ ∧ k_ ≠ gb552))) (fun _ hk => hk.2) (.slice Ao47 t554.length co47)) (fun _ hk => hk.2) (.int .i64 t557)) (fun _ hk => ⟨hk.1.1.1, ⟨hk.1.2, ⟨hk.1.1.2.2.1, ⟨hk.1.1.2.2.2.1, hk.1.1.2.2.2.2.1⟩⟩⟩⟩)⟩, ⟨by (with_reducible repeat (first | apply l' | apply k' | apply g')); exact b' (f' (p := ⟨gb552, 1, none⟩) (f' (p := ⟨gb552, 0, none⟩) (b' HO567.out (fun k_ hk => (⟨hk, hk.2.2.2.2.1⟩ : _ ∧ k_ ≠ gb552))) (fun _ hk => hk.2) (.slice Ao47 t554.length co47)) (fun _ hk => hk.2) (.int .i64 t557)) (fun _ hk => ⟨hk.1.1, ⟨hk.1.2.2.1, ⟨hk.1.2.2.2.1, hk.1.2.2.2.2.1⟩⟩⟩)⟩, ⟨by (with_reducible repeat (first | apply l' | apply k' | apply g')); exact b' (f' (p := ⟨gb552, 1, none⟩) (f' (p := ⟨gb552, 0, none⟩) (b' HO556.out (fun k_ hk => (⟨hk, hk.1.2.2.2.1⟩ : _ ∧ k_ ≠ gb552))) (fun _ hk => hk.2) (.slice Ao47 t554.length co47)) (fun _ hk => hk.2) (.int .i64 t557)) (fun _ hk => ⟨hk.1.1.1, ⟨hk.1.2, ⟨hk.1.1.2.2.1, hk.1.1.2.2.2.1⟩⟩⟩)⟩, ⟨by refine eK ?_; refine blk_far ?_ NB551_552.out _; refine eK ?_; refine blk_far ?_ NB551_552.out _; refine eK ?_; exact BK551.out⟩, ⟨by refine eK ?_; refine blk_put (cs := #[.slice Ao47 t554.length co47, .int .i64 x553001_1]) ?_ 1 _ rfl; refine eK ?_; refine blk_put (cs := #[.slice Ao42 x553000_1.length co42, .int .i64 x553001_1]) ?_ 0 _ rfl; refine eK ?_; exact BK552.out⟩, ⟨eH HB⟩⟩
          ·
           rw [if_neg c41] at H
           exact absurd H (by simp)
         ·
          rw [if_neg c40] at H
          have c40b0 := beq_eq_false_iff_ne.mpr c40
          have c40b1 := bne_iff_ne.mpr c40
          simp only [Option.some.injEq, Prod.mk.injEq] at H
          obtain ⟨rfl, rfl, rfl, rfl⟩ := H
          obtain ⟨Ao58, co58, eo58⟩ := Kd.N_slice HO_553000.out
          subst eo58
          try go_wp2
          have n0_ := r' (Kd.V_drew HO_1.out)
          have n1_ := r' (g' HO_8.out)
          have n2_ := r' (g' HO_553000.out)
          have n3_ := r' (blk_drew BK551.out)
          have n4_ := r' (blk_drew BK552.out)
          have n5_ := r' (below_drew1 HB.out)
          clear HO_1
          clear HO_8
          clear HO_553000
          clear BK551
          clear BK552
          clear HB
          have HO_1 := n0_
          have HO_8 := n1_
          have HO_553000 := n2_
          have BK551 := n3_
          have BK552 := n4_
          have HB := n5_
          clear n0_ n1_ n2_ n3_ n4_ n5_
          have p553 : 0 ≤ (x9_1 : Int) := oD
          have q553 : x9_1 < (l1.length : Int) := oD
          obtain ⟨ad553, A553_0, c553_0, e553, hx553_0, hl553_0, hi553_0⟩ := at_L1 (Kd.V_reads' HO_1.out).2.2 x9_1 p553 q553
          cases e553
          obtain ⟨ce553, hce553, hMe553, hcc553⟩ := Kd.V_get HO_1.out [] x9_1 p553 (by first | exact q553 | exact oD | (have e_ := (Kd.V_reads' HO_1.out).1; omega))
          obtain ⟨ua553_0, uc553_0, rfl, ul553_0, ge553_0⟩ := Kd.FK_slice_open hMe553
          have hv553_0 := hcc553 0 _ rfl
          rw [Nat.add_zero, show ((Kd.slice 5 (Kd.int .u8))).sz = 1 from rfl, Nat.mul_one] at hv553_0
          replace hv553_0 := Option.some.inj (hv553_0.symm.trans hx553_0)
          injection hv553_0 with hva_ hvn_ hvc_
          rw [hva_] at ge553_0
          rw [hvc_] at ul553_0
          have HL553_0 := r' (show Kd.V (Kd.int .u8) 5 _ w.heap.size _ _ (rd_L1 l1 x9_1) from Kd.V_mk ul553_0 ge553_0)
          clear hva_ hvn_ hvc_ ge553_0 ul553_0
          clear hcc553 hce553
          have HR553_0 := r' hi553_0
          have HC553_0 := r' hl553_0
          clear hi553_0 hl553_0
          replace p553 := eq_true p553
          replace q553 := eq_true q553
          refine start_ (n := 14) (S := fun w' => w'.cell? ⟨gb552, 0, none⟩ = some (.slice Ao58 x553000_1.length co58) ∧ w'.cell? ⟨gb552, 1, none⟩ = some (.int .i64 x553001_1) ∧ w'.cell? (ad553.add (x9_1).toNat) = some (.slice A553_0 (rd_L1 l1 x9_1).length c553_0)) (ds := []) #[Z,Z,Z,Z,Z,Z,Z,Z,Z,Z,Z,Z,Z,Z] (by kernel_rfl) rfl rfl ⟨(e' BK552.out 0).trans rfl, (e' BK552.out 1).trans rfl, hx553_0⟩ (fun hHeld => ?_); refine with_tabW fanlightlaw06_filled.tab6 fanlightlaw06_filled.bits6 (fun HT_ HW_ => ?_)
          generalize wc.drew = w59 at HO_1 HO_8 HO_553000 BK551 BK552 HB HL553_0 HR553_0 hx553_0 hHeld ⊢
          refine pP 1 31 #[Z,Y,Z,Z,Z,Z,Z,Z,Z,Z,Z,Z,Z,Z] HT_ (h := ?_)
          refine pP 2 32 #[Z,Y,Y,Z,Z,Z,Z,Z,Z,Z,Z,Z,Z,Z] HT_ (h := ?_)
          refine pP 3 33 #[Z,Y,Y,Y,Z,Z,Z,Z,Z,Z,Z,Z,Z,Z] HT_ (h := ?_)
          refine tP 0 30 #[Y,Y,Y,Y,Z,Z,Z,Z,Z,Z,Z,Z,Z,Z] HT_ HW_ hHeld (hy := by refine Or.inl ⟨by rfl, ?_⟩; rintro w' ⟨s0, s1, s2⟩; go_simp; with_reducible rfl) (h := ?_)
          refine tP 4 34 #[Y,Y,Y,Y,Y,Z,Z,Z,Z,Z,Z,Z,Z,Z] HT_ HW_ hHeld (hy := by refine Or.inl ⟨by rfl, ?_⟩; rintro w' ⟨s0, s1, s2⟩; go_simp; with_reducible rfl) (h := ?_)
          refine join_ (σ := Value × Nat) 3 #[Y,Y,Y,Y,Y,Y,Y,Y,Y,Y,Y,Z,Z,Z] (fun s_ => [(35, .tuple #[.agg #[s_.1, .int .i64 t557], .int .i64 t558, .int .i64 t559]), (10, .pointer (some ⟨s_.2, 0, none⟩)), (29, .tuple #[.agg #[s_.1, .int .i64 t557], .int .i64 t558, .int .i64 t559]), (36, .agg #[s_.1, .int .i64 t557]), (37, .int .i64 t558), (38, .int .i64 t559)]) (fun s_ w' => (w'.cell? ⟨gb552, 0, none⟩ = some (.slice Ao58 x553000_1.length co58) ∧ w'.cell? ⟨gb552, 1, none⟩ = some (.int .i64 x553001_1) ∧ w'.cell? (ad553.add (x9_1).toNat) = some (.slice A553_0 (rd_L1 l1 x9_1).length c553_0)) ∧ (Kd.V (Kd.int .u8) 5 w' w.heap.size (fun k_ => (P1_ k_ ∨ w.heap.size ≤ k_) ∧ some k_ ≠ (s_.1 : Value).ownBlock ∧ some k_ ≠ (.slice Ao58 x553000_1.length co58 : Value).ownBlock ∧ some k_ ≠ (u8 : Value).ownBlock ∧ k_ ≠ gb551 ∧ k_ ≠ gb552 ∧ k_ ≠ s_.2) (.slice A553_0 (rd_L1 l1 x9_1).length c553_0) (rd_L1 l1 x9_1)) ∧ (Kd.N (Kd.slice 5 (Kd.int .u8)) 25 w' w.heap.size (fun k_ => (P1_ k_ ∨ w.heap.size ≤ k_) ∧ some k_ ≠ (.slice Ao58 x553000_1.length co58 : Value).ownBlock ∧ some k_ ≠ (u8 : Value).ownBlock ∧ k_ ≠ gb551 ∧ k_ ≠ gb552 ∧ k_ ≠ s_.2) s_.1 t554) ∧ (Kd.V (Kd.slice 5 (Kd.int .u8)) 25 w' w.heap.size (fun k_ => (P1_ k_ ∨ w.heap.size ≤ k_) ∧ some k_ ≠ (s_.1 : Value).ownBlock ∧ some k_ ≠ (.slice Ao58 x553000_1.length co58 : Value).ownBlock ∧ some k_ ≠ (u8 : Value).ownBlock ∧ k_ ≠ gb551 ∧ k_ ≠ gb552 ∧ k_ ≠ s_.2) (.slice (some ad553) l1.length c1) l1) ∧ (Kd.N (Kd.slice 5 (Kd.int .u8)) 25 w' w.heap.size (fun k_ => (P1_ k_ ∨ w.heap.size ≤ k_) ∧ some k_ ≠ (s_.1 : Value).ownBlock ∧ some k_ ≠ (u8 : Value).ownBlock ∧ k_ ≠ gb551 ∧ k_ ≠ gb552 ∧ k_ ≠ s_.2) (.slice Ao58 x553000_1.length co58) x553000_1) ∧ (Kd.N k57 57 w' w.heap.size (fun k_ => (P1_ k_ ∨ w.heap.size ≤ k_) ∧ some k_ ≠ (s_.1 : Value).ownBlock ∧ some k_ ≠ (.slice Ao58 x553000_1.length co58 : Value).ownBlock ∧ k_ ≠ gb551 ∧ k_ ≠ gb552 ∧ k_ ≠ s_.2) u8 x8_1) ∧ (w'.heap[gb551]? = some (.cells #[.slice none 0 0, .int .i64 x552001_1] 27 (0, 0))) ∧ (w'.heap[gb552]? = some (.cells #[.slice Ao58 x553000_1.length co58, .int .i64 x553001_1] 27 (0, 0))) ∧ (w'.heap[s_.2]? = some (.cells #[.slice none 0 0, .int .i64 0] 27 (0, 0))) ∧ (w.heap.size ≤ s_.2) ∧ (w.heap.size ≤ s_.2) ∧ (gb551 ≠ s_.2) ∧ (s_.2 ≠ gb551) ∧ (gb552 ≠ s_.2) ∧ (s_.2 ≠ gb552) ∧ (Below w.heap.size w w')) ?_ ?_
          rotate_left
          ·
           intro hCont
           refine two_ (i := 5) (j := 10) (Ni := some 35) (Nj := some 10) #[Y,Y,Y,Y,Y,Y,Z,Z,Z,Z,Z,Z,Z,Z] #[Y,Y,Y,Y,Y,Z,Z,Z,Z,Z,Y,Z,Z,Z] rfl rfl rfl rfl (two_of HT_.out (by kernel_rfl)) (by decide) (by decide) (fun K hK => ?_) (fun K hK => ?_)
           ·
            skip
            refine goes_ Try.func11 (by kernel_rfl) rfl #[.agg #[.slice Ao58 x553000_1.length co58, .int .i64 x553001_1], .slice A553_0 (rd_L1 l1 x9_1).length c553_0] (by rfl) rfl rfl (by (try simp only [List.map_toArray, List.map_cons, List.map_nil]); first | done | rfl | (simp only [List.length_drop, List.length_take]; rfl)) ?_
            with_reducible refine (wal_Append.calls kj6 _ _ x553000_1 x553001_1 _ _ (rd_L1 l1 x9_1) t554 t557 t558 t559 _ ?side1 ?side2 ?side3 ?side4 A12.out).mono ?_
            (case side1 => exact Kd.kC (Kd.N_reads' HO_553000.out).2.2)
            (case side2 => exact (Kd.N_reads' HO_553000.out).2.1)
            (case side3 => exact Kd.cC HR553_0)
            (case side4 => exact HC553_0.out)
            rintro e w60 ⟨v555, rfl, ho0, hb⟩
            have HS2_ := (hb.cell (World.block_lt_of_cell? _ _ (hHeld.2.2))).trans (hHeld.2.2)
            refine ⟨_, rfl, ?_⟩
            have n0_ := r' (Kd.V_elder' (Kd.eV HO_1) (h' ho0) hb)
            have n1_ := r' (Kd.N_elder' (Kd.eN HO_8) (h' ho0) hb)
            have n2_ := r' (Kd.N_elder' (Kd.eN HO_553000) (h' ho0) hb)
            have n3_ := r' (Kd.V_elder' (Kd.eV HL553_0) (h' ho0) hb)
            have n4_ := r' (Kd.N_lower (b' (ok' := fun k_ => (P1_ k_ ∨ w.heap.size ≤ k_) ∧ some k_ ≠ (u8 : Value).ownBlock ∧ some k_ ≠ (.slice Ao58 x553000_1.length co58 : Value).ownBlock ∧ k_ ≠ gb551 ∧ k_ ≠ gb552) (Kd.S_N (Kd.S_bound ho0)) (fun k_ hk_ => ⟨(.inr (Nat.le_trans (d' (eH HB)) hk_.2.1)), (Kd.fresh' (Kd.N_lt (Kd.eN HO_8)) k_ hk_.2.1), (Kd.fresh' (Kd.N_lt (Kd.eN HO_553000)) k_ hk_.2.1), (m' (g := gb551) (o := .cells #[.slice none 0 0, .int .i64 x552001_1] 27 (0, 0)) (eB BK551) k_ hk_.2.1), (m' (g := gb552) (o := .cells #[.slice Ao58 x553000_1.length co58, .int .i64 x553001_1] 27 (0, 0)) (eB BK552) k_ hk_.2.1)⟩)) (d' (eH HB)))
            have n5_ := bB BK551 hb
            have n6_ := bB BK552 hb
            have n7_ := r' (Kd.C_below (Kd.cC HR553_0) hb)
            have n8_ := r' (below_step (eH HB) hb)
            clear HO_1
            clear HO_8
            clear HO_553000
            clear HL553_0
            clear BK551
            clear BK552
            clear HR553_0
            clear HB
            have HO_1 := n0_
            have HO_8 := n1_
            have HO_553000 := n2_
            have HL553_0 := n3_
            have HO556 := n4_
            have BK551 := n5_
            have BK552 := n6_
            have HR553_0 := n7_
            have HB := n8_
            clear n0_ n1_ n2_ n3_ n4_ n5_ n6_ n7_ n8_
            (try clear hb)
            (try clear hb2)
            (try clear hk)
            (try clear hi)
            (try clear ho0)
            refine hK.out _ _ ⟨(e' BK552.out 0).trans rfl, (e' BK552.out 1).trans rfl, HS2_⟩ (fun hHeld => ?_)
            clear hK K
            refine norm_ (a' := ?_) ?_ ?_
            rotate_left
            ·
             show Act.put _ (some 35) _ = _
             exact uP
            refine pP 6 29 #[Y,Y,Y,Y,Y,Y,Y,Z,Z,Z,Z,Z,Z,Z] HT_ (h := ?_)
            refine pP 7 36 #[Y,Y,Y,Y,Y,Y,Y,Y,Z,Z,Z,Z,Z,Z] HT_ (h := ?_)
            refine pP 8 37 #[Y,Y,Y,Y,Y,Y,Y,Y,Y,Z,Z,Z,Z,Z] HT_ (h := ?_)
            refine pP 9 38 #[Y,Y,Y,Y,Y,Y,Y,Y,Y,Y,Z,Z,Z,Z] HT_ (h := ?_)
            refine one_ (i := 10) (N := some 10) #[Y,Y,Y,Y,Y,Y,Y,Y,Y,Y,Y,Z,Z,Z] rfl rfl (one_of HT_.out (by kernel_rfl)) (by decide) (fun K hK => ?_)
            refine box_step ?hg (N := 10) ?hd (cs := #[.slice none 0 0, .int .i64 0]) (t := 27) ?hr ?_; (case hd => rfl); (case hg => rfl); (case hr => go_simp <;> rfl)
            intro gb560 hg w61 hbox hb
            have HS2_ := (hb.cell (World.block_lt_of_cell? _ _ (hHeld.2.2))).trans (hHeld.2.2)
            have n0_ := r' (Kd.V_below (Kd.V_elderB (Kd.eV HO_1) gb560 (Nat.le_of_eq hg.symm)) hb)
            have n1_ := r' (n' (Kd.N_elderB (Kd.eN HO_8) gb560 (Nat.le_of_eq hg.symm)) hb)
            have n2_ := r' (n' (Kd.N_elderB (Kd.eN HO_553000) gb560 (Nat.le_of_eq hg.symm)) hb)
            have n3_ := r' (Kd.V_below (Kd.V_elderB (Kd.eV HL553_0) gb560 (Nat.le_of_eq hg.symm)) hb)
            have n4_ := r' (n' (Kd.N_elderB (Kd.eN HO556) gb560 (Nat.le_of_eq hg.symm)) hb)
            have n5_ := bB BK551 hb
            have n6_ := bB BK552 hb
            have n7_ := r' (Kd.C_below (Kd.cC HR553_0) hb)
            have n8_ := r' (below_step (eH HB) hb)
            have n9_ := r' (hbox)
            have n10_ := r' ((by rw [hg]; exact (d' (eH HB)) : w.heap.size ≤ gb560))
            have n11_ := r' ((by rw [hg]; exact (d' (eH HB)) : w.heap.size ≤ gb560))
            have n12_ := nL hg BK551
            have n13_ := nG hg BK551
            have n14_ := nL hg BK552
            have n15_ := nG hg BK552
            clear HO_1
            clear HO_8
            clear HO_553000
            clear HL553_0
            clear HO556
            clear BK551
            clear BK552
            clear HR553_0
            clear HB
            have HO_1 := n0_
            have HO_8 := n1_
            have HO_553000 := n2_
            have HL553_0 := n3_
            have HO556 := n4_
            have BK551 := n5_
            have BK552 := n6_
            have HR553_0 := n7_
            have HB := n8_
            have BK560 := n9_
            have GW560 := n10_
            have GE560 := n11_
            have NB551_560 := n12_
            have NB560_551 := n13_
            have NB552_560 := n14_
            have NB560_552 := n15_
            clear n0_ n1_ n2_ n3_ n4_ n5_ n6_ n7_ n8_ n9_ n10_ n11_ n12_ n13_ n14_ n15_
            clear hb hbox hg
            refine hK.out _ _ ⟨(e' BK552.out 0).trans rfl, (e' BK552.out 1).trans rfl, HS2_⟩ (fun hHeld => ?_)
            clear hK K
            refine norm_ (a' := ?_) ?_ ?_
            rotate_left
            ·
             show Act.put _ (some 10) _ = _
             exact uP
            exact norm_ (by simp only [putAll, Act.put, o', p', q']) (hCont (v555, gb560) _ ⟨hHeld, (Kd.kV (c' HL553_0.out (fun _ hk => ⟨hk.1.1.1, ⟨hk.1.2, ⟨hk.1.1.2.2.1, ⟨hk.1.1.2.1, ⟨hk.1.1.2.2.2.1, ⟨hk.1.1.2.2.2.2, hk.2⟩⟩⟩⟩⟩⟩))), (Kd.kN (b' HO556.out (fun _ hk => ⟨hk.1.1, ⟨hk.1.2.2.1, ⟨hk.1.2.1, ⟨hk.1.2.2.2.1, ⟨hk.1.2.2.2.2, hk.2⟩⟩⟩⟩⟩))), (Kd.kV (c' HO_1.out (fun _ hk => ⟨hk.1.1.1, ⟨hk.1.2, ⟨hk.1.1.2.2.1, ⟨hk.1.1.2.1, ⟨hk.1.1.2.2.2.1, ⟨hk.1.1.2.2.2.2, hk.2⟩⟩⟩⟩⟩⟩))), (Kd.kN (b' HO_553000.out (fun _ hk => ⟨hk.1.1.1, ⟨hk.1.2, ⟨hk.1.1.2.1, ⟨hk.1.1.2.2.1, ⟨hk.1.1.2.2.2, hk.2⟩⟩⟩⟩⟩))), (Kd.kN (b' HO_8.out (fun _ hk => ⟨hk.1.1.1, ⟨hk.1.2, ⟨hk.1.1.2.1, ⟨hk.1.1.2.2.1, ⟨hk.1.1.2.2.2, hk.2⟩⟩⟩⟩⟩))), (eB BK551), (eB BK552), (eB BK560), GW560.out, GE560.out, NB551_560.out, NB560_551.out, NB552_560.out, NB560_552.out, (eH HB)⟩)
           ·
            skip
            refine box_step ?hg (N := 10) ?hd (cs := #[.slice none 0 0, .int .i64 0]) (t := 27) ?hr ?_; (case hd => rfl); (case hg => rfl); (case hr => go_simp <;> rfl)
            intro gb560 hg w60 hbox hb
            have HS2_ := (hb.cell (World.block_lt_of_cell? _ _ (hHeld.2.2))).trans (hHeld.2.2)
            have n0_ := r' (Kd.V_below (Kd.V_elderB (Kd.eV HO_1) gb560 (Nat.le_of_eq hg.symm)) hb)
            have n1_ := r' (n' (Kd.N_elderB (Kd.eN HO_8) gb560 (Nat.le_of_eq hg.symm)) hb)
            have n2_ := r' (n' (Kd.N_elderB (Kd.eN HO_553000) gb560 (Nat.le_of_eq hg.symm)) hb)
            have n3_ := r' (Kd.V_below (Kd.V_elderB (Kd.eV HL553_0) gb560 (Nat.le_of_eq hg.symm)) hb)
            have n4_ := bB BK551 hb
            have n5_ := bB BK552 hb
            have n6_ := r' (Kd.C_below (Kd.cC HR553_0) hb)
            have n7_ := r' (below_step (eH HB) hb)
            have n8_ := r' (hbox)
            have n9_ := r' ((by rw [hg]; exact (d' (eH HB)) : w.heap.size ≤ gb560))
            have n10_ := r' ((by rw [hg]; exact (d' (eH HB)) : w.heap.size ≤ gb560))
            have n11_ := nL hg BK551
            have n12_ := nG hg BK551
            have n13_ := nL hg BK552
            have n14_ := nG hg BK552
            clear HO_1
            clear HO_8
            clear HO_553000
            clear HL553_0
            clear BK551
            clear BK552
            clear HR553_0
            clear HB
            have HO_1 := n0_
            have HO_8 := n1_
            have HO_553000 := n2_
            have HL553_0 := n3_
            have BK551 := n4_
            have BK552 := n5_
            have HR553_0 := n6_
            have HB := n7_
            have BK560 := n8_
            have GW560 := n9_
            have GE560 := n10_
            have NB551_560 := n11_
            have NB560_551 := n12_
            have NB552_560 := n13_
            have NB560_552 := n14_
            clear n0_ n1_ n2_ n3_ n4_ n5_ n6_ n7_ n8_ n9_ n10_ n11_ n12_ n13_ n14_
            clear hb hbox hg
            refine hK.out _ _ ⟨(e' BK552.out 0).trans rfl, (e' BK552.out 1).trans rfl, HS2_⟩ (fun hHeld => ?_)
            clear hK K
            refine norm_ (a' := ?_) ?_ ?_
            rotate_left
            ·
             show Act.put _ (some 10) _ = _
             exact uP
            refine one_ (i := 5) (N := some 35) #[Y,Y,Y,Y,Y,Y,Z,Z,Z,Z,Y,Z,Z,Z] rfl rfl (one_of HT_.out (by kernel_rfl)) (by decide) (fun K hK => ?_)
            refine goes_ Try.func11 (by kernel_rfl) rfl #[.agg #[.slice Ao58 x553000_1.length co58, .int .i64 x553001_1], .slice A553_0 (rd_L1 l1 x9_1).length c553_0] (by rfl) rfl rfl (by (try simp only [List.map_toArray, List.map_cons, List.map_nil]); first | done | rfl | (simp only [List.length_drop, List.length_take]; rfl)) ?_
            with_reducible refine (wal_Append.calls kj6 _ _ x553000_1 x553001_1 _ _ (rd_L1 l1 x9_1) t554 t557 t558 t559 _ ?side1 ?side2 ?side3 ?side4 A12.out).mono ?_
            (case side1 => exact Kd.kC (Kd.N_reads' HO_553000.out).2.2)
            (case side2 => exact (Kd.N_reads' HO_553000.out).2.1)
            (case side3 => exact Kd.cC HR553_0)
            (case side4 => exact HC553_0.out)
            rintro e w61 ⟨v555, rfl, ho0, hb⟩
            have HS2_ := (hb.cell (World.block_lt_of_cell? _ _ (hHeld.2.2))).trans (hHeld.2.2)
            refine ⟨_, rfl, ?_⟩
            have n0_ := r' (Kd.V_elder' (Kd.eV HO_1) (h' ho0) hb)
            have n1_ := r' (Kd.N_elder' (Kd.eN HO_8) (h' ho0) hb)
            have n2_ := r' (Kd.N_elder' (Kd.eN HO_553000) (h' ho0) hb)
            have n3_ := r' (Kd.V_elder' (Kd.eV HL553_0) (h' ho0) hb)
            have n4_ := r' (Kd.N_lower (b' (ok' := fun k_ => (P1_ k_ ∨ w.heap.size ≤ k_) ∧ some k_ ≠ (u8 : Value).ownBlock ∧ some k_ ≠ (.slice Ao58 x553000_1.length co58 : Value).ownBlock ∧ k_ ≠ gb551 ∧ k_ ≠ gb552 ∧ k_ ≠ gb560) (Kd.S_N (Kd.S_bound ho0)) (fun k_ hk_ => ⟨(.inr (Nat.le_trans (d' (eH HB)) hk_.2.1)), (Kd.fresh' (Kd.N_lt (Kd.eN HO_8)) k_ hk_.2.1), (Kd.fresh' (Kd.N_lt (Kd.eN HO_553000)) k_ hk_.2.1), (m' (g := gb551) (o := .cells #[.slice none 0 0, .int .i64 x552001_1] 27 (0, 0)) (eB BK551) k_ hk_.2.1), (m' (g := gb552) (o := .cells #[.slice Ao58 x553000_1.length co58, .int .i64 x553001_1] 27 (0, 0)) (eB BK552) k_ hk_.2.1), (m' (g := gb560) (o := .cells #[.slice none 0 0, .int .i64 0] 27 (0, 0)) (eB BK560) k_ hk_.2.1)⟩)) (d' (eH HB)))
            have n5_ := bB BK551 hb
            have n6_ := bB BK552 hb
            have n7_ := r' (Kd.C_below (Kd.cC HR553_0) hb)
            have n8_ := bB BK560 hb
            have n9_ := r' (below_step (eH HB) hb)
            clear HO_1
            clear HO_8
            clear HO_553000
            clear HL553_0
            clear BK551
            clear BK552
            clear HR553_0
            clear BK560
            clear HB
            have HO_1 := n0_
            have HO_8 := n1_
            have HO_553000 := n2_
            have HL553_0 := n3_
            have HO556 := n4_
            have BK551 := n5_
            have BK552 := n6_
            have HR553_0 := n7_
            have BK560 := n8_
            have HB := n9_
            clear n0_ n1_ n2_ n3_ n4_ n5_ n6_ n7_ n8_ n9_
            (try clear hb)
            (try clear hb2)
            (try clear hk)
            (try clear hi)
            (try clear ho0)
            refine hK.out _ _ ⟨(e' BK552.out 0).trans rfl, (e' BK552.out 1).trans rfl, HS2_⟩ (fun hHeld => ?_)
            clear hK K
            refine norm_ (a' := ?_) ?_ ?_
            rotate_left
            ·
             show Act.put _ (some 35) _ = _
             exact uP
            refine pP 6 29 #[Y,Y,Y,Y,Y,Y,Y,Z,Z,Z,Y,Z,Z,Z] HT_ (h := ?_)
            refine pP 7 36 #[Y,Y,Y,Y,Y,Y,Y,Y,Z,Z,Y,Z,Z,Z] HT_ (h := ?_)
            refine pP 8 37 #[Y,Y,Y,Y,Y,Y,Y,Y,Y,Z,Y,Z,Z,Z] HT_ (h := ?_)
            refine pP 9 38 #[Y,Y,Y,Y,Y,Y,Y,Y,Y,Y,Y,Z,Z,Z] HT_ (h := ?_)
            exact norm_ (by simp only [putAll, Act.put, o', p', q']) (hCont (v555, gb560) _ ⟨hHeld, (Kd.kV (c' HL553_0.out (fun _ hk => ⟨hk.1.1.1, ⟨hk.2, ⟨hk.1.1.2.2.1, ⟨hk.1.1.2.1, ⟨hk.1.1.2.2.2.1, ⟨hk.1.1.2.2.2.2, hk.1.2⟩⟩⟩⟩⟩⟩))), (Kd.kN (b' HO556.out (fun _ hk => ⟨hk.1, ⟨hk.2.2.1, ⟨hk.2.1, ⟨hk.2.2.2.1, ⟨hk.2.2.2.2.1, hk.2.2.2.2.2⟩⟩⟩⟩⟩))), (Kd.kV (c' HO_1.out (fun _ hk => ⟨hk.1.1.1, ⟨hk.2, ⟨hk.1.1.2.2.1, ⟨hk.1.1.2.1, ⟨hk.1.1.2.2.2.1, ⟨hk.1.1.2.2.2.2, hk.1.2⟩⟩⟩⟩⟩⟩))), (Kd.kN (b' HO_553000.out (fun _ hk => ⟨hk.1.1.1, ⟨hk.2, ⟨hk.1.1.2.1, ⟨hk.1.1.2.2.1, ⟨hk.1.1.2.2.2, hk.1.2⟩⟩⟩⟩⟩))), (Kd.kN (b' HO_8.out (fun _ hk => ⟨hk.1.1.1, ⟨hk.2, ⟨hk.1.1.2.1, ⟨hk.1.1.2.2.1, ⟨hk.1.1.2.2.2, hk.1.2⟩⟩⟩⟩⟩))), (eB BK551), (eB BK552), (eB BK560), GW560.out, GE560.out, NB551_560.out, NB560_551.out, NB552_560.out, NB560_552.out, (eH HB)⟩)
          rintro ⟨v555, gb560⟩ w62 ⟨hS_, h0_, h1_, h2_, h3_, h4_, h5_, h6_, h7_, h8_, h9_, h10_, h11_, h12_, h13_, h14_⟩
          have n0_ : Aside0 (Kd.V (Kd.int .u8) 5 w62 w.heap.size (fun k_ => (P1_ k_ ∨ w.heap.size ≤ k_) ∧ some k_ ≠ (v555 : Value).ownBlock ∧ some k_ ≠ (.slice Ao58 x553000_1.length co58 : Value).ownBlock ∧ some k_ ≠ (u8 : Value).ownBlock ∧ k_ ≠ gb551 ∧ k_ ≠ gb552 ∧ k_ ≠ gb560) (.slice A553_0 (rd_L1 l1 x9_1).length c553_0) (rd_L1 l1 x9_1)) := ⟨h0_⟩
          have n1_ : Aside0 (Kd.N (Kd.slice 5 (Kd.int .u8)) 25 w62 w.heap.size (fun k_ => (P1_ k_ ∨ w.heap.size ≤ k_) ∧ some k_ ≠ (.slice Ao58 x553000_1.length co58 : Value).ownBlock ∧ some k_ ≠ (u8 : Value).ownBlock ∧ k_ ≠ gb551 ∧ k_ ≠ gb552 ∧ k_ ≠ gb560) v555 t554) := ⟨h1_⟩
          have n2_ : Aside0 (Kd.V (Kd.slice 5 (Kd.int .u8)) 25 w62 w.heap.size (fun k_ => (P1_ k_ ∨ w.heap.size ≤ k_) ∧ some k_ ≠ (v555 : Value).ownBlock ∧ some k_ ≠ (.slice Ao58 x553000_1.length co58 : Value).ownBlock ∧ some k_ ≠ (u8 : Value).ownBlock ∧ k_ ≠ gb551 ∧ k_ ≠ gb552 ∧ k_ ≠ gb560) (.slice (some ad553) l1.length c1) l1) := ⟨h2_⟩
          have n3_ : Aside0 (Kd.N (Kd.slice 5 (Kd.int .u8)) 25 w62 w.heap.size (fun k_ => (P1_ k_ ∨ w.heap.size ≤ k_) ∧ some k_ ≠ (v555 : Value).ownBlock ∧ some k_ ≠ (u8 : Value).ownBlock ∧ k_ ≠ gb551 ∧ k_ ≠ gb552 ∧ k_ ≠ gb560) (.slice Ao58 x553000_1.length co58) x553000_1) := ⟨h3_⟩
          have n4_ : Aside0 (Kd.N k57 57 w62 w.heap.size (fun k_ => (P1_ k_ ∨ w.heap.size ≤ k_) ∧ some k_ ≠ (v555 : Value).ownBlock ∧ some k_ ≠ (.slice Ao58 x553000_1.length co58 : Value).ownBlock ∧ k_ ≠ gb551 ∧ k_ ≠ gb552 ∧ k_ ≠ gb560) u8 x8_1) := ⟨h4_⟩
          have n5_ : Aside0 (w62.heap[gb551]? = some (.cells #[.slice none 0 0, .int .i64 x552001_1] 27 (0, 0))) := ⟨h5_⟩
          have n6_ : Aside0 (w62.heap[gb552]? = some (.cells #[.slice Ao58 x553000_1.length co58, .int .i64 x553001_1] 27 (0, 0))) := ⟨h6_⟩
          have n7_ : Aside0 (w62.heap[gb560]? = some (.cells #[.slice none 0 0, .int .i64 0] 27 (0, 0))) := ⟨h7_⟩
          have n8_ : Aside0 (w.heap.size ≤ gb560) := ⟨h8_⟩
          have n9_ : Aside0 (w.heap.size ≤ gb560) := ⟨h9_⟩
          have n10_ : Aside0 (gb551 ≠ gb560) := ⟨h10_⟩
          have n11_ : Aside0 (gb560 ≠ gb551) := ⟨h11_⟩
          have n12_ : Aside0 (gb552 ≠ gb560) := ⟨h12_⟩
          have n13_ : Aside0 (gb560 ≠ gb552) := ⟨h13_⟩
          have n14_ : Aside0 (Below w.heap.size w w62) := ⟨h14_⟩
          clear HO_1
          clear HO_8
          clear HO_553000
          clear BK551
          clear BK552
          clear HB
          clear h0_ h1_ h2_ h3_ h4_ h5_ h6_ h7_ h8_ h9_ h10_ h11_ h12_ h13_ h14_
          have HL553_0 := n0_
          have HO556 := n1_
          have HO_1 := n2_
          have HO_553000 := n3_
          have HO_8 := n4_
          have BK551 := n5_
          have BK552 := n6_
          have BK560 := n7_
          have GW560 := n8_
          have GE560 := n9_
          have NB551_560 := n10_
          have NB560_551 := n11_
          have NB552_560 := n12_
          have NB560_552 := n13_
          have HB := n14_
          clear n0_ n1_ n2_ n3_ n4_ n5_ n6_ n7_ n8_ n9_ n10_ n11_ n12_ n13_ n14_
          have hHeld : w62.cell? ⟨gb552, 0, none⟩ = some (.slice Ao58 x553000_1.length co58) ∧ w62.cell? ⟨gb552, 1, none⟩ = some (.int .i64 x553001_1) ∧ w62.cell? (ad553.add (x9_1).toNat) = some (.slice A553_0 (rd_L1 l1 x9_1).length c553_0) := hS_
          obtain ⟨Ao63, co63, eo63⟩ := Kd.N_slice HO556.out
          (first | subst eo63 | (injection eo63 with f1_ f2_ f3_; have f4_ := f1_.symm; have f5_ := f3_.symm; clear f1_ f2_ f3_; subst f4_; subst f5_))
          refine norm_ (a' := ?_) ?_ ?_
          rotate_left
          ·
           simp only [putAll, Act.put, o', p', q']
           rfl
          refine one_ (i := 11) (N := none) #[Y,Y,Y,Y,Y,Y,Y,Y,Y,Y,Y,Y,Z,Z] rfl rfl (one_of HT_.out (by kernel_rfl)) (by decide) (fun K hK => ?_)
          have hs64 : w62.cell? ⟨gb560, 0, none⟩ = some (.slice none 0 0) := (e' BK560.out 0).trans rfl
          have hfs64 := j' BK560.out 0
          have hns64_0 := NB551_560.out
          have hns64_1 := NB552_560.out
          have hms64_0 := NB560_551.out
          have hms64_1 := NB560_552.out
          have hs65 : w62.cell? ⟨gb560, 1, none⟩ = some (.int .i64 0) := (e' BK560.out 1).trans rfl
          have hfs65 := j' BK560.out 1
          have hns65_0 := NB551_560.out
          have hns65_1 := NB552_560.out
          have hms65_0 := NB560_551.out
          have hms65_1 := NB560_552.out
          refine skip_ (w1 := ?_) (by rfl) rfl ?_ ?_
          rotate_left
          ·
           go_simp
           rfl
          refine hK.out _ _ ⟨((cell_far (p := ⟨gb560, _, none⟩) NB552_560.out _).trans (((cell_far (p := ⟨gb560, _, none⟩) NB552_560.out _).trans (hHeld.1)))), ((cell_far (p := ⟨gb560, _, none⟩) NB552_560.out _).trans (((cell_far (p := ⟨gb560, _, none⟩) NB552_560.out _).trans (hHeld.2.1)))), ((cell_far (p := ⟨gb560, _, none⟩) (by first | exact Kd.own_blk (Kd.V_away' HO_1.out p553 q553 (fun _ hk => hk.2.2.2.2.2.2)) | (rw [add_block]; exact Kd.own_blk (Kd.V_away' HO_1.out p553 q553 (fun _ hk => hk.2.2.2.2.2.2))) | (show (Addr.add _ _).block ≠ _; rw [add_block]; exact Kd.own_blk (Kd.V_away' HO_1.out p553 q553 (fun _ hk => hk.2.2.2.2.2.2))) | (dsimp only; exact Kd.own_blk (Kd.V_away' HO_1.out p553 q553 (fun _ hk => hk.2.2.2.2.2.2)))) _).trans (((cell_far (p := ⟨gb560, _, none⟩) (by first | exact Kd.own_blk (Kd.V_away' HO_1.out p553 q553 (fun _ hk => hk.2.2.2.2.2.2)) | (rw [add_block]; exact Kd.own_blk (Kd.V_away' HO_1.out p553 q553 (fun _ hk => hk.2.2.2.2.2.2))) | (show (Addr.add _ _).block ≠ _; rw [add_block]; exact Kd.own_blk (Kd.V_away' HO_1.out p553 q553 (fun _ hk => hk.2.2.2.2.2.2))) | (dsimp only; exact Kd.own_blk (Kd.V_away' HO_1.out p553 q553 (fun _ hk => hk.2.2.2.2.2.2)))) _).trans (hHeld.2.2))))⟩ (fun hHeld => ?_)
          clear hK K
          refine pP 12 11 #[Y,Y,Y,Y,Y,Y,Y,Y,Y,Y,Y,Y,Y,Z] HT_ (h := ?_)
          refine pP 13 12 #[Y,Y,Y,Y,Y,Y,Y,Y,Y,Y,Y,Y,Y,Y] HT_ (h := ?_)
          refine done_ (done_of HT_.out (by kernel_rfl)) ?_
          have n0_ : Aside0 (Kd.V (Kd.slice 5 (Kd.int .u8)) 25 ((w62.setCell ⟨gb560, 0, none⟩ (.slice Ao63 t554.length co63)).setCell ⟨gb560, 1, none⟩ (.int .i64 t557)) w.heap.size (fun k_ => (P1_ k_ ∨ w.heap.size ≤ k_) ∧ some k_ ≠ (u8 : Value).ownBlock ∧ some k_ ≠ (.slice Ao58 x553000_1.length co58 : Value).ownBlock ∧ some k_ ≠ (.slice Ao63 t554.length co63 : Value).ownBlock ∧ k_ ≠ gb551 ∧ k_ ≠ gb552 ∧ k_ ≠ gb560) (.slice (some ad553) l1.length c1) l1) := ⟨by (with_reducible repeat (first | apply Kd.V_alloc | apply Kd.V_drewN | apply Kd.V_drew)); exact c' (Kd.V_far (p := ⟨gb560, 1, none⟩) (Kd.V_far (p := ⟨gb560, 0, none⟩) (c' HO_1.out (fun k_ hk => (⟨hk, hk.2.2.2.2.2.2⟩ : _ ∧ k_ ≠ gb560))) (fun _ hk => hk.2) (.slice Ao63 t554.length co63)) (fun _ hk => hk.2) (.int .i64 t557)) (fun _ hk => ⟨hk.1.1, ⟨hk.1.2.2.2.1, ⟨hk.1.2.2.1, ⟨hk.1.2.1, ⟨hk.1.2.2.2.2.1, ⟨hk.1.2.2.2.2.2.1, hk.1.2.2.2.2.2.2⟩⟩⟩⟩⟩⟩)⟩
          have n1_ : Aside0 (Kd.N k57 57 ((w62.setCell ⟨gb560, 0, none⟩ (.slice Ao63 t554.length co63)).setCell ⟨gb560, 1, none⟩ (.int .i64 t557)) w.heap.size (fun k_ => (P1_ k_ ∨ w.heap.size ≤ k_) ∧ some k_ ≠ (.slice Ao58 x553000_1.length co58 : Value).ownBlock ∧ some k_ ≠ (.slice Ao63 t554.length co63 : Value).ownBlock ∧ k_ ≠ gb551 ∧ k_ ≠ gb552 ∧ k_ ≠ gb560) u8 x8_1) := ⟨by (with_reducible repeat (first | apply l' | apply k' | apply g')); exact b' (f' (p := ⟨gb560, 1, none⟩) (f' (p := ⟨gb560, 0, none⟩) (b' HO_8.out (fun k_ hk => (⟨hk, hk.2.2.2.2.2⟩ : _ ∧ k_ ≠ gb560))) (fun _ hk => hk.2) (.slice Ao63 t554.length co63)) (fun _ hk => hk.2) (.int .i64 t557)) (fun _ hk => ⟨hk.1.1, ⟨hk.1.2.2.1, ⟨hk.1.2.1, ⟨hk.1.2.2.2.1, ⟨hk.1.2.2.2.2.1, hk.1.2.2.2.2.2⟩⟩⟩⟩⟩)⟩
          have n2_ : Aside0 (Kd.N (Kd.slice 5 (Kd.int .u8)) 25 ((w62.setCell ⟨gb560, 0, none⟩ (.slice Ao63 t554.length co63)).setCell ⟨gb560, 1, none⟩ (.int .i64 t557)) w.heap.size (fun k_ => (P1_ k_ ∨ w.heap.size ≤ k_) ∧ some k_ ≠ (u8 : Value).ownBlock ∧ some k_ ≠ (.slice Ao63 t554.length co63 : Value).ownBlock ∧ k_ ≠ gb551 ∧ k_ ≠ gb552 ∧ k_ ≠ gb560) (.slice Ao58 x553000_1.length co58) x553000_1) := ⟨by (with_reducible repeat (first | apply l' | apply k' | apply g')); exact b' (f' (p := ⟨gb560, 1, none⟩) (f' (p := ⟨gb560, 0, none⟩) (b' HO_553000.out (fun k_ hk => (⟨hk, hk.2.2.2.2.2⟩ : _ ∧ k_ ≠ gb560))) (fun _ hk => hk.2) (.slice Ao63 t554.length co63)) (fun _ hk => hk.2) (.int .i64 t557)) (fun _ hk => ⟨hk.1.1, ⟨hk.1.2.2.1, ⟨hk.1.2.1, ⟨hk.1.2.2.2.1, ⟨hk.1.2.2.2.2.1, hk.1.2.2.2.2.2⟩⟩⟩⟩⟩)⟩
          have n3_ : Aside0 (Kd.V (Kd.int .u8) 5 ((w62.setCell ⟨gb560, 0, none⟩ (.slice Ao63 t554.length co63)).setCell ⟨gb560, 1, none⟩ (.int .i64 t557)) w.heap.size (fun k_ => (P1_ k_ ∨ w.heap.size ≤ k_) ∧ some k_ ≠ (u8 : Value).ownBlock ∧ some k_ ≠ (.slice Ao58 x553000_1.length co58 : Value).ownBlock ∧ some k_ ≠ (.slice Ao63 t554.length co63 : Value).ownBlock ∧ k_ ≠ gb551 ∧ k_ ≠ gb552 ∧ k_ ≠ gb560) (.slice A553_0 (rd_L1 l1 x9_1).length c553_0) (rd_L1 l1 x9_1)) := ⟨by (with_reducible repeat (first | apply Kd.V_alloc | apply Kd.V_drewN | apply Kd.V_drew)); exact c' (Kd.V_far (p := ⟨gb560, 1, none⟩) (Kd.V_far (p := ⟨gb560, 0, none⟩) (c' HL553_0.out (fun k_ hk => (⟨hk, hk.2.2.2.2.2.2⟩ : _ ∧ k_ ≠ gb560))) (fun _ hk => hk.2) (.slice Ao63 t554.length co63)) (fun _ hk => hk.2) (.int .i64 t557)) (fun _ hk => ⟨hk.1.1, ⟨hk.1.2.2.2.1, ⟨hk.1.2.2.1, ⟨hk.1.2.1, ⟨hk.1.2.2.2.2.1, ⟨hk.1.2.2.2.2.2.1, hk.1.2.2.2.2.2.2⟩⟩⟩⟩⟩⟩)⟩
          have n4_ : Aside0 (Kd.N (Kd.slice 5 (Kd.int .u8)) 25 ((w62.setCell ⟨gb560, 0, none⟩ (.slice Ao63 t554.length co63)).setCell ⟨gb560, 1, none⟩ (.int .i64 t557)) w.heap.size (fun k_ => (P1_ k_ ∨ w.heap.size ≤ k_) ∧ some k_ ≠ (u8 : Value).ownBlock ∧ some k_ ≠ (.slice Ao58 x553000_1.length co58 : Value).ownBlock ∧ k_ ≠ gb551 ∧ k_ ≠ gb552 ∧ k_ ≠ gb560) (.slice Ao63 t554.length co63) t554) := ⟨by (with_reducible repeat (first | apply l' | apply k' | apply g')); exact b' (f' (p := ⟨gb560, 1, none⟩) (f' (p := ⟨gb560, 0, none⟩) (b' HO556.out (fun k_ hk => (⟨hk, hk.2.2.2.2.2⟩ : _ ∧ k_ ≠ gb560))) (fun _ hk => hk.2) (.slice Ao63 t554.length co63)) (fun _ hk => hk.2) (.int .i64 t557)) (fun _ hk => ⟨hk.1.1, ⟨hk.1.2.2.1, ⟨hk.1.2.1, ⟨hk.1.2.2.2.1, ⟨hk.1.2.2.2.2.1, hk.1.2.2.2.2.2⟩⟩⟩⟩⟩)⟩
          have n5_ : Aside0 (((w62.setCell ⟨gb560, 0, none⟩ (.slice Ao63 t554.length co63)).setCell ⟨gb560, 1, none⟩ (.int .i64 t557)).heap[gb551]? = some (.cells #[.slice none 0 0, .int .i64 x552001_1] 27 (0, 0))) := ⟨by refine eK ?_; refine blk_far ?_ NB551_560.out _; refine eK ?_; refine blk_far ?_ NB551_560.out _; refine eK ?_; exact BK551.out⟩
          have n6_ : Aside0 (((w62.setCell ⟨gb560, 0, none⟩ (.slice Ao63 t554.length co63)).setCell ⟨gb560, 1, none⟩ (.int .i64 t557)).heap[gb552]? = some (.cells #[.slice Ao58 x553000_1.length co58, .int .i64 x553001_1] 27 (0, 0))) := ⟨by refine eK ?_; refine blk_far ?_ NB552_560.out _; refine eK ?_; refine blk_far ?_ NB552_560.out _; refine eK ?_; exact BK552.out⟩
          have n7_ : Aside0 (((w62.setCell ⟨gb560, 0, none⟩ (.slice Ao63 t554.length co63)).setCell ⟨gb560, 1, none⟩ (.int .i64 t557)).heap[gb560]? = some (.cells #[.slice Ao63 t554.length co63, .int .i64 t557] 27 (0, 0))) := ⟨by refine eK ?_; refine blk_put (cs := #[.slice Ao63 t554.length co63, .int .i64 0]) ?_ 1 _ rfl; refine eK ?_; refine blk_put (cs := #[.slice none 0 0, .int .i64 0]) ?_ 0 _ rfl; refine eK ?_; exact BK560.out⟩
          have n8_ : Aside0 (Below w.heap.size w ((w62.setCell ⟨gb560, 0, none⟩ (.slice Ao63 t554.length co63)).setCell ⟨gb560, 1, none⟩ (.int .i64 t557))) := ⟨eH HB⟩
          (try clear HO_1)
          (try clear HO_8)
          (try clear HO_553000)
          (try clear HL553_0)
          (try clear HO556)
          (try clear BK551)
          (try clear BK552)
          (try clear BK560)
          (try clear HB)
          generalize ((w62.setCell ⟨gb560, 0, none⟩ (.slice Ao63 t554.length co63)).setCell ⟨gb560, 1, none⟩ (.int .i64 t557)) = w66 at n0_ n1_ n2_ n3_ n4_ n5_ n6_ n7_ n8_ ⊢
          have HO_1 := n0_
          have HO_8 := n1_
          have HO_553000 := n2_
          have HL553_0 := n3_
          have HO556 := n4_
          have BK551 := n5_
          have BK552 := n6_
          have BK560 := n7_
          have HB := n8_
          clear n0_ n1_ n2_ n3_ n4_ n5_ n6_ n7_ n8_
          have p561 : 0 ≤ (x9_1 : Int) := oD
          have q561 : x9_1 < (l1.length : Int) := oD
          obtain ⟨ad561, A561_0, c561_0, e561, hx561_0, hl561_0, hi561_0⟩ := at_L1 (Kd.V_reads' HO_1.out).2.2 x9_1 p561 q561
          obtain rfl : ad553 = ad561 := (by injection e561)
          obtain ⟨ce561, hce561, hMe561, hcc561⟩ := Kd.V_get HO_1.out [] x9_1 p561 (by first | exact q561 | exact oD | (have e_ := (Kd.V_reads' HO_1.out).1; omega))
          obtain ⟨ua561_0, uc561_0, rfl, ul561_0, ge561_0⟩ := Kd.FK_slice_open hMe561
          have hv561_0 := hcc561 0 _ rfl
          rw [Nat.add_zero, show ((Kd.slice 5 (Kd.int .u8))).sz = 1 from rfl, Nat.mul_one] at hv561_0
          replace hv561_0 := Option.some.inj (hv561_0.symm.trans hx561_0)
          injection hv561_0 with hva_ hvn_ hvc_
          rw [hva_] at ge561_0
          rw [hvc_] at ul561_0
          have HL561_0 := r' (show Kd.V (Kd.int .u8) 5 _ w.heap.size _ _ (rd_L1 l1 x9_1) from Kd.V_mk ul561_0 ge561_0)
          clear hva_ hvn_ hvc_ ge561_0 ul561_0
          clear hcc561 hce561
          have HR561_0 := r' hi561_0
          have HC561_0 := r' hl561_0
          clear hi561_0 hl561_0
          replace p561 := eq_true p561
          replace q561 := eq_true q561
          try go_wp2_with (first | ((with_reducible refine gate_callee (f := 14) rfl ?_); refine gL 51 Try.func14 #[.int .i64 t559] (h := ?_); (with_reducible refine (fanlightlaw06_num.calls t559 t563 _ A39.out).mono ?_); rintro e w' ⟨rfl, ⟨nd, rfl⟩⟩; refine ⟨_, rfl, ?_⟩; (try (rw [drewN_self w66]; generalize hq_ : World.drewN w66 _ = w66; have n0_ : Aside0 (Kd.V (Kd.int .u8) 5 w66 w.heap.size (fun k_ => (P1_ k_ ∨ w.heap.size ≤ k_) ∧ some k_ ≠ (.slice Ao63 t554.length co63 : Value).ownBlock ∧ some k_ ≠ (.slice Ao58 x553000_1.length co58 : Value).ownBlock ∧ some k_ ≠ (u8 : Value).ownBlock ∧ k_ ≠ gb551 ∧ k_ ≠ gb552 ∧ k_ ≠ gb560) (.slice A553_0 (rd_L1 l1 x9_1).length c553_0) (rd_L1 l1 x9_1)) := ⟨by rw [← hq_]; exact (Kd.kV (c' HL553_0.out (fun _ hk => ⟨hk.1, ⟨hk.2.2.2.1, ⟨hk.2.2.1, ⟨hk.2.1, ⟨hk.2.2.2.2.1, ⟨hk.2.2.2.2.2.1, hk.2.2.2.2.2.2⟩⟩⟩⟩⟩⟩)))⟩; have n1_ : Aside0 (Kd.V (Kd.int .u8) 5 w66 w.heap.size (fun k_ => (P1_ k_ ∨ w.heap.size ≤ k_) ∧ some k_ ≠ (.slice Ao63 t554.length co63 : Value).ownBlock ∧ some k_ ≠ (.slice Ao58 x553000_1.length co58 : Value).ownBlock ∧ some k_ ≠ (u8 : Value).ownBlock ∧ k_ ≠ gb551 ∧ k_ ≠ gb552 ∧ k_ ≠ gb560) (.slice A561_0 (rd_L1 l1 x9_1).length c561_0) (rd_L1 l1 x9_1)) := ⟨by rw [← hq_]; exact (Kd.kV (c' HL561_0.out (fun _ hk => ⟨hk.1, ⟨hk.2.2.2.1, ⟨hk.2.2.1, ⟨hk.2.1, ⟨hk.2.2.2.2.1, ⟨hk.2.2.2.2.2.1, hk.2.2.2.2.2.2⟩⟩⟩⟩⟩⟩)))⟩; have n2_ : Aside0 (Kd.N (Kd.slice 5 (Kd.int .u8)) 25 w66 w.heap.size (fun k_ => (P1_ k_ ∨ w.heap.size ≤ k_) ∧ some k_ ≠ (.slice Ao58 x553000_1.length co58 : Value).ownBlock ∧ some k_ ≠ (u8 : Value).ownBlock ∧ k_ ≠ gb551 ∧ k_ ≠ gb552 ∧ k_ ≠ gb560) (.slice Ao63 t554.length co63) t554) := ⟨by rw [← hq_]; exact (Kd.kN (b' HO556.out (fun _ hk => ⟨hk.1, ⟨hk.2.2.1, ⟨hk.2.1, ⟨hk.2.2.2.1, ⟨hk.2.2.2.2.1, hk.2.2.2.2.2⟩⟩⟩⟩⟩)))⟩; have n3_ : Aside0 (Kd.V (Kd.slice 5 (Kd.int .u8)) 25 w66 w.heap.size (fun k_ => (P1_ k_ ∨ w.heap.size ≤ k_) ∧ some k_ ≠ (.slice Ao63 t554.length co63 : Value).ownBlock ∧ some k_ ≠ (.slice Ao58 x553000_1.length co58 : Value).ownBlock ∧ some k_ ≠ (u8 : Value).ownBlock ∧ k_ ≠ gb551 ∧ k_ ≠ gb552 ∧ k_ ≠ gb560) (.slice (some ad553) l1.length c1) l1) := ⟨by rw [← hq_]; exact (Kd.kV (c' HO_1.out (fun _ hk => ⟨hk.1, ⟨hk.2.2.2.1, ⟨hk.2.2.1, ⟨hk.2.1, ⟨hk.2.2.2.2.1, ⟨hk.2.2.2.2.2.1, hk.2.2.2.2.2.2⟩⟩⟩⟩⟩⟩)))⟩; have n4_ : Aside0 (Kd.N (Kd.slice 5 (Kd.int .u8)) 25 w66 w.heap.size (fun k_ => (P1_ k_ ∨ w.heap.size ≤ k_) ∧ some k_ ≠ (.slice Ao63 t554.length co63 : Value).ownBlock ∧ some k_ ≠ (u8 : Value).ownBlock ∧ k_ ≠ gb551 ∧ k_ ≠ gb552 ∧ k_ ≠ gb560) (.slice Ao58 x553000_1.length co58) x553000_1) := ⟨by rw [← hq_]; exact (Kd.kN (b' HO_553000.out (fun _ hk => ⟨hk.1, ⟨hk.2.2.1, ⟨hk.2.1, ⟨hk.2.2.2.1, ⟨hk.2.2.2.2.1, hk.2.2.2.2.2⟩⟩⟩⟩⟩)))⟩; have n5_ : Aside0 (Kd.N k57 57 w66 w.heap.size (fun k_ => (P1_ k_ ∨ w.heap.size ≤ k_) ∧ some k_ ≠ (.slice Ao63 t554.length co63 : Value).ownBlock ∧ some k_ ≠ (.slice Ao58 x553000_1.length co58 : Value).ownBlock ∧ k_ ≠ gb551 ∧ k_ ≠ gb552 ∧ k_ ≠ gb560) u8 x8_1) := ⟨by rw [← hq_]; exact (Kd.kN (b' HO_8.out (fun _ hk => ⟨hk.1, ⟨hk.2.2.1, ⟨hk.2.1, ⟨hk.2.2.2.1, ⟨hk.2.2.2.2.1, hk.2.2.2.2.2⟩⟩⟩⟩⟩)))⟩; have n6_ : Aside0 (w66.heap[gb551]? = some (.cells #[.slice none 0 0, .int .i64 x552001_1] 27 (0, 0))) := ⟨by rw [← hq_]; exact (eB BK551)⟩; have n7_ : Aside0 (w66.heap[gb552]? = some (.cells #[.slice Ao58 x553000_1.length co58, .int .i64 x553001_1] 27 (0, 0))) := ⟨by rw [← hq_]; exact (eB BK552)⟩; have n8_ : Aside0 (w66.heap[gb560]? = some (.cells #[.slice Ao63 t554.length co63, .int .i64 t557] 27 (0, 0))) := ⟨by rw [← hq_]; exact (eB BK560)⟩; have n9_ : Aside0 (Below w.heap.size w w66) := ⟨by rw [← hq_]; exact (eH HB)⟩; have n10_ : Aside0 (Kd.C (Kd.int .u8) w66 A561_0 (rd_L1 l1 x9_1).length (rd_L1 l1 x9_1)) := ⟨by rw [← hq_]; exact (Kd.cC HR561_0)⟩; clear HL553_0 HL561_0 HO556 HO_1 HO_553000 HO_8 BK551 BK552 BK560 HB HR561_0 hq_; have HL553_0 := n0_; have HL561_0 := n1_; have HO556 := n2_; have HO_1 := n3_; have HO_553000 := n4_; have HO_8 := n5_; have BK551 := n6_; have BK552 := n7_; have BK560 := n8_; have HB := n9_; have HR561_0 := n10_; clear n0_ n1_ n2_ n3_ n4_ n5_ n6_ n7_ n8_ n9_ n10_)); have hnb67 := NB552_551.out; have hnc67 := NB551_552.out; have hnb68 := NB552_560.out; have hnc68 := NB560_552.out; have hcz69_0 := bC BK552 0 (.slice Ao58 x553000_1.length co58); have hcz69_1 := bC BK552 1 (.int .i64 x553001_1); have hfz69_0 := j' BK552.out 0; have hfz69_1 := j' BK552.out 1; have hnb70 := NB551_560.out; have hnc70 := NB560_551.out; have hcz71_0 := bC BK551 0 (.slice none 0 0); have hcz71_1 := bC BK551 1 (.int .i64 x552001_1); have hfz71_0 := j' BK551.out 0; have hfz71_1 := j' BK551.out 1))
          refine bodyPost_ret (results_ctt rfl _ _ gb551 27 #[.slice Ao58 x553000_1.length co58, .int .i64 x553001_1] (0, 0) _ rfl (by refine eK ?_; refine blk_put (cs := #[.slice Ao58 x553000_1.length co58, .int .i64 x552001_1]) ?_ 1 _ rfl; refine eK ?_; refine blk_put (cs := #[.slice none 0 0, .int .i64 x552001_1]) ?_ 0 _ rfl; refine eK ?_; exact BK551.out) Try.underlying27 rfl (by kernel_rfl)) rfl ?_
          exact ⟨_, _, eE, by (with_reducible repeat (first | apply l' | apply k' | apply g')); exact b' (f' (p := ⟨gb551, 1, none⟩) (f' (p := ⟨gb551, 0, none⟩) (b' HO_553000.out (fun k_ hk => (⟨hk, hk.2.2.2.1⟩ : _ ∧ k_ ≠ gb551))) (fun _ hk => hk.2) (.slice Ao58 x553000_1.length co58)) (fun _ hk => hk.2) (.int .i64 x553001_1)) (fun _ hk => ⟨hk.1.1, hk.1.2.2.1⟩), by (with_reducible repeat (first | apply l' | apply k' | apply g')); exact b' (f' (p := ⟨gb551, 1, none⟩) (f' (p := ⟨gb551, 0, none⟩) (b' HO_8.out (fun k_ hk => (⟨hk, hk.2.2.2.1⟩ : _ ∧ k_ ≠ gb551))) (fun _ hk => hk.2) (.slice Ao58 x553000_1.length co58)) (fun _ hk => hk.2) (.int .i64 x553001_1)) (fun _ hk => ⟨hk.1.1, hk.1.2.2.1⟩), eH HB⟩
       ·
        rw [if_neg c11] at H
        exact absurd H (by simp)
      ·
       rw [if_neg c10] at H
       exact absurd H (by simp)
     ·
      replace c9 := Bool.eq_false_iff.mpr c9
      subst c9
      have H1 : (some (x553000_1, x553001_1, x8_1, true)) = some (r1, r2, r3, r4) := by rw [if_neg (show ¬ (false = true) by decide)] at H; exact H
      clear H
      have H := H1
      clear H1
      simp only [Option.some.injEq, Prod.mk.injEq] at H
      obtain ⟨rfl, rfl, rfl, rfl⟩ := H
      have hnb72 := NB552_551.out
      have hnc72 := NB551_552.out
      have hcz73_0 := bC BK552 0 (u553000)
      have hcz73_1 := bC BK552 1 (.int .i64 x553001_1)
      have hfz73_0 := j' BK552.out 0
      have hfz73_1 := j' BK552.out 1
      obtain ⟨Ao74, co74, eo74⟩ := Kd.N_slice HO_553000.out
      subst eo74
      have hcz75_0 := bC BK551 0 (.slice none 0 0)
      have hcz75_1 := bC BK551 1 (.int .i64 x552001_1)
      have hfz75_0 := j' BK551.out 0
      have hfz75_1 := j' BK551.out 1
      go_wp2
      refine bodyPost_ret (results_ctt rfl _ _ gb551 27 #[.slice Ao74 x553000_1.length co74, .int .i64 x553001_1] (0, 0) _ rfl (by refine eK ?_; refine blk_put (cs := #[.slice Ao74 x553000_1.length co74, .int .i64 x552001_1]) ?_ 1 _ rfl; refine eK ?_; refine blk_put (cs := #[.slice none 0 0, .int .i64 x552001_1]) ?_ 0 _ rfl; refine eK ?_; exact BK551.out) Try.underlying27 rfl (by kernel_rfl)) rfl ?_
      exact ⟨_, _, eE, by (with_reducible repeat (first | apply l' | apply k' | apply g')); exact b' (f' (p := ⟨gb551, 1, none⟩) (f' (p := ⟨gb551, 0, none⟩) (b' HO_553000.out (fun k_ hk => (⟨hk, hk.2.2.1⟩ : _ ∧ k_ ≠ gb551))) (fun _ hk => hk.2) (.slice Ao74 x553000_1.length co74)) (fun _ hk => hk.2) (.int .i64 x553001_1)) (fun _ hk => ⟨hk.1.1, hk.1.2.1⟩), by (with_reducible repeat (first | apply l' | apply k' | apply g')); exact b' (f' (p := ⟨gb551, 1, none⟩) (f' (p := ⟨gb551, 0, none⟩) (b' HO_8.out (fun k_ hk => (⟨hk, hk.2.2.1⟩ : _ ∧ k_ ≠ gb551))) (fun _ hk => hk.2) (.slice Ao74 x553000_1.length co74)) (fun _ hk => hk.2) (.int .i64 x553001_1)) (fun _ hk => ⟨hk.1.1, hk.1.2.1⟩), eH HB⟩
end Go.Proofs.Ytgmkgobapeencaa.S
