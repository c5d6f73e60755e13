import Derived.Test.YtgmkgobapeencaaYS0
import Derived.Test.YtgmkgobapeencaaYS8
import Derived.Test.YtgmkgobapeencaaYS14
import Derived.Test.YtgmkgobapeencaaYS15
import Derived.Test.YtgmkgobapeencaaYS16
import Derived.Test.YtgmkgobapeencaaYS17
import Derived.Test.YtgmkgobapeencaaYS20
import Derived.Test.YtgmkgobapeencaaYS22
import Derived.Test.YtgmkgobapeencaaYS23
import Derived.Test.YtgmkgobapeencaaYS24
import Derived.Test.YtgmkgobapeencaaYS25
namespace Go.Proofs.Ytgmkgobapeencaa.S
open Go.Proofs.YtgmkgobapeencaaW.PrintWords.Kd renaming N_mono → b', N_far → c', N_below → e', R_far → k', R_below → l', N_elder' → m', N_drewN → n', N_drew → o', N_alloc → p'
open Go.Proofs.YtgmkgobapeencaaW.PrintWords renaming blk_below → d', blk_cell → f', blk_far → g', blk_frozen → h', below_step → j', below_size → q'
open List renaming setIfInBounds_toArray → r', set_cons_zero → s', set_cons_succ → u', map_toArray → v', map_cons → x', map_nil → y', length_drop → z', length_take → aa'
open Go.Proofs.YtgmkgobapeencaaW.PrintWords.Aside0 renaming mk → ab'
open Bool renaming true → Y, false → Z
open Go.RowKit Go.Proofs.YtgmkgobapeencaaW.PrintWords Go.Proofs.YtgmkgobapeencaaW.PrintLast Go.Proofs.YtgmkgobapeencaaW.PrintMore
attribute [local go_sem] max2_int min2_int max_two min_two max_three min_three max_four min_four
set_option linter.unusedVariables false
set_option linter.unusedSimpArgs false
def fanlightlaw06_WalTells.j0 : Nat → List Int → List Int → Bool → List (List Int) → Int → List (List Int) → Int → Option (Bool)
 | 0, _, _, _, _, _, _, _ => none
 | k + 1, x1, x8, x101, x497000, x497001, x505000, x505001 => if x101 = true then (some false) else ((wal_Check.f k x505000 x505001).bind fun t545 => ((fanlightlaw06_num.f t545).bind fun t546 => ((fanlightref06_Check.f k x497000 x497001).bind fun t547 => (if t546 = t547 then ((fanlightlaw06_Alike.f k x505000 x505001 x497000 x497001).bind fun t548 => (if t548 = 0 then ((fanlightplain_SameBytes.f x8 x1).bind fun t549 => (if t549 = true then ((fanlightlaw06_alive.f k).bind fun t550 => (some t550)) else (some false))) else (some false))) else (some false)))))
def fanlightlaw06_WalTells.f (k : Nat) (l0_0 : List (List Int)) (a0_1 : Int) (l1 : List Int) (a2 : Int) : Option (Bool) := (fanlightlaw06_Of.f k l0_0 a0_1).bind fun bt497 => ((fanlightplain_CopyBytes.f l1).bind fun t501 => ((wal_Append.f k bt497.1 bt497.2 t501).bind fun bt505 => ((fanlightref06_Append.f k l0_0 a0_1 l1).bind fun bt512 => ((wal_Records.f k bt497.1 bt497.2).bind fun bt519 => ((fanlightref06_Records.f k l0_0 a0_1).bind fun bt523 => ((wal_Drop.f k bt497.1 bt497.2 a2).bind fun bt527 => ((fanlightref06_Drop.f k l0_0 a0_1 a2).bind fun bt533 => ((fanlightlaw06_Alike.f k bt505.1 bt505.2.1 bt512.1 bt512.2.1).bind fun t539 => (if t539 = 0 then (if bt505.2.2.1 = bt512.2.2.1 then ((fanlightlaw06_num.f bt505.2.2.2).bind fun t540 => (if t540 = bt512.2.2.2 then ((fanlightlaw06_same.f k bt519.1 bt523.1).bind fun t541 => (if t541 = true then ((fanlightlaw06_num.f bt519.2).bind fun t542 => (if t542 = bt523.2 then ((fanlightlaw06_Alike.f k bt527.1 bt527.2.1 bt533.1 bt533.2.1).bind fun t543 => (if t543 = 0 then ((fanlightlaw06_num.f bt527.2.2).bind fun t544 => (fanlightlaw06_WalTells.j0 k l1 t501 (t544 != bt533.2.2) l0_0 a0_1 bt497.1 bt497.2)) else (fanlightlaw06_WalTells.j0 k l1 t501 true l0_0 a0_1 bt497.1 bt497.2))) else (fanlightlaw06_WalTells.j0 k l1 t501 true l0_0 a0_1 bt497.1 bt497.2))) else (fanlightlaw06_WalTells.j0 k l1 t501 true l0_0 a0_1 bt497.1 bt497.2))) else (fanlightlaw06_WalTells.j0 k l1 t501 true l0_0 a0_1 bt497.1 bt497.2))) else (fanlightlaw06_WalTells.j0 k l1 t501 true l0_0 a0_1 bt497.1 bt497.2)) else (fanlightlaw06_WalTells.j0 k l1 t501 true l0_0 a0_1 bt497.1 bt497.2))))))))))
theorem fanlightlaw06_WalTells.mono_l : ∀ k, (∀ y0 y1 y2 y3 y4 y5 y6, LeO (fanlightlaw06_WalTells.j0 k y0 y1 y2 y3 y4 y5 y6) (fanlightlaw06_WalTells.j0 (k + 1) y0 y1 y2 y3 y4 y5 y6))
 | 0 => fun _ _ _ _ _ _ _ r h => by simp [fanlightlaw06_WalTells.j0] at h
 | k + 1 => by
  have ih0 := fanlightlaw06_WalTells.mono_l k
  ·
   intro y0 y1 y2 y3 y4 y5 y6
   unfold fanlightlaw06_WalTells.j0
   repeat' first
   | (with_reducible exact ih0 _ _ _ _ _ _ _)
   | (with_reducible exact fanlightlaw06_Alike.mono _ _ _ _ _)
   | (with_reducible exact fanlightlaw06_Of.mono _ _ _)
   | (with_reducible exact fanlightlaw06_alive.mono _)
   | (with_reducible exact fanlightlaw06_same.mono _ _ _)
   | (with_reducible exact fanlightref06_Append.mono _ _ _ _)
   | (with_reducible exact fanlightref06_Check.mono _ _ _)
   | (with_reducible exact fanlightref06_Drop.mono _ _ _ _)
   | (with_reducible exact fanlightref06_Records.mono _ _ _)
   | (with_reducible exact wal_Append.mono _ _ _ _)
   | (with_reducible exact wal_Check.mono _ _ _)
   | (with_reducible exact wal_Drop.mono _ _ _ _)
   | (with_reducible exact wal_Records.mono _ _ _)
   | (with_reducible exact LeO.refl _)
   | (with_reducible exact LeO.none _)
   | (with_reducible refine LeO.ite ?_ ?_)
   | (with_reducible refine LeO.bind ?_ (fun _ => ?_))
theorem fanlightlaw06_WalTells.mono : ∀ a0 a1 a2 a3 k, LeO (fanlightlaw06_WalTells.f k a0 a1 a2 a3) (fanlightlaw06_WalTells.f (k + 1) a0 a1 a2 a3) := by
 intro a0 a1 a2 a3 k
 have ih0 := fanlightlaw06_WalTells.mono_l k
 unfold fanlightlaw06_WalTells.f
 repeat' first
   | (with_reducible exact ih0 _ _ _ _ _ _ _)
   | (with_reducible exact fanlightlaw06_Alike.mono _ _ _ _ _)
   | (with_reducible exact fanlightlaw06_Of.mono _ _ _)
   | (with_reducible exact fanlightlaw06_alive.mono _)
   | (with_reducible exact fanlightlaw06_same.mono _ _ _)
   | (with_reducible exact fanlightref06_Append.mono _ _ _ _)
   | (with_reducible exact fanlightref06_Check.mono _ _ _)
   | (with_reducible exact fanlightref06_Drop.mono _ _ _ _)
   | (with_reducible exact fanlightref06_Records.mono _ _ _)
   | (with_reducible exact wal_Append.mono _ _ _ _)
   | (with_reducible exact wal_Check.mono _ _ _)
   | (with_reducible exact wal_Drop.mono _ _ _ _)
   | (with_reducible exact wal_Records.mono _ _ _)
   | (with_reducible exact LeO.refl _)
   | (with_reducible exact LeO.none _)
   | (with_reducible refine LeO.ite ?_ ?_)
   | (with_reducible refine LeO.bind ?_ (fun _ => ?_))
def fanlightlaw06_WalTells.T10 : Bool × List (List Nat × List Nat) := (true,[([],[]),([0],[0]),([1,1],[1]),([],[]),([3,2],[3]),([2,4],[2,4]),([5,4],[5]),([6],[6]),([6],[6]),([7,8,6,6],[6,7,8]),([9,6],[6,9]),([6,10],[6,10]),([11,9],[11]),([12],[12]),([12],[12]),([13,14,12,12],[12,13,14]),([12,15],[12,15]),([16,15],[16]),([17,17],[17]),([17,18],[17,18]),([19,18,0,1,2,3,4,5,6,7,8,9,10,11,12,13,14,15,16,17,18,19],[19])])
def fanlightlaw06_WalTells.B10 : List Nat := [0,1,3,0,15,31,63,127,127,511,1023,2047,4095,8191,8191,32767,65535,131071,262143,524287,1048575]
theorem fanlightlaw06_WalTells.tab10 : rtab .any (opsOf Try.f4 10) = fanlightlaw06_WalTells.T10 := by kernel_rfl
theorem fanlightlaw06_WalTells.bits10 : waitsOk fanlightlaw06_WalTells.T10.2 fanlightlaw06_WalTells.B10 = true := by kernel_rfl
set_option maxHeartbeats 8000000 in
set_option maxRecDepth 100000 in
theorem fanlightlaw06_WalTells.calls (k : Nat) (A0_0 : Option Addr) (c0_0 : Nat) (l0_0 : List (List Int)) (a0_1 : Int) (A1 : Option Addr) (c1 : Nat) (l1 : List Int) (a2 : Int) (r : Bool) (w : World) (hr0_0 : Kd.C (Kd.slice 5 (Kd.int .u8)) w A0_0 l0_0.length l0_0) (hc0_0 : l0_0.length ≤ c0_0) (hr1 : Kd.C (Kd.int .u8) w A1 l1.length l1) (hc1 : l1.length ≤ c1) (h : fanlightlaw06_WalTells.f k l0_0 a0_1 l1 a2 = some r) (hT : r = true) :
  Calls Try.prog 4 #[.agg #[.slice A0_0 l0_0.length c0_0, .int .i64 a0_1], .slice A1 l1.length c1, .int .i64 a2] w fun e w' => e = .returned (.bool r) ∧ Below w.heap.size w w' := by
 have hu24 := Try.underlying24
 have hu27 := Try.underlying27
 have HR0_0 := ab' hr0_0
 have HC0_0 := ab' hc0_0
 clear hr0_0 hc0_0
 have HR1 := ab' hr1
 have HC1 := ab' hc1
 clear hr1 hc1
 have HB := ab' (Below.refl w.heap.size w)
 have H : ((fanlightlaw06_Of.f k l0_0 a0_1).bind fun bt497 => ((fanlightplain_CopyBytes.f l1).bind fun t501 => ((wal_Append.f k bt497.1 bt497.2 t501).bind fun bt505 => ((fanlightref06_Append.f k l0_0 a0_1 l1).bind fun bt512 => ((wal_Records.f k bt497.1 bt497.2).bind fun bt519 => ((fanlightref06_Records.f k l0_0 a0_1).bind fun bt523 => ((wal_Drop.f k bt497.1 bt497.2 a2).bind fun bt527 => ((fanlightref06_Drop.f k l0_0 a0_1 a2).bind fun bt533 => ((fanlightlaw06_Alike.f k bt505.1 bt505.2.1 bt512.1 bt512.2.1).bind fun t539 => (if t539 = 0 then (if bt505.2.2.1 = bt512.2.2.1 then ((fanlightlaw06_num.f bt505.2.2.2).bind fun t540 => (if t540 = bt512.2.2.2 then ((fanlightlaw06_same.f k bt519.1 bt523.1).bind fun t541 => (if t541 = true then ((fanlightlaw06_num.f bt519.2).bind fun t542 => (if t542 = bt523.2 then ((fanlightlaw06_Alike.f k bt527.1 bt527.2.1 bt533.1 bt533.2.1).bind fun t543 => (if t543 = 0 then ((fanlightlaw06_num.f bt527.2.2).bind fun t544 => (fanlightlaw06_WalTells.j0 k l1 t501 (t544 != bt533.2.2) l0_0 a0_1 bt497.1 bt497.2)) else (fanlightlaw06_WalTells.j0 k l1 t501 true l0_0 a0_1 bt497.1 bt497.2))) else (fanlightlaw06_WalTells.j0 k l1 t501 true l0_0 a0_1 bt497.1 bt497.2))) else (fanlightlaw06_WalTells.j0 k l1 t501 true l0_0 a0_1 bt497.1 bt497.2))) else (fanlightlaw06_WalTells.j0 k l1 t501 true l0_0 a0_1 bt497.1 bt497.2))) else (fanlightlaw06_WalTells.j0 k l1 t501 true l0_0 a0_1 bt497.1 bt497.2)) else (fanlightlaw06_WalTells.j0 k l1 t501 true l0_0 a0_1 bt497.1 bt497.2))))))))))) = some r := h
 clear h
 replace H := Option.bind_eq_some_iff.mp H
 obtain ⟨⟨t497, t500⟩, A40, H⟩ := H
 (try dsimp only at H)
 have A4 := ab' A40
 clear A40
 replace H := Option.bind_eq_some_iff.mp H
 obtain ⟨t501, A50, H⟩ := H
 (try dsimp only at H)
 have A5 := ab' A50
 clear A50
 replace H := Option.bind_eq_some_iff.mp H
 obtain ⟨⟨t505, t508, t509, t510⟩, A60, H⟩ := H
 (try dsimp only at H)
 have A6 := ab' A60
 clear A60
 replace H := Option.bind_eq_some_iff.mp H
 obtain ⟨⟨t512, t515, t516, t517⟩, A70, H⟩ := H
 (try dsimp only at H)
 have A7 := ab' A70
 clear A70
 replace H := Option.bind_eq_some_iff.mp H
 obtain ⟨⟨t519, t522⟩, A80, H⟩ := H
 (try dsimp only at H)
 have A8 := ab' A80
 clear A80
 replace H := Option.bind_eq_some_iff.mp H
 obtain ⟨⟨t523, t526⟩, A90, H⟩ := H
 (try dsimp only at H)
 have A9 := ab' A90
 clear A90
 replace H := Option.bind_eq_some_iff.mp H
 obtain ⟨⟨t527, t530, t531⟩, A100, H⟩ := H
 (try dsimp only at H)
 have A10 := ab' A100
 clear A100
 replace H := Option.bind_eq_some_iff.mp H
 obtain ⟨⟨t533, t536, t537⟩, A110, H⟩ := H
 (try dsimp only at H)
 have A11 := ab' A110
 clear A110
 have HC12 := ab' H
 clear H
 go_enter Try.func4, Try.ntmps4
 go_upto_region 8 with (first | ((with_reducible refine gate_dst (N := 3) rfl ?_); refine box_event ?hg (N := 3) ?hd (cs := #[.slice A0_0 l0_0.length c0_0, .int .i64 a0_1]) (t := 24) ?hr ?_; (case hd => rfl); (case hg => rfl); (case hr => go_simp <;> rfl); intro gb496 hg w13 hbox hb; have n0_ := ab' (j' (eH HB) hb); have n1_ := ab' (hbox); have n2_ := ab' ((by rw [hg]; exact (q' (eH HB)) : w.heap.size ≤ gb496)); have n3_ := ab' ((by rw [hg]; exact (q' (eH HB)) : w.heap.size ≤ gb496)); clear HB; have HB := n0_; have BK496 := n1_; have GW496 := n2_; have GE496 := n3_; clear n0_ n1_ n2_ n3_; clear hb hbox hg; have hcz14_0 : w13.cell? ⟨gb496, 0, none⟩ = some (.slice A0_0 l0_0.length c0_0) := (f' BK496.out 0).trans rfl; have hcz14_1 : w13.cell? ⟨gb496, 1, none⟩ = some (.int .i64 a0_1) := (f' BK496.out 1).trans rfl; have hfz14_0 := h' BK496.out 0; have hfz14_1 := h' BK496.out 1) | ((with_reducible refine gate_callee (f := 9) rfl ?_); refine goesL_ (some 24) rfl rfl Try.func9 (by kernel_rfl) rfl #[.agg #[.slice A0_0 l0_0.length c0_0, .int .i64 a0_1]] rfl (by (try simp only [v', x', y']); first | done | rfl | (simp only [z', aa']; rfl)) ?_; (with_reducible refine (fanlightlaw06_Of.calls k _ _ l0_0 a0_1 t497 t500 _ ?side1 ?side2 A4.out).mono ?_); (case side1 => exact Kd.eC HR0_0 HB); (case side2 => exact HC0_0.out); rintro e w15 ⟨v498, rfl, ho0, hb⟩; refine ⟨_, rfl, ?_⟩; have n0_ := ab' (Kd.N_lower (b' (ok' := fun k_ => k_ ≠ gb496) (Kd.S_N (Kd.S_bound ho0)) (fun k_ hk_ => (Kd.freshB (g := gb496) (o := .cells #[.slice A0_0 l0_0.length c0_0, .int .i64 a0_1] 24 (0, 0)) (eB BK496) k_ hk_.2.1))) (q' (eH HB))); have n1_ := ab' (d' (g := gb496) (o := .cells #[.slice A0_0 l0_0.length c0_0, .int .i64 a0_1] 24 (0, 0)) (eB BK496) hb); have n2_ := ab' (j' (eH HB) hb); clear BK496; clear HB; have HO499 := n0_; have BK496 := n1_; have HB := n2_; clear n0_ n1_ n2_; (try clear hb); (try clear hb2); (try clear hk); (try clear hi); (try clear ho0)) | ((with_reducible refine gate_callee (f := 10) rfl ?_); refine goesL_ (some 26) rfl rfl Try.func10 (by kernel_rfl) rfl #[.slice A1 l1.length c1] rfl (by (try simp only [v', x', y']); first | done | rfl | (simp only [z', aa']; rfl)) ?_; (with_reducible refine (fanlightplain_CopyBytes.calls _ _ l1 t501 _ ?side1 ?side2 A5.out).mono ?_); (case side1 => exact Kd.eC HR1 HB); (case side2 => exact HC1.out); rintro e w16 ⟨v502, rfl, ho0, hb⟩; refine ⟨_, rfl, ?_⟩; have n0_ := ab' (m' (Kd.eN HO499) (Kd.R_base ho0) hb); have n1_ := ab' (Kd.R_lower ho0 (q' (eH HB))); have n2_ := ab' (d' (g := gb496) (o := .cells #[.slice A0_0 l0_0.length c0_0, .int .i64 a0_1] 24 (0, 0)) (eB BK496) hb); have n3_ := ab' (j' (eH HB) hb); clear HO499; clear BK496; clear HB; have HO499 := n0_; have HO503 := n1_; have BK496 := n2_; have HB := n3_; clear n0_ n1_ n2_ n3_; (try clear hb); (try clear hb2); (try clear hk); (try clear hi); (try clear ho0)) | ((with_reducible refine gate_dst (N := 7) rfl ?_); refine box_event ?hg (N := 7) ?hd (cs := #[.slice none 0 0, .int .i64 0]) (t := 27) ?hr ?_; (case hd => rfl); (case hg => rfl); (case hr => go_simp <;> rfl); intro gb504 hg w17 hbox hb; have n0_ := ab' (e' (Kd.N_elderB (Kd.eN HO499) gb504 (Nat.le_of_eq hg.symm)) hb); have n1_ := ab' (l' (Kd.eR HO503) hb); have n2_ := ab' (d' (g := gb496) (o := .cells #[.slice A0_0 l0_0.length c0_0, .int .i64 a0_1] 24 (0, 0)) (eB BK496) hb); have n3_ := ab' (j' (eH HB) hb); have n4_ := ab' (hbox); have n5_ := ab' ((by rw [hg]; exact (q' (eH HB)) : w.heap.size ≤ gb504)); have n6_ := ab' ((by rw [hg]; exact (q' (eH HB)) : w.heap.size ≤ gb504)); have n7_ := ab' ((by rw [hg]; exact Nat.ne_of_lt (blk_lt (g := gb496) (o := .cells #[.slice A0_0 l0_0.length c0_0, .int .i64 a0_1] 24 (0, 0)) (eB BK496)) : gb496 ≠ gb504)); have n8_ := ab' ((by rw [hg]; exact Nat.ne_of_gt (blk_lt (g := gb496) (o := .cells #[.slice A0_0 l0_0.length c0_0, .int .i64 a0_1] 24 (0, 0)) (eB BK496)) : gb504 ≠ gb496)); clear HO499; clear HO503; clear BK496; clear HB; have HO499 := n0_; have HO503 := n1_; have BK496 := n2_; have HB := n3_; have BK504 := n4_; have GW504 := n5_; have GE504 := n6_; have NB496_504 := n7_; have NB504_496 := n8_; clear n0_ n1_ n2_ n3_ n4_ n5_ n6_ n7_ n8_; clear hb hbox hg; obtain ⟨Ao18, co18, eo18⟩ := Kd.N_slice HO499.out; subst eo18; have hnb19 := NB504_496.out; have hnc19 := NB496_504.out; have hcz20_0 : w17.cell? ⟨gb504, 0, none⟩ = some (.slice none 0 0) := (f' BK504.out 0).trans rfl; have hcz20_1 : w17.cell? ⟨gb504, 1, none⟩ = some (.int .i64 0) := (f' BK504.out 1).trans rfl; have hfz20_0 := h' BK504.out 0; have hfz20_1 := h' BK504.out 1; obtain ⟨Ao21, co21, eo21⟩ := Kd.R_slice HO503.out; subst eo21) | ((with_reducible refine gate_callee (f := 11) rfl ?_); refine goesL_ (some 30) rfl rfl Try.func11 (by kernel_rfl) rfl #[.agg #[.slice Ao18 t497.length co18, .int .i64 t500], .slice Ao21 t501.length co21] rfl (by (try simp only [v', x', y']); first | done | rfl | (simp only [z', aa']; rfl)) ?_; (with_reducible refine (wal_Append.calls k _ _ t497 t500 _ _ t501 t505 t508 t509 t510 _ ?side1 ?side2 ?side3 ?side4 A6.out).mono ?_); (case side1 => refine (Kd.N_reads' (e := 25) (base := w.heap.size) (ok := fun k_ => ((k_ ≠ gb496 ∧ some k_ ≠ (.slice Ao21 t501.length co21 : Value).ownBlock) ∧ k_ ≠ gb504)) (n := t497.length) (c := co18) ?_).2.2; exact (Kd.kN (b' (c' (p := ⟨gb504, 1, none⟩) (c' (p := ⟨gb504, 0, none⟩) (b' HO499.out (fun k_ hk => (⟨hk, hk.2⟩ : _ ∧ k_ ≠ gb504))) (fun _ hk => hk.2) (.slice Ao18 t497.length co18)) (fun _ hk => hk.2) (.int .i64 t500)) (fun _ h_ => h_.1)))); (case side2 => exact (Kd.N_reads' HO499.out).2.1); (case side3 => refine (Kd.R_reads' (e := 5) (base := w.heap.size) (ok := fun k_ => True) (n := t501.length) (c := co21) ?_).2.2; exact (Kd.kR (Kd.R_mono (k' (p := ⟨gb504, 1, none⟩) (k' (p := ⟨gb504, 0, none⟩) (Kd.R_types HO503.out BK504.out (by decide)) (fun _ hk => hk.2) (.slice Ao18 t497.length co18)) (fun _ hk => hk.2) (.int .i64 t500)) (fun _ h_ => h_.1)))); (case side4 => exact (Kd.R_reads' HO503.out).2.1); rintro e w22 ⟨v506, rfl, ho0, hb⟩; refine ⟨_, rfl, ?_⟩; have n0_ := ab' (m' (Kd.kN (b' (c' (p := ⟨gb504, 1, none⟩) (c' (p := ⟨gb504, 0, none⟩) (b' HO499.out (fun k_ hk => (⟨hk, hk.2⟩ : _ ∧ k_ ≠ gb504))) (fun _ hk => hk.2) (.slice Ao18 t497.length co18)) (fun _ hk => hk.2) (.int .i64 t500)) (fun _ h_ => h_.1))) (Kd.S_base ho0) hb); have n1_ := ab' (l' (Kd.kR (Kd.R_mono (k' (p := ⟨gb504, 1, none⟩) (k' (p := ⟨gb504, 0, none⟩) (Kd.R_types HO503.out BK504.out (by decide)) (fun _ hk => hk.2) (.slice Ao18 t497.length co18)) (fun _ hk => hk.2) (.int .i64 t500)) (fun _ h_ => h_.1))) hb); have n2_ := ab' (Kd.N_lower (b' (ok' := fun k_ => some k_ ≠ (.slice Ao18 t497.length co18 : Value).ownBlock ∧ some k_ ≠ (.slice Ao21 t501.length co21 : Value).ownBlock ∧ k_ ≠ gb496 ∧ k_ ≠ gb504) (Kd.S_N (Kd.S_bound ho0)) (fun k_ hk_ => ⟨(Kd.fresh' (Kd.N_lt (Kd.kN (b' (c' (p := ⟨gb504, 1, none⟩) (c' (p := ⟨gb504, 0, none⟩) (b' HO499.out (fun k_ hk => (⟨hk, hk.2⟩ : _ ∧ k_ ≠ gb504))) (fun _ hk => hk.2) (.slice Ao18 t497.length co18)) (fun _ hk => hk.2) (.int .i64 t500)) (fun _ h_ => h_.1)))) k_ hk_.2.1), (Kd.fresh' (Kd.R_lt (Kd.kR (Kd.R_mono (k' (p := ⟨gb504, 1, none⟩) (k' (p := ⟨gb504, 0, none⟩) (Kd.R_types HO503.out BK504.out (by decide)) (fun _ hk => hk.2) (.slice Ao18 t497.length co18)) (fun _ hk => hk.2) (.int .i64 t500)) (fun _ h_ => h_.1)))) k_ hk_.2.1), (Kd.freshB (g := gb496) (o := .cells #[.slice A0_0 l0_0.length c0_0, .int .i64 a0_1] 24 (0, 0)) (by refine eK ?_; refine g' ?_ NB496_504.out _; refine eK ?_; refine g' ?_ NB496_504.out _; refine eK ?_; exact BK496.out) k_ hk_.2.1), (Kd.freshB (g := gb504) (o := .cells #[.slice Ao18 t497.length co18, .int .i64 t500] 27 (0, 0)) (by refine eK ?_; refine blk_put (cs := #[.slice Ao18 t497.length co18, .int .i64 0]) ?_ 1 _ rfl; refine eK ?_; refine blk_put (cs := #[.slice none 0 0, .int .i64 0]) ?_ 0 _ rfl; refine eK ?_; exact BK504.out) k_ hk_.2.1)⟩)) (q' (eH HB))); have n3_ := ab' (d' (g := gb496) (o := .cells #[.slice A0_0 l0_0.length c0_0, .int .i64 a0_1] 24 (0, 0)) (by refine eK ?_; refine g' ?_ NB496_504.out _; refine eK ?_; refine g' ?_ NB496_504.out _; refine eK ?_; exact BK496.out) hb); have n4_ := ab' (d' (g := gb504) (o := .cells #[.slice Ao18 t497.length co18, .int .i64 t500] 27 (0, 0)) (by refine eK ?_; refine blk_put (cs := #[.slice Ao18 t497.length co18, .int .i64 0]) ?_ 1 _ rfl; refine eK ?_; refine blk_put (cs := #[.slice none 0 0, .int .i64 0]) ?_ 0 _ rfl; refine eK ?_; exact BK504.out) hb); have n5_ := ab' (j' (eH HB) hb); clear HO499; clear HO503; clear BK496; clear BK504; clear HB; have HO499 := n0_; have HO503 := n1_; have HO507 := n2_; have BK496 := n3_; have BK504 := n4_; have HB := n5_; clear n0_ n1_ n2_ n3_ n4_ n5_; (try clear hb); (try clear hb2); (try clear hk); (try clear hi); (try clear ho0)) | ((with_reducible refine gate_dst (N := 9) rfl ?_); refine box_event ?hg (N := 9) ?hd (cs := #[.slice none 0 0, .int .i64 0]) (t := 27) ?hr ?_; (case hd => rfl); (case hg => rfl); (case hr => go_simp <;> rfl); intro gb511 hg w23 hbox hb; have n0_ := ab' (e' (Kd.N_elderB (Kd.eN HO499) gb511 (Nat.le_of_eq hg.symm)) hb); have n1_ := ab' (l' (Kd.eR HO503) hb); have n2_ := ab' (e' (Kd.N_elderB (Kd.eN HO507) gb511 (Nat.le_of_eq hg.symm)) hb); have n3_ := ab' (d' (g := gb496) (o := .cells #[.slice A0_0 l0_0.length c0_0, .int .i64 a0_1] 24 (0, 0)) (eB BK496) hb); have n4_ := ab' (d' (g := gb504) (o := .cells #[.slice Ao18 t497.length co18, .int .i64 t500] 27 (0, 0)) (eB BK504) hb); have n5_ := ab' (j' (eH HB) hb); have n6_ := ab' (hbox); have n7_ := ab' ((by rw [hg]; exact (q' (eH HB)) : w.heap.size ≤ gb511)); have n8_ := ab' ((by rw [hg]; exact (q' (eH HB)) : w.heap.size ≤ gb511)); have n9_ := ab' ((by rw [hg]; exact Nat.ne_of_lt (blk_lt (g := gb496) (o := .cells #[.slice A0_0 l0_0.length c0_0, .int .i64 a0_1] 24 (0, 0)) (eB BK496)) : gb496 ≠ gb511)); have n10_ := ab' ((by rw [hg]; exact Nat.ne_of_gt (blk_lt (g := gb496) (o := .cells #[.slice A0_0 l0_0.length c0_0, .int .i64 a0_1] 24 (0, 0)) (eB BK496)) : gb511 ≠ gb496)); have n11_ := ab' ((by rw [hg]; exact Nat.ne_of_lt (blk_lt (g := gb504) (o := .cells #[.slice Ao18 t497.length co18, .int .i64 t500] 27 (0, 0)) (eB BK504)) : gb504 ≠ gb511)); have n12_ := ab' ((by rw [hg]; exact Nat.ne_of_gt (blk_lt (g := gb504) (o := .cells #[.slice Ao18 t497.length co18, .int .i64 t500] 27 (0, 0)) (eB BK504)) : gb511 ≠ gb504)); clear HO499; clear HO503; clear HO507; clear BK496; clear BK504; clear HB; have HO499 := n0_; have HO503 := n1_; have HO507 := n2_; have BK496 := n3_; have BK504 := n4_; have HB := n5_; have BK511 := n6_; have GW511 := n7_; have GE511 := n8_; have NB496_511 := n9_; have NB511_496 := n10_; have NB504_511 := n11_; have NB511_504 := n12_; clear n0_ n1_ n2_ n3_ n4_ n5_ n6_ n7_ n8_ n9_ n10_ n11_ n12_; clear hb hbox hg; obtain ⟨Ao24, co24, eo24⟩ := Kd.N_slice HO507.out; subst eo24; have hnb25 := NB511_496.out; have hnc25 := NB496_511.out; have hnb26 := NB511_504.out; have hnc26 := NB504_511.out; have hcz27_0 : w23.cell? ⟨gb511, 0, none⟩ = some (.slice none 0 0) := (f' BK511.out 0).trans rfl; have hcz27_1 : w23.cell? ⟨gb511, 1, none⟩ = some (.int .i64 0) := (f' BK511.out 1).trans rfl; have hfz27_0 := h' BK511.out 0; have hfz27_1 := h' BK511.out 1; have hcz28_0 : w23.cell? ⟨gb496, 0, none⟩ = some (.slice A0_0 l0_0.length c0_0) := (f' BK496.out 0).trans rfl; have hcz28_1 : w23.cell? ⟨gb496, 1, none⟩ = some (.int .i64 a0_1) := (f' BK496.out 1).trans rfl; have hfz28_0 := h' BK496.out 0; have hfz28_1 := h' BK496.out 1) | ((with_reducible refine gate_callee (f := 12) rfl ?_); refine goesL_ (some 37) rfl rfl Try.func12 (by kernel_rfl) rfl #[.agg #[.slice A0_0 l0_0.length c0_0, .int .i64 a0_1], .slice A1 l1.length c1] rfl (by (try simp only [v', x', y']); first | done | rfl | (simp only [z', aa']; rfl)) ?_; (with_reducible refine (fanlightref06_Append.calls k _ _ l0_0 a0_1 _ _ l1 t512 t515 t516 t517 _ ?side1 ?side2 ?side3 ?side4 A7.out).mono ?_); (case side1 => exact Kd.C_below HR0_0.out (eH HB)); (case side2 => exact HC0_0.out); (case side3 => exact Kd.C_below HR1.out (eH HB)); (case side4 => exact HC1.out); rintro e w29 ⟨v513, rfl, ho0, hb⟩; refine ⟨_, rfl, ?_⟩; have n0_ := ab' (m' (Kd.kN (b' (c' (p := ⟨gb511, 1, none⟩) (c' (p := ⟨gb511, 0, none⟩) (b' HO499.out (fun k_ hk => (⟨hk, hk.2⟩ : _ ∧ k_ ≠ gb511))) (fun _ hk => hk.2) (.slice Ao24 t505.length co24)) (fun _ hk => hk.2) (.int .i64 t508)) (fun _ h_ => h_.1))) (Kd.S_base ho0) hb); have n1_ := ab' (l' (Kd.kR (Kd.R_mono (k' (p := ⟨gb511, 1, none⟩) (k' (p := ⟨gb511, 0, none⟩) (Kd.R_types HO503.out BK511.out (by decide)) (fun _ hk => hk.2) (.slice Ao24 t505.length co24)) (fun _ hk => hk.2) (.int .i64 t508)) (fun _ h_ => h_.1))) hb); have n2_ := ab' (m' (Kd.kN (b' (c' (p := ⟨gb511, 1, none⟩) (c' (p := ⟨gb511, 0, none⟩) (b' HO507.out (fun k_ hk => (⟨hk, hk.2⟩ : _ ∧ k_ ≠ gb511))) (fun _ hk => hk.2) (.slice Ao24 t505.length co24)) (fun _ hk => hk.2) (.int .i64 t508)) (fun _ h_ => h_.1))) (Kd.S_base ho0) hb); have n3_ := ab' (Kd.N_lower (b' (ok' := fun k_ => some k_ ≠ (.slice Ao18 t497.length co18 : Value).ownBlock ∧ some k_ ≠ (.slice Ao21 t501.length co21 : Value).ownBlock ∧ some k_ ≠ (.slice Ao24 t505.length co24 : Value).ownBlock ∧ k_ ≠ gb496 ∧ k_ ≠ gb504 ∧ k_ ≠ gb511) (Kd.S_N (Kd.S_bound ho0)) (fun k_ hk_ => ⟨(Kd.fresh' (Kd.N_lt (Kd.kN (b' (c' (p := ⟨gb511, 1, none⟩) (c' (p := ⟨gb511, 0, none⟩) (b' HO499.out (fun k_ hk => (⟨hk, hk.2⟩ : _ ∧ k_ ≠ gb511))) (fun _ hk => hk.2) (.slice Ao24 t505.length co24)) (fun _ hk => hk.2) (.int .i64 t508)) (fun _ h_ => h_.1)))) k_ hk_.2.1), (Kd.fresh' (Kd.R_lt (Kd.kR (Kd.R_mono (k' (p := ⟨gb511, 1, none⟩) (k' (p := ⟨gb511, 0, none⟩) (Kd.R_types HO503.out BK511.out (by decide)) (fun _ hk => hk.2) (.slice Ao24 t505.length co24)) (fun _ hk => hk.2) (.int .i64 t508)) (fun _ h_ => h_.1)))) k_ hk_.2.1), (Kd.fresh' (Kd.N_lt (Kd.kN (b' (c' (p := ⟨gb511, 1, none⟩) (c' (p := ⟨gb511, 0, none⟩) (b' HO507.out (fun k_ hk => (⟨hk, hk.2⟩ : _ ∧ k_ ≠ gb511))) (fun _ hk => hk.2) (.slice Ao24 t505.length co24)) (fun _ hk => hk.2) (.int .i64 t508)) (fun _ h_ => h_.1)))) k_ hk_.2.1), (Kd.freshB (g := gb496) (o := .cells #[.slice A0_0 l0_0.length c0_0, .int .i64 a0_1] 24 (0, 0)) (by refine eK ?_; refine g' ?_ NB496_511.out _; refine eK ?_; refine g' ?_ NB496_511.out _; refine eK ?_; exact BK496.out) k_ hk_.2.1), (Kd.freshB (g := gb504) (o := .cells #[.slice Ao18 t497.length co18, .int .i64 t500] 27 (0, 0)) (by refine eK ?_; refine g' ?_ NB504_511.out _; refine eK ?_; refine g' ?_ NB504_511.out _; refine eK ?_; exact BK504.out) k_ hk_.2.1), (Kd.freshB (g := gb511) (o := .cells #[.slice Ao24 t505.length co24, .int .i64 t508] 27 (0, 0)) (by refine eK ?_; refine blk_put (cs := #[.slice Ao24 t505.length co24, .int .i64 0]) ?_ 1 _ rfl; refine eK ?_; refine blk_put (cs := #[.slice none 0 0, .int .i64 0]) ?_ 0 _ rfl; refine eK ?_; exact BK511.out) k_ hk_.2.1)⟩)) (q' (eH HB))); have n4_ := ab' (d' (g := gb496) (o := .cells #[.slice A0_0 l0_0.length c0_0, .int .i64 a0_1] 24 (0, 0)) (by refine eK ?_; refine g' ?_ NB496_511.out _; refine eK ?_; refine g' ?_ NB496_511.out _; refine eK ?_; exact BK496.out) hb); have n5_ := ab' (d' (g := gb504) (o := .cells #[.slice Ao18 t497.length co18, .int .i64 t500] 27 (0, 0)) (by refine eK ?_; refine g' ?_ NB504_511.out _; refine eK ?_; refine g' ?_ NB504_511.out _; refine eK ?_; exact BK504.out) hb); have n6_ := ab' (d' (g := gb511) (o := .cells #[.slice Ao24 t505.length co24, .int .i64 t508] 27 (0, 0)) (by refine eK ?_; refine blk_put (cs := #[.slice Ao24 t505.length co24, .int .i64 0]) ?_ 1 _ rfl; refine eK ?_; refine blk_put (cs := #[.slice none 0 0, .int .i64 0]) ?_ 0 _ rfl; refine eK ?_; exact BK511.out) hb); have n7_ := ab' (j' (eH HB) hb); clear HO499; clear HO503; clear HO507; clear BK496; clear BK504; clear BK511; clear HB; have HO499 := n0_; have HO503 := n1_; have HO507 := n2_; have HO514 := n3_; have BK496 := n4_; have BK504 := n5_; have BK511 := n6_; have HB := n7_; clear n0_ n1_ n2_ n3_ n4_ n5_ n6_ n7_; (try clear hb); (try clear hb2); (try clear hk); (try clear hi); (try clear ho0)) | ((with_reducible refine gate_dst (N := 12) rfl ?_); refine box_event ?hg (N := 12) ?hd (cs := #[.slice none 0 0, .int .i64 0]) (t := 24) ?hr ?_; (case hd => rfl); (case hg => rfl); (case hr => go_simp <;> rfl); intro gb518 hg w30 hbox hb; have n0_ := ab' (e' (Kd.N_elderB (Kd.eN HO499) gb518 (Nat.le_of_eq hg.symm)) hb); have n1_ := ab' (l' (Kd.eR HO503) hb); have n2_ := ab' (e' (Kd.N_elderB (Kd.eN HO507) gb518 (Nat.le_of_eq hg.symm)) hb); have n3_ := ab' (e' (Kd.N_elderB (Kd.eN HO514) gb518 (Nat.le_of_eq hg.symm)) hb); have n4_ := ab' (d' (g := gb496) (o := .cells #[.slice A0_0 l0_0.length c0_0, .int .i64 a0_1] 24 (0, 0)) (eB BK496) hb); have n5_ := ab' (d' (g := gb504) (o := .cells #[.slice Ao18 t497.length co18, .int .i64 t500] 27 (0, 0)) (eB BK504) hb); have n6_ := ab' (d' (g := gb511) (o := .cells #[.slice Ao24 t505.length co24, .int .i64 t508] 27 (0, 0)) (eB BK511) hb); have n7_ := ab' (j' (eH HB) hb); have n8_ := ab' (hbox); have n9_ := ab' ((by rw [hg]; exact (q' (eH HB)) : w.heap.size ≤ gb518)); have n10_ := ab' ((by rw [hg]; exact (q' (eH HB)) : w.heap.size ≤ gb518)); have n11_ := ab' ((by rw [hg]; exact Nat.ne_of_lt (blk_lt (g := gb496) (o := .cells #[.slice A0_0 l0_0.length c0_0, .int .i64 a0_1] 24 (0, 0)) (eB BK496)) : gb496 ≠ gb518)); have n12_ := ab' ((by rw [hg]; exact Nat.ne_of_gt (blk_lt (g := gb496) (o := .cells #[.slice A0_0 l0_0.length c0_0, .int .i64 a0_1] 24 (0, 0)) (eB BK496)) : gb518 ≠ gb496)); have n13_ := ab' ((by rw [hg]; exact Nat.ne_of_lt (blk_lt (g := gb504) (o := .cells #[.slice Ao18 t497.length co18, .int .i64 t500] 27 (0, 0)) (eB BK504)) : gb504 ≠ gb518)); have n14_ := ab' ((by rw [hg]; exact Nat.ne_of_gt (blk_lt (g := gb504) (o := .cells #[.slice Ao18 t497.length co18, .int .i64 t500] 27 (0, 0)) (eB BK504)) : gb518 ≠ gb504)); have n15_ := ab' ((by rw [hg]; exact Nat.ne_of_lt (blk_lt (g := gb511) (o := .cells #[.slice Ao24 t505.length co24, .int .i64 t508] 27 (0, 0)) (eB BK511)) : gb511 ≠ gb518)); have n16_ := ab' ((by rw [hg]; exact Nat.ne_of_gt (blk_lt (g := gb511) (o := .cells #[.slice Ao24 t505.length co24, .int .i64 t508] 27 (0, 0)) (eB BK511)) : gb518 ≠ gb511)); clear HO499; clear HO503; clear HO507; clear HO514; clear BK496; clear BK504; clear BK511; clear HB; have HO499 := n0_; have HO503 := n1_; have HO507 := n2_; have HO514 := n3_; have BK496 := n4_; have BK504 := n5_; have BK511 := n6_; have HB := n7_; have BK518 := n8_; have GW518 := n9_; have GE518 := n10_; have NB496_518 := n11_; have NB518_496 := n12_; have NB504_518 := n13_; have NB518_504 := n14_; have NB511_518 := n15_; have NB518_511 := n16_; clear n0_ n1_ n2_ n3_ n4_ n5_ n6_ n7_ n8_ n9_ n10_ n11_ n12_ n13_ n14_ n15_ n16_; clear hb hbox hg; obtain ⟨Ao31, co31, eo31⟩ := Kd.N_slice HO514.out; subst eo31; have hnb32 := NB518_496.out; have hnc32 := NB496_518.out; have hnb33 := NB518_504.out; have hnc33 := NB504_518.out; have hnb34 := NB518_511.out; have hnc34 := NB511_518.out; have hcz35_0 : w30.cell? ⟨gb518, 0, none⟩ = some (.slice none 0 0) := (f' BK518.out 0).trans rfl; have hcz35_1 : w30.cell? ⟨gb518, 1, none⟩ = some (.int .i64 0) := (f' BK518.out 1).trans rfl; have hfz35_0 := h' BK518.out 0; have hfz35_1 := h' BK518.out 1; have hcz36_0 : w30.cell? ⟨gb504, 0, none⟩ = some (.slice Ao18 t497.length co18) := (f' BK504.out 0).trans rfl; have hcz36_1 : w30.cell? ⟨gb504, 1, none⟩ = some (.int .i64 t500) := (f' BK504.out 1).trans rfl; have hfz36_0 := h' BK504.out 0; have hfz36_1 := h' BK504.out 1) | ((with_reducible refine gate_callee (f := 16) rfl ?_); refine goesL_ (some 43) rfl rfl Try.func16 (by kernel_rfl) rfl #[.agg #[.slice Ao18 t497.length co18, .int .i64 t500]] rfl (by (try simp only [v', x', y']); first | done | rfl | (simp only [z', aa']; rfl)) ?_; (with_reducible refine (wal_Records.calls k _ _ t497 t500 t519 t522 _ ?side1 ?side2 A8.out).mono ?_); (case side1 => refine (Kd.N_reads' (e := 25) (base := w.heap.size) (ok := fun k_ => ((((((k_ ≠ gb496 ∧ some k_ ≠ (.slice Ao21 t501.length co21 : Value).ownBlock) ∧ k_ ≠ gb504) ∧ some k_ ≠ (.slice Ao24 t505.length co24 : Value).ownBlock) ∧ k_ ≠ gb511) ∧ some k_ ≠ (.slice Ao31 t512.length co31 : Value).ownBlock) ∧ k_ ≠ gb518)) (n := t497.length) (c := co18) ?_).2.2; exact (Kd.kN (b' (c' (p := ⟨gb518, 1, none⟩) (c' (p := ⟨gb518, 0, none⟩) (b' HO499.out (fun k_ hk => (⟨hk, hk.2⟩ : _ ∧ k_ ≠ gb518))) (fun _ hk => hk.2) (.slice Ao31 t512.length co31)) (fun _ hk => hk.2) (.int .i64 t515)) (fun _ h_ => h_.1)))); (case side2 => exact (Kd.N_reads' HO499.out).2.1); rintro e w37 ⟨v520, rfl, ho0, hb⟩; refine ⟨_, rfl, ?_⟩; have n0_ := ab' (m' (Kd.kN (b' (c' (p := ⟨gb518, 1, none⟩) (c' (p := ⟨gb518, 0, none⟩) (b' HO499.out (fun k_ hk => (⟨hk, hk.2⟩ : _ ∧ k_ ≠ gb518))) (fun _ hk => hk.2) (.slice Ao31 t512.length co31)) (fun _ hk => hk.2) (.int .i64 t515)) (fun _ h_ => h_.1))) (Kd.N_base ho0) hb); have n1_ := ab' (l' (Kd.kR (Kd.R_mono (k' (p := ⟨gb518, 1, none⟩) (k' (p := ⟨gb518, 0, none⟩) (Kd.R_types HO503.out BK518.out (by decide)) (fun _ hk => hk.2) (.slice Ao31 t512.length co31)) (fun _ hk => hk.2) (.int .i64 t515)) (fun _ h_ => h_.1))) hb); have n2_ := ab' (m' (Kd.kN (b' (c' (p := ⟨gb518, 1, none⟩) (c' (p := ⟨gb518, 0, none⟩) (b' HO507.out (fun k_ hk => (⟨hk, hk.2⟩ : _ ∧ k_ ≠ gb518))) (fun _ hk => hk.2) (.slice Ao31 t512.length co31)) (fun _ hk => hk.2) (.int .i64 t515)) (fun _ h_ => h_.1))) (Kd.N_base ho0) hb); have n3_ := ab' (m' (Kd.kN (b' (c' (p := ⟨gb518, 1, none⟩) (c' (p := ⟨gb518, 0, none⟩) (b' HO514.out (fun k_ hk => (⟨hk, hk.2⟩ : _ ∧ k_ ≠ gb518))) (fun _ hk => hk.2) (.slice Ao31 t512.length co31)) (fun _ hk => hk.2) (.int .i64 t515)) (fun _ h_ => h_.1))) (Kd.N_base ho0) hb); have n4_ := ab' (Kd.N_lower (b' (ok' := fun k_ => some k_ ≠ (.slice Ao18 t497.length co18 : Value).ownBlock ∧ some k_ ≠ (.slice Ao21 t501.length co21 : Value).ownBlock ∧ some k_ ≠ (.slice Ao24 t505.length co24 : Value).ownBlock ∧ some k_ ≠ (.slice Ao31 t512.length co31 : Value).ownBlock ∧ k_ ≠ gb496 ∧ k_ ≠ gb504 ∧ k_ ≠ gb511 ∧ k_ ≠ gb518) ho0 (fun k_ hk_ => ⟨(Kd.fresh' (Kd.N_lt (Kd.kN (b' (c' (p := ⟨gb518, 1, none⟩) (c' (p := ⟨gb518, 0, none⟩) (b' HO499.out (fun k_ hk => (⟨hk, hk.2⟩ : _ ∧ k_ ≠ gb518))) (fun _ hk => hk.2) (.slice Ao31 t512.length co31)) (fun _ hk => hk.2) (.int .i64 t515)) (fun _ h_ => h_.1)))) k_ hk_), (Kd.fresh' (Kd.R_lt (Kd.kR (Kd.R_mono (k' (p := ⟨gb518, 1, none⟩) (k' (p := ⟨gb518, 0, none⟩) (Kd.R_types HO503.out BK518.out (by decide)) (fun _ hk => hk.2) (.slice Ao31 t512.length co31)) (fun _ hk => hk.2) (.int .i64 t515)) (fun _ h_ => h_.1)))) k_ hk_), (Kd.fresh' (Kd.N_lt (Kd.kN (b' (c' (p := ⟨gb518, 1, none⟩) (c' (p := ⟨gb518, 0, none⟩) (b' HO507.out (fun k_ hk => (⟨hk, hk.2⟩ : _ ∧ k_ ≠ gb518))) (fun _ hk => hk.2) (.slice Ao31 t512.length co31)) (fun _ hk => hk.2) (.int .i64 t515)) (fun _ h_ => h_.1)))) k_ hk_), (Kd.fresh' (Kd.N_lt (Kd.kN (b' (c' (p := ⟨gb518, 1, none⟩) (c' (p := ⟨gb518, 0, none⟩) (b' HO514.out (fun k_ hk => (⟨hk, hk.2⟩ : _ ∧ k_ ≠ gb518))) (fun _ hk => hk.2) (.slice Ao31 t512.length co31)) (fun _ hk => hk.2) (.int .i64 t515)) (fun _ h_ => h_.1)))) k_ hk_), (Kd.freshB (g := gb496) (o := .cells #[.slice A0_0 l0_0.length c0_0, .int .i64 a0_1] 24 (0, 0)) (by refine eK ?_; refine g' ?_ NB496_518.out _; refine eK ?_; refine g' ?_ NB496_518.out _; refine eK ?_; exact BK496.out) k_ hk_), (Kd.freshB (g := gb504) (o := .cells #[.slice Ao18 t497.length co18, .int .i64 t500] 27 (0, 0)) (by refine eK ?_; refine g' ?_ NB504_518.out _; refine eK ?_; refine g' ?_ NB504_518.out _; refine eK ?_; exact BK504.out) k_ hk_), (Kd.freshB (g := gb511) (o := .cells #[.slice Ao24 t505.length co24, .int .i64 t508] 27 (0, 0)) (by refine eK ?_; refine g' ?_ NB511_518.out _; refine eK ?_; refine g' ?_ NB511_518.out _; refine eK ?_; exact BK511.out) k_ hk_), (Kd.freshB (g := gb518) (o := .cells #[.slice Ao31 t512.length co31, .int .i64 t515] 24 (0, 0)) (by refine eK ?_; refine blk_put (cs := #[.slice Ao31 t512.length co31, .int .i64 0]) ?_ 1 _ rfl; refine eK ?_; refine blk_put (cs := #[.slice none 0 0, .int .i64 0]) ?_ 0 _ rfl; refine eK ?_; exact BK518.out) k_ hk_)⟩)) (q' (eH HB))); have n5_ := ab' (d' (g := gb496) (o := .cells #[.slice A0_0 l0_0.length c0_0, .int .i64 a0_1] 24 (0, 0)) (by refine eK ?_; refine g' ?_ NB496_518.out _; refine eK ?_; refine g' ?_ NB496_518.out _; refine eK ?_; exact BK496.out) hb); have n6_ := ab' (d' (g := gb504) (o := .cells #[.slice Ao18 t497.length co18, .int .i64 t500] 27 (0, 0)) (by refine eK ?_; refine g' ?_ NB504_518.out _; refine eK ?_; refine g' ?_ NB504_518.out _; refine eK ?_; exact BK504.out) hb); have n7_ := ab' (d' (g := gb511) (o := .cells #[.slice Ao24 t505.length co24, .int .i64 t508] 27 (0, 0)) (by refine eK ?_; refine g' ?_ NB511_518.out _; refine eK ?_; refine g' ?_ NB511_518.out _; refine eK ?_; exact BK511.out) hb); have n8_ := ab' (d' (g := gb518) (o := .cells #[.slice Ao31 t512.length co31, .int .i64 t515] 24 (0, 0)) (by refine eK ?_; refine blk_put (cs := #[.slice Ao31 t512.length co31, .int .i64 0]) ?_ 1 _ rfl; refine eK ?_; refine blk_put (cs := #[.slice none 0 0, .int .i64 0]) ?_ 0 _ rfl; refine eK ?_; exact BK518.out) hb); have n9_ := ab' (j' (eH HB) hb); clear HO499; clear HO503; clear HO507; clear HO514; clear BK496; clear BK504; clear BK511; clear BK518; clear HB; have HO499 := n0_; have HO503 := n1_; have HO507 := n2_; have HO514 := n3_; have HO521 := n4_; have BK496 := n5_; have BK504 := n6_; have BK511 := n7_; have BK518 := n8_; have HB := n9_; clear n0_ n1_ n2_ n3_ n4_ n5_ n6_ n7_ n8_ n9_; (try clear hb); (try clear hb2); (try clear hk); (try clear hi); (try clear ho0); have hcz38_0 : w37.cell? ⟨gb496, 0, none⟩ = some (.slice A0_0 l0_0.length c0_0) := (f' BK496.out 0).trans rfl; have hcz38_1 : w37.cell? ⟨gb496, 1, none⟩ = some (.int .i64 a0_1) := (f' BK496.out 1).trans rfl; have hfz38_0 := h' BK496.out 0; have hfz38_1 := h' BK496.out 1) | ((with_reducible refine gate_callee (f := 17) rfl ?_); refine goesL_ (some 48) rfl rfl Try.func17 (by kernel_rfl) rfl #[.agg #[.slice A0_0 l0_0.length c0_0, .int .i64 a0_1]] rfl (by (try simp only [v', x', y']); first | done | rfl | (simp only [z', aa']; rfl)) ?_; (with_reducible refine (fanlightref06_Records.calls k _ _ l0_0 a0_1 t523 t526 _ ?side1 ?side2 A9.out).mono ?_); (case side1 => exact Kd.eC HR0_0 HB); (case side2 => exact HC0_0.out); rintro e w39 ⟨v524, rfl, ho0, hb⟩; refine ⟨_, rfl, ?_⟩; have n0_ := ab' (m' (Kd.eN HO499) (Kd.N_base ho0) hb); have n1_ := ab' (l' (Kd.eR HO503) hb); have n2_ := ab' (m' (Kd.eN HO507) (Kd.N_base ho0) hb); have n3_ := ab' (m' (Kd.eN HO514) (Kd.N_base ho0) hb); have n4_ := ab' (m' (Kd.eN HO521) (Kd.N_base ho0) hb); have n5_ := ab' (Kd.N_lower (b' (ok' := fun k_ => some k_ ≠ (.slice Ao18 t497.length co18 : Value).ownBlock ∧ some k_ ≠ (.slice Ao21 t501.length co21 : Value).ownBlock ∧ some k_ ≠ (.slice Ao24 t505.length co24 : Value).ownBlock ∧ some k_ ≠ (.slice Ao31 t512.length co31 : Value).ownBlock ∧ some k_ ≠ (v520 : Value).ownBlock ∧ k_ ≠ gb496 ∧ k_ ≠ gb504 ∧ k_ ≠ gb511 ∧ k_ ≠ gb518) ho0 (fun k_ hk_ => ⟨(Kd.fresh' (Kd.N_lt (Kd.eN HO499)) k_ hk_), (Kd.fresh' (Kd.R_lt (Kd.eR HO503)) k_ hk_), (Kd.fresh' (Kd.N_lt (Kd.eN HO507)) k_ hk_), (Kd.fresh' (Kd.N_lt (Kd.eN HO514)) k_ hk_), (Kd.fresh' (Kd.N_lt (Kd.eN HO521)) k_ hk_), (Kd.freshB (g := gb496) (o := .cells #[.slice A0_0 l0_0.length c0_0, .int .i64 a0_1] 24 (0, 0)) (eB BK496) k_ hk_), (Kd.freshB (g := gb504) (o := .cells #[.slice Ao18 t497.length co18, .int .i64 t500] 27 (0, 0)) (eB BK504) k_ hk_), (Kd.freshB (g := gb511) (o := .cells #[.slice Ao24 t505.length co24, .int .i64 t508] 27 (0, 0)) (eB BK511) k_ hk_), (Kd.freshB (g := gb518) (o := .cells #[.slice Ao31 t512.length co31, .int .i64 t515] 24 (0, 0)) (eB BK518) k_ hk_)⟩)) (q' (eH HB))); have n6_ := ab' (d' (g := gb496) (o := .cells #[.slice A0_0 l0_0.length c0_0, .int .i64 a0_1] 24 (0, 0)) (eB BK496) hb); have n7_ := ab' (d' (g := gb504) (o := .cells #[.slice Ao18 t497.length co18, .int .i64 t500] 27 (0, 0)) (eB BK504) hb); have n8_ := ab' (d' (g := gb511) (o := .cells #[.slice Ao24 t505.length co24, .int .i64 t508] 27 (0, 0)) (eB BK511) hb); have n9_ := ab' (d' (g := gb518) (o := .cells #[.slice Ao31 t512.length co31, .int .i64 t515] 24 (0, 0)) (eB BK518) hb); have n10_ := ab' (j' (eH HB) hb); clear HO499; clear HO503; clear HO507; clear HO514; clear HO521; clear BK496; clear BK504; clear BK511; clear BK518; clear HB; have HO499 := n0_; have HO503 := n1_; have HO507 := n2_; have HO514 := n3_; have HO521 := n4_; have HO525 := n5_; have BK496 := n6_; have BK504 := n7_; have BK511 := n8_; have BK518 := n9_; have HB := n10_; clear n0_ n1_ n2_ n3_ n4_ n5_ n6_ n7_ n8_ n9_ n10_; (try clear hb); (try clear hb2); (try clear hk); (try clear hi); (try clear ho0); have hcz40_0 : w39.cell? ⟨gb504, 0, none⟩ = some (.slice Ao18 t497.length co18) := (f' BK504.out 0).trans rfl; have hcz40_1 : w39.cell? ⟨gb504, 1, none⟩ = some (.int .i64 t500) := (f' BK504.out 1).trans rfl; have hfz40_0 := h' BK504.out 0; have hfz40_1 := h' BK504.out 1) | ((with_reducible refine gate_callee (f := 18) rfl ?_); refine goesL_ (some 54) rfl rfl Try.func18 (by kernel_rfl) rfl #[.agg #[.slice Ao18 t497.length co18, .int .i64 t500], .int .i64 a2] rfl (by (try simp only [v', x', y']); first | done | rfl | (simp only [z', aa']; rfl)) ?_; (with_reducible refine (wal_Drop.calls k _ _ t497 t500 a2 t527 t530 t531 _ ?side1 ?side2 A10.out).mono ?_); (case side1 => exact Kd.kC (Kd.N_reads' HO499.out).2.2); (case side2 => exact (Kd.N_reads' HO499.out).2.1); rintro e w41 ⟨v528, rfl, ho0, hb⟩; refine ⟨_, rfl, ?_⟩; have n0_ := ab' (m' (Kd.eN HO499) (Kd.Q_base ho0) hb); have n1_ := ab' (l' (Kd.eR HO503) hb); have n2_ := ab' (m' (Kd.eN HO507) (Kd.Q_base ho0) hb); have n3_ := ab' (m' (Kd.eN HO514) (Kd.Q_base ho0) hb); have n4_ := ab' (m' (Kd.eN HO521) (Kd.Q_base ho0) hb); have n5_ := ab' (m' (Kd.eN HO525) (Kd.Q_base ho0) hb); have n6_ := ab' (Kd.Q_lower (Kd.Q_new' (Kd.Q_new' (Kd.Q_new' (Kd.Q_new' ho0 (Kd.N_lt (Kd.eN HO499))) (Kd.R_lt (Kd.eR HO503))) (Kd.N_lt (Kd.eN HO507))) (Kd.N_lt (Kd.eN HO514))) (q' (eH HB))); have n7_ := ab' (d' (g := gb496) (o := .cells #[.slice A0_0 l0_0.length c0_0, .int .i64 a0_1] 24 (0, 0)) (eB BK496) hb); have n8_ := ab' (d' (g := gb504) (o := .cells #[.slice Ao18 t497.length co18, .int .i64 t500] 27 (0, 0)) (eB BK504) hb); have n9_ := ab' (d' (g := gb511) (o := .cells #[.slice Ao24 t505.length co24, .int .i64 t508] 27 (0, 0)) (eB BK511) hb); have n10_ := ab' (d' (g := gb518) (o := .cells #[.slice Ao31 t512.length co31, .int .i64 t515] 24 (0, 0)) (eB BK518) hb); have n11_ := ab' (j' (eH HB) hb); clear HO499; clear HO503; clear HO507; clear HO514; clear HO521; clear HO525; clear BK496; clear BK504; clear BK511; clear BK518; clear HB; have HO499 := n0_; have HO503 := n1_; have HO507 := n2_; have HO514 := n3_; have HO521 := n4_; have HO525 := n5_; have HO529 := n6_; have BK496 := n7_; have BK504 := n8_; have BK511 := n9_; have BK518 := n10_; have HB := n11_; clear n0_ n1_ n2_ n3_ n4_ n5_ n6_ n7_ n8_ n9_ n10_ n11_; (try clear hb); (try clear hb2); (try clear hk); (try clear hi); (try clear ho0)) | ((with_reducible refine gate_dst (N := 19) rfl ?_); refine box_event ?hg (N := 19) ?hd (cs := #[.slice none 0 0, .int .i64 0]) (t := 27) ?hr ?_; (case hd => rfl); (case hg => rfl); (case hr => go_simp <;> rfl); intro gb532 hg w42 hbox hb; have n0_ := ab' (e' (Kd.N_elderB (Kd.eN HO499) gb532 (Nat.le_of_eq hg.symm)) hb); have n1_ := ab' (l' (Kd.eR HO503) hb); have n2_ := ab' (e' (Kd.N_elderB (Kd.eN HO507) gb532 (Nat.le_of_eq hg.symm)) hb); have n3_ := ab' (e' (Kd.N_elderB (Kd.eN HO514) gb532 (Nat.le_of_eq hg.symm)) hb); have n4_ := ab' (e' (Kd.N_elderB (Kd.eN HO521) gb532 (Nat.le_of_eq hg.symm)) hb); have n5_ := ab' (e' (Kd.N_elderB (Kd.eN HO525) gb532 (Nat.le_of_eq hg.symm)) hb); have n6_ := ab' (Kd.Q_below (Kd.eQ HO529) hb); have n7_ := ab' (d' (g := gb496) (o := .cells #[.slice A0_0 l0_0.length c0_0, .int .i64 a0_1] 24 (0, 0)) (eB BK496) hb); have n8_ := ab' (d' (g := gb504) (o := .cells #[.slice Ao18 t497.length co18, .int .i64 t500] 27 (0, 0)) (eB BK504) hb); have n9_ := ab' (d' (g := gb511) (o := .cells #[.slice Ao24 t505.length co24, .int .i64 t508] 27 (0, 0)) (eB BK511) hb); have n10_ := ab' (d' (g := gb518) (o := .cells #[.slice Ao31 t512.length co31, .int .i64 t515] 24 (0, 0)) (eB BK518) hb); have n11_ := ab' (j' (eH HB) hb); have n12_ := ab' (hbox); have n13_ := ab' ((by rw [hg]; exact (q' (eH HB)) : w.heap.size ≤ gb532)); have n14_ := ab' ((by rw [hg]; exact (q' (eH HB)) : w.heap.size ≤ gb532)); have n15_ := ab' ((by rw [hg]; exact Nat.ne_of_lt (blk_lt (g := gb496) (o := .cells #[.slice A0_0 l0_0.length c0_0, .int .i64 a0_1] 24 (0, 0)) (eB BK496)) : gb496 ≠ gb532)); have n16_ := ab' ((by rw [hg]; exact Nat.ne_of_gt (blk_lt (g := gb496) (o := .cells #[.slice A0_0 l0_0.length c0_0, .int .i64 a0_1] 24 (0, 0)) (eB BK496)) : gb532 ≠ gb496)); have n17_ := ab' ((by rw [hg]; exact Nat.ne_of_lt (blk_lt (g := gb504) (o := .cells #[.slice Ao18 t497.length co18, .int .i64 t500] 27 (0, 0)) (eB BK504)) : gb504 ≠ gb532)); have n18_ := ab' ((by rw [hg]; exact Nat.ne_of_gt (blk_lt (g := gb504) (o := .cells #[.slice Ao18 t497.length co18, .int .i64 t500] 27 (0, 0)) (eB BK504)) : gb532 ≠ gb504)); have n19_ := ab' ((by rw [hg]; exact Nat.ne_of_lt (blk_lt (g := gb511) (o := .cells #[.slice Ao24 t505.length co24, .int .i64 t508] 27 (0, 0)) (eB BK511)) : gb511 ≠ gb532)); have n20_ := ab' ((by rw [hg]; exact Nat.ne_of_gt (blk_lt (g := gb511) (o := .cells #[.slice Ao24 t505.length co24, .int .i64 t508] 27 (0, 0)) (eB BK511)) : gb532 ≠ gb511)); have n21_ := ab' ((by rw [hg]; exact Nat.ne_of_lt (blk_lt (g := gb518) (o := .cells #[.slice Ao31 t512.length co31, .int .i64 t515] 24 (0, 0)) (eB BK518)) : gb518 ≠ gb532)); have n22_ := ab' ((by rw [hg]; exact Nat.ne_of_gt (blk_lt (g := gb518) (o := .cells #[.slice Ao31 t512.length co31, .int .i64 t515] 24 (0, 0)) (eB BK518)) : gb532 ≠ gb518)); clear HO499; clear HO503; clear HO507; clear HO514; clear HO521; clear HO525; clear HO529; clear BK496; clear BK504; clear BK511; clear BK518; clear HB; have HO499 := n0_; have HO503 := n1_; have HO507 := n2_; have HO514 := n3_; have HO521 := n4_; have HO525 := n5_; have HO529 := n6_; have BK496 := n7_; have BK504 := n8_; have BK511 := n9_; have BK518 := n10_; have HB := n11_; have BK532 := n12_; have GW532 := n13_; have GE532 := n14_; have NB496_532 := n15_; have NB532_496 := n16_; have NB504_532 := n17_; have NB532_504 := n18_; have NB511_532 := n19_; have NB532_511 := n20_; have NB518_532 := n21_; have NB532_518 := n22_; clear n0_ n1_ n2_ n3_ n4_ n5_ n6_ n7_ n8_ n9_ n10_ n11_ n12_ n13_ n14_ n15_ n16_ n17_ n18_ n19_ n20_ n21_ n22_; clear hb hbox hg; obtain ⟨Ao43, co43, eo43, _⟩ := Kd.Q_slice HO529.out; subst eo43; have hnb44 := NB532_496.out; have hnc44 := NB496_532.out; have hnb45 := NB532_504.out; have hnc45 := NB504_532.out; have hnb46 := NB532_511.out; have hnc46 := NB511_532.out; have hnb47 := NB532_518.out; have hnc47 := NB518_532.out; have hcz48_0 : w42.cell? ⟨gb532, 0, none⟩ = some (.slice none 0 0) := (f' BK532.out 0).trans rfl; have hcz48_1 : w42.cell? ⟨gb532, 1, none⟩ = some (.int .i64 0) := (f' BK532.out 1).trans rfl; have hfz48_0 := h' BK532.out 0; have hfz48_1 := h' BK532.out 1; have hcz49_0 : w42.cell? ⟨gb496, 0, none⟩ = some (.slice A0_0 l0_0.length c0_0) := (f' BK496.out 0).trans rfl; have hcz49_1 : w42.cell? ⟨gb496, 1, none⟩ = some (.int .i64 a0_1) := (f' BK496.out 1).trans rfl; have hfz49_0 := h' BK496.out 0; have hfz49_1 := h' BK496.out 1) | ((with_reducible refine gate_callee (f := 19) rfl ?_); refine goesL_ (some 60) rfl rfl Try.func19 (by kernel_rfl) rfl #[.agg #[.slice A0_0 l0_0.length c0_0, .int .i64 a0_1], .int .i64 a2] rfl (by (try simp only [v', x', y']); first | done | rfl | (simp only [z', aa']; rfl)) ?_; (with_reducible refine (fanlightref06_Drop.calls k _ _ l0_0 a0_1 a2 t533 t536 t537 _ ?side1 ?side2 A11.out).mono ?_); (case side1 => exact Kd.C_below HR0_0.out (eH HB)); (case side2 => exact HC0_0.out); rintro e w50 ⟨v534, rfl, ho0, hb⟩; refine ⟨_, rfl, ?_⟩; have n0_ := ab' (m' (Kd.kN (b' (c' (p := ⟨gb532, 1, none⟩) (c' (p := ⟨gb532, 0, none⟩) (b' HO499.out (fun k_ hk => (⟨hk, hk.2⟩ : _ ∧ k_ ≠ gb532))) (fun _ hk => hk.2) (.slice Ao43 t527.length co43)) (fun _ hk => hk.2) (.int .i64 t530)) (fun _ h_ => h_.1))) (Kd.Q_base ho0) hb); have n1_ := ab' (l' (Kd.kR (Kd.R_mono (k' (p := ⟨gb532, 1, none⟩) (k' (p := ⟨gb532, 0, none⟩) (Kd.R_types HO503.out BK532.out (by decide)) (fun _ hk => hk.2) (.slice Ao43 t527.length co43)) (fun _ hk => hk.2) (.int .i64 t530)) (fun _ h_ => h_.1))) hb); have n2_ := ab' (m' (Kd.kN (b' (c' (p := ⟨gb532, 1, none⟩) (c' (p := ⟨gb532, 0, none⟩) (b' HO507.out (fun k_ hk => (⟨hk, hk.2⟩ : _ ∧ k_ ≠ gb532))) (fun _ hk => hk.2) (.slice Ao43 t527.length co43)) (fun _ hk => hk.2) (.int .i64 t530)) (fun _ h_ => h_.1))) (Kd.Q_base ho0) hb); have n3_ := ab' (m' (Kd.kN (b' (c' (p := ⟨gb532, 1, none⟩) (c' (p := ⟨gb532, 0, none⟩) (b' HO514.out (fun k_ hk => (⟨hk, hk.2⟩ : _ ∧ k_ ≠ gb532))) (fun _ hk => hk.2) (.slice Ao43 t527.length co43)) (fun _ hk => hk.2) (.int .i64 t530)) (fun _ h_ => h_.1))) (Kd.Q_base ho0) hb); have n4_ := ab' (m' (Kd.kN (b' (c' (p := ⟨gb532, 1, none⟩) (c' (p := ⟨gb532, 0, none⟩) (b' HO521.out (fun k_ hk => (⟨hk, hk.2⟩ : _ ∧ k_ ≠ gb532))) (fun _ hk => hk.2) (.slice Ao43 t527.length co43)) (fun _ hk => hk.2) (.int .i64 t530)) (fun _ h_ => h_.1))) (Kd.Q_base ho0) hb); have n5_ := ab' (m' (Kd.kN (b' (c' (p := ⟨gb532, 1, none⟩) (c' (p := ⟨gb532, 0, none⟩) (b' HO525.out (fun k_ hk => (⟨hk, hk.2⟩ : _ ∧ k_ ≠ gb532))) (fun _ hk => hk.2) (.slice Ao43 t527.length co43)) (fun _ hk => hk.2) (.int .i64 t530)) (fun _ h_ => h_.1))) (Kd.Q_base ho0) hb); have n6_ := ab' (Kd.Q_elder' (Kd.kQ (Kd.Q_mono (Kd.Q_far (p := ⟨gb532, 1, none⟩) (Kd.Q_far (p := ⟨gb532, 0, none⟩) (Kd.Q_types HO529.out BK532.out (by decide)) (fun _ hk => hk.2) (.slice Ao43 t527.length co43)) (fun _ hk => hk.2) (.int .i64 t530)) (fun _ h_ => h_.1))) (Kd.Q_base ho0) hb); have n7_ := ab' (Kd.Q_lower (Kd.Q_new' (Kd.Q_new' (Kd.Q_new' (Kd.Q_new' (Kd.Q_new' ho0 (Kd.N_lt (Kd.kN (b' (c' (p := ⟨gb532, 1, none⟩) (c' (p := ⟨gb532, 0, none⟩) (b' HO499.out (fun k_ hk => (⟨hk, hk.2⟩ : _ ∧ k_ ≠ gb532))) (fun _ hk => hk.2) (.slice Ao43 t527.length co43)) (fun _ hk => hk.2) (.int .i64 t530)) (fun _ h_ => h_.1))))) (Kd.R_lt (Kd.kR (Kd.R_mono (k' (p := ⟨gb532, 1, none⟩) (k' (p := ⟨gb532, 0, none⟩) (Kd.R_types HO503.out BK532.out (by decide)) (fun _ hk => hk.2) (.slice Ao43 t527.length co43)) (fun _ hk => hk.2) (.int .i64 t530)) (fun _ h_ => h_.1))))) (Kd.N_lt (Kd.kN (b' (c' (p := ⟨gb532, 1, none⟩) (c' (p := ⟨gb532, 0, none⟩) (b' HO507.out (fun k_ hk => (⟨hk, hk.2⟩ : _ ∧ k_ ≠ gb532))) (fun _ hk => hk.2) (.slice Ao43 t527.length co43)) (fun _ hk => hk.2) (.int .i64 t530)) (fun _ h_ => h_.1))))) (Kd.N_lt (Kd.kN (b' (c' (p := ⟨gb532, 1, none⟩) (c' (p := ⟨gb532, 0, none⟩) (b' HO514.out (fun k_ hk => (⟨hk, hk.2⟩ : _ ∧ k_ ≠ gb532))) (fun _ hk => hk.2) (.slice Ao43 t527.length co43)) (fun _ hk => hk.2) (.int .i64 t530)) (fun _ h_ => h_.1))))) (Kd.Q_lt (Kd.kQ (Kd.Q_mono (Kd.Q_far (p := ⟨gb532, 1, none⟩) (Kd.Q_far (p := ⟨gb532, 0, none⟩) (Kd.Q_types HO529.out BK532.out (by decide)) (fun _ hk => hk.2) (.slice Ao43 t527.length co43)) (fun _ hk => hk.2) (.int .i64 t530)) (fun _ h_ => h_.1))))) (q' (eH HB))); have n8_ := ab' (d' (g := gb496) (o := .cells #[.slice A0_0 l0_0.length c0_0, .int .i64 a0_1] 24 (0, 0)) (by refine eK ?_; refine g' ?_ NB496_532.out _; refine eK ?_; refine g' ?_ NB496_532.out _; refine eK ?_; exact BK496.out) hb); have n9_ := ab' (d' (g := gb504) (o := .cells #[.slice Ao18 t497.length co18, .int .i64 t500] 27 (0, 0)) (by refine eK ?_; refine g' ?_ NB504_532.out _; refine eK ?_; refine g' ?_ NB504_532.out _; refine eK ?_; exact BK504.out) hb); have n10_ := ab' (d' (g := gb511) (o := .cells #[.slice Ao24 t505.length co24, .int .i64 t508] 27 (0, 0)) (by refine eK ?_; refine g' ?_ NB511_532.out _; refine eK ?_; refine g' ?_ NB511_532.out _; refine eK ?_; exact BK511.out) hb); have n11_ := ab' (d' (g := gb518) (o := .cells #[.slice Ao31 t512.length co31, .int .i64 t515] 24 (0, 0)) (by refine eK ?_; refine g' ?_ NB518_532.out _; refine eK ?_; refine g' ?_ NB518_532.out _; refine eK ?_; exact BK518.out) hb); have n12_ := ab' (d' (g := gb532) (o := .cells #[.slice Ao43 t527.length co43, .int .i64 t530] 27 (0, 0)) (by refine eK ?_; refine blk_put (cs := #[.slice Ao43 t527.length co43, .int .i64 0]) ?_ 1 _ rfl; refine eK ?_; refine blk_put (cs := #[.slice none 0 0, .int .i64 0]) ?_ 0 _ rfl; refine eK ?_; exact BK532.out) hb); have n13_ := ab' (j' (eH HB) hb); clear HO499; clear HO503; clear HO507; clear HO514; clear HO521; clear HO525; clear HO529; clear BK496; clear BK504; clear BK511; clear BK518; clear BK532; clear HB; have HO499 := n0_; have HO503 := n1_; have HO507 := n2_; have HO514 := n3_; have HO521 := n4_; have HO525 := n5_; have HO529 := n6_; have HO535 := n7_; have BK496 := n8_; have BK504 := n9_; have BK511 := n10_; have BK518 := n11_; have BK532 := n12_; have HB := n13_; clear n0_ n1_ n2_ n3_ n4_ n5_ n6_ n7_ n8_ n9_ n10_ n11_ n12_ n13_; (try clear hb); (try clear hb2); (try clear hk); (try clear hi); (try clear ho0)) | ((with_reducible refine gate_dst (N := 21) rfl ?_); refine box_event ?hg (N := 21) ?hd (cs := #[.slice none 0 0, .int .i64 0]) (t := 24) ?hr ?_; (case hd => rfl); (case hg => rfl); (case hr => go_simp <;> rfl); intro gb538 hg w51 hbox hb; have n0_ := ab' (e' (Kd.N_elderB (Kd.eN HO499) gb538 (Nat.le_of_eq hg.symm)) hb); have n1_ := ab' (l' (Kd.eR HO503) hb); have n2_ := ab' (e' (Kd.N_elderB (Kd.eN HO507) gb538 (Nat.le_of_eq hg.symm)) hb); have n3_ := ab' (e' (Kd.N_elderB (Kd.eN HO514) gb538 (Nat.le_of_eq hg.symm)) hb); have n4_ := ab' (e' (Kd.N_elderB (Kd.eN HO521) gb538 (Nat.le_of_eq hg.symm)) hb); have n5_ := ab' (e' (Kd.N_elderB (Kd.eN HO525) gb538 (Nat.le_of_eq hg.symm)) hb); have n6_ := ab' (Kd.Q_below (Kd.eQ HO529) hb); have n7_ := ab' (Kd.Q_below (Kd.eQ HO535) hb); have n8_ := ab' (d' (g := gb496) (o := .cells #[.slice A0_0 l0_0.length c0_0, .int .i64 a0_1] 24 (0, 0)) (eB BK496) hb); have n9_ := ab' (d' (g := gb504) (o := .cells #[.slice Ao18 t497.length co18, .int .i64 t500] 27 (0, 0)) (eB BK504) hb); have n10_ := ab' (d' (g := gb511) (o := .cells #[.slice Ao24 t505.length co24, .int .i64 t508] 27 (0, 0)) (eB BK511) hb); have n11_ := ab' (d' (g := gb518) (o := .cells #[.slice Ao31 t512.length co31, .int .i64 t515] 24 (0, 0)) (eB BK518) hb); have n12_ := ab' (d' (g := gb532) (o := .cells #[.slice Ao43 t527.length co43, .int .i64 t530] 27 (0, 0)) (eB BK532) hb); have n13_ := ab' (j' (eH HB) hb); have n14_ := ab' (hbox); have n15_ := ab' ((by rw [hg]; exact (q' (eH HB)) : w.heap.size ≤ gb538)); have n16_ := ab' ((by rw [hg]; exact (q' (eH HB)) : w.heap.size ≤ gb538)); have n17_ := ab' ((by rw [hg]; exact Nat.ne_of_lt (blk_lt (g := gb496) (o := .cells #[.slice A0_0 l0_0.length c0_0, .int .i64 a0_1] 24 (0, 0)) (eB BK496)) : gb496 ≠ gb538)); have n18_ := ab' ((by rw [hg]; exact Nat.ne_of_gt (blk_lt (g := gb496) (o := .cells #[.slice A0_0 l0_0.length c0_0, .int .i64 a0_1] 24 (0, 0)) (eB BK496)) : gb538 ≠ gb496)); have n19_ := ab' ((by rw [hg]; exact Nat.ne_of_lt (blk_lt (g := gb504) (o := .cells #[.slice Ao18 t497.length co18, .int .i64 t500] 27 (0, 0)) (eB BK504)) : gb504 ≠ gb538)); have n20_ := ab' ((by rw [hg]; exact Nat.ne_of_gt (blk_lt (g := gb504) (o := .cells #[.slice Ao18 t497.length co18, .int .i64 t500] 27 (0, 0)) (eB BK504)) : gb538 ≠ gb504)); have n21_ := ab' ((by rw [hg]; exact Nat.ne_of_lt (blk_lt (g := gb511) (o := .cells #[.slice Ao24 t505.length co24, .int .i64 t508] 27 (0, 0)) (eB BK511)) : gb511 ≠ gb538)); have n22_ := ab' ((by rw [hg]; exact Nat.ne_of_gt (blk_lt (g := gb511) (o := .cells #[.slice Ao24 t505.length co24, .int .i64 t508] 27 (0, 0)) (eB BK511)) : gb538 ≠ gb511)); have n23_ := ab' ((by rw [hg]; exact Nat.ne_of_lt (blk_lt (g := gb518) (o := .cells #[.slice Ao31 t512.length co31, .int .i64 t515] 24 (0, 0)) (eB BK518)) : gb518 ≠ gb538)); have n24_ := ab' ((by rw [hg]; exact Nat.ne_of_gt (blk_lt (g := gb518) (o := .cells #[.slice Ao31 t512.length co31, .int .i64 t515] 24 (0, 0)) (eB BK518)) : gb538 ≠ gb518)); have n25_ := ab' ((by rw [hg]; exact Nat.ne_of_lt (blk_lt (g := gb532) (o := .cells #[.slice Ao43 t527.length co43, .int .i64 t530] 27 (0, 0)) (eB BK532)) : gb532 ≠ gb538)); have n26_ := ab' ((by rw [hg]; exact Nat.ne_of_gt (blk_lt (g := gb532) (o := .cells #[.slice Ao43 t527.length co43, .int .i64 t530] 27 (0, 0)) (eB BK532)) : gb538 ≠ gb532)); clear HO499; clear HO503; clear HO507; clear HO514; clear HO521; clear HO525; clear HO529; clear HO535; clear BK496; clear BK504; clear BK511; clear BK518; clear BK532; clear HB; have HO499 := n0_; have HO503 := n1_; have HO507 := n2_; have HO514 := n3_; have HO521 := n4_; have HO525 := n5_; have HO529 := n6_; have HO535 := n7_; have BK496 := n8_; have BK504 := n9_; have BK511 := n10_; have BK518 := n11_; have BK532 := n12_; have HB := n13_; have BK538 := n14_; have GW538 := n15_; have GE538 := n16_; have NB496_538 := n17_; have NB538_496 := n18_; have NB504_538 := n19_; have NB538_504 := n20_; have NB511_538 := n21_; have NB538_511 := n22_; have NB518_538 := n23_; have NB538_518 := n24_; have NB532_538 := n25_; have NB538_532 := n26_; clear n0_ n1_ n2_ n3_ n4_ n5_ n6_ n7_ n8_ n9_ n10_ n11_ n12_ n13_ n14_ n15_ n16_ n17_ n18_ n19_ n20_ n21_ n22_ n23_ n24_ n25_ n26_; clear hb hbox hg; obtain ⟨Ao52, co52, eo52, _⟩ := Kd.Q_slice HO535.out; subst eo52; have hnb53 := NB538_496.out; have hnc53 := NB496_538.out; have hnb54 := NB538_504.out; have hnc54 := NB504_538.out; have hnb55 := NB538_511.out; have hnc55 := NB511_538.out; have hnb56 := NB538_518.out; have hnc56 := NB518_538.out; have hnb57 := NB538_532.out; have hnc57 := NB532_538.out; have hcz58_0 : w51.cell? ⟨gb538, 0, none⟩ = some (.slice none 0 0) := (f' BK538.out 0).trans rfl; have hcz58_1 : w51.cell? ⟨gb538, 1, none⟩ = some (.int .i64 0) := (f' BK538.out 1).trans rfl; have hfz58_0 := h' BK538.out 0; have hfz58_1 := h' BK538.out 1))
 (try simp only [Act.put, r', s', u'])
 go_cut [101] (fun v101 wc => ∃ (kq : Nat) (x101_11 : Bool), v101 = .bool x101_11 ∧ Aside0 (fanlightlaw06_WalTells.j0 kq l1 t501 x101_11 l0_0 a0_1 t497 t500 = some r) ∧ Aside0 (kq ≤ k) ∧ Aside0 (Kd.R (Kd.int .u8) 5 wc w.heap.size (fun _ => True) (.slice Ao21 t501.length co21) t501) ∧ Aside0 (Kd.N (Kd.slice 5 (Kd.int .u8)) 25 wc w.heap.size (fun k_ => some k_ ≠ ((.slice Ao21 t501.length co21) : Value).ownBlock ∧ some k_ ≠ ((.slice Ao24 t505.length co24) : Value).ownBlock ∧ some k_ ≠ ((.slice Ao31 t512.length co31) : Value).ownBlock ∧ some k_ ≠ ((.slice Ao43 t527.length co43) : Value).ownBlock ∧ some k_ ≠ ((.slice Ao52 t533.length co52) : Value).ownBlock ∧ k_ ≠ gb496 ∧ k_ ≠ gb504 ∧ k_ ≠ gb511 ∧ k_ ≠ gb518 ∧ k_ ≠ gb532 ∧ k_ ≠ gb538) (.slice Ao18 t497.length co18) t497) ∧ Aside0 (Kd.N (Kd.slice 5 (Kd.int .u8)) 25 wc w.heap.size (fun k_ => some k_ ≠ ((.slice Ao21 t501.length co21) : Value).ownBlock ∧ some k_ ≠ ((.slice Ao18 t497.length co18) : Value).ownBlock ∧ some k_ ≠ ((.slice Ao31 t512.length co31) : Value).ownBlock ∧ some k_ ≠ ((.slice Ao43 t527.length co43) : Value).ownBlock ∧ some k_ ≠ ((.slice Ao52 t533.length co52) : Value).ownBlock ∧ k_ ≠ gb496 ∧ k_ ≠ gb504 ∧ k_ ≠ gb511 ∧ k_ ≠ gb518 ∧ k_ ≠ gb532 ∧ k_ ≠ gb538) (.slice Ao24 t505.length co24) t505) ∧ Aside0 (Kd.N (Kd.slice 5 (Kd.int .u8)) 25 wc w.heap.size (fun k_ => some k_ ≠ ((.slice Ao21 t501.length co21) : Value).ownBlock ∧ some k_ ≠ ((.slice Ao18 t497.length co18) : Value).ownBlock ∧ some k_ ≠ ((.slice Ao24 t505.length co24) : Value).ownBlock ∧ some k_ ≠ ((.slice Ao43 t527.length co43) : Value).ownBlock ∧ some k_ ≠ ((.slice Ao52 t533.length co52) : Value).ownBlock ∧ k_ ≠ gb496 ∧ k_ ≠ gb504 ∧ k_ ≠ gb511 ∧ k_ ≠ gb518 ∧ k_ ≠ gb532 ∧ k_ ≠ gb538) (.slice Ao31 t512.length co31) t512) ∧ Aside0 (Kd.Q (Kd.slice 5 (Kd.int .u8)) 25 wc w.heap.size (fun k_ => some k_ ≠ ((.slice Ao21 t501.length co21) : Value).ownBlock ∧ some k_ ≠ ((.slice Ao18 t497.length co18) : Value).ownBlock ∧ some k_ ≠ ((.slice Ao24 t505.length co24) : Value).ownBlock ∧ some k_ ≠ ((.slice Ao31 t512.length co31) : Value).ownBlock ∧ some k_ ≠ ((.slice Ao52 t533.length co52) : Value).ownBlock) (.slice Ao43 t527.length co43) t527) ∧ Aside0 (Kd.Q (Kd.slice 5 (Kd.int .u8)) 25 wc w.heap.size (fun k_ => some k_ ≠ ((.slice Ao21 t501.length co21) : Value).ownBlock ∧ some k_ ≠ ((.slice Ao18 t497.length co18) : Value).ownBlock ∧ some k_ ≠ ((.slice Ao24 t505.length co24) : Value).ownBlock ∧ some k_ ≠ ((.slice Ao31 t512.length co31) : Value).ownBlock ∧ some k_ ≠ ((.slice Ao43 t527.length co43) : Value).ownBlock) (.slice Ao52 t533.length co52) t533) ∧ Aside0 (wc.heap[gb496]? = some (.cells #[(.slice A0_0 l0_0.length c0_0), .int .i64 a0_1] 24 (0, 0))) ∧ Aside0 (wc.heap[gb504]? = some (.cells #[(.slice Ao18 t497.length co18), .int .i64 t500] 27 (0, 0))) ∧ Aside0 (wc.heap[gb511]? = some (.cells #[(.slice Ao24 t505.length co24), .int .i64 t508] 27 (0, 0))) ∧ Aside0 (wc.heap[gb518]? = some (.cells #[(.slice Ao31 t512.length co31), .int .i64 t515] 24 (0, 0))) ∧ Aside0 (wc.heap[gb532]? = some (.cells #[(.slice Ao43 t527.length co43), .int .i64 t530] 27 (0, 0))) ∧ Aside0 (wc.heap[gb538]? = some (.cells #[(.slice Ao52 t533.length co52), .int .i64 t536] 24 (0, 0))) ∧ Aside0 (Below w.heap.size w wc))
 case first =>
  have H := HC12.out
  clear HC12
  replace H := Option.bind_eq_some_iff.mp H
  obtain ⟨t539, A590, H⟩ := H
  (try dsimp only at H)
  have A59 := ab' A590
  clear A590
  by_cases c60 : t539 = 0
  ·
   rw [if_pos c60] at H
   have c60b0 : (t539 == 0) = true := beq_iff_eq.mpr c60
   have c60b1 : (t539 != 0) = false := bne_eq_false_iff_eq.mpr c60
   clear c60
   (first | rw [c60b0] | (simp only [i64_w, i32_w]; rw [c60b0]) | rw [c60b1] | skip)
   by_cases c61 : t509 = t516
   ·
    rw [if_pos c61] at H
    have c61b0 : (t509 == t516) = true := beq_iff_eq.mpr c61
    have c61b1 : (t509 != t516) = false := bne_eq_false_iff_eq.mpr c61
    clear c61
    replace H := Option.bind_eq_some_iff.mp H
    obtain ⟨t540, A620, H⟩ := H
    (try dsimp only at H)
    have A62 := ab' A620
    clear A620
    by_cases c63 : t540 = t517
    ·
     rw [if_pos c63] at H
     have c63b0 : (t540 == t517) = true := beq_iff_eq.mpr c63
     have c63b1 : (t540 != t517) = false := bne_eq_false_iff_eq.mpr c63
     clear c63
     replace H := Option.bind_eq_some_iff.mp H
     obtain ⟨t541, A640, H⟩ := H
     (try dsimp only at H)
     have A64 := ab' A640
     clear A640
     by_cases c65 : t541 = true
     ·
      subst c65
      have H1 : ((fanlightlaw06_num.f t522).bind fun t542 => (if t542 = t526 then ((fanlightlaw06_Alike.f k t527 t530 t533 t536).bind fun t543 => (if t543 = 0 then ((fanlightlaw06_num.f t531).bind fun t544 => (fanlightlaw06_WalTells.j0 k l1 t501 (t544 != t537) l0_0 a0_1 t497 t500)) else (fanlightlaw06_WalTells.j0 k l1 t501 true l0_0 a0_1 t497 t500))) else (fanlightlaw06_WalTells.j0 k l1 t501 true l0_0 a0_1 t497 t500))) = some r := by rw [if_pos rfl] at H; exact H
      clear H
      have H := H1
      clear H1
      replace H := Option.bind_eq_some_iff.mp H
      obtain ⟨t542, A660, H⟩ := H
      (try dsimp only at H)
      have A66 := ab' A660
      clear A660
      by_cases c67 : t542 = t526
      ·
       rw [if_pos c67] at H
       have c67b0 : (t542 == t526) = true := beq_iff_eq.mpr c67
       have c67b1 : (t542 != t526) = false := bne_eq_false_iff_eq.mpr c67
       clear c67
       replace H := Option.bind_eq_some_iff.mp H
       obtain ⟨t543, A680, H⟩ := H
       (try dsimp only at H)
       have A68 := ab' A680
       clear A680
       by_cases c69 : t543 = 0
       ·
        rw [if_pos c69] at H
        have c69b0 : (t543 == 0) = true := beq_iff_eq.mpr c69
        have c69b1 : (t543 != 0) = false := bne_eq_false_iff_eq.mpr c69
        clear c69
        replace H := Option.bind_eq_some_iff.mp H
        obtain ⟨t544, A700, H⟩ := H
        (try dsimp only at H)
        have A70 := ab' A700
        clear A700
        have H' := ab' H
        clear H
        have hnb71 := NB511_496.out
        have hnc71 := NB496_511.out
        have hnb72 := NB511_504.out
        have hnc72 := NB504_511.out
        have hnb73 := NB511_518.out
        have hnc73 := NB518_511.out
        have hnb74 := NB511_532.out
        have hnc74 := NB532_511.out
        have hnb75 := NB511_538.out
        have hnc75 := NB538_511.out
        have hcz76_0 : w51.cell? ⟨gb511, 0, none⟩ = some (.slice Ao24 t505.length co24) := (f' BK511.out 0).trans rfl
        have hcz76_1 : w51.cell? ⟨gb511, 1, none⟩ = some (.int .i64 t508) := (f' BK511.out 1).trans rfl
        have hfz76_0 := h' BK511.out 0
        have hfz76_1 := h' BK511.out 1
        have hnb77 := NB518_496.out
        have hnc77 := NB496_518.out
        have hnb78 := NB518_504.out
        have hnc78 := NB504_518.out
        have hnb79 := NB518_532.out
        have hnc79 := NB532_518.out
        have hnb80 := NB518_538.out
        have hnc80 := NB538_518.out
        have hcz81_0 : w51.cell? ⟨gb518, 0, none⟩ = some (.slice Ao31 t512.length co31) := (f' BK518.out 0).trans rfl
        have hcz81_1 : w51.cell? ⟨gb518, 1, none⟩ = some (.int .i64 t515) := (f' BK518.out 1).trans rfl
        have hfz81_0 := h' BK518.out 0
        have hfz81_1 := h' BK518.out 1
        go_wp2_with (first | ((with_reducible refine gate_callee (f := 15) rfl ?_); refine goesL_ (some 65) rfl rfl Try.func15 (by kernel_rfl) rfl #[.agg #[.slice Ao24 t505.length co24, .int .i64 t508], .agg #[.slice Ao31 t512.length co31, .int .i64 t515]] rfl (by (try simp only [v', x', y']); first | done | rfl | (simp only [z', aa']; rfl)) ?_; (with_reducible refine (fanlightlaw06_Alike.calls k _ _ t505 t508 _ _ t512 t515 t539 _ ?side1 ?side2 ?side3 ?side4 A59.out).mono ?_); (case side1 => refine (Kd.N_reads' (e := 25) (base := w.heap.size) (ok := fun k_ => ((((((((((some k_ ≠ (.slice Ao18 t497.length co18 : Value).ownBlock ∧ (some k_ ≠ (.slice Ao21 t501.length co21 : Value).ownBlock ∧ (k_ ≠ gb496 ∧ k_ ≠ gb504))) ∧ k_ ≠ gb511) ∧ some k_ ≠ (.slice Ao31 t512.length co31 : Value).ownBlock) ∧ k_ ≠ gb518) ∧ some k_ ≠ (v520 : Value).ownBlock) ∧ some k_ ≠ (v524 : Value).ownBlock) ∧ some k_ ≠ (.slice Ao43 t527.length co43 : Value).ownBlock) ∧ k_ ≠ gb532) ∧ some k_ ≠ (.slice Ao52 t533.length co52 : Value).ownBlock) ∧ k_ ≠ gb538)) (n := t505.length) (c := co24) ?_).2.2; exact (Kd.kN (b' (c' (p := ⟨gb538, 1, none⟩) (c' (p := ⟨gb538, 0, none⟩) (b' HO507.out (fun k_ hk => (⟨hk, hk.2⟩ : _ ∧ k_ ≠ gb538))) (fun _ hk => hk.2) (.slice Ao52 t533.length co52)) (fun _ hk => hk.2) (.int .i64 t536)) (fun _ h_ => h_.1)))); (case side2 => exact (Kd.N_reads' HO507.out).2.1); (case side3 => refine (Kd.N_reads' (e := 25) (base := w.heap.size) (ok := fun k_ => ((((((((some k_ ≠ (.slice Ao18 t497.length co18 : Value).ownBlock ∧ (some k_ ≠ (.slice Ao21 t501.length co21 : Value).ownBlock ∧ (some k_ ≠ (.slice Ao24 t505.length co24 : Value).ownBlock ∧ (k_ ≠ gb496 ∧ (k_ ≠ gb504 ∧ k_ ≠ gb511))))) ∧ k_ ≠ gb518) ∧ some k_ ≠ (v520 : Value).ownBlock) ∧ some k_ ≠ (v524 : Value).ownBlock) ∧ some k_ ≠ (.slice Ao43 t527.length co43 : Value).ownBlock) ∧ k_ ≠ gb532) ∧ some k_ ≠ (.slice Ao52 t533.length co52 : Value).ownBlock) ∧ k_ ≠ gb538)) (n := t512.length) (c := co31) ?_).2.2; exact (Kd.kN (b' (c' (p := ⟨gb538, 1, none⟩) (c' (p := ⟨gb538, 0, none⟩) (b' HO514.out (fun k_ hk => (⟨hk, hk.2⟩ : _ ∧ k_ ≠ gb538))) (fun _ hk => hk.2) (.slice Ao52 t533.length co52)) (fun _ hk => hk.2) (.int .i64 t536)) (fun _ h_ => h_.1)))); (case side4 => exact (Kd.N_reads' HO514.out).2.1); rintro e w82 ⟨rfl, hb⟩; refine ⟨_, rfl, ?_⟩; have n0_ := ab' (e' (Kd.kN (b' (c' (p := ⟨gb538, 1, none⟩) (c' (p := ⟨gb538, 0, none⟩) (b' HO499.out (fun k_ hk => (⟨hk, hk.2⟩ : _ ∧ k_ ≠ gb538))) (fun _ hk => hk.2) (.slice Ao52 t533.length co52)) (fun _ hk => hk.2) (.int .i64 t536)) (fun _ h_ => h_.1))) hb); have n1_ := ab' (l' (Kd.kR (Kd.R_mono (k' (p := ⟨gb538, 1, none⟩) (k' (p := ⟨gb538, 0, none⟩) (Kd.R_types HO503.out BK538.out (by decide)) (fun _ hk => hk.2) (.slice Ao52 t533.length co52)) (fun _ hk => hk.2) (.int .i64 t536)) (fun _ h_ => h_.1))) hb); have n2_ := ab' (e' (Kd.kN (b' (c' (p := ⟨gb538, 1, none⟩) (c' (p := ⟨gb538, 0, none⟩) (b' HO507.out (fun k_ hk => (⟨hk, hk.2⟩ : _ ∧ k_ ≠ gb538))) (fun _ hk => hk.2) (.slice Ao52 t533.length co52)) (fun _ hk => hk.2) (.int .i64 t536)) (fun _ h_ => h_.1))) hb); have n3_ := ab' (e' (Kd.kN (b' (c' (p := ⟨gb538, 1, none⟩) (c' (p := ⟨gb538, 0, none⟩) (b' HO514.out (fun k_ hk => (⟨hk, hk.2⟩ : _ ∧ k_ ≠ gb538))) (fun _ hk => hk.2) (.slice Ao52 t533.length co52)) (fun _ hk => hk.2) (.int .i64 t536)) (fun _ h_ => h_.1))) hb); have n4_ := ab' (e' (Kd.kN (b' (c' (p := ⟨gb538, 1, none⟩) (c' (p := ⟨gb538, 0, none⟩) (b' HO521.out (fun k_ hk => (⟨hk, hk.2⟩ : _ ∧ k_ ≠ gb538))) (fun _ hk => hk.2) (.slice Ao52 t533.length co52)) (fun _ hk => hk.2) (.int .i64 t536)) (fun _ h_ => h_.1))) hb); have n5_ := ab' (e' (Kd.kN (b' (c' (p := ⟨gb538, 1, none⟩) (c' (p := ⟨gb538, 0, none⟩) (b' HO525.out (fun k_ hk => (⟨hk, hk.2⟩ : _ ∧ k_ ≠ gb538))) (fun _ hk => hk.2) (.slice Ao52 t533.length co52)) (fun _ hk => hk.2) (.int .i64 t536)) (fun _ h_ => h_.1))) hb); have n6_ := ab' (Kd.Q_below (Kd.kQ (Kd.Q_mono (Kd.Q_far (p := ⟨gb538, 1, none⟩) (Kd.Q_far (p := ⟨gb538, 0, none⟩) (Kd.Q_types HO529.out BK538.out (by decide)) (fun _ hk => hk.2) (.slice Ao52 t533.length co52)) (fun _ hk => hk.2) (.int .i64 t536)) (fun _ h_ => h_.1))) hb); have n7_ := ab' (Kd.Q_below (Kd.kQ (Kd.Q_mono (Kd.Q_far (p := ⟨gb538, 1, none⟩) (Kd.Q_far (p := ⟨gb538, 0, none⟩) (Kd.Q_types HO535.out BK538.out (by decide)) (fun _ hk => hk.2) (.slice Ao52 t533.length co52)) (fun _ hk => hk.2) (.int .i64 t536)) (fun _ h_ => h_.1))) hb); have n8_ := ab' (d' (g := gb496) (o := .cells #[.slice A0_0 l0_0.length c0_0, .int .i64 a0_1] 24 (0, 0)) (by refine eK ?_; refine g' ?_ NB496_538.out _; refine eK ?_; refine g' ?_ NB496_538.out _; refine eK ?_; exact BK496.out) hb); have n9_ := ab' (d' (g := gb504) (o := .cells #[.slice Ao18 t497.length co18, .int .i64 t500] 27 (0, 0)) (by refine eK ?_; refine g' ?_ NB504_538.out _; refine eK ?_; refine g' ?_ NB504_538.out _; refine eK ?_; exact BK504.out) hb); have n10_ := ab' (d' (g := gb511) (o := .cells #[.slice Ao24 t505.length co24, .int .i64 t508] 27 (0, 0)) (by refine eK ?_; refine g' ?_ NB511_538.out _; refine eK ?_; refine g' ?_ NB511_538.out _; refine eK ?_; exact BK511.out) hb); have n11_ := ab' (d' (g := gb518) (o := .cells #[.slice Ao31 t512.length co31, .int .i64 t515] 24 (0, 0)) (by refine eK ?_; refine g' ?_ NB518_538.out _; refine eK ?_; refine g' ?_ NB518_538.out _; refine eK ?_; exact BK518.out) hb); have n12_ := ab' (d' (g := gb532) (o := .cells #[.slice Ao43 t527.length co43, .int .i64 t530] 27 (0, 0)) (by refine eK ?_; refine g' ?_ NB532_538.out _; refine eK ?_; refine g' ?_ NB532_538.out _; refine eK ?_; exact BK532.out) hb); have n13_ := ab' (d' (g := gb538) (o := .cells #[.slice Ao52 t533.length co52, .int .i64 t536] 24 (0, 0)) (by refine eK ?_; refine blk_put (cs := #[.slice Ao52 t533.length co52, .int .i64 0]) ?_ 1 _ rfl; refine eK ?_; refine blk_put (cs := #[.slice none 0 0, .int .i64 0]) ?_ 0 _ rfl; refine eK ?_; exact BK538.out) hb); have n14_ := ab' (j' (eH HB) hb); clear HO499; clear HO503; clear HO507; clear HO514; clear HO521; clear HO525; clear HO529; clear HO535; clear BK496; clear BK504; clear BK511; clear BK518; clear BK532; clear BK538; clear HB; have HO499 := n0_; have HO503 := n1_; have HO507 := n2_; have HO514 := n3_; have HO521 := n4_; have HO525 := n5_; have HO529 := n6_; have HO535 := n7_; have BK496 := n8_; have BK504 := n9_; have BK511 := n10_; have BK518 := n11_; have BK532 := n12_; have BK538 := n13_; have HB := n14_; clear n0_ n1_ n2_ n3_ n4_ n5_ n6_ n7_ n8_ n9_ n10_ n11_ n12_ n13_ n14_; (try clear hb); (try clear hb2); (try clear hk); (try clear hi)) | (go_at_call 14; (with_reducible refine (fanlightlaw06_num.calls t510 t540 _ A62.out).mono ?_); rintro e w' ⟨rfl, ⟨nd, rfl⟩⟩; obtain ⟨Ao83, co83, eo83⟩ := Kd.N_slice HO521.out; subst eo83; obtain ⟨Ao84, co84, eo84⟩ := Kd.N_slice HO525.out; subst eo84) | (go_at_call 20; (with_reducible refine (fanlightlaw06_same.calls k _ _ t519 _ _ t523 true _ ?side1 ?side2 ?side3 ?side4 A64.out).mono ?_); (case side1 => exact Kd.kC (Kd.N_reads' HO521.out).2.2); (case side2 => exact (Kd.N_reads' HO521.out).2.1); (case side3 => exact Kd.kC (Kd.N_reads' HO525.out).2.2); (case side4 => exact (Kd.N_reads' HO525.out).2.1); rintro e w' ⟨rfl, ⟨nd, rfl⟩⟩) | (go_at_call 14; (with_reducible refine (fanlightlaw06_num.calls t522 t542 _ A66.out).mono ?_); rintro e w' ⟨rfl, ⟨nd, rfl⟩⟩; have hnb85 := NB532_496.out; have hnc85 := NB496_532.out; have hnb86 := NB532_504.out; have hnc86 := NB504_532.out; have hnb87 := NB532_538.out; have hnc87 := NB538_532.out; have hcz88_0 : w82.cell? ⟨gb532, 0, none⟩ = some (.slice Ao43 t527.length co43) := (f' BK532.out 0).trans rfl; have hcz88_1 : w82.cell? ⟨gb532, 1, none⟩ = some (.int .i64 t530) := (f' BK532.out 1).trans rfl; have hfz88_0 := h' BK532.out 0; have hfz88_1 := h' BK532.out 1; have hnb89 := NB538_496.out; have hnc89 := NB496_538.out; have hnb90 := NB538_504.out; have hnc90 := NB504_538.out; have hcz91_0 : w82.cell? ⟨gb538, 0, none⟩ = some (.slice Ao52 t533.length co52) := (f' BK538.out 0).trans rfl; have hcz91_1 : w82.cell? ⟨gb538, 1, none⟩ = some (.int .i64 t536) := (f' BK538.out 1).trans rfl; have hfz91_0 := h' BK538.out 0; have hfz91_1 := h' BK538.out 1) | (go_at_call 15; (with_reducible refine (fanlightlaw06_Alike.calls k _ _ t527 t530 _ _ t533 t536 t543 _ ?side1 ?side2 ?side3 ?side4 A68.out).mono ?_); (case side1 => exact Kd.kC (Kd.Q_reads' HO529.out).2.2); (case side2 => exact (Kd.Q_reads' HO529.out).2.1); (case side3 => exact Kd.kC (Kd.Q_reads' HO535.out).2.2); (case side4 => exact (Kd.Q_reads' HO535.out).2.1); rintro e w92 ⟨rfl, hb⟩; have n0_ := ab' (e' (Kd.eN HO499) hb); have n1_ := ab' (l' (Kd.eR HO503) hb); have n2_ := ab' (e' (Kd.eN HO507) hb); have n3_ := ab' (e' (Kd.eN HO514) hb); have n4_ := ab' (e' (Kd.eN HO521) hb); have n5_ := ab' (e' (Kd.eN HO525) hb); have n6_ := ab' (Kd.Q_below (Kd.eQ HO529) hb); have n7_ := ab' (Kd.Q_below (Kd.eQ HO535) hb); have n8_ := ab' (d' (g := gb496) (o := .cells #[.slice A0_0 l0_0.length c0_0, .int .i64 a0_1] 24 (0, 0)) (eB BK496) hb); have n9_ := ab' (d' (g := gb504) (o := .cells #[.slice Ao18 t497.length co18, .int .i64 t500] 27 (0, 0)) (eB BK504) hb); have n10_ := ab' (d' (g := gb511) (o := .cells #[.slice Ao24 t505.length co24, .int .i64 t508] 27 (0, 0)) (eB BK511) hb); have n11_ := ab' (d' (g := gb518) (o := .cells #[.slice Ao31 t512.length co31, .int .i64 t515] 24 (0, 0)) (eB BK518) hb); have n12_ := ab' (d' (g := gb532) (o := .cells #[.slice Ao43 t527.length co43, .int .i64 t530] 27 (0, 0)) (eB BK532) hb); have n13_ := ab' (d' (g := gb538) (o := .cells #[.slice Ao52 t533.length co52, .int .i64 t536] 24 (0, 0)) (eB BK538) hb); have n14_ := ab' (j' (eH HB) hb); clear HO499; clear HO503; clear HO507; clear HO514; clear HO521; clear HO525; clear HO529; clear HO535; clear BK496; clear BK504; clear BK511; clear BK518; clear BK532; clear BK538; clear HB; have HO499 := n0_; have HO503 := n1_; have HO507 := n2_; have HO514 := n3_; have HO521 := n4_; have HO525 := n5_; have HO529 := n6_; have HO535 := n7_; have BK496 := n8_; have BK504 := n9_; have BK511 := n10_; have BK518 := n11_; have BK532 := n12_; have BK538 := n13_; have HB := n14_; clear n0_ n1_ n2_ n3_ n4_ n5_ n6_ n7_ n8_ n9_ n10_ n11_ n12_ n13_ n14_; (try clear hb); (try clear hb2); (try clear hk); (try clear hi)) | (go_at_call 14; (with_reducible refine (fanlightlaw06_num.calls t531 t544 _ A70.out).mono ?_); rintro e w' ⟨rfl, ⟨nd, rfl⟩⟩))
        go_meet
        case rel => exact ⟨_, ((t544 != t537)), (by first | rfl | (simp; done) | (simp [*]; done)), H', ⟨by first | omega | exact Nat.le_refl _⟩, ⟨Kd.eR HO503⟩, ⟨by (with_reducible repeat (first | apply p' | apply n' | apply o')); exact b' HO499.out (fun _ hk => ⟨hk.1.1.1.1.1.1.1.1.1.1.1.2, ⟨hk.1.1.1.1.1.1.1.1.1.2, ⟨hk.1.1.1.1.1.1.1.2, ⟨hk.1.1.1.2, ⟨hk.1.2, ⟨hk.1.1.1.1.1.1.1.1.1.1.1.1, ⟨hk.1.1.1.1.1.1.1.1.1.1.2, ⟨hk.1.1.1.1.1.1.1.1.2, ⟨hk.1.1.1.1.1.1.2, ⟨hk.1.1.2, hk.2⟩⟩⟩⟩⟩⟩⟩⟩⟩⟩)⟩, ⟨by (with_reducible repeat (first | apply p' | apply n' | apply o')); exact b' HO507.out (fun _ hk => ⟨hk.1.1.1.1.1.1.1.1.1.2.1, ⟨hk.1.1.1.1.1.1.1.1.1.1, ⟨hk.1.1.1.1.1.1.1.2, ⟨hk.1.1.1.2, ⟨hk.1.2, ⟨hk.1.1.1.1.1.1.1.1.1.2.2.1, ⟨hk.1.1.1.1.1.1.1.1.1.2.2.2, ⟨hk.1.1.1.1.1.1.1.1.2, ⟨hk.1.1.1.1.1.1.2, ⟨hk.1.1.2, hk.2⟩⟩⟩⟩⟩⟩⟩⟩⟩⟩)⟩, ⟨by (with_reducible repeat (first | apply p' | apply n' | apply o')); exact b' HO514.out (fun _ hk => ⟨hk.1.1.1.1.1.1.1.2.1, ⟨hk.1.1.1.1.1.1.1.1, ⟨hk.1.1.1.1.1.1.1.2.2.1, ⟨hk.1.1.1.2, ⟨hk.1.2, ⟨hk.1.1.1.1.1.1.1.2.2.2.1, ⟨hk.1.1.1.1.1.1.1.2.2.2.2.1, ⟨hk.1.1.1.1.1.1.1.2.2.2.2.2, ⟨hk.1.1.1.1.1.1.2, ⟨hk.1.1.2, hk.2⟩⟩⟩⟩⟩⟩⟩⟩⟩⟩)⟩, ⟨by (with_reducible repeat (first | apply Kd.Q_alloc | apply Kd.Q_drewN | apply Kd.Q_drew)); exact Kd.Q_mono HO529.out (fun _ hk => ⟨hk.1.1.1.2, ⟨hk.1.1.1.1.2, ⟨hk.1.1.2, ⟨hk.1.2, hk.2⟩⟩⟩⟩)⟩, ⟨by (with_reducible repeat (first | apply Kd.Q_alloc | apply Kd.Q_drewN | apply Kd.Q_drew)); exact Kd.Q_mono HO535.out (fun _ hk => ⟨hk.1.1.1.2, ⟨hk.1.1.1.1.2, ⟨hk.1.1.2, ⟨hk.1.2, hk.2⟩⟩⟩⟩)⟩, ⟨eB BK496⟩, ⟨eB BK504⟩, ⟨eB BK511⟩, ⟨eB BK518⟩, ⟨eB BK532⟩, ⟨eB BK538⟩, ⟨eH HB⟩⟩
       ·
        rw [if_neg c69] at H
        have c69b0 : (t543 == 0) = false := beq_eq_false_iff_ne.mpr c69
        have c69b1 : (t543 != 0) = true := bne_iff_ne.mpr c69
        have H' := ab' H
        clear H
        have hnb93 := NB511_496.out
        have hnc93 := NB496_511.out
        have hnb94 := NB511_504.out
        have hnc94 := NB504_511.out
        have hnb95 := NB511_518.out
        have hnc95 := NB518_511.out
        have hnb96 := NB511_532.out
        have hnc96 := NB532_511.out
        have hnb97 := NB511_538.out
        have hnc97 := NB538_511.out
        have hcz98_0 : w51.cell? ⟨gb511, 0, none⟩ = some (.slice Ao24 t505.length co24) := (f' BK511.out 0).trans rfl
        have hcz98_1 : w51.cell? ⟨gb511, 1, none⟩ = some (.int .i64 t508) := (f' BK511.out 1).trans rfl
        have hfz98_0 := h' BK511.out 0
        have hfz98_1 := h' BK511.out 1
        have hnb99 := NB518_496.out
        have hnc99 := NB496_518.out
        have hnb100 := NB518_504.out
        have hnc100 := NB504_518.out
        have hnb101 := NB518_532.out
        have hnc101 := NB532_518.out
        have hnb102 := NB518_538.out
        have hnc102 := NB538_518.out
        have hcz103_0 : w51.cell? ⟨gb518, 0, none⟩ = some (.slice Ao31 t512.length co31) := (f' BK518.out 0).trans rfl
        have hcz103_1 : w51.cell? ⟨gb518, 1, none⟩ = some (.int .i64 t515) := (f' BK518.out 1).trans rfl
        have hfz103_0 := h' BK518.out 0
        have hfz103_1 := h' BK518.out 1
        go_wp2_with (first | ((with_reducible refine gate_callee (f := 15) rfl ?_); refine goesL_ (some 65) rfl rfl Try.func15 (by kernel_rfl) rfl #[.agg #[.slice Ao24 t505.length co24, .int .i64 t508], .agg #[.slice Ao31 t512.length co31, .int .i64 t515]] rfl (by (try simp only [v', x', y']); first | done | rfl | (simp only [z', aa']; rfl)) ?_; (with_reducible refine (fanlightlaw06_Alike.calls k _ _ t505 t508 _ _ t512 t515 t539 _ ?side1 ?side2 ?side3 ?side4 A59.out).mono ?_); (case side1 => refine (Kd.N_reads' (e := 25) (base := w.heap.size) (ok := fun k_ => ((((((((((some k_ ≠ (.slice Ao18 t497.length co18 : Value).ownBlock ∧ (some k_ ≠ (.slice Ao21 t501.length co21 : Value).ownBlock ∧ (k_ ≠ gb496 ∧ k_ ≠ gb504))) ∧ k_ ≠ gb511) ∧ some k_ ≠ (.slice Ao31 t512.length co31 : Value).ownBlock) ∧ k_ ≠ gb518) ∧ some k_ ≠ (v520 : Value).ownBlock) ∧ some k_ ≠ (v524 : Value).ownBlock) ∧ some k_ ≠ (.slice Ao43 t527.length co43 : Value).ownBlock) ∧ k_ ≠ gb532) ∧ some k_ ≠ (.slice Ao52 t533.length co52 : Value).ownBlock) ∧ k_ ≠ gb538)) (n := t505.length) (c := co24) ?_).2.2; exact (Kd.kN (b' (c' (p := ⟨gb538, 1, none⟩) (c' (p := ⟨gb538, 0, none⟩) (b' HO507.out (fun k_ hk => (⟨hk, hk.2⟩ : _ ∧ k_ ≠ gb538))) (fun _ hk => hk.2) (.slice Ao52 t533.length co52)) (fun _ hk => hk.2) (.int .i64 t536)) (fun _ h_ => h_.1)))); (case side2 => exact (Kd.N_reads' HO507.out).2.1); (case side3 => refine (Kd.N_reads' (e := 25) (base := w.heap.size) (ok := fun k_ => ((((((((some k_ ≠ (.slice Ao18 t497.length co18 : Value).ownBlock ∧ (some k_ ≠ (.slice Ao21 t501.length co21 : Value).ownBlock ∧ (some k_ ≠ (.slice Ao24 t505.length co24 : Value).ownBlock ∧ (k_ ≠ gb496 ∧ (k_ ≠ gb504 ∧ k_ ≠ gb511))))) ∧ k_ ≠ gb518) ∧ some k_ ≠ (v520 : Value).ownBlock) ∧ some k_ ≠ (v524 : Value).ownBlock) ∧ some k_ ≠ (.slice Ao43 t527.length co43 : Value).ownBlock) ∧ k_ ≠ gb532) ∧ some k_ ≠ (.slice Ao52 t533.length co52 : Value).ownBlock) ∧ k_ ≠ gb538)) (n := t512.length) (c := co31) ?_).2.2; exact (Kd.kN (b' (c' (p := ⟨gb538, 1, none⟩) (c' (p := ⟨gb538, 0, none⟩) (b' HO514.out (fun k_ hk => (⟨hk, hk.2⟩ : _ ∧ k_ ≠ gb538))) (fun _ hk => hk.2) (.slice Ao52 t533.length co52)) (fun _ hk => hk.2) (.int .i64 t536)) (fun _ h_ => h_.1)))); (case side4 => exact (Kd.N_reads' HO514.out).2.1); rintro e w104 ⟨rfl, hb⟩; refine ⟨_, rfl, ?_⟩; have n0_ := ab' (e' (Kd.kN (b' (c' (p := ⟨gb538, 1, none⟩) (c' (p := ⟨gb538, 0, none⟩) (b' HO499.out (fun k_ hk => (⟨hk, hk.2⟩ : _ ∧ k_ ≠ gb538))) (fun _ hk => hk.2) (.slice Ao52 t533.length co52)) (fun _ hk => hk.2) (.int .i64 t536)) (fun _ h_ => h_.1))) hb); have n1_ := ab' (l' (Kd.kR (Kd.R_mono (k' (p := ⟨gb538, 1, none⟩) (k' (p := ⟨gb538, 0, none⟩) (Kd.R_types HO503.out BK538.out (by decide)) (fun _ hk => hk.2) (.slice Ao52 t533.length co52)) (fun _ hk => hk.2) (.int .i64 t536)) (fun _ h_ => h_.1))) hb); have n2_ := ab' (e' (Kd.kN (b' (c' (p := ⟨gb538, 1, none⟩) (c' (p := ⟨gb538, 0, none⟩) (b' HO507.out (fun k_ hk => (⟨hk, hk.2⟩ : _ ∧ k_ ≠ gb538))) (fun _ hk => hk.2) (.slice Ao52 t533.length co52)) (fun _ hk => hk.2) (.int .i64 t536)) (fun _ h_ => h_.1))) hb); have n3_ := ab' (e' (Kd.kN (b' (c' (p := ⟨gb538, 1, none⟩) (c' (p := ⟨gb538, 0, none⟩) (b' HO514.out (fun k_ hk => (⟨hk, hk.2⟩ : _ ∧ k_ ≠ gb538))) (fun _ hk => hk.2) (.slice Ao52 t533.length co52)) (fun _ hk => hk.2) (.int .i64 t536)) (fun _ h_ => h_.1))) hb); have n4_ := ab' (e' (Kd.kN (b' (c' (p := ⟨gb538, 1, none⟩) (c' (p := ⟨gb538, 0, none⟩) (b' HO521.out (fun k_ hk => (⟨hk, hk.2⟩ : _ ∧ k_ ≠ gb538))) (fun _ hk => hk.2) (.slice Ao52 t533.length co52)) (fun _ hk => hk.2) (.int .i64 t536)) (fun _ h_ => h_.1))) hb); have n5_ := ab' (e' (Kd.kN (b' (c' (p := ⟨gb538, 1, none⟩) (c' (p := ⟨gb538, 0, none⟩) (b' HO525.out (fun k_ hk => (⟨hk, hk.2⟩ : _ ∧ k_ ≠ gb538))) (fun _ hk => hk.2) (.slice Ao52 t533.length co52)) (fun _ hk => hk.2) (.int .i64 t536)) (fun _ h_ => h_.1))) hb); have n6_ := ab' (Kd.Q_below (Kd.kQ (Kd.Q_mono (Kd.Q_far (p := ⟨gb538, 1, none⟩) (Kd.Q_far (p := ⟨gb538, 0, none⟩) (Kd.Q_types HO529.out BK538.out (by decide)) (fun _ hk => hk.2) (.slice Ao52 t533.length co52)) (fun _ hk => hk.2) (.int .i64 t536)) (fun _ h_ => h_.1))) hb); have n7_ := ab' (Kd.Q_below (Kd.kQ (Kd.Q_mono (Kd.Q_far (p := ⟨gb538, 1, none⟩) (Kd.Q_far (p := ⟨gb538, 0, none⟩) (Kd.Q_types HO535.out BK538.out (by decide)) (fun _ hk => hk.2) (.slice Ao52 t533.length co52)) (fun _ hk => hk.2) (.int .i64 t536)) (fun _ h_ => h_.1))) hb); have n8_ := ab' (d' (g := gb496) (o := .cells #[.slice A0_0 l0_0.length c0_0, .int .i64 a0_1] 24 (0, 0)) (by refine eK ?_; refine g' ?_ NB496_538.out _; refine eK ?_; refine g' ?_ NB496_538.out _; refine eK ?_; exact BK496.out) hb); have n9_ := ab' (d' (g := gb504) (o := .cells #[.slice Ao18 t497.length co18, .int .i64 t500] 27 (0, 0)) (by refine eK ?_; refine g' ?_ NB504_538.out _; refine eK ?_; refine g' ?_ NB504_538.out _; refine eK ?_; exact BK504.out) hb); have n10_ := ab' (d' (g := gb511) (o := .cells #[.slice Ao24 t505.length co24, .int .i64 t508] 27 (0, 0)) (by refine eK ?_; refine g' ?_ NB511_538.out _; refine eK ?_; refine g' ?_ NB511_538.out _; refine eK ?_; exact BK511.out) hb); have n11_ := ab' (d' (g := gb518) (o := .cells #[.slice Ao31 t512.length co31, .int .i64 t515] 24 (0, 0)) (by refine eK ?_; refine g' ?_ NB518_538.out _; refine eK ?_; refine g' ?_ NB518_538.out _; refine eK ?_; exact BK518.out) hb); have n12_ := ab' (d' (g := gb532) (o := .cells #[.slice Ao43 t527.length co43, .int .i64 t530] 27 (0, 0)) (by refine eK ?_; refine g' ?_ NB532_538.out _; refine eK ?_; refine g' ?_ NB532_538.out _; refine eK ?_; exact BK532.out) hb); have n13_ := ab' (d' (g := gb538) (o := .cells #[.slice Ao52 t533.length co52, .int .i64 t536] 24 (0, 0)) (by refine eK ?_; refine blk_put (cs := #[.slice Ao52 t533.length co52, .int .i64 0]) ?_ 1 _ rfl; refine eK ?_; refine blk_put (cs := #[.slice none 0 0, .int .i64 0]) ?_ 0 _ rfl; refine eK ?_; exact BK538.out) hb); have n14_ := ab' (j' (eH HB) hb); clear HO499; clear HO503; clear HO507; clear HO514; clear HO521; clear HO525; clear HO529; clear HO535; clear BK496; clear BK504; clear BK511; clear BK518; clear BK532; clear BK538; clear HB; have HO499 := n0_; have HO503 := n1_; have HO507 := n2_; have HO514 := n3_; have HO521 := n4_; have HO525 := n5_; have HO529 := n6_; have HO535 := n7_; have BK496 := n8_; have BK504 := n9_; have BK511 := n10_; have BK518 := n11_; have BK532 := n12_; have BK538 := n13_; have HB := n14_; clear n0_ n1_ n2_ n3_ n4_ n5_ n6_ n7_ n8_ n9_ n10_ n11_ n12_ n13_ n14_; (try clear hb); (try clear hb2); (try clear hk); (try clear hi)) | (go_at_call 14; (with_reducible refine (fanlightlaw06_num.calls t510 t540 _ A62.out).mono ?_); rintro e w' ⟨rfl, ⟨nd, rfl⟩⟩; obtain ⟨Ao105, co105, eo105⟩ := Kd.N_slice HO521.out; subst eo105; obtain ⟨Ao106, co106, eo106⟩ := Kd.N_slice HO525.out; subst eo106) | (go_at_call 20; (with_reducible refine (fanlightlaw06_same.calls k _ _ t519 _ _ t523 true _ ?side1 ?side2 ?side3 ?side4 A64.out).mono ?_); (case side1 => exact Kd.kC (Kd.N_reads' HO521.out).2.2); (case side2 => exact (Kd.N_reads' HO521.out).2.1); (case side3 => exact Kd.kC (Kd.N_reads' HO525.out).2.2); (case side4 => exact (Kd.N_reads' HO525.out).2.1); rintro e w' ⟨rfl, ⟨nd, rfl⟩⟩) | (go_at_call 14; (with_reducible refine (fanlightlaw06_num.calls t522 t542 _ A66.out).mono ?_); rintro e w' ⟨rfl, ⟨nd, rfl⟩⟩; have hnb107 := NB532_496.out; have hnc107 := NB496_532.out; have hnb108 := NB532_504.out; have hnc108 := NB504_532.out; have hnb109 := NB532_538.out; have hnc109 := NB538_532.out; have hcz110_0 : w104.cell? ⟨gb532, 0, none⟩ = some (.slice Ao43 t527.length co43) := (f' BK532.out 0).trans rfl; have hcz110_1 : w104.cell? ⟨gb532, 1, none⟩ = some (.int .i64 t530) := (f' BK532.out 1).trans rfl; have hfz110_0 := h' BK532.out 0; have hfz110_1 := h' BK532.out 1; have hnb111 := NB538_496.out; have hnc111 := NB496_538.out; have hnb112 := NB538_504.out; have hnc112 := NB504_538.out; have hcz113_0 : w104.cell? ⟨gb538, 0, none⟩ = some (.slice Ao52 t533.length co52) := (f' BK538.out 0).trans rfl; have hcz113_1 : w104.cell? ⟨gb538, 1, none⟩ = some (.int .i64 t536) := (f' BK538.out 1).trans rfl; have hfz113_0 := h' BK538.out 0; have hfz113_1 := h' BK538.out 1) | (go_at_call 15; (with_reducible refine (fanlightlaw06_Alike.calls k _ _ t527 t530 _ _ t533 t536 t543 _ ?side1 ?side2 ?side3 ?side4 A68.out).mono ?_); (case side1 => exact Kd.kC (Kd.Q_reads' HO529.out).2.2); (case side2 => exact (Kd.Q_reads' HO529.out).2.1); (case side3 => exact Kd.kC (Kd.Q_reads' HO535.out).2.2); (case side4 => exact (Kd.Q_reads' HO535.out).2.1); rintro e w114 ⟨rfl, hb⟩; have n0_ := ab' (e' (Kd.eN HO499) hb); have n1_ := ab' (l' (Kd.eR HO503) hb); have n2_ := ab' (e' (Kd.eN HO507) hb); have n3_ := ab' (e' (Kd.eN HO514) hb); have n4_ := ab' (e' (Kd.eN HO521) hb); have n5_ := ab' (e' (Kd.eN HO525) hb); have n6_ := ab' (Kd.Q_below (Kd.eQ HO529) hb); have n7_ := ab' (Kd.Q_below (Kd.eQ HO535) hb); have n8_ := ab' (d' (g := gb496) (o := .cells #[.slice A0_0 l0_0.length c0_0, .int .i64 a0_1] 24 (0, 0)) (eB BK496) hb); have n9_ := ab' (d' (g := gb504) (o := .cells #[.slice Ao18 t497.length co18, .int .i64 t500] 27 (0, 0)) (eB BK504) hb); have n10_ := ab' (d' (g := gb511) (o := .cells #[.slice Ao24 t505.length co24, .int .i64 t508] 27 (0, 0)) (eB BK511) hb); have n11_ := ab' (d' (g := gb518) (o := .cells #[.slice Ao31 t512.length co31, .int .i64 t515] 24 (0, 0)) (eB BK518) hb); have n12_ := ab' (d' (g := gb532) (o := .cells #[.slice Ao43 t527.length co43, .int .i64 t530] 27 (0, 0)) (eB BK532) hb); have n13_ := ab' (d' (g := gb538) (o := .cells #[.slice Ao52 t533.length co52, .int .i64 t536] 24 (0, 0)) (eB BK538) hb); have n14_ := ab' (j' (eH HB) hb); clear HO499; clear HO503; clear HO507; clear HO514; clear HO521; clear HO525; clear HO529; clear HO535; clear BK496; clear BK504; clear BK511; clear BK518; clear BK532; clear BK538; clear HB; have HO499 := n0_; have HO503 := n1_; have HO507 := n2_; have HO514 := n3_; have HO521 := n4_; have HO525 := n5_; have HO529 := n6_; have HO535 := n7_; have BK496 := n8_; have BK504 := n9_; have BK511 := n10_; have BK518 := n11_; have BK532 := n12_; have BK538 := n13_; have HB := n14_; clear n0_ n1_ n2_ n3_ n4_ n5_ n6_ n7_ n8_ n9_ n10_ n11_ n12_ n13_ n14_; (try clear hb); (try clear hb2); (try clear hk); (try clear hi)))
        go_meet
        case rel => exact ⟨_, (true), (by first | rfl | (simp; done) | (simp [*]; done)), H', ⟨by first | omega | exact Nat.le_refl _⟩, ⟨Kd.eR HO503⟩, ⟨by (with_reducible repeat (first | apply p' | apply n' | apply o')); exact b' HO499.out (fun _ hk => ⟨hk.1.1.1.1.1.1.1.1.1.1.1.2, ⟨hk.1.1.1.1.1.1.1.1.1.2, ⟨hk.1.1.1.1.1.1.1.2, ⟨hk.1.1.1.2, ⟨hk.1.2, ⟨hk.1.1.1.1.1.1.1.1.1.1.1.1, ⟨hk.1.1.1.1.1.1.1.1.1.1.2, ⟨hk.1.1.1.1.1.1.1.1.2, ⟨hk.1.1.1.1.1.1.2, ⟨hk.1.1.2, hk.2⟩⟩⟩⟩⟩⟩⟩⟩⟩⟩)⟩, ⟨by (with_reducible repeat (first | apply p' | apply n' | apply o')); exact b' HO507.out (fun _ hk => ⟨hk.1.1.1.1.1.1.1.1.1.2.1, ⟨hk.1.1.1.1.1.1.1.1.1.1, ⟨hk.1.1.1.1.1.1.1.2, ⟨hk.1.1.1.2, ⟨hk.1.2, ⟨hk.1.1.1.1.1.1.1.1.1.2.2.1, ⟨hk.1.1.1.1.1.1.1.1.1.2.2.2, ⟨hk.1.1.1.1.1.1.1.1.2, ⟨hk.1.1.1.1.1.1.2, ⟨hk.1.1.2, hk.2⟩⟩⟩⟩⟩⟩⟩⟩⟩⟩)⟩, ⟨by (with_reducible repeat (first | apply p' | apply n' | apply o')); exact b' HO514.out (fun _ hk => ⟨hk.1.1.1.1.1.1.1.2.1, ⟨hk.1.1.1.1.1.1.1.1, ⟨hk.1.1.1.1.1.1.1.2.2.1, ⟨hk.1.1.1.2, ⟨hk.1.2, ⟨hk.1.1.1.1.1.1.1.2.2.2.1, ⟨hk.1.1.1.1.1.1.1.2.2.2.2.1, ⟨hk.1.1.1.1.1.1.1.2.2.2.2.2, ⟨hk.1.1.1.1.1.1.2, ⟨hk.1.1.2, hk.2⟩⟩⟩⟩⟩⟩⟩⟩⟩⟩)⟩, ⟨by (with_reducible repeat (first | apply Kd.Q_alloc | apply Kd.Q_drewN | apply Kd.Q_drew)); exact Kd.Q_mono HO529.out (fun _ hk => ⟨hk.1.1.1.2, ⟨hk.1.1.1.1.2, ⟨hk.1.1.2, ⟨hk.1.2, hk.2⟩⟩⟩⟩)⟩, ⟨by (with_reducible repeat (first | apply Kd.Q_alloc | apply Kd.Q_drewN | apply Kd.Q_drew)); exact Kd.Q_mono HO535.out (fun _ hk => ⟨hk.1.1.1.2, ⟨hk.1.1.1.1.2, ⟨hk.1.1.2, ⟨hk.1.2, hk.2⟩⟩⟩⟩)⟩, ⟨eB BK496⟩, ⟨eB BK504⟩, ⟨eB BK511⟩, ⟨eB BK518⟩, ⟨eB BK532⟩, ⟨eB BK538⟩, ⟨eH HB⟩⟩
      ·
       rw [if_neg c67] at H
       have c67b0 : (t542 == t526) = false := beq_eq_false_iff_ne.mpr c67
       have c67b1 : (t542 != t526) = true := bne_iff_ne.mpr c67
       have H' := ab' H
       clear H
       have hnb115 := NB511_496.out
       have hnc115 := NB496_511.out
       have hnb116 := NB511_504.out
       have hnc116 := NB504_511.out
       have hnb117 := NB511_518.out
       have hnc117 := NB518_511.out
       have hnb118 := NB511_532.out
       have hnc118 := NB532_511.out
       have hnb119 := NB511_538.out
       have hnc119 := NB538_511.out
       have hcz120_0 : w51.cell? ⟨gb511, 0, none⟩ = some (.slice Ao24 t505.length co24) := (f' BK511.out 0).trans rfl
       have hcz120_1 : w51.cell? ⟨gb511, 1, none⟩ = some (.int .i64 t508) := (f' BK511.out 1).trans rfl
       have hfz120_0 := h' BK511.out 0
       have hfz120_1 := h' BK511.out 1
       have hnb121 := NB518_496.out
       have hnc121 := NB496_518.out
       have hnb122 := NB518_504.out
       have hnc122 := NB504_518.out
       have hnb123 := NB518_532.out
       have hnc123 := NB532_518.out
       have hnb124 := NB518_538.out
       have hnc124 := NB538_518.out
       have hcz125_0 : w51.cell? ⟨gb518, 0, none⟩ = some (.slice Ao31 t512.length co31) := (f' BK518.out 0).trans rfl
       have hcz125_1 : w51.cell? ⟨gb518, 1, none⟩ = some (.int .i64 t515) := (f' BK518.out 1).trans rfl
       have hfz125_0 := h' BK518.out 0
       have hfz125_1 := h' BK518.out 1
       go_wp2_with (first | ((with_reducible refine gate_callee (f := 15) rfl ?_); refine goesL_ (some 65) rfl rfl Try.func15 (by kernel_rfl) rfl #[.agg #[.slice Ao24 t505.length co24, .int .i64 t508], .agg #[.slice Ao31 t512.length co31, .int .i64 t515]] rfl (by (try simp only [v', x', y']); first | done | rfl | (simp only [z', aa']; rfl)) ?_; (with_reducible refine (fanlightlaw06_Alike.calls k _ _ t505 t508 _ _ t512 t515 t539 _ ?side1 ?side2 ?side3 ?side4 A59.out).mono ?_); (case side1 => refine (Kd.N_reads' (e := 25) (base := w.heap.size) (ok := fun k_ => ((((((((((some k_ ≠ (.slice Ao18 t497.length co18 : Value).ownBlock ∧ (some k_ ≠ (.slice Ao21 t501.length co21 : Value).ownBlock ∧ (k_ ≠ gb496 ∧ k_ ≠ gb504))) ∧ k_ ≠ gb511) ∧ some k_ ≠ (.slice Ao31 t512.length co31 : Value).ownBlock) ∧ k_ ≠ gb518) ∧ some k_ ≠ (v520 : Value).ownBlock) ∧ some k_ ≠ (v524 : Value).ownBlock) ∧ some k_ ≠ (.slice Ao43 t527.length co43 : Value).ownBlock) ∧ k_ ≠ gb532) ∧ some k_ ≠ (.slice Ao52 t533.length co52 : Value).ownBlock) ∧ k_ ≠ gb538)) (n := t505.length) (c := co24) ?_).2.2; exact (Kd.kN (b' (c' (p := ⟨gb538, 1, none⟩) (c' (p := ⟨gb538, 0, none⟩) (b' HO507.out (fun k_ hk => (⟨hk, hk.2⟩ : _ ∧ k_ ≠ gb538))) (fun _ hk => hk.2) (.slice Ao52 t533.length co52)) (fun _ hk => hk.2) (.int .i64 t536)) (fun _ h_ => h_.1)))); (case side2 => exact (Kd.N_reads' HO507.out).2.1); (case side3 => refine (Kd.N_reads' (e := 25) (base := w.heap.size) (ok := fun k_ => ((((((((some k_ ≠ (.slice Ao18 t497.length co18 : Value).ownBlock ∧ (some k_ ≠ (.slice Ao21 t501.length co21 : Value).ownBlock ∧ (some k_ ≠ (.slice Ao24 t505.length co24 : Value).ownBlock ∧ (k_ ≠ gb496 ∧ (k_ ≠ gb504 ∧ k_ ≠ gb511))))) ∧ k_ ≠ gb518) ∧ some k_ ≠ (v520 : Value).ownBlock) ∧ some k_ ≠ (v524 : Value).ownBlock) ∧ some k_ ≠ (.slice Ao43 t527.length co43 : Value).ownBlock) ∧ k_ ≠ gb532) ∧ some k_ ≠ (.slice Ao52 t533.length co52 : Value).ownBlock) ∧ k_ ≠ gb538)) (n := t512.length) (c := co31) ?_).2.2; exact (Kd.kN (b' (c' (p := ⟨gb538, 1, none⟩) (c' (p := ⟨gb538, 0, none⟩) (b' HO514.out (fun k_ hk => (⟨hk, hk.2⟩ : _ ∧ k_ ≠ gb538))) (fun _ hk => hk.2) (.slice Ao52 t533.length co52)) (fun _ hk => hk.2) (.int .i64 t536)) (fun _ h_ => h_.1)))); (case side4 => exact (Kd.N_reads' HO514.out).2.1); rintro e w126 ⟨rfl, hb⟩; refine ⟨_, rfl, ?_⟩; have n0_ := ab' (e' (Kd.kN (b' (c' (p := ⟨gb538, 1, none⟩) (c' (p := ⟨gb538, 0, none⟩) (b' HO499.out (fun k_ hk => (⟨hk, hk.2⟩ : _ ∧ k_ ≠ gb538))) (fun _ hk => hk.2) (.slice Ao52 t533.length co52)) (fun _ hk => hk.2) (.int .i64 t536)) (fun _ h_ => h_.1))) hb); have n1_ := ab' (l' (Kd.kR (Kd.R_mono (k' (p := ⟨gb538, 1, none⟩) (k' (p := ⟨gb538, 0, none⟩) (Kd.R_types HO503.out BK538.out (by decide)) (fun _ hk => hk.2) (.slice Ao52 t533.length co52)) (fun _ hk => hk.2) (.int .i64 t536)) (fun _ h_ => h_.1))) hb); have n2_ := ab' (e' (Kd.kN (b' (c' (p := ⟨gb538, 1, none⟩) (c' (p := ⟨gb538, 0, none⟩) (b' HO507.out (fun k_ hk => (⟨hk, hk.2⟩ : _ ∧ k_ ≠ gb538))) (fun _ hk => hk.2) (.slice Ao52 t533.length co52)) (fun _ hk => hk.2) (.int .i64 t536)) (fun _ h_ => h_.1))) hb); have n3_ := ab' (e' (Kd.kN (b' (c' (p := ⟨gb538, 1, none⟩) (c' (p := ⟨gb538, 0, none⟩) (b' HO514.out (fun k_ hk => (⟨hk, hk.2⟩ : _ ∧ k_ ≠ gb538))) (fun _ hk => hk.2) (.slice Ao52 t533.length co52)) (fun _ hk => hk.2) (.int .i64 t536)) (fun _ h_ => h_.1))) hb); have n4_ := ab' (e' (Kd.kN (b' (c' (p := ⟨gb538, 1, none⟩) (c' (p := ⟨gb538, 0, none⟩) (b' HO521.out (fun k_ hk => (⟨hk, hk.2⟩ : _ ∧ k_ ≠ gb538))) (fun _ hk => hk.2) (.slice Ao52 t533.length co52)) (fun _ hk => hk.2) (.int .i64 t536)) (fun _ h_ => h_.1))) hb); have n5_ := ab' (e' (Kd.kN (b' (c' (p := ⟨gb538, 1, none⟩) (c' (p := ⟨gb538, 0, none⟩) (b' HO525.out (fun k_ hk => (⟨hk, hk.2⟩ : _ ∧ k_ ≠ gb538))) (fun _ hk => hk.2) (.slice Ao52 t533.length co52)) (fun _ hk => hk.2) (.int .i64 t536)) (fun _ h_ => h_.1))) hb); have n6_ := ab' (Kd.Q_below (Kd.kQ (Kd.Q_mono (Kd.Q_far (p := ⟨gb538, 1, none⟩) (Kd.Q_far (p := ⟨gb538, 0, none⟩) (Kd.Q_types HO529.out BK538.out (by decide)) (fun _ hk => hk.2) (.slice Ao52 t533.length co52)) (fun _ hk => hk.2) (.int .i64 t536)) (fun _ h_ => h_.1))) hb); have n7_ := ab' (Kd.Q_below (Kd.kQ (Kd.Q_mono (Kd.Q_far (p := ⟨gb538, 1, none⟩) (Kd.Q_far (p := ⟨gb538, 0, none⟩) (Kd.Q_types HO535.out BK538.out (by decide)) (fun _ hk => hk.2) (.slice Ao52 t533.length co52)) (fun _ hk => hk.2) (.int .i64 t536)) (fun _ h_ => h_.1))) hb); have n8_ := ab' (d' (g := gb496) (o := .cells #[.slice A0_0 l0_0.length c0_0, .int .i64 a0_1] 24 (0, 0)) (by refine eK ?_; refine g' ?_ NB496_538.out _; refine eK ?_; refine g' ?_ NB496_538.out _; refine eK ?_; exact BK496.out) hb); have n9_ := ab' (d' (g := gb504) (o := .cells #[.slice Ao18 t497.length co18, .int .i64 t500] 27 (0, 0)) (by refine eK ?_; refine g' ?_ NB504_538.out _; refine eK ?_; refine g' ?_ NB504_538.out _; refine eK ?_; exact BK504.out) hb); have n10_ := ab' (d' (g := gb511) (o := .cells #[.slice Ao24 t505.length co24, .int .i64 t508] 27 (0, 0)) (by refine eK ?_; refine g' ?_ NB511_538.out _; refine eK ?_; refine g' ?_ NB511_538.out _; refine eK ?_; exact BK511.out) hb); have n11_ := ab' (d' (g := gb518) (o := .cells #[.slice Ao31 t512.length co31, .int .i64 t515] 24 (0, 0)) (by refine eK ?_; refine g' ?_ NB518_538.out _; refine eK ?_; refine g' ?_ NB518_538.out _; refine eK ?_; exact BK518.out) hb); have n12_ := ab' (d' (g := gb532) (o := .cells #[.slice Ao43 t527.length co43, .int .i64 t530] 27 (0, 0)) (by refine eK ?_; refine g' ?_ NB532_538.out _; refine eK ?_; refine g' ?_ NB532_538.out _; refine eK ?_; exact BK532.out) hb); have n13_ := ab' (d' (g := gb538) (o := .cells #[.slice Ao52 t533.length co52, .int .i64 t536] 24 (0, 0)) (by refine eK ?_; refine blk_put (cs := #[.slice Ao52 t533.length co52, .int .i64 0]) ?_ 1 _ rfl; refine eK ?_; refine blk_put (cs := #[.slice none 0 0, .int .i64 0]) ?_ 0 _ rfl; refine eK ?_; exact BK538.out) hb); have n14_ := ab' (j' (eH HB) hb); clear HO499; clear HO503; clear HO507; clear HO514; clear HO521; clear HO525; clear HO529; clear HO535; clear BK496; clear BK504; clear BK511; clear BK518; clear BK532; clear BK538; clear HB; have HO499 := n0_; have HO503 := n1_; have HO507 := n2_; have HO514 := n3_; have HO521 := n4_; have HO525 := n5_; have HO529 := n6_; have HO535 := n7_; have BK496 := n8_; have BK504 := n9_; have BK511 := n10_; have BK518 := n11_; have BK532 := n12_; have BK538 := n13_; have HB := n14_; clear n0_ n1_ n2_ n3_ n4_ n5_ n6_ n7_ n8_ n9_ n10_ n11_ n12_ n13_ n14_; (try clear hb); (try clear hb2); (try clear hk); (try clear hi)) | (go_at_call 14; (with_reducible refine (fanlightlaw06_num.calls t510 t540 _ A62.out).mono ?_); rintro e w' ⟨rfl, ⟨nd, rfl⟩⟩; obtain ⟨Ao127, co127, eo127⟩ := Kd.N_slice HO521.out; subst eo127; obtain ⟨Ao128, co128, eo128⟩ := Kd.N_slice HO525.out; subst eo128) | (go_at_call 20; (with_reducible refine (fanlightlaw06_same.calls k _ _ t519 _ _ t523 true _ ?side1 ?side2 ?side3 ?side4 A64.out).mono ?_); (case side1 => exact Kd.kC (Kd.N_reads' HO521.out).2.2); (case side2 => exact (Kd.N_reads' HO521.out).2.1); (case side3 => exact Kd.kC (Kd.N_reads' HO525.out).2.2); (case side4 => exact (Kd.N_reads' HO525.out).2.1); rintro e w' ⟨rfl, ⟨nd, rfl⟩⟩) | (go_at_call 14; (with_reducible refine (fanlightlaw06_num.calls t522 t542 _ A66.out).mono ?_); rintro e w' ⟨rfl, ⟨nd, rfl⟩⟩))
       go_meet
       case rel => exact ⟨_, (true), (by first | rfl | (simp; done) | (simp [*]; done)), H', ⟨by first | omega | exact Nat.le_refl _⟩, ⟨Kd.eR HO503⟩, ⟨by (with_reducible repeat (first | apply p' | apply n' | apply o')); exact b' HO499.out (fun _ hk => ⟨hk.1.1.1.1.1.1.1.1.1.1.1.2, ⟨hk.1.1.1.1.1.1.1.1.1.2, ⟨hk.1.1.1.1.1.1.1.2, ⟨hk.1.1.1.2, ⟨hk.1.2, ⟨hk.1.1.1.1.1.1.1.1.1.1.1.1, ⟨hk.1.1.1.1.1.1.1.1.1.1.2, ⟨hk.1.1.1.1.1.1.1.1.2, ⟨hk.1.1.1.1.1.1.2, ⟨hk.1.1.2, hk.2⟩⟩⟩⟩⟩⟩⟩⟩⟩⟩)⟩, ⟨by (with_reducible repeat (first | apply p' | apply n' | apply o')); exact b' HO507.out (fun _ hk => ⟨hk.1.1.1.1.1.1.1.1.1.2.1, ⟨hk.1.1.1.1.1.1.1.1.1.1, ⟨hk.1.1.1.1.1.1.1.2, ⟨hk.1.1.1.2, ⟨hk.1.2, ⟨hk.1.1.1.1.1.1.1.1.1.2.2.1, ⟨hk.1.1.1.1.1.1.1.1.1.2.2.2, ⟨hk.1.1.1.1.1.1.1.1.2, ⟨hk.1.1.1.1.1.1.2, ⟨hk.1.1.2, hk.2⟩⟩⟩⟩⟩⟩⟩⟩⟩⟩)⟩, ⟨by (with_reducible repeat (first | apply p' | apply n' | apply o')); exact b' HO514.out (fun _ hk => ⟨hk.1.1.1.1.1.1.1.2.1, ⟨hk.1.1.1.1.1.1.1.1, ⟨hk.1.1.1.1.1.1.1.2.2.1, ⟨hk.1.1.1.2, ⟨hk.1.2, ⟨hk.1.1.1.1.1.1.1.2.2.2.1, ⟨hk.1.1.1.1.1.1.1.2.2.2.2.1, ⟨hk.1.1.1.1.1.1.1.2.2.2.2.2, ⟨hk.1.1.1.1.1.1.2, ⟨hk.1.1.2, hk.2⟩⟩⟩⟩⟩⟩⟩⟩⟩⟩)⟩, ⟨by (with_reducible repeat (first | apply Kd.Q_alloc | apply Kd.Q_drewN | apply Kd.Q_drew)); exact Kd.Q_mono HO529.out (fun _ hk => ⟨hk.1.1.1.2, ⟨hk.1.1.1.1.2, ⟨hk.1.1.2, ⟨hk.1.2, hk.2⟩⟩⟩⟩)⟩, ⟨by (with_reducible repeat (first | apply Kd.Q_alloc | apply Kd.Q_drewN | apply Kd.Q_drew)); exact Kd.Q_mono HO535.out (fun _ hk => ⟨hk.1.1.1.2, ⟨hk.1.1.1.1.2, ⟨hk.1.1.2, ⟨hk.1.2, hk.2⟩⟩⟩⟩)⟩, ⟨eB BK496⟩, ⟨eB BK504⟩, ⟨eB BK511⟩, ⟨eB BK518⟩, ⟨eB BK532⟩, ⟨eB BK538⟩, ⟨eH HB⟩⟩
     ·
      replace c65 := Bool.eq_false_iff.mpr c65
      subst c65
      have H1 : (fanlightlaw06_WalTells.j0 k l1 t501 true l0_0 a0_1 t497 t500) = some r := by rw [if_neg (show ¬ (false = true) by decide)] at H; exact H
      clear H
      have H := H1
      clear H1
      have H' := ab' H
      clear H
      have hnb129 := NB511_496.out
      have hnc129 := NB496_511.out
      have hnb130 := NB511_504.out
      have hnc130 := NB504_511.out
      have hnb131 := NB511_518.out
      have hnc131 := NB518_511.out
      have hnb132 := NB511_532.out
      have hnc132 := NB532_511.out
      have hnb133 := NB511_538.out
      have hnc133 := NB538_511.out
      have hcz134_0 : w51.cell? ⟨gb511, 0, none⟩ = some (.slice Ao24 t505.length co24) := (f' BK511.out 0).trans rfl
      have hcz134_1 : w51.cell? ⟨gb511, 1, none⟩ = some (.int .i64 t508) := (f' BK511.out 1).trans rfl
      have hfz134_0 := h' BK511.out 0
      have hfz134_1 := h' BK511.out 1
      have hnb135 := NB518_496.out
      have hnc135 := NB496_518.out
      have hnb136 := NB518_504.out
      have hnc136 := NB504_518.out
      have hnb137 := NB518_532.out
      have hnc137 := NB532_518.out
      have hnb138 := NB518_538.out
      have hnc138 := NB538_518.out
      have hcz139_0 : w51.cell? ⟨gb518, 0, none⟩ = some (.slice Ao31 t512.length co31) := (f' BK518.out 0).trans rfl
      have hcz139_1 : w51.cell? ⟨gb518, 1, none⟩ = some (.int .i64 t515) := (f' BK518.out 1).trans rfl
      have hfz139_0 := h' BK518.out 0
      have hfz139_1 := h' BK518.out 1
      go_wp2_with (first | ((with_reducible refine gate_callee (f := 15) rfl ?_); refine goesL_ (some 65) rfl rfl Try.func15 (by kernel_rfl) rfl #[.agg #[.slice Ao24 t505.length co24, .int .i64 t508], .agg #[.slice Ao31 t512.length co31, .int .i64 t515]] rfl (by (try simp only [v', x', y']); first | done | rfl | (simp only [z', aa']; rfl)) ?_; (with_reducible refine (fanlightlaw06_Alike.calls k _ _ t505 t508 _ _ t512 t515 t539 _ ?side1 ?side2 ?side3 ?side4 A59.out).mono ?_); (case side1 => refine (Kd.N_reads' (e := 25) (base := w.heap.size) (ok := fun k_ => ((((((((((some k_ ≠ (.slice Ao18 t497.length co18 : Value).ownBlock ∧ (some k_ ≠ (.slice Ao21 t501.length co21 : Value).ownBlock ∧ (k_ ≠ gb496 ∧ k_ ≠ gb504))) ∧ k_ ≠ gb511) ∧ some k_ ≠ (.slice Ao31 t512.length co31 : Value).ownBlock) ∧ k_ ≠ gb518) ∧ some k_ ≠ (v520 : Value).ownBlock) ∧ some k_ ≠ (v524 : Value).ownBlock) ∧ some k_ ≠ (.slice Ao43 t527.length co43 : Value).ownBlock) ∧ k_ ≠ gb532) ∧ some k_ ≠ (.slice Ao52 t533.length co52 : Value).ownBlock) ∧ k_ ≠ gb538)) (n := t505.length) (c := co24) ?_).2.2; exact (Kd.kN (b' (c' (p := ⟨gb538, 1, none⟩) (c' (p := ⟨gb538, 0, none⟩) (b' HO507.out (fun k_ hk => (⟨hk, hk.2⟩ : _ ∧ k_ ≠ gb538))) (fun _ hk => hk.2) (.slice Ao52 t533.length co52)) (fun _ hk => hk.2) (.int .i64 t536)) (fun _ h_ => h_.1)))); (case side2 => exact (Kd.N_reads' HO507.out).2.1); (case side3 => refine (Kd.N_reads' (e := 25) (base := w.heap.size) (ok := fun k_ => ((((((((some k_ ≠ (.slice Ao18 t497.length co18 : Value).ownBlock ∧ (some k_ ≠ (.slice Ao21 t501.length co21 : Value).ownBlock ∧ (some k_ ≠ (.slice Ao24 t505.length co24 : Value).ownBlock ∧ (k_ ≠ gb496 ∧ (k_ ≠ gb504 ∧ k_ ≠ gb511))))) ∧ k_ ≠ gb518) ∧ some k_ ≠ (v520 : Value).ownBlock) ∧ some k_ ≠ (v524 : Value).ownBlock) ∧ some k_ ≠ (.slice Ao43 t527.length co43 : Value).ownBlock) ∧ k_ ≠ gb532) ∧ some k_ ≠ (.slice Ao52 t533.length co52 : Value).ownBlock) ∧ k_ ≠ gb538)) (n := t512.length) (c := co31) ?_).2.2; exact (Kd.kN (b' (c' (p := ⟨gb538, 1, none⟩) (c' (p := ⟨gb538, 0, none⟩) (b' HO514.out (fun k_ hk => (⟨hk, hk.2⟩ : _ ∧ k_ ≠ gb538))) (fun _ hk => hk.2) (.slice Ao52 t533.length co52)) (fun _ hk => hk.2) (.int .i64 t536)) (fun _ h_ => h_.1)))); (case side4 => exact (Kd.N_reads' HO514.out).2.1); rintro e w140 ⟨rfl, hb⟩; refine ⟨_, rfl, ?_⟩; have n0_ := ab' (e' (Kd.kN (b' (c' (p := ⟨gb538, 1, none⟩) (c' (p := ⟨gb538, 0, none⟩) (b' HO499.out (fun k_ hk => (⟨hk, hk.2⟩ : _ ∧ k_ ≠ gb538))) (fun _ hk => hk.2) (.slice Ao52 t533.length co52)) (fun _ hk => hk.2) (.int .i64 t536)) (fun _ h_ => h_.1))) hb); have n1_ := ab' (l' (Kd.kR (Kd.R_mono (k' (p := ⟨gb538, 1, none⟩) (k' (p := ⟨gb538, 0, none⟩) (Kd.R_types HO503.out BK538.out (by decide)) (fun _ hk => hk.2) (.slice Ao52 t533.length co52)) (fun _ hk => hk.2) (.int .i64 t536)) (fun _ h_ => h_.1))) hb); have n2_ := ab' (e' (Kd.kN (b' (c' (p := ⟨gb538, 1, none⟩) (c' (p := ⟨gb538, 0, none⟩) (b' HO507.out (fun k_ hk => (⟨hk, hk.2⟩ : _ ∧ k_ ≠ gb538))) (fun _ hk => hk.2) (.slice Ao52 t533.length co52)) (fun _ hk => hk.2) (.int .i64 t536)) (fun _ h_ => h_.1))) hb); have n3_ := ab' (e' (Kd.kN (b' (c' (p := ⟨gb538, 1, none⟩) (c' (p := ⟨gb538, 0, none⟩) (b' HO514.out (fun k_ hk => (⟨hk, hk.2⟩ : _ ∧ k_ ≠ gb538))) (fun _ hk => hk.2) (.slice Ao52 t533.length co52)) (fun _ hk => hk.2) (.int .i64 t536)) (fun _ h_ => h_.1))) hb); have n4_ := ab' (e' (Kd.kN (b' (c' (p := ⟨gb538, 1, none⟩) (c' (p := ⟨gb538, 0, none⟩) (b' HO521.out (fun k_ hk => (⟨hk, hk.2⟩ : _ ∧ k_ ≠ gb538))) (fun _ hk => hk.2) (.slice Ao52 t533.length co52)) (fun _ hk => hk.2) (.int .i64 t536)) (fun _ h_ => h_.1))) hb); have n5_ := ab' (e' (Kd.kN (b' (c' (p := ⟨gb538, 1, none⟩) (c' (p := ⟨gb538, 0, none⟩) (b' HO525.out (fun k_ hk => (⟨hk, hk.2⟩ : _ ∧ k_ ≠ gb538))) (fun _ hk => hk.2) (.slice Ao52 t533.length co52)) (fun _ hk => hk.2) (.int .i64 t536)) (fun _ h_ => h_.1))) hb); have n6_ := ab' (Kd.Q_below (Kd.kQ (Kd.Q_mono (Kd.Q_far (p := ⟨gb538, 1, none⟩) (Kd.Q_far (p := ⟨gb538, 0, none⟩) (Kd.Q_types HO529.out BK538.out (by decide)) (fun _ hk => hk.2) (.slice Ao52 t533.length co52)) (fun _ hk => hk.2) (.int .i64 t536)) (fun _ h_ => h_.1))) hb); have n7_ := ab' (Kd.Q_below (Kd.kQ (Kd.Q_mono (Kd.Q_far (p := ⟨gb538, 1, none⟩) (Kd.Q_far (p := ⟨gb538, 0, none⟩) (Kd.Q_types HO535.out BK538.out (by decide)) (fun _ hk => hk.2) (.slice Ao52 t533.length co52)) (fun _ hk => hk.2) (.int .i64 t536)) (fun _ h_ => h_.1))) hb); have n8_ := ab' (d' (g := gb496) (o := .cells #[.slice A0_0 l0_0.length c0_0, .int .i64 a0_1] 24 (0, 0)) (by refine eK ?_; refine g' ?_ NB496_538.out _; refine eK ?_; refine g' ?_ NB496_538.out _; refine eK ?_; exact BK496.out) hb); have n9_ := ab' (d' (g := gb504) (o := .cells #[.slice Ao18 t497.length co18, .int .i64 t500] 27 (0, 0)) (by refine eK ?_; refine g' ?_ NB504_538.out _; refine eK ?_; refine g' ?_ NB504_538.out _; refine eK ?_; exact BK504.out) hb); have n10_ := ab' (d' (g := gb511) (o := .cells #[.slice Ao24 t505.length co24, .int .i64 t508] 27 (0, 0)) (by refine eK ?_; refine g' ?_ NB511_538.out _; refine eK ?_; refine g' ?_ NB511_538.out _; refine eK ?_; exact BK511.out) hb); have n11_ := ab' (d' (g := gb518) (o := .cells #[.slice Ao31 t512.length co31, .int .i64 t515] 24 (0, 0)) (by refine eK ?_; refine g' ?_ NB518_538.out _; refine eK ?_; refine g' ?_ NB518_538.out _; refine eK ?_; exact BK518.out) hb); have n12_ := ab' (d' (g := gb532) (o := .cells #[.slice Ao43 t527.length co43, .int .i64 t530] 27 (0, 0)) (by refine eK ?_; refine g' ?_ NB532_538.out _; refine eK ?_; refine g' ?_ NB532_538.out _; refine eK ?_; exact BK532.out) hb); have n13_ := ab' (d' (g := gb538) (o := .cells #[.slice Ao52 t533.length co52, .int .i64 t536] 24 (0, 0)) (by refine eK ?_; refine blk_put (cs := #[.slice Ao52 t533.length co52, .int .i64 0]) ?_ 1 _ rfl; refine eK ?_; refine blk_put (cs := #[.slice none 0 0, .int .i64 0]) ?_ 0 _ rfl; refine eK ?_; exact BK538.out) hb); have n14_ := ab' (j' (eH HB) hb); clear HO499; clear HO503; clear HO507; clear HO514; clear HO521; clear HO525; clear HO529; clear HO535; clear BK496; clear BK504; clear BK511; clear BK518; clear BK532; clear BK538; clear HB; have HO499 := n0_; have HO503 := n1_; have HO507 := n2_; have HO514 := n3_; have HO521 := n4_; have HO525 := n5_; have HO529 := n6_; have HO535 := n7_; have BK496 := n8_; have BK504 := n9_; have BK511 := n10_; have BK518 := n11_; have BK532 := n12_; have BK538 := n13_; have HB := n14_; clear n0_ n1_ n2_ n3_ n4_ n5_ n6_ n7_ n8_ n9_ n10_ n11_ n12_ n13_ n14_; (try clear hb); (try clear hb2); (try clear hk); (try clear hi)) | (go_at_call 14; (with_reducible refine (fanlightlaw06_num.calls t510 t540 _ A62.out).mono ?_); rintro e w' ⟨rfl, ⟨nd, rfl⟩⟩; obtain ⟨Ao141, co141, eo141⟩ := Kd.N_slice HO521.out; subst eo141; obtain ⟨Ao142, co142, eo142⟩ := Kd.N_slice HO525.out; subst eo142) | (go_at_call 20; (with_reducible refine (fanlightlaw06_same.calls k _ _ t519 _ _ t523 false _ ?side1 ?side2 ?side3 ?side4 A64.out).mono ?_); (case side1 => exact Kd.kC (Kd.N_reads' HO521.out).2.2); (case side2 => exact (Kd.N_reads' HO521.out).2.1); (case side3 => exact Kd.kC (Kd.N_reads' HO525.out).2.2); (case side4 => exact (Kd.N_reads' HO525.out).2.1); rintro e w' ⟨rfl, ⟨nd, rfl⟩⟩))
      go_meet
      case rel => exact ⟨_, (true), (by first | rfl | (simp; done) | (simp [*]; done)), H', ⟨by first | omega | exact Nat.le_refl _⟩, ⟨Kd.eR HO503⟩, ⟨by (with_reducible repeat (first | apply p' | apply n' | apply o')); exact b' HO499.out (fun _ hk => ⟨hk.1.1.1.1.1.1.1.1.1.1.1.2, ⟨hk.1.1.1.1.1.1.1.1.1.2, ⟨hk.1.1.1.1.1.1.1.2, ⟨hk.1.1.1.2, ⟨hk.1.2, ⟨hk.1.1.1.1.1.1.1.1.1.1.1.1, ⟨hk.1.1.1.1.1.1.1.1.1.1.2, ⟨hk.1.1.1.1.1.1.1.1.2, ⟨hk.1.1.1.1.1.1.2, ⟨hk.1.1.2, hk.2⟩⟩⟩⟩⟩⟩⟩⟩⟩⟩)⟩, ⟨by (with_reducible repeat (first | apply p' | apply n' | apply o')); exact b' HO507.out (fun _ hk => ⟨hk.1.1.1.1.1.1.1.1.1.2.1, ⟨hk.1.1.1.1.1.1.1.1.1.1, ⟨hk.1.1.1.1.1.1.1.2, ⟨hk.1.1.1.2, ⟨hk.1.2, ⟨hk.1.1.1.1.1.1.1.1.1.2.2.1, ⟨hk.1.1.1.1.1.1.1.1.1.2.2.2, ⟨hk.1.1.1.1.1.1.1.1.2, ⟨hk.1.1.1.1.1.1.2, ⟨hk.1.1.2, hk.2⟩⟩⟩⟩⟩⟩⟩⟩⟩⟩)⟩, ⟨by (with_reducible repeat (first | apply p' | apply n' | apply o')); exact b' HO514.out (fun _ hk => ⟨hk.1.1.1.1.1.1.1.2.1, ⟨hk.1.1.1.1.1.1.1.1, ⟨hk.1.1.1.1.1.1.1.2.2.1, ⟨hk.1.1.1.2, ⟨hk.1.2, ⟨hk.1.1.1.1.1.1.1.2.2.2.1, ⟨hk.1.1.1.1.1.1.1.2.2.2.2.1, ⟨hk.1.1.1.1.1.1.1.2.2.2.2.2, ⟨hk.1.1.1.1.1.1.2, ⟨hk.1.1.2, hk.2⟩⟩⟩⟩⟩⟩⟩⟩⟩⟩)⟩, ⟨by (with_reducible repeat (first | apply Kd.Q_alloc | apply Kd.Q_drewN | apply Kd.Q_drew)); exact Kd.Q_mono HO529.out (fun _ hk => ⟨hk.1.1.1.2, ⟨hk.1.1.1.1.2, ⟨hk.1.1.2, ⟨hk.1.2, hk.2⟩⟩⟩⟩)⟩, ⟨by (with_reducible repeat (first | apply Kd.Q_alloc | apply Kd.Q_drewN | apply Kd.Q_drew)); exact Kd.Q_mono HO535.out (fun _ hk => ⟨hk.1.1.1.2, ⟨hk.1.1.1.1.2, ⟨hk.1.1.2, ⟨hk.1.2, hk.2⟩⟩⟩⟩)⟩, ⟨eB BK496⟩, ⟨eB BK504⟩, ⟨eB BK511⟩, ⟨eB BK518⟩, ⟨eB BK532⟩, ⟨eB BK538⟩, ⟨eH HB⟩⟩
    ·
     rw [if_neg c63] at H
     have c63b0 : (t540 == t517) = false := beq_eq_false_iff_ne.mpr c63
     have c63b1 : (t540 != t517) = true := bne_iff_ne.mpr c63
     have H' := ab' H
     clear H
     have hnb143 := NB511_496.out
     have hnc143 := NB496_511.out
     have hnb144 := NB511_504.out
     have hnc144 := NB504_511.out
     have hnb145 := NB511_518.out
     have hnc145 := NB518_511.out
     have hnb146 := NB511_532.out
     have hnc146 := NB532_511.out
     have hnb147 := NB511_538.out
     have hnc147 := NB538_511.out
     have hcz148_0 : w51.cell? ⟨gb511, 0, none⟩ = some (.slice Ao24 t505.length co24) := (f' BK511.out 0).trans rfl
     have hcz148_1 : w51.cell? ⟨gb511, 1, none⟩ = some (.int .i64 t508) := (f' BK511.out 1).trans rfl
     have hfz148_0 := h' BK511.out 0
     have hfz148_1 := h' BK511.out 1
     have hnb149 := NB518_496.out
     have hnc149 := NB496_518.out
     have hnb150 := NB518_504.out
     have hnc150 := NB504_518.out
     have hnb151 := NB518_532.out
     have hnc151 := NB532_518.out
     have hnb152 := NB518_538.out
     have hnc152 := NB538_518.out
     have hcz153_0 : w51.cell? ⟨gb518, 0, none⟩ = some (.slice Ao31 t512.length co31) := (f' BK518.out 0).trans rfl
     have hcz153_1 : w51.cell? ⟨gb518, 1, none⟩ = some (.int .i64 t515) := (f' BK518.out 1).trans rfl
     have hfz153_0 := h' BK518.out 0
     have hfz153_1 := h' BK518.out 1
     go_wp2_with (first | ((with_reducible refine gate_callee (f := 15) rfl ?_); refine goesL_ (some 65) rfl rfl Try.func15 (by kernel_rfl) rfl #[.agg #[.slice Ao24 t505.length co24, .int .i64 t508], .agg #[.slice Ao31 t512.length co31, .int .i64 t515]] rfl (by (try simp only [v', x', y']); first | done | rfl | (simp only [z', aa']; rfl)) ?_; (with_reducible refine (fanlightlaw06_Alike.calls k _ _ t505 t508 _ _ t512 t515 t539 _ ?side1 ?side2 ?side3 ?side4 A59.out).mono ?_); (case side1 => refine (Kd.N_reads' (e := 25) (base := w.heap.size) (ok := fun k_ => ((((((((((some k_ ≠ (.slice Ao18 t497.length co18 : Value).ownBlock ∧ (some k_ ≠ (.slice Ao21 t501.length co21 : Value).ownBlock ∧ (k_ ≠ gb496 ∧ k_ ≠ gb504))) ∧ k_ ≠ gb511) ∧ some k_ ≠ (.slice Ao31 t512.length co31 : Value).ownBlock) ∧ k_ ≠ gb518) ∧ some k_ ≠ (v520 : Value).ownBlock) ∧ some k_ ≠ (v524 : Value).ownBlock) ∧ some k_ ≠ (.slice Ao43 t527.length co43 : Value).ownBlock) ∧ k_ ≠ gb532) ∧ some k_ ≠ (.slice Ao52 t533.length co52 : Value).ownBlock) ∧ k_ ≠ gb538)) (n := t505.length) (c := co24) ?_).2.2; exact (Kd.kN (b' (c' (p := ⟨gb538, 1, none⟩) (c' (p := ⟨gb538, 0, none⟩) (b' HO507.out (fun k_ hk => (⟨hk, hk.2⟩ : _ ∧ k_ ≠ gb538))) (fun _ hk => hk.2) (.slice Ao52 t533.length co52)) (fun _ hk => hk.2) (.int .i64 t536)) (fun _ h_ => h_.1)))); (case side2 => exact (Kd.N_reads' HO507.out).2.1); (case side3 => refine (Kd.N_reads' (e := 25) (base := w.heap.size) (ok := fun k_ => ((((((((some k_ ≠ (.slice Ao18 t497.length co18 : Value).ownBlock ∧ (some k_ ≠ (.slice Ao21 t501.length co21 : Value).ownBlock ∧ (some k_ ≠ (.slice Ao24 t505.length co24 : Value).ownBlock ∧ (k_ ≠ gb496 ∧ (k_ ≠ gb504 ∧ k_ ≠ gb511))))) ∧ k_ ≠ gb518) ∧ some k_ ≠ (v520 : Value).ownBlock) ∧ some k_ ≠ (v524 : Value).ownBlock) ∧ some k_ ≠ (.slice Ao43 t527.length co43 : Value).ownBlock) ∧ k_ ≠ gb532) ∧ some k_ ≠ (.slice Ao52 t533.length co52 : Value).ownBlock) ∧ k_ ≠ gb538)) (n := t512.length) (c := co31) ?_).2.2; exact (Kd.kN (b' (c' (p := ⟨gb538, 1, none⟩) (c' (p := ⟨gb538, 0, none⟩) (b' HO514.out (fun k_ hk => (⟨hk, hk.2⟩ : _ ∧ k_ ≠ gb538))) (fun _ hk => hk.2) (.slice Ao52 t533.length co52)) (fun _ hk => hk.2) (.int .i64 t536)) (fun _ h_ => h_.1)))); (case side4 => exact (Kd.N_reads' HO514.out).2.1); rintro e w154 ⟨rfl, hb⟩; refine ⟨_, rfl, ?_⟩; have n0_ := ab' (e' (Kd.kN (b' (c' (p := ⟨gb538, 1, none⟩) (c' (p := ⟨gb538, 0, none⟩) (b' HO499.out (fun k_ hk => (⟨hk, hk.2⟩ : _ ∧ k_ ≠ gb538))) (fun _ hk => hk.2) (.slice Ao52 t533.length co52)) (fun _ hk => hk.2) (.int .i64 t536)) (fun _ h_ => h_.1))) hb); have n1_ := ab' (l' (Kd.kR (Kd.R_mono (k' (p := ⟨gb538, 1, none⟩) (k' (p := ⟨gb538, 0, none⟩) (Kd.R_types HO503.out BK538.out (by decide)) (fun _ hk => hk.2) (.slice Ao52 t533.length co52)) (fun _ hk => hk.2) (.int .i64 t536)) (fun _ h_ => h_.1))) hb); have n2_ := ab' (e' (Kd.kN (b' (c' (p := ⟨gb538, 1, none⟩) (c' (p := ⟨gb538, 0, none⟩) (b' HO507.out (fun k_ hk => (⟨hk, hk.2⟩ : _ ∧ k_ ≠ gb538))) (fun _ hk => hk.2) (.slice Ao52 t533.length co52)) (fun _ hk => hk.2) (.int .i64 t536)) (fun _ h_ => h_.1))) hb); have n3_ := ab' (e' (Kd.kN (b' (c' (p := ⟨gb538, 1, none⟩) (c' (p := ⟨gb538, 0, none⟩) (b' HO514.out (fun k_ hk => (⟨hk, hk.2⟩ : _ ∧ k_ ≠ gb538))) (fun _ hk => hk.2) (.slice Ao52 t533.length co52)) (fun _ hk => hk.2) (.int .i64 t536)) (fun _ h_ => h_.1))) hb); have n4_ := ab' (e' (Kd.kN (b' (c' (p := ⟨gb538, 1, none⟩) (c' (p := ⟨gb538, 0, none⟩) (b' HO521.out (fun k_ hk => (⟨hk, hk.2⟩ : _ ∧ k_ ≠ gb538))) (fun _ hk => hk.2) (.slice Ao52 t533.length co52)) (fun _ hk => hk.2) (.int .i64 t536)) (fun _ h_ => h_.1))) hb); have n5_ := ab' (e' (Kd.kN (b' (c' (p := ⟨gb538, 1, none⟩) (c' (p := ⟨gb538, 0, none⟩) (b' HO525.out (fun k_ hk => (⟨hk, hk.2⟩ : _ ∧ k_ ≠ gb538))) (fun _ hk => hk.2) (.slice Ao52 t533.length co52)) (fun _ hk => hk.2) (.int .i64 t536)) (fun _ h_ => h_.1))) hb); have n6_ := ab' (Kd.Q_below (Kd.kQ (Kd.Q_mono (Kd.Q_far (p := ⟨gb538, 1, none⟩) (Kd.Q_far (p := ⟨gb538, 0, none⟩) (Kd.Q_types HO529.out BK538.out (by decide)) (fun _ hk => hk.2) (.slice Ao52 t533.length co52)) (fun _ hk => hk.2) (.int .i64 t536)) (fun _ h_ => h_.1))) hb); have n7_ := ab' (Kd.Q_below (Kd.kQ (Kd.Q_mono (Kd.Q_far (p := ⟨gb538, 1, none⟩) (Kd.Q_far (p := ⟨gb538, 0, none⟩) (Kd.Q_types HO535.out BK538.out (by decide)) (fun _ hk => hk.2) (.slice Ao52 t533.length co52)) (fun _ hk => hk.2) (.int .i64 t536)) (fun _ h_ => h_.1))) hb); have n8_ := ab' (d' (g := gb496) (o := .cells #[.slice A0_0 l0_0.length c0_0, .int .i64 a0_1] 24 (0, 0)) (by refine eK ?_; refine g' ?_ NB496_538.out _; refine eK ?_; refine g' ?_ NB496_538.out _; refine eK ?_; exact BK496.out) hb); have n9_ := ab' (d' (g := gb504) (o := .cells #[.slice Ao18 t497.length co18, .int .i64 t500] 27 (0, 0)) (by refine eK ?_; refine g' ?_ NB504_538.out _; refine eK ?_; refine g' ?_ NB504_538.out _; refine eK ?_; exact BK504.out) hb); have n10_ := ab' (d' (g := gb511) (o := .cells #[.slice Ao24 t505.length co24, .int .i64 t508] 27 (0, 0)) (by refine eK ?_; refine g' ?_ NB511_538.out _; refine eK ?_; refine g' ?_ NB511_538.out _; refine eK ?_; exact BK511.out) hb); have n11_ := ab' (d' (g := gb518) (o := .cells #[.slice Ao31 t512.length co31, .int .i64 t515] 24 (0, 0)) (by refine eK ?_; refine g' ?_ NB518_538.out _; refine eK ?_; refine g' ?_ NB518_538.out _; refine eK ?_; exact BK518.out) hb); have n12_ := ab' (d' (g := gb532) (o := .cells #[.slice Ao43 t527.length co43, .int .i64 t530] 27 (0, 0)) (by refine eK ?_; refine g' ?_ NB532_538.out _; refine eK ?_; refine g' ?_ NB532_538.out _; refine eK ?_; exact BK532.out) hb); have n13_ := ab' (d' (g := gb538) (o := .cells #[.slice Ao52 t533.length co52, .int .i64 t536] 24 (0, 0)) (by refine eK ?_; refine blk_put (cs := #[.slice Ao52 t533.length co52, .int .i64 0]) ?_ 1 _ rfl; refine eK ?_; refine blk_put (cs := #[.slice none 0 0, .int .i64 0]) ?_ 0 _ rfl; refine eK ?_; exact BK538.out) hb); have n14_ := ab' (j' (eH HB) hb); clear HO499; clear HO503; clear HO507; clear HO514; clear HO521; clear HO525; clear HO529; clear HO535; clear BK496; clear BK504; clear BK511; clear BK518; clear BK532; clear BK538; clear HB; have HO499 := n0_; have HO503 := n1_; have HO507 := n2_; have HO514 := n3_; have HO521 := n4_; have HO525 := n5_; have HO529 := n6_; have HO535 := n7_; have BK496 := n8_; have BK504 := n9_; have BK511 := n10_; have BK518 := n11_; have BK532 := n12_; have BK538 := n13_; have HB := n14_; clear n0_ n1_ n2_ n3_ n4_ n5_ n6_ n7_ n8_ n9_ n10_ n11_ n12_ n13_ n14_; (try clear hb); (try clear hb2); (try clear hk); (try clear hi)) | (go_at_call 14; (with_reducible refine (fanlightlaw06_num.calls t510 t540 _ A62.out).mono ?_); rintro e w' ⟨rfl, ⟨nd, rfl⟩⟩))
     go_meet
     case rel => exact ⟨_, (true), (by first | rfl | (simp; done) | (simp [*]; done)), H', ⟨by first | omega | exact Nat.le_refl _⟩, ⟨Kd.eR HO503⟩, ⟨by (with_reducible repeat (first | apply p' | apply n' | apply o')); exact b' HO499.out (fun _ hk => ⟨hk.1.1.1.1.1.1.1.1.1.1.1.2, ⟨hk.1.1.1.1.1.1.1.1.1.2, ⟨hk.1.1.1.1.1.1.1.2, ⟨hk.1.1.1.2, ⟨hk.1.2, ⟨hk.1.1.1.1.1.1.1.1.1.1.1.1, ⟨hk.1.1.1.1.1.1.1.1.1.1.2, ⟨hk.1.1.1.1.1.1.1.1.2, ⟨hk.1.1.1.1.1.1.2, ⟨hk.1.1.2, hk.2⟩⟩⟩⟩⟩⟩⟩⟩⟩⟩)⟩, ⟨by (with_reducible repeat (first | apply p' | apply n' | apply o')); exact b' HO507.out (fun _ hk => ⟨hk.1.1.1.1.1.1.1.1.1.2.1, ⟨hk.1.1.1.1.1.1.1.1.1.1, ⟨hk.1.1.1.1.1.1.1.2, ⟨hk.1.1.1.2, ⟨hk.1.2, ⟨hk.1.1.1.1.1.1.1.1.1.2.2.1, ⟨hk.1.1.1.1.1.1.1.1.1.2.2.2, ⟨hk.1.1.1.1.1.1.1.1.2, ⟨hk.1.1.1.1.1.1.2, ⟨hk.1.1.2, hk.2⟩⟩⟩⟩⟩⟩⟩⟩⟩⟩)⟩, ⟨by (with_reducible repeat (first | apply p' | apply n' | apply o')); exact b' HO514.out (fun _ hk => ⟨hk.1.1.1.1.1.1.1.2.1, ⟨hk.1.1.1.1.1.1.1.1, ⟨hk.1.1.1.1.1.1.1.2.2.1, ⟨hk.1.1.1.2, ⟨hk.1.2, ⟨hk.1.1.1.1.1.1.1.2.2.2.1, ⟨hk.1.1.1.1.1.1.1.2.2.2.2.1, ⟨hk.1.1.1.1.1.1.1.2.2.2.2.2, ⟨hk.1.1.1.1.1.1.2, ⟨hk.1.1.2, hk.2⟩⟩⟩⟩⟩⟩⟩⟩⟩⟩)⟩, ⟨by (with_reducible repeat (first | apply Kd.Q_alloc | apply Kd.Q_drewN | apply Kd.Q_drew)); exact Kd.Q_mono HO529.out (fun _ hk => ⟨hk.1.1.1.2, ⟨hk.1.1.1.1.2, ⟨hk.1.1.2, ⟨hk.1.2, hk.2⟩⟩⟩⟩)⟩, ⟨by (with_reducible repeat (first | apply Kd.Q_alloc | apply Kd.Q_drewN | apply Kd.Q_drew)); exact Kd.Q_mono HO535.out (fun _ hk => ⟨hk.1.1.1.2, ⟨hk.1.1.1.1.2, ⟨hk.1.1.2, ⟨hk.1.2, hk.2⟩⟩⟩⟩)⟩, ⟨eB BK496⟩, ⟨eB BK504⟩, ⟨eB BK511⟩, ⟨eB BK518⟩, ⟨eB BK532⟩, ⟨eB BK538⟩, ⟨eH HB⟩⟩
   ·
    rw [if_neg c61] at H
    have c61b0 : (t509 == t516) = false := beq_eq_false_iff_ne.mpr c61
    have c61b1 : (t509 != t516) = true := bne_iff_ne.mpr c61
    have H' := ab' H
    clear H
    have hnb155 := NB511_496.out
    have hnc155 := NB496_511.out
    have hnb156 := NB511_504.out
    have hnc156 := NB504_511.out
    have hnb157 := NB511_518.out
    have hnc157 := NB518_511.out
    have hnb158 := NB511_532.out
    have hnc158 := NB532_511.out
    have hnb159 := NB511_538.out
    have hnc159 := NB538_511.out
    have hcz160_0 : w51.cell? ⟨gb511, 0, none⟩ = some (.slice Ao24 t505.length co24) := (f' BK511.out 0).trans rfl
    have hcz160_1 : w51.cell? ⟨gb511, 1, none⟩ = some (.int .i64 t508) := (f' BK511.out 1).trans rfl
    have hfz160_0 := h' BK511.out 0
    have hfz160_1 := h' BK511.out 1
    have hnb161 := NB518_496.out
    have hnc161 := NB496_518.out
    have hnb162 := NB518_504.out
    have hnc162 := NB504_518.out
    have hnb163 := NB518_532.out
    have hnc163 := NB532_518.out
    have hnb164 := NB518_538.out
    have hnc164 := NB538_518.out
    have hcz165_0 : w51.cell? ⟨gb518, 0, none⟩ = some (.slice Ao31 t512.length co31) := (f' BK518.out 0).trans rfl
    have hcz165_1 : w51.cell? ⟨gb518, 1, none⟩ = some (.int .i64 t515) := (f' BK518.out 1).trans rfl
    have hfz165_0 := h' BK518.out 0
    have hfz165_1 := h' BK518.out 1
    go_wp2_with (first | ((with_reducible refine gate_callee (f := 15) rfl ?_); refine goesL_ (some 65) rfl rfl Try.func15 (by kernel_rfl) rfl #[.agg #[.slice Ao24 t505.length co24, .int .i64 t508], .agg #[.slice Ao31 t512.length co31, .int .i64 t515]] rfl (by (try simp only [v', x', y']); first | done | rfl | (simp only [z', aa']; rfl)) ?_; (with_reducible refine (fanlightlaw06_Alike.calls k _ _ t505 t508 _ _ t512 t515 t539 _ ?side1 ?side2 ?side3 ?side4 A59.out).mono ?_); (case side1 => refine (Kd.N_reads' (e := 25) (base := w.heap.size) (ok := fun k_ => ((((((((((some k_ ≠ (.slice Ao18 t497.length co18 : Value).ownBlock ∧ (some k_ ≠ (.slice Ao21 t501.length co21 : Value).ownBlock ∧ (k_ ≠ gb496 ∧ k_ ≠ gb504))) ∧ k_ ≠ gb511) ∧ some k_ ≠ (.slice Ao31 t512.length co31 : Value).ownBlock) ∧ k_ ≠ gb518) ∧ some k_ ≠ (v520 : Value).ownBlock) ∧ some k_ ≠ (v524 : Value).ownBlock) ∧ some k_ ≠ (.slice Ao43 t527.length co43 : Value).ownBlock) ∧ k_ ≠ gb532) ∧ some k_ ≠ (.slice Ao52 t533.length co52 : Value).ownBlock) ∧ k_ ≠ gb538)) (n := t505.length) (c := co24) ?_).2.2; exact (Kd.kN (b' (c' (p := ⟨gb538, 1, none⟩) (c' (p := ⟨gb538, 0, none⟩) (b' HO507.out (fun k_ hk => (⟨hk, hk.2⟩ : _ ∧ k_ ≠ gb538))) (fun _ hk => hk.2) (.slice Ao52 t533.length co52)) (fun _ hk => hk.2) (.int .i64 t536)) (fun _ h_ => h_.1)))); (case side2 => exact (Kd.N_reads' HO507.out).2.1); (case side3 => refine (Kd.N_reads' (e := 25) (base := w.heap.size) (ok := fun k_ => ((((((((some k_ ≠ (.slice Ao18 t497.length co18 : Value).ownBlock ∧ (some k_ ≠ (.slice Ao21 t501.length co21 : Value).ownBlock ∧ (some k_ ≠ (.slice Ao24 t505.length co24 : Value).ownBlock ∧ (k_ ≠ gb496 ∧ (k_ ≠ gb504 ∧ k_ ≠ gb511))))) ∧ k_ ≠ gb518) ∧ some k_ ≠ (v520 : Value).ownBlock) ∧ some k_ ≠ (v524 : Value).ownBlock) ∧ some k_ ≠ (.slice Ao43 t527.length co43 : Value).ownBlock) ∧ k_ ≠ gb532) ∧ some k_ ≠ (.slice Ao52 t533.length co52 : Value).ownBlock) ∧ k_ ≠ gb538)) (n := t512.length) (c := co31) ?_).2.2; exact (Kd.kN (b' (c' (p := ⟨gb538, 1, none⟩) (c' (p := ⟨gb538, 0, none⟩) (b' HO514.out (fun k_ hk => (⟨hk, hk.2⟩ : _ ∧ k_ ≠ gb538))) (fun _ hk => hk.2) (.slice Ao52 t533.length co52)) (fun _ hk => hk.2) (.int .i64 t536)) (fun _ h_ => h_.1)))); (case side4 => exact (Kd.N_reads' HO514.out).2.1); rintro e w166 ⟨rfl, hb⟩; refine ⟨_, rfl, ?_⟩; have n0_ := ab' (e' (Kd.kN (b' (c' (p := ⟨gb538, 1, none⟩) (c' (p := ⟨gb538, 0, none⟩) (b' HO499.out (fun k_ hk => (⟨hk, hk.2⟩ : _ ∧ k_ ≠ gb538))) (fun _ hk => hk.2) (.slice Ao52 t533.length co52)) (fun _ hk => hk.2) (.int .i64 t536)) (fun _ h_ => h_.1))) hb); have n1_ := ab' (l' (Kd.kR (Kd.R_mono (k' (p := ⟨gb538, 1, none⟩) (k' (p := ⟨gb538, 0, none⟩) (Kd.R_types HO503.out BK538.out (by decide)) (fun _ hk => hk.2) (.slice Ao52 t533.length co52)) (fun _ hk => hk.2) (.int .i64 t536)) (fun _ h_ => h_.1))) hb); have n2_ := ab' (e' (Kd.kN (b' (c' (p := ⟨gb538, 1, none⟩) (c' (p := ⟨gb538, 0, none⟩) (b' HO507.out (fun k_ hk => (⟨hk, hk.2⟩ : _ ∧ k_ ≠ gb538))) (fun _ hk => hk.2) (.slice Ao52 t533.length co52)) (fun _ hk => hk.2) (.int .i64 t536)) (fun _ h_ => h_.1))) hb); have n3_ := ab' (e' (Kd.kN (b' (c' (p := ⟨gb538, 1, none⟩) (c' (p := ⟨gb538, 0, none⟩) (b' HO514.out (fun k_ hk => (⟨hk, hk.2⟩ : _ ∧ k_ ≠ gb538))) (fun _ hk => hk.2) (.slice Ao52 t533.length co52)) (fun _ hk => hk.2) (.int .i64 t536)) (fun _ h_ => h_.1))) hb); have n4_ := ab' (e' (Kd.kN (b' (c' (p := ⟨gb538, 1, none⟩) (c' (p := ⟨gb538, 0, none⟩) (b' HO521.out (fun k_ hk => (⟨hk, hk.2⟩ : _ ∧ k_ ≠ gb538))) (fun _ hk => hk.2) (.slice Ao52 t533.length co52)) (fun _ hk => hk.2) (.int .i64 t536)) (fun _ h_ => h_.1))) hb); have n5_ := ab' (e' (Kd.kN (b' (c' (p := ⟨gb538, 1, none⟩) (c' (p := ⟨gb538, 0, none⟩) (b' HO525.out (fun k_ hk => (⟨hk, hk.2⟩ : _ ∧ k_ ≠ gb538))) (fun _ hk => hk.2) (.slice Ao52 t533.length co52)) (fun _ hk => hk.2) (.int .i64 t536)) (fun _ h_ => h_.1))) hb); have n6_ := ab' (Kd.Q_below (Kd.kQ (Kd.Q_mono (Kd.Q_far (p := ⟨gb538, 1, none⟩) (Kd.Q_far (p := ⟨gb538, 0, none⟩) (Kd.Q_types HO529.out BK538.out (by decide)) (fun _ hk => hk.2) (.slice Ao52 t533.length co52)) (fun _ hk => hk.2) (.int .i64 t536)) (fun _ h_ => h_.1))) hb); have n7_ := ab' (Kd.Q_below (Kd.kQ (Kd.Q_mono (Kd.Q_far (p := ⟨gb538, 1, none⟩) (Kd.Q_far (p := ⟨gb538, 0, none⟩) (Kd.Q_types HO535.out BK538.out (by decide)) (fun _ hk => hk.2) (.slice Ao52 t533.length co52)) (fun _ hk => hk.2) (.int .i64 t536)) (fun _ h_ => h_.1))) hb); have n8_ := ab' (d' (g := gb496) (o := .cells #[.slice A0_0 l0_0.length c0_0, .int .i64 a0_1] 24 (0, 0)) (by refine eK ?_; refine g' ?_ NB496_538.out _; refine eK ?_; refine g' ?_ NB496_538.out _; refine eK ?_; exact BK496.out) hb); have n9_ := ab' (d' (g := gb504) (o := .cells #[.slice Ao18 t497.length co18, .int .i64 t500] 27 (0, 0)) (by refine eK ?_; refine g' ?_ NB504_538.out _; refine eK ?_; refine g' ?_ NB504_538.out _; refine eK ?_; exact BK504.out) hb); have n10_ := ab' (d' (g := gb511) (o := .cells #[.slice Ao24 t505.length co24, .int .i64 t508] 27 (0, 0)) (by refine eK ?_; refine g' ?_ NB511_538.out _; refine eK ?_; refine g' ?_ NB511_538.out _; refine eK ?_; exact BK511.out) hb); have n11_ := ab' (d' (g := gb518) (o := .cells #[.slice Ao31 t512.length co31, .int .i64 t515] 24 (0, 0)) (by refine eK ?_; refine g' ?_ NB518_538.out _; refine eK ?_; refine g' ?_ NB518_538.out _; refine eK ?_; exact BK518.out) hb); have n12_ := ab' (d' (g := gb532) (o := .cells #[.slice Ao43 t527.length co43, .int .i64 t530] 27 (0, 0)) (by refine eK ?_; refine g' ?_ NB532_538.out _; refine eK ?_; refine g' ?_ NB532_538.out _; refine eK ?_; exact BK532.out) hb); have n13_ := ab' (d' (g := gb538) (o := .cells #[.slice Ao52 t533.length co52, .int .i64 t536] 24 (0, 0)) (by refine eK ?_; refine blk_put (cs := #[.slice Ao52 t533.length co52, .int .i64 0]) ?_ 1 _ rfl; refine eK ?_; refine blk_put (cs := #[.slice none 0 0, .int .i64 0]) ?_ 0 _ rfl; refine eK ?_; exact BK538.out) hb); have n14_ := ab' (j' (eH HB) hb); clear HO499; clear HO503; clear HO507; clear HO514; clear HO521; clear HO525; clear HO529; clear HO535; clear BK496; clear BK504; clear BK511; clear BK518; clear BK532; clear BK538; clear HB; have HO499 := n0_; have HO503 := n1_; have HO507 := n2_; have HO514 := n3_; have HO521 := n4_; have HO525 := n5_; have HO529 := n6_; have HO535 := n7_; have BK496 := n8_; have BK504 := n9_; have BK511 := n10_; have BK518 := n11_; have BK532 := n12_; have BK538 := n13_; have HB := n14_; clear n0_ n1_ n2_ n3_ n4_ n5_ n6_ n7_ n8_ n9_ n10_ n11_ n12_ n13_ n14_; (try clear hb); (try clear hb2); (try clear hk); (try clear hi)))
    go_meet
    case rel => exact ⟨_, (true), (by first | rfl | (simp; done) | (simp [*]; done)), H', ⟨by first | omega | exact Nat.le_refl _⟩, ⟨Kd.eR HO503⟩, ⟨by (with_reducible repeat (first | apply p' | apply n' | apply o')); exact b' HO499.out (fun _ hk => ⟨hk.1.1.1.1.1.1.1.1.1.1.1.2, ⟨hk.1.1.1.1.1.1.1.1.1.2, ⟨hk.1.1.1.1.1.1.1.2, ⟨hk.1.1.1.2, ⟨hk.1.2, ⟨hk.1.1.1.1.1.1.1.1.1.1.1.1, ⟨hk.1.1.1.1.1.1.1.1.1.1.2, ⟨hk.1.1.1.1.1.1.1.1.2, ⟨hk.1.1.1.1.1.1.2, ⟨hk.1.1.2, hk.2⟩⟩⟩⟩⟩⟩⟩⟩⟩⟩)⟩, ⟨by (with_reducible repeat (first | apply p' | apply n' | apply o')); exact b' HO507.out (fun _ hk => ⟨hk.1.1.1.1.1.1.1.1.1.2.1, ⟨hk.1.1.1.1.1.1.1.1.1.1, ⟨hk.1.1.1.1.1.1.1.2, ⟨hk.1.1.1.2, ⟨hk.1.2, ⟨hk.1.1.1.1.1.1.1.1.1.2.2.1, ⟨hk.1.1.1.1.1.1.1.1.1.2.2.2, ⟨hk.1.1.1.1.1.1.1.1.2, ⟨hk.1.1.1.1.1.1.2, ⟨hk.1.1.2, hk.2⟩⟩⟩⟩⟩⟩⟩⟩⟩⟩)⟩, ⟨by (with_reducible repeat (first | apply p' | apply n' | apply o')); exact b' HO514.out (fun _ hk => ⟨hk.1.1.1.1.1.1.1.2.1, ⟨hk.1.1.1.1.1.1.1.1, ⟨hk.1.1.1.1.1.1.1.2.2.1, ⟨hk.1.1.1.2, ⟨hk.1.2, ⟨hk.1.1.1.1.1.1.1.2.2.2.1, ⟨hk.1.1.1.1.1.1.1.2.2.2.2.1, ⟨hk.1.1.1.1.1.1.1.2.2.2.2.2, ⟨hk.1.1.1.1.1.1.2, ⟨hk.1.1.2, hk.2⟩⟩⟩⟩⟩⟩⟩⟩⟩⟩)⟩, ⟨by (with_reducible repeat (first | apply Kd.Q_alloc | apply Kd.Q_drewN | apply Kd.Q_drew)); exact Kd.Q_mono HO529.out (fun _ hk => ⟨hk.1.1.1.2, ⟨hk.1.1.1.1.2, ⟨hk.1.1.2, ⟨hk.1.2, hk.2⟩⟩⟩⟩)⟩, ⟨by (with_reducible repeat (first | apply Kd.Q_alloc | apply Kd.Q_drewN | apply Kd.Q_drew)); exact Kd.Q_mono HO535.out (fun _ hk => ⟨hk.1.1.1.2, ⟨hk.1.1.1.1.2, ⟨hk.1.1.2, ⟨hk.1.2, hk.2⟩⟩⟩⟩)⟩, ⟨eB BK496⟩, ⟨eB BK504⟩, ⟨eB BK511⟩, ⟨eB BK518⟩, ⟨eB BK532⟩, ⟨eB BK538⟩, ⟨eH HB⟩⟩
  ·
   rw [if_neg c60] at H
   have c60b0 : (t539 == 0) = false := beq_eq_false_iff_ne.mpr c60
   have c60b1 : (t539 != 0) = true := bne_iff_ne.mpr c60
   (first | rw [c60b0] | (simp only [i64_w, i32_w]; rw [c60b0]) | rw [c60b1] | skip)
   have H' := ab' H
   clear H
   have hnb167 := NB511_496.out
   have hnc167 := NB496_511.out
   have hnb168 := NB511_504.out
   have hnc168 := NB504_511.out
   have hnb169 := NB511_518.out
   have hnc169 := NB518_511.out
   have hnb170 := NB511_532.out
   have hnc170 := NB532_511.out
   have hnb171 := NB511_538.out
   have hnc171 := NB538_511.out
   have hcz172_0 : w51.cell? ⟨gb511, 0, none⟩ = some (.slice Ao24 t505.length co24) := (f' BK511.out 0).trans rfl
   have hcz172_1 : w51.cell? ⟨gb511, 1, none⟩ = some (.int .i64 t508) := (f' BK511.out 1).trans rfl
   have hfz172_0 := h' BK511.out 0
   have hfz172_1 := h' BK511.out 1
   have hnb173 := NB518_496.out
   have hnc173 := NB496_518.out
   have hnb174 := NB518_504.out
   have hnc174 := NB504_518.out
   have hnb175 := NB518_532.out
   have hnc175 := NB532_518.out
   have hnb176 := NB518_538.out
   have hnc176 := NB538_518.out
   have hcz177_0 : w51.cell? ⟨gb518, 0, none⟩ = some (.slice Ao31 t512.length co31) := (f' BK518.out 0).trans rfl
   have hcz177_1 : w51.cell? ⟨gb518, 1, none⟩ = some (.int .i64 t515) := (f' BK518.out 1).trans rfl
   have hfz177_0 := h' BK518.out 0
   have hfz177_1 := h' BK518.out 1
   go_wp2_with (first | ((with_reducible refine gate_callee (f := 15) rfl ?_); refine goesL_ (some 65) rfl rfl Try.func15 (by kernel_rfl) rfl #[.agg #[.slice Ao24 t505.length co24, .int .i64 t508], .agg #[.slice Ao31 t512.length co31, .int .i64 t515]] rfl (by (try simp only [v', x', y']); first | done | rfl | (simp only [z', aa']; rfl)) ?_; (with_reducible refine (fanlightlaw06_Alike.calls k _ _ t505 t508 _ _ t512 t515 t539 _ ?side1 ?side2 ?side3 ?side4 A59.out).mono ?_); (case side1 => refine (Kd.N_reads' (e := 25) (base := w.heap.size) (ok := fun k_ => ((((((((((some k_ ≠ (.slice Ao18 t497.length co18 : Value).ownBlock ∧ (some k_ ≠ (.slice Ao21 t501.length co21 : Value).ownBlock ∧ (k_ ≠ gb496 ∧ k_ ≠ gb504))) ∧ k_ ≠ gb511) ∧ some k_ ≠ (.slice Ao31 t512.length co31 : Value).ownBlock) ∧ k_ ≠ gb518) ∧ some k_ ≠ (v520 : Value).ownBlock) ∧ some k_ ≠ (v524 : Value).ownBlock) ∧ some k_ ≠ (.slice Ao43 t527.length co43 : Value).ownBlock) ∧ k_ ≠ gb532) ∧ some k_ ≠ (.slice Ao52 t533.length co52 : Value).ownBlock) ∧ k_ ≠ gb538)) (n := t505.length) (c := co24) ?_).2.2; exact (Kd.kN (b' (c' (p := ⟨gb538, 1, none⟩) (c' (p := ⟨gb538, 0, none⟩) (b' HO507.out (fun k_ hk => (⟨hk, hk.2⟩ : _ ∧ k_ ≠ gb538))) (fun _ hk => hk.2) (.slice Ao52 t533.length co52)) (fun _ hk => hk.2) (.int .i64 t536)) (fun _ h_ => h_.1)))); (case side2 => exact (Kd.N_reads' HO507.out).2.1); (case side3 => refine (Kd.N_reads' (e := 25) (base := w.heap.size) (ok := fun k_ => ((((((((some k_ ≠ (.slice Ao18 t497.length co18 : Value).ownBlock ∧ (some k_ ≠ (.slice Ao21 t501.length co21 : Value).ownBlock ∧ (some k_ ≠ (.slice Ao24 t505.length co24 : Value).ownBlock ∧ (k_ ≠ gb496 ∧ (k_ ≠ gb504 ∧ k_ ≠ gb511))))) ∧ k_ ≠ gb518) ∧ some k_ ≠ (v520 : Value).ownBlock) ∧ some k_ ≠ (v524 : Value).ownBlock) ∧ some k_ ≠ (.slice Ao43 t527.length co43 : Value).ownBlock) ∧ k_ ≠ gb532) ∧ some k_ ≠ (.slice Ao52 t533.length co52 : Value).ownBlock) ∧ k_ ≠ gb538)) (n := t512.length) (c := co31) ?_).2.2; exact (Kd.kN (b' (c' (p := ⟨gb538, 1, none⟩) (c' (p := ⟨gb538, 0, none⟩) (b' HO514.out (fun k_ hk => (⟨hk, hk.2⟩ : _ ∧ k_ ≠ gb538))) (fun _ hk => hk.2) (.slice Ao52 t533.length co52)) (fun _ hk => hk.2) (.int .i64 t536)) (fun _ h_ => h_.1)))); (case side4 => exact (Kd.N_reads' HO514.out).2.1); rintro e w178 ⟨rfl, hb⟩; refine ⟨_, rfl, ?_⟩; have n0_ := ab' (e' (Kd.kN (b' (c' (p := ⟨gb538, 1, none⟩) (c' (p := ⟨gb538, 0, none⟩) (b' HO499.out (fun k_ hk => (⟨hk, hk.2⟩ : _ ∧ k_ ≠ gb538))) (fun _ hk => hk.2) (.slice Ao52 t533.length co52)) (fun _ hk => hk.2) (.int .i64 t536)) (fun _ h_ => h_.1))) hb); have n1_ := ab' (l' (Kd.kR (Kd.R_mono (k' (p := ⟨gb538, 1, none⟩) (k' (p := ⟨gb538, 0, none⟩) (Kd.R_types HO503.out BK538.out (by decide)) (fun _ hk => hk.2) (.slice Ao52 t533.length co52)) (fun _ hk => hk.2) (.int .i64 t536)) (fun _ h_ => h_.1))) hb); have n2_ := ab' (e' (Kd.kN (b' (c' (p := ⟨gb538, 1, none⟩) (c' (p := ⟨gb538, 0, none⟩) (b' HO507.out (fun k_ hk => (⟨hk, hk.2⟩ : _ ∧ k_ ≠ gb538))) (fun _ hk => hk.2) (.slice Ao52 t533.length co52)) (fun _ hk => hk.2) (.int .i64 t536)) (fun _ h_ => h_.1))) hb); have n3_ := ab' (e' (Kd.kN (b' (c' (p := ⟨gb538, 1, none⟩) (c' (p := ⟨gb538, 0, none⟩) (b' HO514.out (fun k_ hk => (⟨hk, hk.2⟩ : _ ∧ k_ ≠ gb538))) (fun _ hk => hk.2) (.slice Ao52 t533.length co52)) (fun _ hk => hk.2) (.int .i64 t536)) (fun _ h_ => h_.1))) hb); have n4_ := ab' (e' (Kd.kN (b' (c' (p := ⟨gb538, 1, none⟩) (c' (p := ⟨gb538, 0, none⟩) (b' HO521.out (fun k_ hk => (⟨hk, hk.2⟩ : _ ∧ k_ ≠ gb538))) (fun _ hk => hk.2) (.slice Ao52 t533.length co52)) (fun _ hk => hk.2) (.int .i64 t536)) (fun _ h_ => h_.1))) hb); have n5_ := ab' (e' (Kd.kN (b' (c' (p := ⟨gb538, 1, none⟩) (c' (p := ⟨gb538, 0, none⟩) (b' HO525.out (fun k_ hk => (⟨hk, hk.2⟩ : _ ∧ k_ ≠ gb538))) (fun _ hk => hk.2) (.slice Ao52 t533.length co52)) (fun _ hk => hk.2) (.int .i64 t536)) (fun _ h_ => h_.1))) hb); have n6_ := ab' (Kd.Q_below (Kd.kQ (Kd.Q_mono (Kd.Q_far (p := ⟨gb538, 1, none⟩) (Kd.Q_far (p := ⟨gb538, 0, none⟩) (Kd.Q_types HO529.out BK538.out (by decide)) (fun _ hk => hk.2) (.slice Ao52 t533.length co52)) (fun _ hk => hk.2) (.int .i64 t536)) (fun _ h_ => h_.1))) hb); have n7_ := ab' (Kd.Q_below (Kd.kQ (Kd.Q_mono (Kd.Q_far (p := ⟨gb538, 1, none⟩) (Kd.Q_far (p := ⟨gb538, 0, none⟩) (Kd.Q_types HO535.out BK538.out (by decide)) (fun _ hk => hk.2) (.slice Ao52 t533.length co52)) (fun _ hk => hk.2) (.int .i64 t536)) (fun _ h_ => h_.1))) hb); have n8_ := ab' (d' (g := gb496) (o := .cells #[.slice A0_0 l0_0.length c0_0, .int .i64 a0_1] 24 (0, 0)) (by refine eK ?_; refine g' ?_ NB496_538.out _; refine eK ?_; refine g' ?_ NB496_538.out _; refine eK ?_; exact BK496.out) hb); have n9_ := ab' (d' (g := gb504) (o := .cells #[.slice Ao18 t497.length co18, .int .i64 t500] 27 (0, 0)) (by refine eK ?_; refine g' ?_ NB504_538.out _; refine eK ?_; refine g' ?_ NB504_538.out _; refine eK ?_; exact BK504.out) hb); have n10_ := ab' (d' (g := gb511) (o := .cells #[.slice Ao24 t505.length co24, .int .i64 t508] 27 (0, 0)) (by refine eK ?_; refine g' ?_ NB511_538.out _; refine eK ?_; refine g' ?_ NB511_538.out _; refine eK ?_; exact BK511.out) hb); have n11_ := ab' (d' (g := gb518) (o := .cells #[.slice Ao31 t512.length co31, .int .i64 t515] 24 (0, 0)) (by refine eK ?_; refine g' ?_ NB518_538.out _; refine eK ?_; refine g' ?_ NB518_538.out _; refine eK ?_; exact BK518.out) hb); have n12_ := ab' (d' (g := gb532) (o := .cells #[.slice Ao43 t527.length co43, .int .i64 t530] 27 (0, 0)) (by refine eK ?_; refine g' ?_ NB532_538.out _; refine eK ?_; refine g' ?_ NB532_538.out _; refine eK ?_; exact BK532.out) hb); have n13_ := ab' (d' (g := gb538) (o := .cells #[.slice Ao52 t533.length co52, .int .i64 t536] 24 (0, 0)) (by refine eK ?_; refine blk_put (cs := #[.slice Ao52 t533.length co52, .int .i64 0]) ?_ 1 _ rfl; refine eK ?_; refine blk_put (cs := #[.slice none 0 0, .int .i64 0]) ?_ 0 _ rfl; refine eK ?_; exact BK538.out) hb); have n14_ := ab' (j' (eH HB) hb); clear HO499; clear HO503; clear HO507; clear HO514; clear HO521; clear HO525; clear HO529; clear HO535; clear BK496; clear BK504; clear BK511; clear BK518; clear BK532; clear BK538; clear HB; have HO499 := n0_; have HO503 := n1_; have HO507 := n2_; have HO514 := n3_; have HO521 := n4_; have HO525 := n5_; have HO529 := n6_; have HO535 := n7_; have BK496 := n8_; have BK504 := n9_; have BK511 := n10_; have BK518 := n11_; have BK532 := n12_; have BK538 := n13_; have HB := n14_; clear n0_ n1_ n2_ n3_ n4_ n5_ n6_ n7_ n8_ n9_ n10_ n11_ n12_ n13_ n14_; (try clear hb); (try clear hb2); (try clear hk); (try clear hi)))
   go_meet
   case rel => exact ⟨_, (true), (by first | rfl | (simp; done) | (simp [*]; done)), H', ⟨by first | omega | exact Nat.le_refl _⟩, ⟨Kd.eR HO503⟩, ⟨by (with_reducible repeat (first | apply p' | apply n' | apply o')); exact b' HO499.out (fun _ hk => ⟨hk.1.1.1.1.1.1.1.1.1.1.1.2, ⟨hk.1.1.1.1.1.1.1.1.1.2, ⟨hk.1.1.1.1.1.1.1.2, ⟨hk.1.1.1.2, ⟨hk.1.2, ⟨hk.1.1.1.1.1.1.1.1.1.1.1.1, ⟨hk.1.1.1.1.1.1.1.1.1.1.2, ⟨hk.1.1.1.1.1.1.1.1.2, ⟨hk.1.1.1.1.1.1.2, ⟨hk.1.1.2, hk.2⟩⟩⟩⟩⟩⟩⟩⟩⟩⟩)⟩, ⟨by (with_reducible repeat (first | apply p' | apply n' | apply o')); exact b' HO507.out (fun _ hk => ⟨hk.1.1.1.1.1.1.1.1.1.2.1, ⟨hk.1.1.1.1.1.1.1.1.1.1, ⟨hk.1.1.1.1.1.1.1.2, ⟨hk.1.1.1.2, ⟨hk.1.2, ⟨hk.1.1.1.1.1.1.1.1.1.2.2.1, ⟨hk.1.1.1.1.1.1.1.1.1.2.2.2, ⟨hk.1.1.1.1.1.1.1.1.2, ⟨hk.1.1.1.1.1.1.2, ⟨hk.1.1.2, hk.2⟩⟩⟩⟩⟩⟩⟩⟩⟩⟩)⟩, ⟨by (with_reducible repeat (first | apply p' | apply n' | apply o')); exact b' HO514.out (fun _ hk => ⟨hk.1.1.1.1.1.1.1.2.1, ⟨hk.1.1.1.1.1.1.1.1, ⟨hk.1.1.1.1.1.1.1.2.2.1, ⟨hk.1.1.1.2, ⟨hk.1.2, ⟨hk.1.1.1.1.1.1.1.2.2.2.1, ⟨hk.1.1.1.1.1.1.1.2.2.2.2.1, ⟨hk.1.1.1.1.1.1.1.2.2.2.2.2, ⟨hk.1.1.1.1.1.1.2, ⟨hk.1.1.2, hk.2⟩⟩⟩⟩⟩⟩⟩⟩⟩⟩)⟩, ⟨by (with_reducible repeat (first | apply Kd.Q_alloc | apply Kd.Q_drewN | apply Kd.Q_drew)); exact Kd.Q_mono HO529.out (fun _ hk => ⟨hk.1.1.1.2, ⟨hk.1.1.1.1.2, ⟨hk.1.1.2, ⟨hk.1.2, hk.2⟩⟩⟩⟩)⟩, ⟨by (with_reducible repeat (first | apply Kd.Q_alloc | apply Kd.Q_drewN | apply Kd.Q_drew)); exact Kd.Q_mono HO535.out (fun _ hk => ⟨hk.1.1.1.2, ⟨hk.1.1.1.1.2, ⟨hk.1.1.2, ⟨hk.1.2, hk.2⟩⟩⟩⟩)⟩, ⟨eB BK496⟩, ⟨eB BK504⟩, ⟨eB BK511⟩, ⟨eB BK518⟩, ⟨eB BK532⟩, ⟨eB BK538⟩, ⟨eH HB⟩⟩
 case rest =>
  clear HC12
  try clear c1
  try clear c2
  try clear p2
  try clear c3
  try clear c4
  try clear c5
  try clear c6
  try clear c7
  try clear c8
  try clear c9
  try clear c10
  try clear c11
  try clear c12
  try clear c13
  try clear c14
  try clear c15
  try clear c16
  try clear c17
  try clear c18
  try clear c19
  try clear c25
  try clear c26
  try clear c32
  try clear c33
  try clear c34
  try clear c44
  try clear c45
  try clear c46
  try clear c47
  try clear c53
  try clear c54
  try clear c55
  try clear c56
  try clear c57
  try clear c60
  try clear c60b0
  try clear c60b1
  try clear c61
  try clear c61b0
  try clear c61b1
  try clear c63
  try clear c63b0
  try clear c63b1
  try clear c65
  try clear c67
  try clear c67b0
  try clear c67b1
  try clear c69
  try clear c69b0
  try clear c69b1
  try clear c71
  try clear c72
  try clear c73
  try clear c74
  try clear c75
  try clear c77
  try clear c78
  try clear c79
  try clear c80
  try clear c85
  try clear c86
  try clear c87
  try clear c89
  try clear c90
  try clear c93
  try clear c94
  try clear c95
  try clear c96
  try clear c97
  try clear c99
  try clear c100
  try clear c101
  try clear c102
  try clear c107
  try clear c108
  try clear c109
  try clear c111
  try clear c112
  try clear c115
  try clear c116
  try clear c117
  try clear c118
  try clear c119
  try clear c121
  try clear c122
  try clear c123
  try clear c124
  try clear c129
  try clear c130
  try clear c131
  try clear c132
  try clear c133
  try clear c135
  try clear c136
  try clear c137
  try clear c138
  try clear c143
  try clear c144
  try clear c145
  try clear c146
  try clear c147
  try clear c149
  try clear c150
  try clear c151
  try clear c152
  try clear c155
  try clear c156
  try clear c157
  try clear c158
  try clear c159
  try clear c161
  try clear c162
  try clear c163
  try clear c164
  try clear c167
  try clear c168
  try clear c169
  try clear c170
  try clear c171
  try clear c173
  try clear c174
  try clear c175
  try clear c176
  try clear hcz103_0
  try clear hcz103_1
  try clear hcz110_0
  try clear hcz110_1
  try clear hcz113_0
  try clear hcz113_1
  try clear hcz120_0
  try clear hcz120_1
  try clear hcz125_0
  try clear hcz125_1
  try clear hcz134_0
  try clear hcz134_1
  try clear hcz139_0
  try clear hcz139_1
  try clear hcz148_0
  try clear hcz148_1
  try clear hcz14_0
  try clear hcz14_1
  try clear hcz153_0
  try clear hcz153_1
  try clear hcz160_0
  try clear hcz160_1
  try clear hcz165_0
  try clear hcz165_1
  try clear hcz172_0
  try clear hcz172_1
  try clear hcz177_0
  try clear hcz177_1
  try clear hcz20_0
  try clear hcz20_1
  try clear hcz27_0
  try clear hcz27_1
  try clear hcz28_0
  try clear hcz28_1
  try clear hcz35_0
  try clear hcz35_1
  try clear hcz36_0
  try clear hcz36_1
  try clear hcz38_0
  try clear hcz38_1
  try clear hcz40_0
  try clear hcz40_1
  try clear hcz48_0
  try clear hcz48_1
  try clear hcz49_0
  try clear hcz49_1
  try clear hcz58_0
  try clear hcz58_1
  try clear hcz76_0
  try clear hcz76_1
  try clear hcz81_0
  try clear hcz81_1
  try clear hcz88_0
  try clear hcz88_1
  try clear hcz91_0
  try clear hcz91_1
  try clear hcz98_0
  try clear hcz98_1
  try clear hfz103_0
  try clear hfz103_1
  try clear hfz110_0
  try clear hfz110_1
  try clear hfz113_0
  try clear hfz113_1
  try clear hfz120_0
  try clear hfz120_1
  try clear hfz125_0
  try clear hfz125_1
  try clear hfz134_0
  try clear hfz134_1
  try clear hfz139_0
  try clear hfz139_1
  try clear hfz148_0
  try clear hfz148_1
  try clear hfz14_0
  try clear hfz14_1
  try clear hfz153_0
  try clear hfz153_1
  try clear hfz160_0
  try clear hfz160_1
  try clear hfz165_0
  try clear hfz165_1
  try clear hfz172_0
  try clear hfz172_1
  try clear hfz177_0
  try clear hfz177_1
  try clear hfz20_0
  try clear hfz20_1
  try clear hfz27_0
  try clear hfz27_1
  try clear hfz28_0
  try clear hfz28_1
  try clear hfz35_0
  try clear hfz35_1
  try clear hfz36_0
  try clear hfz36_1
  try clear hfz38_0
  try clear hfz38_1
  try clear hfz40_0
  try clear hfz40_1
  try clear hfz48_0
  try clear hfz48_1
  try clear hfz49_0
  try clear hfz49_1
  try clear hfz58_0
  try clear hfz58_1
  try clear hfz76_0
  try clear hfz76_1
  try clear hfz81_0
  try clear hfz81_1
  try clear hfz88_0
  try clear hfz88_1
  try clear hfz91_0
  try clear hfz91_1
  try clear hfz98_0
  try clear hfz98_1
  obtain ⟨kq, x101_11, rfl, HA, HJ11, HO_8, HO_505000, HO_512000, HO_519000, HO_533000, HO_539000, BK496, BK504, BK511, BK518, BK532, BK538, HB⟩ := hcut
  cases kq with
  | zero => exact absurd HA.out (by simp [fanlightlaw06_WalTells.j0])
  | succ kj11 =>
   have H := HA.out
   clear HA
   simp only [fanlightlaw06_WalTells.j0] at H
   by_cases c179 : x101_11 = true
   ·
    subst c179
    have H1 : (some false) = some r := by rw [if_pos rfl] at H; exact H
    clear H
    have H := H1
    clear H1
    obtain rfl := Option.some.inj H
    cases hT
   ·
    replace c179 := Bool.eq_false_iff.mpr c179
    subst c179
    have H1 : ((wal_Check.f kj11 t497 t500).bind fun t545 => ((fanlightlaw06_num.f t545).bind fun t546 => ((fanlightref06_Check.f kj11 l0_0 a0_1).bind fun t547 => (if t546 = t547 then ((fanlightlaw06_Alike.f kj11 t497 t500 l0_0 a0_1).bind fun t548 => (if t548 = 0 then ((fanlightplain_SameBytes.f t501 l1).bind fun t549 => (if t549 = true then ((fanlightlaw06_alive.f kj11).bind fun t550 => (some t550)) else (some false))) else (some false))) else (some false))))) = some r := by rw [if_neg (show ¬ (false = true) by decide)] at H; exact H
    clear H
    have H := H1
    clear H1
    replace H := Option.bind_eq_some_iff.mp H
    obtain ⟨t545, A1800, H⟩ := H
    (try dsimp only at H)
    have A180 := ab' A1800
    clear A1800
    replace H := Option.bind_eq_some_iff.mp H
    obtain ⟨t546, A1810, H⟩ := H
    (try dsimp only at H)
    have A181 := ab' A1810
    clear A1810
    replace H := Option.bind_eq_some_iff.mp H
    obtain ⟨t547, A1820, H⟩ := H
    (try dsimp only at H)
    have A182 := ab' A1820
    clear A1820
    by_cases c183 : t546 = t547
    ·
     rw [if_pos c183] at H
     have c183b0 : (t546 == t547) = true := beq_iff_eq.mpr c183
     have c183b1 : (t546 != t547) = false := bne_eq_false_iff_eq.mpr c183
     clear c183
     replace H := Option.bind_eq_some_iff.mp H
     obtain ⟨t548, A1840, H⟩ := H
     (try dsimp only at H)
     have A184 := ab' A1840
     clear A1840
     by_cases c185 : t548 = 0
     ·
      rw [if_pos c185] at H
      have c185b0 : (t548 == 0) = true := beq_iff_eq.mpr c185
      have c185b1 : (t548 != 0) = false := bne_eq_false_iff_eq.mpr c185
      clear c185
      replace H := Option.bind_eq_some_iff.mp H
      obtain ⟨t549, A1860, H⟩ := H
      (try dsimp only at H)
      have A186 := ab' A1860
      clear A1860
      by_cases c187 : t549 = true
      ·
       subst c187
       have H1 : ((fanlightlaw06_alive.f kj11).bind fun t550 => (some t550)) = some r := by rw [if_pos rfl] at H; exact H
       clear H
       have H := H1
       clear H1
       replace H := Option.bind_eq_some_iff.mp H
       obtain ⟨t550, A1880, H⟩ := H
       (try dsimp only at H)
       have A188 := ab' A1880
       clear A1880
       obtain rfl := Option.some.inj H
       try go_wp2
       have n0_ := ab' (Kd.R_drew HO_8.out)
       have n1_ := ab' (o' HO_505000.out)
       have n2_ := ab' (o' HO_512000.out)
       have n3_ := ab' (o' HO_519000.out)
       have n4_ := ab' (Kd.Q_drew HO_533000.out)
       have n5_ := ab' (Kd.Q_drew HO_539000.out)
       have n6_ := ab' (blk_drew BK496.out)
       have n7_ := ab' (blk_drew BK504.out)
       have n8_ := ab' (blk_drew BK511.out)
       have n9_ := ab' (blk_drew BK518.out)
       have n10_ := ab' (blk_drew BK532.out)
       have n11_ := ab' (blk_drew BK538.out)
       have n12_ := ab' (below_drew1 HB.out)
       clear HO_8
       clear HO_505000
       clear HO_512000
       clear HO_519000
       clear HO_533000
       clear HO_539000
       clear BK496
       clear BK504
       clear BK511
       clear BK518
       clear BK532
       clear BK538
       clear HB
       have HO_8 := n0_
       have HO_505000 := n1_
       have HO_512000 := n2_
       have HO_519000 := n3_
       have HO_533000 := n4_
       have HO_539000 := n5_
       have BK496 := n6_
       have BK504 := n7_
       have BK511 := n8_
       have BK518 := n9_
       have BK532 := n10_
       have BK538 := n11_
       have HB := n12_
       clear n0_ n1_ n2_ n3_ n4_ n5_ n6_ n7_ n8_ n9_ n10_ n11_ n12_
       refine start_ (n := 21) (S := fun w' => w'.cell? ⟨gb504, 0, none⟩ = some (.slice Ao18 t497.length co18) ∧ w'.cell? ⟨gb504, 1, none⟩ = some (.int .i64 t500) ∧ w'.cell? ⟨gb496, 0, none⟩ = some (.slice A0_0 l0_0.length c0_0) ∧ w'.cell? ⟨gb496, 1, none⟩ = some (.int .i64 a0_1)) (ds := []) #[Z,Z,Z,Z,Z,Z,Z,Z,Z,Z,Z,Z,Z,Z,Z,Z,Z,Z,Z,Z,Z] (by kernel_rfl) rfl rfl ⟨(f' BK504.out 0).trans rfl, (f' BK504.out 1).trans rfl, (f' BK496.out 0).trans rfl, (f' BK496.out 1).trans rfl⟩ (fun hHeld => ?_); refine with_tabW fanlightlaw06_WalTells.tab10 fanlightlaw06_WalTells.bits10 (fun HT_ HW_ => ?_)
       generalize wc.drew = w189 at HO_8 HO_505000 HO_512000 HO_519000 HO_533000 HO_539000 BK496 BK504 BK511 BK518 BK532 BK538 HB hHeld ⊢
       refine take_ (i := 0) (N := some 102) (v := ?_) (a' := ?_) #[Y,Z,Z,Z,Z,Z,Z,Z,Z,Z,Z,Z,Z,Z,Z,Z,Z,Z,Z,Z,Z] rfl rfl (take_ofW HT_.out HW_.out (by kernel_rfl)) (fun _ _ _ h => h) (Or.inl ⟨by rfl, ?_⟩) hHeld ?_ ?_
       rotate_left
       ·
        rintro w' ⟨s0, s1, s2, s3⟩
        go_simp
        with_reducible rfl
       rotate_left
       ·
        simp only [Act.put, r', s', u', i64_w, i32_w]
        rfl
       refine take_ (i := 3) (N := some 105) (v := ?_) (a' := ?_) #[Y,Z,Z,Y,Z,Z,Z,Z,Z,Z,Z,Z,Z,Z,Z,Z,Z,Z,Z,Z,Z] rfl rfl (take_ofW HT_.out HW_.out (by kernel_rfl)) (fun _ _ _ h => h) (Or.inl ⟨by rfl, ?_⟩) hHeld ?_ ?_
       rotate_left
       ·
        rintro w' ⟨s0, s1, s2, s3⟩
        go_simp
        with_reducible rfl
       rotate_left
       ·
        simp only [Act.put, r', s', u', i64_w, i32_w]
        rfl
       refine one_ (i := 1) (N := some 103) #[Y,Y,Z,Y,Z,Z,Z,Z,Z,Z,Z,Z,Z,Z,Z,Z,Z,Z,Z,Z,Z] rfl rfl (one_of HT_.out (by kernel_rfl)) (by decide) (fun K hK => ?_)
       refine goes_ Try.func21 (by kernel_rfl) rfl #[.agg #[.slice Ao18 t497.length co18, .int .i64 t500]] (by rfl) rfl rfl (by (try simp only [v', x', y']); first | done | rfl | (simp only [z', aa']; rfl)) ?_
       with_reducible refine (wal_Check.calls kj11 _ _ t497 t500 t545 _ ?side1 ?side2 A180.out).mono ?_
       (case side1 => exact Kd.kC (Kd.N_reads' HO_505000.out).2.2)
       (case side2 => exact (Kd.N_reads' HO_505000.out).2.1)
       rintro e w190 ⟨rfl, hb⟩
       refine ⟨_, rfl, ?_⟩
       have n0_ := ab' (l' (Kd.eR HO_8) hb)
       have n1_ := ab' (e' (Kd.eN HO_505000) hb)
       have n2_ := ab' (e' (Kd.eN HO_512000) hb)
       have n3_ := ab' (e' (Kd.eN HO_519000) hb)
       have n4_ := ab' (Kd.Q_below (Kd.eQ HO_533000) hb)
       have n5_ := ab' (Kd.Q_below (Kd.eQ HO_539000) hb)
       have n6_ := ab' (d' (g := gb496) (o := .cells #[.slice A0_0 l0_0.length c0_0, .int .i64 a0_1] 24 (0, 0)) (eB BK496) hb)
       have n7_ := ab' (d' (g := gb504) (o := .cells #[.slice Ao18 t497.length co18, .int .i64 t500] 27 (0, 0)) (eB BK504) hb)
       have n8_ := ab' (d' (g := gb511) (o := .cells #[.slice Ao24 t505.length co24, .int .i64 t508] 27 (0, 0)) (eB BK511) hb)
       have n9_ := ab' (d' (g := gb518) (o := .cells #[.slice Ao31 t512.length co31, .int .i64 t515] 24 (0, 0)) (eB BK518) hb)
       have n10_ := ab' (d' (g := gb532) (o := .cells #[.slice Ao43 t527.length co43, .int .i64 t530] 27 (0, 0)) (eB BK532) hb)
       have n11_ := ab' (d' (g := gb538) (o := .cells #[.slice Ao52 t533.length co52, .int .i64 t536] 24 (0, 0)) (eB BK538) hb)
       have n12_ := ab' (j' (eH HB) hb)
       clear HO_8
       clear HO_505000
       clear HO_512000
       clear HO_519000
       clear HO_533000
       clear HO_539000
       clear BK496
       clear BK504
       clear BK511
       clear BK518
       clear BK532
       clear BK538
       clear HB
       have HO_8 := n0_
       have HO_505000 := n1_
       have HO_512000 := n2_
       have HO_519000 := n3_
       have HO_533000 := n4_
       have HO_539000 := n5_
       have BK496 := n6_
       have BK504 := n7_
       have BK511 := n8_
       have BK518 := n9_
       have BK532 := n10_
       have BK538 := n11_
       have HB := n12_
       clear n0_ n1_ n2_ n3_ n4_ n5_ n6_ n7_ n8_ n9_ n10_ n11_ n12_
       (try clear hb)
       (try clear hb2)
       (try clear hk)
       (try clear hi)
       refine hK.out _ _ ⟨(f' BK504.out 0).trans rfl, (f' BK504.out 1).trans rfl, (f' BK496.out 0).trans rfl, (f' BK496.out 1).trans rfl⟩ (fun hHeld => ?_)
       clear hK K
       refine norm_ (a' := ?_) ?_ ?_
       rotate_left
       ·
        show Act.put _ (some 103) _ = _
        simp only [Act.put, r', s', u', i64_w, i32_w]
        rfl
       refine one_ (i := 2) (N := some 104) #[Y,Y,Y,Y,Z,Z,Z,Z,Z,Z,Z,Z,Z,Z,Z,Z,Z,Z,Z,Z,Z] rfl rfl (one_of HT_.out (by kernel_rfl)) (by decide) (fun K hK => ?_)
       refine goes_ Try.func14 (by kernel_rfl) rfl #[.int .i64 t545] (by rfl) rfl rfl (by (try simp only [v', x', y']); first | done | rfl | (simp only [z', aa']; rfl)) ?_
       with_reducible refine (fanlightlaw06_num.calls t545 t546 _ A181.out).mono ?_
       rintro e w' ⟨rfl, ⟨nd, rfl⟩⟩
       refine ⟨_, rfl, ?_⟩
       refine hK.out _ _ ⟨(f' BK504.out 0).trans rfl, (f' BK504.out 1).trans rfl, (f' BK496.out 0).trans rfl, (f' BK496.out 1).trans rfl⟩ (fun hHeld => ?_)
       clear hK K
       refine norm_ (a' := ?_) ?_ ?_
       rotate_left
       ·
        show Act.put _ (some 104) _ = _
        simp only [Act.put, r', s', u', i64_w, i32_w]
        rfl
       refine one_ (i := 4) (N := some 106) #[Y,Y,Y,Y,Y,Z,Z,Z,Z,Z,Z,Z,Z,Z,Z,Z,Z,Z,Z,Z,Z] rfl rfl (one_of HT_.out (by kernel_rfl)) (by decide) (fun K hK => ?_)
       refine goes_ Try.func22 (by kernel_rfl) rfl #[.agg #[.slice A0_0 l0_0.length c0_0, .int .i64 a0_1]] (by rfl) rfl rfl (by (try simp only [v', x', y']); first | done | rfl | (simp only [z', aa']; rfl)) ?_
       with_reducible refine (fanlightref06_Check.calls kj11 _ _ l0_0 a0_1 t547 _ ?side1 ?side2 A182.out).mono ?_
       (case side1 => repeat (first | exact (Kd.C_below HR0_0.out (eH HB)) | (with_reducible refine Kd.C_alloc ?_ _) | (with_reducible refine Kd.C_drewN ?_ _) | (with_reducible refine Kd.C_drew ?_)))
       (case side2 => exact HC0_0.out)
       rintro e w191 ⟨rfl, hb⟩
       refine ⟨_, rfl, ?_⟩
       have n0_ := ab' (l' (Kd.eR HO_8) hb)
       have n1_ := ab' (e' (Kd.eN HO_505000) hb)
       have n2_ := ab' (e' (Kd.eN HO_512000) hb)
       have n3_ := ab' (e' (Kd.eN HO_519000) hb)
       have n4_ := ab' (Kd.Q_below (Kd.eQ HO_533000) hb)
       have n5_ := ab' (Kd.Q_below (Kd.eQ HO_539000) hb)
       have n6_ := ab' (d' (g := gb496) (o := .cells #[.slice A0_0 l0_0.length c0_0, .int .i64 a0_1] 24 (0, 0)) (eB BK496) hb)
       have n7_ := ab' (d' (g := gb504) (o := .cells #[.slice Ao18 t497.length co18, .int .i64 t500] 27 (0, 0)) (eB BK504) hb)
       have n8_ := ab' (d' (g := gb511) (o := .cells #[.slice Ao24 t505.length co24, .int .i64 t508] 27 (0, 0)) (eB BK511) hb)
       have n9_ := ab' (d' (g := gb518) (o := .cells #[.slice Ao31 t512.length co31, .int .i64 t515] 24 (0, 0)) (eB BK518) hb)
       have n10_ := ab' (d' (g := gb532) (o := .cells #[.slice Ao43 t527.length co43, .int .i64 t530] 27 (0, 0)) (eB BK532) hb)
       have n11_ := ab' (d' (g := gb538) (o := .cells #[.slice Ao52 t533.length co52, .int .i64 t536] 24 (0, 0)) (eB BK538) hb)
       have n12_ := ab' (j' (eH HB) hb)
       clear HO_8
       clear HO_505000
       clear HO_512000
       clear HO_519000
       clear HO_533000
       clear HO_539000
       clear BK496
       clear BK504
       clear BK511
       clear BK518
       clear BK532
       clear BK538
       clear HB
       have HO_8 := n0_
       have HO_505000 := n1_
       have HO_512000 := n2_
       have HO_519000 := n3_
       have HO_533000 := n4_
       have HO_539000 := n5_
       have BK496 := n6_
       have BK504 := n7_
       have BK511 := n8_
       have BK518 := n9_
       have BK532 := n10_
       have BK538 := n11_
       have HB := n12_
       clear n0_ n1_ n2_ n3_ n4_ n5_ n6_ n7_ n8_ n9_ n10_ n11_ n12_
       (try clear hb)
       (try clear hb2)
       (try clear hk)
       (try clear hi)
       refine hK.out _ _ ⟨(f' BK504.out 0).trans rfl, (f' BK504.out 1).trans rfl, (f' BK496.out 0).trans rfl, (f' BK496.out 1).trans rfl⟩ (fun hHeld => ?_)
       clear hK K
       refine norm_ (a' := ?_) ?_ ?_
       rotate_left
       ·
        show Act.put _ (some 106) _ = _
        simp only [Act.put, r', s', u', i64_w, i32_w]
        rfl
       refine pure_ (i := 5) (N := some 107) (v := ?_) (a' := ?_) #[Y,Y,Y,Y,Y,Y,Z,Z,Z,Z,Z,Z,Z,Z,Z,Z,Z,Z,Z,Z,Z] rfl rfl (any_of HT_.out (by kernel_rfl)) (fun _ _ _ h => h) (Or.inl ⟨by rfl, ?_⟩) ?_ ?_
       rotate_left
       ·
        intro w'
        go_simp
        with_reducible rfl
       rotate_left
       ·
        simp only [Act.put, r', s', u', i64_w, i32_w]
        rfl
       refine pure_ (i := 6) (N := some 108) (v := ?_) (a' := ?_) #[Y,Y,Y,Y,Y,Y,Y,Z,Z,Z,Z,Z,Z,Z,Z,Z,Z,Z,Z,Z,Z] rfl rfl (any_of HT_.out (by kernel_rfl)) (fun _ _ _ h => h) (Or.inl ⟨by rfl, ?_⟩) ?_ ?_
       rotate_left
       ·
        intro w'
        go_simp
        with_reducible rfl
       rotate_left
       ·
        simp only [Act.put, r', s', u', i64_w, i32_w]
        rfl
       refine take_ (i := 7) (N := some 109) (v := ?_) (a' := ?_) #[Y,Y,Y,Y,Y,Y,Y,Y,Z,Z,Z,Z,Z,Z,Z,Z,Z,Z,Z,Z,Z] rfl rfl (take_ofW HT_.out HW_.out (by kernel_rfl)) (fun _ _ _ h => h) (Or.inl ⟨by rfl, ?_⟩) hHeld ?_ ?_
       rotate_left
       ·
        rintro w' ⟨s0, s1, s2, s3⟩
        go_simp
        with_reducible rfl
       rotate_left
       ·
        simp only [Act.put, r', s', u', i64_w, i32_w]
        rfl
       refine take_ (i := 8) (N := some 110) (v := ?_) (a' := ?_) #[Y,Y,Y,Y,Y,Y,Y,Y,Y,Z,Z,Z,Z,Z,Z,Z,Z,Z,Z,Z,Z] rfl rfl (take_ofW HT_.out HW_.out (by kernel_rfl)) (fun _ _ _ h => h) (Or.inl ⟨by rfl, ?_⟩) hHeld ?_ ?_
       rotate_left
       ·
        rintro w' ⟨s0, s1, s2, s3⟩
        go_simp
        with_reducible rfl
       rotate_left
       ·
        simp only [Act.put, r', s', u', i64_w, i32_w]
        rfl
       refine one_ (i := 9) (N := some 111) #[Y,Y,Y,Y,Y,Y,Y,Y,Y,Y,Z,Z,Z,Z,Z,Z,Z,Z,Z,Z,Z] rfl rfl (one_of HT_.out (by kernel_rfl)) (by decide) (fun K hK => ?_)
       refine goes_ Try.func15 (by kernel_rfl) rfl #[.agg #[.slice Ao18 t497.length co18, .int .i64 t500], .agg #[.slice A0_0 l0_0.length c0_0, .int .i64 a0_1]] (by rfl) rfl rfl (by (try simp only [v', x', y']); first | done | rfl | (simp only [z', aa']; rfl)) ?_
       with_reducible refine (fanlightlaw06_Alike.calls kj11 _ _ t497 t500 _ _ l0_0 a0_1 t548 _ ?side1 ?side2 ?side3 ?side4 A184.out).mono ?_
       (case side1 => exact Kd.kC (Kd.N_reads' HO_505000.out).2.2)
       (case side2 => exact (Kd.N_reads' HO_505000.out).2.1)
       (case side3 => exact Kd.eC HR0_0 HB)
       (case side4 => exact HC0_0.out)
       rintro e w192 ⟨rfl, hb⟩
       refine ⟨_, rfl, ?_⟩
       have n0_ := ab' (l' (Kd.eR HO_8) hb)
       have n1_ := ab' (e' (Kd.eN HO_505000) hb)
       have n2_ := ab' (e' (Kd.eN HO_512000) hb)
       have n3_ := ab' (e' (Kd.eN HO_519000) hb)
       have n4_ := ab' (Kd.Q_below (Kd.eQ HO_533000) hb)
       have n5_ := ab' (Kd.Q_below (Kd.eQ HO_539000) hb)
       have n6_ := ab' (d' (g := gb496) (o := .cells #[.slice A0_0 l0_0.length c0_0, .int .i64 a0_1] 24 (0, 0)) (eB BK496) hb)
       have n7_ := ab' (d' (g := gb504) (o := .cells #[.slice Ao18 t497.length co18, .int .i64 t500] 27 (0, 0)) (eB BK504) hb)
       have n8_ := ab' (d' (g := gb511) (o := .cells #[.slice Ao24 t505.length co24, .int .i64 t508] 27 (0, 0)) (eB BK511) hb)
       have n9_ := ab' (d' (g := gb518) (o := .cells #[.slice Ao31 t512.length co31, .int .i64 t515] 24 (0, 0)) (eB BK518) hb)
       have n10_ := ab' (d' (g := gb532) (o := .cells #[.slice Ao43 t527.length co43, .int .i64 t530] 27 (0, 0)) (eB BK532) hb)
       have n11_ := ab' (d' (g := gb538) (o := .cells #[.slice Ao52 t533.length co52, .int .i64 t536] 24 (0, 0)) (eB BK538) hb)
       have n12_ := ab' (j' (eH HB) hb)
       clear HO_8
       clear HO_505000
       clear HO_512000
       clear HO_519000
       clear HO_533000
       clear HO_539000
       clear BK496
       clear BK504
       clear BK511
       clear BK518
       clear BK532
       clear BK538
       clear HB
       have HO_8 := n0_
       have HO_505000 := n1_
       have HO_512000 := n2_
       have HO_519000 := n3_
       have HO_533000 := n4_
       have HO_539000 := n5_
       have BK496 := n6_
       have BK504 := n7_
       have BK511 := n8_
       have BK518 := n9_
       have BK532 := n10_
       have BK538 := n11_
       have HB := n12_
       clear n0_ n1_ n2_ n3_ n4_ n5_ n6_ n7_ n8_ n9_ n10_ n11_ n12_
       (try clear hb)
       (try clear hb2)
       (try clear hk)
       (try clear hi)
       refine hK.out _ _ ⟨(f' BK504.out 0).trans rfl, (f' BK504.out 1).trans rfl, (f' BK496.out 0).trans rfl, (f' BK496.out 1).trans rfl⟩ (fun hHeld => ?_)
       clear hK K
       refine norm_ (a' := ?_) ?_ ?_
       rotate_left
       ·
        show Act.put _ (some 111) _ = _
        simp only [Act.put, r', s', u', i64_w, i32_w]
        rfl
       refine pure_ (i := 10) (N := some 112) (v := ?_) (a' := ?_) #[Y,Y,Y,Y,Y,Y,Y,Y,Y,Y,Y,Z,Z,Z,Z,Z,Z,Z,Z,Z,Z] rfl rfl (any_of HT_.out (by kernel_rfl)) (fun _ _ _ h => h) (Or.inl ⟨by rfl, ?_⟩) ?_ ?_
       rotate_left
       ·
        intro w'
        go_simp
        with_reducible rfl
       rotate_left
       ·
        simp only [Act.put, r', s', u', i64_w, i32_w]
        rfl
       refine pure_ (i := 11) (N := some 113) (v := ?_) (a' := ?_) #[Y,Y,Y,Y,Y,Y,Y,Y,Y,Y,Y,Y,Z,Z,Z,Z,Z,Z,Z,Z,Z] rfl rfl (any_of HT_.out (by kernel_rfl)) (fun _ _ _ h => h) (Or.inl ⟨by rfl, ?_⟩) ?_ ?_
       rotate_left
       ·
        intro w'
        go_simp
        with_reducible rfl
       rotate_left
       ·
        simp only [Act.put, r', s', u', i64_w, i32_w]
        rfl
       refine pure_ (i := 12) (N := some 114) (v := ?_) (a' := ?_) #[Y,Y,Y,Y,Y,Y,Y,Y,Y,Y,Y,Y,Y,Z,Z,Z,Z,Z,Z,Z,Z] rfl rfl (any_of HT_.out (by kernel_rfl)) (fun _ _ _ h => h) (Or.inl ⟨by rfl, ?_⟩) ?_ ?_
       rotate_left
       ·
        intro w'
        go_simp
        with_reducible rfl
       rotate_left
       ·
        simp only [Act.put, r', s', u', i64_w, i32_w]
        rfl
       refine pure_ (i := 13) (N := some 115) (v := ?_) (a' := ?_) #[Y,Y,Y,Y,Y,Y,Y,Y,Y,Y,Y,Y,Y,Y,Z,Z,Z,Z,Z,Z,Z] rfl rfl (any_of HT_.out (by kernel_rfl)) (fun _ _ _ h => h) (Or.inl ⟨by rfl, ?_⟩) ?_ ?_
       rotate_left
       ·
        intro w'
        go_simp
        with_reducible rfl
       rotate_left
       ·
        simp only [Act.put, r', s', u', i64_w, i32_w]
        rfl
       refine pure_ (i := 14) (N := some 116) (v := ?_) (a' := ?_) #[Y,Y,Y,Y,Y,Y,Y,Y,Y,Y,Y,Y,Y,Y,Y,Z,Z,Z,Z,Z,Z] rfl rfl (any_of HT_.out (by kernel_rfl)) (fun _ _ _ h => h) (Or.inl ⟨by rfl, ?_⟩) ?_ ?_
       rotate_left
       ·
        intro w'
        go_simp
        with_reducible rfl
       rotate_left
       ·
        simp only [Act.put, r', s', u', i64_w, i32_w]
        rfl
       refine one_ (i := 15) (N := some 117) #[Y,Y,Y,Y,Y,Y,Y,Y,Y,Y,Y,Y,Y,Y,Y,Y,Z,Z,Z,Z,Z] rfl rfl (one_of HT_.out (by kernel_rfl)) (by decide) (fun K hK => ?_)
       refine goes_ Try.func23 (by kernel_rfl) rfl #[.slice Ao21 t501.length co21, .slice A1 l1.length c1] (by rfl) rfl rfl (by (try simp only [v', x', y']); first | done | rfl | (simp only [z', aa']; rfl)) ?_
       with_reducible refine (fanlightplain_SameBytes.calls _ _ t501 _ _ l1 true _ ?side1 ?side2 ?side3 ?side4 A186.out).mono ?_
       (case side1 => exact Kd.kC (Kd.R_reads' HO_8.out).2.2)
       (case side2 => exact (Kd.R_reads' HO_8.out).2.1)
       (case side3 => exact Kd.eC HR1 HB)
       (case side4 => exact HC1.out)
       rintro e w' ⟨rfl, ⟨nd, rfl⟩⟩
       refine ⟨_, rfl, ?_⟩
       refine hK.out _ _ ⟨(f' BK504.out 0).trans rfl, (f' BK504.out 1).trans rfl, (f' BK496.out 0).trans rfl, (f' BK496.out 1).trans rfl⟩ (fun hHeld => ?_)
       clear hK K
       refine norm_ (a' := ?_) ?_ ?_
       rotate_left
       ·
        show Act.put _ (some 117) _ = _
        simp only [Act.put, r', s', u', i64_w, i32_w]
        rfl
       refine pure_ (i := 16) (N := some 118) (v := ?_) (a' := ?_) #[Y,Y,Y,Y,Y,Y,Y,Y,Y,Y,Y,Y,Y,Y,Y,Y,Y,Z,Z,Z,Z] rfl rfl (any_of HT_.out (by kernel_rfl)) (fun _ _ _ h => h) (Or.inl ⟨by rfl, ?_⟩) ?_ ?_
       rotate_left
       ·
        intro w'
        go_simp
        with_reducible rfl
       rotate_left
       ·
        simp only [Act.put, r', s', u', i64_w, i32_w]
        rfl
       refine pure_ (i := 17) (N := some 119) (v := ?_) (a' := ?_) #[Y,Y,Y,Y,Y,Y,Y,Y,Y,Y,Y,Y,Y,Y,Y,Y,Y,Y,Z,Z,Z] rfl rfl (any_of HT_.out (by kernel_rfl)) (fun _ _ _ h => h) (Or.inl ⟨by rfl, ?_⟩) ?_ ?_
       rotate_left
       ·
        intro w'
        go_simp
        with_reducible rfl
       rotate_left
       ·
        simp only [Act.put, r', s', u', i64_w, i32_w]
        rfl
       refine one_ (i := 18) (N := some 120) #[Y,Y,Y,Y,Y,Y,Y,Y,Y,Y,Y,Y,Y,Y,Y,Y,Y,Y,Y,Z,Z] rfl rfl (one_of HT_.out (by kernel_rfl)) (by decide) (fun K hK => ?_)
       refine goes_ Try.func8 (by kernel_rfl) rfl #[] (by rfl) rfl rfl (by (try simp only [v', x', y']); first | done | rfl | (simp only [z', aa']; rfl)) ?_
       with_reducible refine (fanlightlaw06_alive.calls kj11  t550 _ A188.out hT).mono ?_
       rintro e w193 ⟨rfl, hb⟩
       refine ⟨_, rfl, ?_⟩
       have n0_ := ab' (l' (Kd.eR HO_8) hb)
       have n1_ := ab' (e' (Kd.eN HO_505000) hb)
       have n2_ := ab' (e' (Kd.eN HO_512000) hb)
       have n3_ := ab' (e' (Kd.eN HO_519000) hb)
       have n4_ := ab' (Kd.Q_below (Kd.eQ HO_533000) hb)
       have n5_ := ab' (Kd.Q_below (Kd.eQ HO_539000) hb)
       have n6_ := ab' (d' (g := gb496) (o := .cells #[.slice A0_0 l0_0.length c0_0, .int .i64 a0_1] 24 (0, 0)) (eB BK496) hb)
       have n7_ := ab' (d' (g := gb504) (o := .cells #[.slice Ao18 t497.length co18, .int .i64 t500] 27 (0, 0)) (eB BK504) hb)
       have n8_ := ab' (d' (g := gb511) (o := .cells #[.slice Ao24 t505.length co24, .int .i64 t508] 27 (0, 0)) (eB BK511) hb)
       have n9_ := ab' (d' (g := gb518) (o := .cells #[.slice Ao31 t512.length co31, .int .i64 t515] 24 (0, 0)) (eB BK518) hb)
       have n10_ := ab' (d' (g := gb532) (o := .cells #[.slice Ao43 t527.length co43, .int .i64 t530] 27 (0, 0)) (eB BK532) hb)
       have n11_ := ab' (d' (g := gb538) (o := .cells #[.slice Ao52 t533.length co52, .int .i64 t536] 24 (0, 0)) (eB BK538) hb)
       have n12_ := ab' (j' (eH HB) hb)
       clear HO_8
       clear HO_505000
       clear HO_512000
       clear HO_519000
       clear HO_533000
       clear HO_539000
       clear BK496
       clear BK504
       clear BK511
       clear BK518
       clear BK532
       clear BK538
       clear HB
       have HO_8 := n0_
       have HO_505000 := n1_
       have HO_512000 := n2_
       have HO_519000 := n3_
       have HO_533000 := n4_
       have HO_539000 := n5_
       have BK496 := n6_
       have BK504 := n7_
       have BK511 := n8_
       have BK518 := n9_
       have BK532 := n10_
       have BK538 := n11_
       have HB := n12_
       clear n0_ n1_ n2_ n3_ n4_ n5_ n6_ n7_ n8_ n9_ n10_ n11_ n12_
       (try clear hb)
       (try clear hb2)
       (try clear hk)
       (try clear hi)
       refine hK.out _ _ ⟨(f' BK504.out 0).trans rfl, (f' BK504.out 1).trans rfl, (f' BK496.out 0).trans rfl, (f' BK496.out 1).trans rfl⟩ (fun hHeld => ?_)
       clear hK K
       refine norm_ (a' := ?_) ?_ ?_
       rotate_left
       ·
        show Act.put _ (some 120) _ = _
        simp only [Act.put, r', s', u', i64_w, i32_w]
        rfl
       refine pure_ (i := 19) (N := some 121) (v := ?_) (a' := ?_) #[Y,Y,Y,Y,Y,Y,Y,Y,Y,Y,Y,Y,Y,Y,Y,Y,Y,Y,Y,Y,Z] rfl rfl (any_of HT_.out (by kernel_rfl)) (fun _ _ _ h => h) (Or.inl ⟨by rfl, ?_⟩) ?_ ?_
       rotate_left
       ·
        intro w'
        go_simp
        with_reducible rfl
       rotate_left
       ·
        simp only [Act.put, r', s', u', i64_w, i32_w]
        rfl
       refine pure_ (i := 20) (N := some 6) (v := ?_) (a' := ?_) #[Y,Y,Y,Y,Y,Y,Y,Y,Y,Y,Y,Y,Y,Y,Y,Y,Y,Y,Y,Y,Y] rfl rfl (any_of HT_.out (by kernel_rfl)) (fun _ _ _ h => h) (Or.inl ⟨by rfl, ?_⟩) ?_ ?_
       rotate_left
       ·
        intro w'
        go_simp
        with_reducible rfl
       rotate_left
       ·
        simp only [Act.put, r', s', u', i64_w, i32_w]
        rfl
       refine done_ (done_of HT_.out (by kernel_rfl)) ?_
       try go_wp2
       go_ret
       exact ⟨eE, eH HB⟩
      ·
       replace c187 := Bool.eq_false_iff.mpr c187
       subst c187
       have H1 : (some false) = some r := by rw [if_neg (show ¬ (false = true) by decide)] at H; exact H
       clear H
       have H := H1
       clear H1
       obtain rfl := Option.some.inj H
       cases hT
     ·
      rw [if_neg c185] at H
      have c185b0 : (t548 == 0) = false := beq_eq_false_iff_ne.mpr c185
      have c185b1 : (t548 != 0) = true := bne_iff_ne.mpr c185
      obtain rfl := Option.some.inj H
      cases hT
    ·
     rw [if_neg c183] at H
     have c183b0 : (t546 == t547) = false := beq_eq_false_iff_ne.mpr c183
     have c183b1 : (t546 != t547) = true := bne_iff_ne.mpr c183
     obtain rfl := Option.some.inj H
     cases hT
end Go.Proofs.Ytgmkgobapeencaa.S
