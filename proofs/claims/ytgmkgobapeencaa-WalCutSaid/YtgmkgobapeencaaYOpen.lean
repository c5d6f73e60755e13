/- What the print's words and the walks are, as far as this claim names them. -/
import Derived.Test.YtgmkgobapeencaaYWalRef
import Derived.Test.YtgmkgobapeencaaYS31
import Derived.Laws.Cover3
import Derived.OpenShut
import Derived.Lib.SlBytesConst
import Derived.Deep.RegionHeld3
import Derived.Laws.BitsAllLaws
import Derived.WalkSpells
import Derived.RangeFuncNested
import Derived.RangeFuncBound
import Derived.RangeFuncCalls
import Derived.RangeFuncLeaves
import Derived.RangeFuncBox
import Derived.OwnWalkIn
import Derived.TacticsInMore
import Derived.LoopNIn
import Derived.LoopIn
import Derived.Lib.Hide
import Derived.Outline
import Derived.Maps.OwnIn
import Derived.StillTailTactics
import Derived.OrdersIn
import Derived.TacticsIn
import Derived.Test.YtgmkgobapeencaaYWTab
import Derived.Test.YtgmkgobapeencaaYS15
import Derived.Test.YtgmkgobapeencaaYS16
import Derived.Test.YtgmkgobapeencaaYS27
import Derived.Test.YtgmkgobapeencaaYS30
import Derived.Test.YtgmkgobapeencaaRows
import Derived.Test.YtgmkgobapeencaaYWWords
import Derived.Deep.Slices
import Derived.ChangeArms
import Derived.Lib.SmallJoins
import Derived.SizedLaws
set_option linter.unusedVariables false
set_option linter.unusedSimpArgs false
namespace Go.Proofs.Ytgmkgobapeencaa.WalRec
open Go.RowKit Go.Proofs.Ytgmkgobapeencaa.S Go.Proofs.YtgmkgobapeencaaW.PrintWords Go.Proofs.YtgmkgobapeencaaW.PrintLast RefSeal RefPut WalMath WalEv WalLog WalMore WalRef
def recS : List (List Int) → List (List Int) → Int → List (List Int) × Int
 | [], acc, nx => (acc, nx)
 | s :: ss, acc, nx =>
  if (wscan (s.take 480) nx).2 = 0 ∨ 1099511627776 - nx < ((wscan (s.take 480) nx).1.length : Int) then (acc, nx)
  else if ((s.take 480).drop (wscan (s.take 480) nx).2).any (fun x => x != 0) then (acc ++ [(s.take 480).take (wscan (s.take 480) nx).2], nx + ((wscan (s.take 480) nx).1.length : Int))
  else recS ss (acc ++ [(s.take 480).take (wscan (s.take 480) nx).2]) (nx + ((wscan (s.take 480) nx).1.length : Int))
theorem scan_le {s : List Int} (ho : octs s) (hl : s.length ≤ 1099511627776) {due : Int} (h0 : 0 ≤ due) (h1 : due ≤ 2199023255552) : (wscan s due).2 ≤ s.length := by
 obtain ⟨ds, T, hs, hds, hoT, hr, hw⟩ := wscan_form (s.length + 1) s due ho (by omega) h0 (by omega)
 unfold wscan
 rw [hw]
 dsimp only
 have := congrArg List.length hs
 rw [List.length_append] at this
 omega
theorem rec_l0 (l : List (List Int)) (hl : ∀ s ∈ l, octs s) (hn : l.length ≤ 64) : ∀ (rest pre acc : List (List Int)) (nx : Int), l = pre ++ rest → acc.length ≤ pre.length → 1 ≤ nx → nx ≤ 1099511627776 →
  Ev (fun k => wal_Recover.l0 k l (l.length : Int) (pre.length : Int) acc nx) ((recS rest acc nx).1, (recS rest acc nx).2, 0)
 | [], pre, acc, nx, h, ha, h0, h1 => by
  refine Ev.step (fun k => rfl) ?_
  have e : l = pre := by simpa using h
  simp only [wal_Recover.l0, if_neg (show ¬ (pre.length : Int) < (l.length : Int) by rw [e]; omega), recS]
  exact Ev.now _
 | s :: ss, pre, acc, nx, h, ha, h0, h1 => by
  refine Ev.step (fun k => rfl) ?_
  have hlen : l.length = pre.length + 1 + ss.length := by rw [h]; simp; omega
  have hos := hl s (by rw [h]; simp)
  have hmn : mn (s.length : Int) 480 = ((min s.length 480 : Nat) : Int) := by unfold mn; split <;> omega
  have htk : s.take (min s.length 480) = s.take 480 := by
   by_cases hs : s.length ≤ 480
   ·
    rw [Nat.min_eq_left hs, List.take_of_length_le (Nat.le_refl _), List.take_of_length_le hs]
   ·
    rw [Nat.min_eq_right (by omega)]
  have hm0 : (0 : Int) ≤ ((min s.length 480 : Nat) : Int) := by omega
  have hm1 : ((min s.length 480 : Nat) : Int) ≤ (s.length : Int) := by omega
  simp only [wal_Recover.l0, if_pos (show (pre.length : Int) < (l.length : Int) by omega), if_pos (show (0 : Int) ≤ (pre.length : Int) by omega), rd_L1_at h, hmn, if_pos hm0, if_pos hm1, Int.toNat_natCast, htk, Option.bind_some]
  obtain ⟨t, ht⟩ : ∃ t, s.take 480 = t := ⟨_, rfl⟩
  have hot : octs t := by rw [← ht]; exact octs_take hos 480
  have htl : t.length ≤ 480 := by rw [← ht]; simp; omega
  rw [recS, ht]
  have hsc := scan_is hot (show t.length ≤ 1099511627776 by omega) (show 0 ≤ nx by omega) (show nx ≤ 2199023255552 by omega)
  have hfew := scan_few hot (show t.length ≤ 1099511627776 by omega) (show 0 ≤ nx by omega) (show nx ≤ 2199023255552 by omega) htl
  have hle := scan_le hot (show t.length ≤ 1099511627776 by omega) (show 0 ≤ nx by omega) (show nx ≤ 2199023255552 by omega)
  refine Ev.bind hsc ?_
  obtain ⟨R, hR⟩ : ∃ R, wscan t nx = R := ⟨_, rfl⟩
  rw [hR] at hfew hle ⊢
  obtain ⟨rs, g⟩ := R
  dsimp only at hfew hle ⊢
  simp only [List.length_map]
  have stop : Ev (fun k => wal_Recover.j2 k t (rs.map rowP) (g : Int) l (l.length : Int) (pre.length : Int) true acc nx) (acc, nx, 0) := by
   refine Ev.step (fun k => rfl) ?_
   simp only [wal_Recover.j2, if_true]
   exact Ev.now _
  by_cases hg : g = 0
  ·
   simp only [if_pos (show (g : Int) = 0 by omega), if_pos (show g = 0 ∨ 1099511627776 - nx < (rs.length : Int) from .inl hg)]
   exact stop
  ·
   have w1 : wrap64 (1099511627776 - nx) = 1099511627776 - nx := wI (by omega) (by omega)
   simp only [if_neg (show ¬ (g : Int) = 0 by omega), w1]
   by_cases hc : 1099511627776 - nx < (rs.length : Int)
   ·
    simp only [if_pos (show g = 0 ∨ 1099511627776 - nx < (rs.length : Int) from .inr hc)]
    rw [decide_eq_true (show (rs.length : Int) > 1099511627776 - nx from hc)]
    exact stop
   ·
    simp only [if_neg (show ¬ (g = 0 ∨ 1099511627776 - nx < (rs.length : Int)) by omega)]
    rw [decide_eq_false (show ¬ (rs.length : Int) > 1099511627776 - nx from hc)]
    refine Ev.step (fun k => rfl) ?_
    have c1 : (t.take g).length < 140737488355328 := by simp; omega
    have c2 : acc.length < 5864062014805 := by omega
    have c3 : (t.drop g).length ≤ 1099511627776 := by simp; omega
    have hcf : slices_ContainsFunc_byte_byte.f (t.drop g) = some ((t.drop g).any fun x => x != 0) := by unfold slices_ContainsFunc_byte_byte.f; rw [if_pos c3]
    have w2 : wrap64 (nx + (((rs.map rowP).length : Nat) : Int)) = nx + (rs.length : Int) := by rw [List.length_map]; exact wI (by omega) (by omega)
    have w3 : wrap64 ((pre.length : Int) + 1) = (((pre ++ [s]).length : Nat) : Int) := by rw [List.length_append]; exact wI (by omega) (by omega)
    have ih := rec_l0 l hl hn ss (pre ++ [s]) (acc ++ [t.take g]) (nx + (rs.length : Int)) (by rw [h]; simp) (by simp; omega) (by omega) (by omega)
    simp only [wal_Recover.j2, Bool.false_eq_true, if_false, if_pos (show (0 : Int) ≤ (g : Int) by omega), if_pos (show (g : Int) ≤ (t.length : Int) by omega), Int.toNat_natCast, clone_is c1, Option.bind_some, if_pos c2, hcf, w2, w3]
    by_cases hz : ((t.drop g).any fun x => x != 0) = true
    ·
     simp only [if_pos hz]
     exact Ev.now _
    ·
     simp only [if_neg hz]
     exact ih
theorem rec_is {l : List (List Int)} (hl : ∀ s ∈ l, octs s) (hn : l.length ≤ 64) {nx : Int} (h0 : 1 ≤ nx) (h1 : nx ≤ 1099511627776) : Ev (fun k => wal_Recover.f k l nx) ((recS l [] nx).1, (recS l [] nx).2, 0) := by
 unfold wal_Recover.f
 simp only [if_neg (show ¬ nx < 1 by omega), decide_eq_false (show ¬ nx > 1099511627776 by omega)]
 refine Ev.step (fun k => rfl) ?_
 simp only [wal_Recover.j0, Bool.false_eq_true, if_false, if_neg (show ¬ (l.length : Int) > 64 by omega)]
 exact rec_l0 l hl hn l [] [] nx rfl (by simp) h0 h1
end Go.Proofs.Ytgmkgobapeencaa.WalRec
namespace Go.Proofs.Ytgmkgobapeencaa.S
open Go.RowKit Go.Shelf Go.Proofs.YtgmkgobapeencaaW.PrintWords Go.Proofs.YtgmkgobapeencaaW.PrintLast Go.Proofs.YtgmkgobapeencaaW.PrintMore
attribute [local go_sem] max2_int min2_int max_two min_two max_three min_three max_four min_four
def cutN : List S57 → Int → Nat
 | [], _ => 0
 | x :: xs, left => if (x.f1.length : Int) + 16 ≤ left then cutN xs (left - ((x.f1.length : Int) + 16)) + 1 else 0
def totN : List S57 → Nat
 | [] => 0
 | x :: xs => x.f1.length + 16 + totN xs
structure CutP (k : Nat) (a2 : Int) (segs : List (List Int)) (next : Int) (want : List S57) (init : List (List Int)) (last : List Int) (t kk : Nat) (Y1 : List (List Int)) (Y2 : Int) (rs : List S60) : Prop where
 segs_is : segs = init ++ [last]
 pos : 0 < last.length
 len : last.length ≤ 480
 few : init.length ≤ 63
 wants : want.length ≤ 30
 data : ∀ x ∈ want, x.f1.length ≤ 400
 low : 0 ≤ next ∧ next ≤ 1099511627776
 at_is : Int.tmod (wrap64 (Int.tmod a2 last.length + last.length)) last.length = t
 at_lt : t < last.length
 kk_is : kk = cutN want ((totN want : Int) - last.length + t)
 rec_is : wal_Recover.f k (init ++ [last.take t]) (next - want.length) = some (Y1, Y2, 0)
 recs : wal_Records.f k Y1 Y2 = some (rs, 0)
 same : fanlightlaw06_same.f k rs (want.take kk) = some true
theorem totN_app : ∀ a b : List S57, totN (a ++ b) = totN a + totN b
 | [], b => by simp [totN]
 | x :: a, b => by simp only [List.cons_append, totN, totN_app a b]; omega
theorem totN_le : ∀ a : List S57, (∀ x ∈ a, x.f1.length ≤ 400) → totN a ≤ 416 * a.length
 | [], _ => by simp [totN]
 | x :: a, h => by
  have h1 := h x (by simp)
  have h2 := totN_le a (fun y hy => h y (by simp [hy]))
  simp only [totN, List.length_cons]
  omega
theorem want_at {want : List S57} {j : Nat} (h : j < want.length) : want.take (j + 1) = want.take j ++ [rd_T57 want (j : Int)] := by
 rw [List.take_succ_eq_append_getElem h]
 simp [rd_T57, h]
theorem want_drop {want : List S57} {j : Nat} (h : j < want.length) : want.drop j = rd_T57 want (j : Int) :: want.drop (j + 1) := by
 rw [List.drop_eq_getElem_cons h]
 simp [rd_T57, h]
theorem want_mem {want : List S57} {j : Nat} (h : j < want.length) : rd_T57 want (j : Int) ∈ want := by
 have : rd_T57 want (j : Int) = want[j] := by simp [rd_T57, h]
 rw [this]
 exact List.getElem_mem _
def fanlightlaw06_WalCut.P (k : Nat) (a0 : Int) (l1 : List (List Int)) (a2 : Int) (r : Bool) : Prop :=
 r = true ∧ fanlightlaw06_alive.f k = some true ∧ ∃ segs next want, fanlightlaw06_filled.f k a0 l1 = some (segs, next, want, true) ∧ (segs = [] ∨ ∃ init last t kk Y1 Y2 rs, CutP k a2 segs next want init last t kk Y1 Y2 rs)
set_option maxRecDepth 100000 in
set_option maxHeartbeats 4000000 in
theorem walcut0 (k : Nat) (a0 : Int) (A1 : Option Addr) (c1 : Nat) (l1 : List (List Int)) (a2 : Int) (next : Int) (want : List S57) (w : World) (hr1 : Kd.C (Kd.slice 5 (Kd.int .u8)) w A1 l1.length l1) (hc1 : l1.length ≤ c1) (hlive : fanlightlaw06_alive.f k = some true) (hfill : fanlightlaw06_filled.f k a0 l1 = some ([], next, want, true)) :
  Calls Try.prog 7 #[.int .i64 a0, .slice A1 l1.length c1, .int .i64 a2] w fun e w' => e = .returned (.bool true) ∧ Below w.heap.size w w' := by
 have hu27 := Try.underlying27
 have HF := Aside0.mk (fanlightlaw06_filled.calls k a0 (fun k_ => k_ < w.heap.size) A1 c1 l1 [] next want true w (Kd.V_mk hc1 (Kd.C_F (Kd.heap_slice _ (Kd.heap_int .u8)) hr1)) hfill)
 have HLIVE := Aside0.mk (fun (W : World) => fanlightlaw06_alive.calls k true W hlive rfl)
 obtain ⟨n1, hn1⟩ : ∃ n, l1.length = n := ⟨_, rfl⟩
 rw [hn1] at HF ⊢
 clear hr1 hc1 hlive hfill hn1
 go_enter Try.func7, Try.ntmps7
 go_wp2_with fail
 refine HF.out.mono ?_
 rintro e wA ⟨vS, vW, rfl, hoS, hoW, hbA⟩
 obtain ⟨AS, cS, rfl⟩ := Kd.N_slice hoS
 have hx := World.alloc_heap_new wA (.cells #[.slice AS 0 cS, .int .i64 next] 27)
 have HB := Aside0.mk (below_alloc hbA (.cells #[.slice AS 0 cS, .int .i64 next] 27))
 clear hoS hoW hbA HF
 simp only [List.length_nil]
 go_wp2_with fail
 generalize wA.alloc (.cells #[.slice AS 0 cS, .int .i64 next] 27) = wB at hx HB ⊢
 refine (HLIVE.out _).mono ?_
 rintro e wC ⟨rfl, hbC⟩
 have x0 : wC.cell? ⟨wA.heap.size, 0, none⟩ = some (.slice AS 0 cS) := blk_cell (blk_below hx hbC) 0
 have HB2 := Aside0.mk (HB.out.trans (hbC.mono HB.out.size))
 clear hx HB hbC
 go_wp2_with fail
 refine (HLIVE.out _).mono ?_
 rintro e wD ⟨rfl, hbD⟩
 have HB3 := Aside0.mk (HB2.out.trans (hbD.mono HB2.out.size))
 clear HB2 hbD x0
 go_wp2_with fail
 go_ret
 exact ⟨rfl, HB3.out⟩
set_option maxRecDepth 100000 in
set_option maxHeartbeats 8000000 in
theorem walcut1 (k : Nat) (a0 : Int) (A1 : Option Addr) (c1 : Nat) (l1 : List (List Int)) (a2 : Int) (segs : List (List Int)) (next : Int) (want : List S57) (init : List (List Int)) (last : List Int) (t kk : Nat) (Y1 : List (List Int)) (Y2 : Int) (rs : List S60) (w : World) (hr1 : Kd.C (Kd.slice 5 (Kd.int .u8)) w A1 l1.length l1) (hc1 : l1.length ≤ c1) (hlive : fanlightlaw06_alive.f k = some true) (hfill : fanlightlaw06_filled.f k a0 l1 = some (segs, next, want, true))
  (hP : CutP k a2 segs next want init last t kk Y1 Y2 rs) :
  Calls Try.prog 7 #[.int .i64 a0, .slice A1 l1.length c1, .int .i64 a2] w fun e w' => e = .returned (.bool true) ∧ Below w.heap.size w w' := by
 have hu27 := Try.underlying27
 have hu57 := Try.underlying57
 have HF := Aside0.mk (fanlightlaw06_filled.calls k a0 (fun k_ => k_ < w.heap.size) A1 c1 l1 segs next want true w (Kd.V_mk hc1 (Kd.C_F (Kd.heap_slice _ (Kd.heap_int .u8)) hr1)) hfill)
 have HLIVE := Aside0.mk (fun (W : World) => fanlightlaw06_alive.calls k true W hlive rfl)
 have HP := Aside0.mk hP
 obtain ⟨n1, hn1⟩ : ∃ n, l1.length = n := ⟨_, rfl⟩
 obtain ⟨n, hn⟩ : ∃ n, init.length = n := ⟨_, rfl⟩
 obtain ⟨m, hm⟩ : ∃ m, want.length = m := ⟨_, rfl⟩
 obtain ⟨l, hl⟩ : ∃ l, last.length = l := ⟨_, rfl⟩
 have hsn : segs.length = n + 1 := by rw [hP.segs_is, List.length_append, hn]; rfl
 have hn63 : n ≤ 63 := by rw [← hn]; exact hP.few
 have hm30 : m ≤ 30 := by rw [← hm]; exact hP.wants
 have hl0 : 0 < l := by rw [← hl]; exact hP.pos
 have hl480 : l ≤ 480 := by rw [← hl]; exact hP.len
 have htl : t < l := by rw [← hl]; exact hP.at_lt
 have hnx := hP.low
 have hat := hP.at_is
 rw [hl] at hat
 have HSN := Lib.hid hsn
 have HN := Lib.hid hn
 have HM := Lib.hid hm
 have HL := Lib.hid hl
 have HAT := Lib.hid hat
 rw [hn1] at HF ⊢
 clear hr1 hc1 hlive hfill hn1 hn hm hl hsn hP hat
 go_enter Try.func7, Try.ntmps7
 go_wp2_with fail
 refine HF.out.mono ?_
 rintro e wA ⟨vS, vW, rfl, hoS, hoW, hbA⟩
 obtain ⟨AS, cS, rfl⟩ := Kd.N_slice hoS
 obtain ⟨AW, cW, rfl⟩ := Kd.N_slice hoW
 have qS := Kd.N_reads' hoS
 have qW := Kd.N_reads' hoW
 rw [HSN.out] at qS ⊢
 rw [HM.out] at qW ⊢
 have FS := Aside0.mk (Kd.C_F (Kd.heap_slice _ (Kd.heap_int .u8)) qS.2.2)
 have CW := Aside0.mk qW.2.2
 have hcS := qS.2.1
 have hcW := qW.2.1
 clear hoS hoW HF qS qW
 go_wp2_with fail
 have hx := World.alloc_heap_new wA (.cells #[.slice AS (n + 1) cS, .int .i64 next] 27)
 have hbB := below_alloc (Below.refl wA.heap.size wA) (.cells #[.slice AS (n + 1) cS, .int .i64 next] 27)
 generalize wA.alloc (.cells #[.slice AS (n + 1) cS, .int .i64 next] 27) = wB at hx hbB ⊢
 refine (HLIVE.out _).mono ?_
 rintro e wC ⟨rfl, hbC⟩
 have hbAC := hbB.trans (hbC.mono hbB.size)
 have x0 : wC.cell? ⟨wA.heap.size, 0, none⟩ = some (.slice AS (n + 1) cS) := blk_cell (blk_below hx hbC) 0
 have x1 : wC.cell? ⟨wA.heap.size, 1, none⟩ = some (.int .i64 next) := blk_cell (blk_below hx hbC) 1
 have FS2 := Aside0.mk (Kd.F_below FS.out hbAC)
 have CW2 := Aside0.mk (Kd.C_below CW.out hbAC)
 have HB2 := Aside0.mk (hbA.trans (hbAC.mono hbA.size))
 have hgC : wA.heap.size < wC.heap.size := blk_lt (blk_below hx hbC)
 have HX := Aside0.mk (blk_below hx hbC)
 obtain ⟨g, hg⟩ : ∃ g, wA.heap.size = g := ⟨_, rfl⟩
 rw [hg] at x0 x1 hgC HX FS2 ⊢
 clear hx hbB hbC hbAC hbA FS CW hg
 obtain ⟨ad, c, rfl, hcl, hfk, hcc, _⟩ := Kd.F_get FS2.out ([] : List Int) (n : Int) (by omega) (by omega)
 have hlast : segs.getD n [] = last := by
  rw [HP.out.segs_is, List.getD_eq_getElem?_getD, ← HN.out]
  simp
 simp only [Int.toNat_natCast] at hfk hcc
 rw [hlast] at hfk
 obtain ⟨Al, cl, rfl, hlc, hFl⟩ := Kd.FK_slice_open hfk
 have hxl := hcc 0 _ rfl
 rw [show n * (Kd.slice 5 (Kd.int .u8)).sz + 0 = n from Nat.mul_one n, HL.out] at hxl
 rw [HL.out] at hlc
 have FL2 := Aside0.mk hFl
 clear hcl hfk hcc hlast hFl
 have hidx0 : (0 : Int) ≤ (n : Int) := by omega
 have hidx1 : (n : Int) < (n : Int) + 1 := by omega
 have hat := HAT.out
 have hlne : ¬ (l : Int) = 0 := by omega
 go_wp2_with fail
 have HXL := Aside0.mk hxl
 clear hat hxl
 go_loop [12, 13] (fun v12 v13 => ∃ j : Nat, j ≤ m ∧ v12 = .int .i64 (totN (want.take j) : Nat) ∧ v13 = .int .i64 j) (fun _ v13 => m - (intOf v13).toNat)
 case atStart => exact ⟨0, by omega, rfl, rfl⟩
 case round =>
  obtain ⟨j, hj, rfl, rfl⟩ := hrel
  by_cases hlt : j < m
  ·
   have hjm : j < want.length := by rw [HM.out]; exact hlt
   obtain ⟨aw, Ad, cd, e, -, hxd, -, -⟩ := at_T57 CW2.out (j : Int) (by omega) (by omega)
   subst e
   simp only [Int.toNat_natCast] at hxd
   obtain ⟨d, hd⟩ : ∃ d, (rd_T57 want (j : Int)).f1.length = d := ⟨_, rfl⟩
   have hd400 : d ≤ 400 := by rw [← hd]; exact HP.out.data _ (want_mem hjm)
   obtain ⟨s, hs⟩ : ∃ s, totN (want.take j) = s := ⟨_, rfl⟩
   have hsb : s ≤ 416 * 30 := by
    have := totN_le (want.take j) (fun x hx => HP.out.data x (List.mem_of_mem_take hx))
    rw [hs, List.length_take] at this
    omega
   have hs1 : totN (want.take (j + 1)) = s + (d + 16) := by rw [want_at hjm, totN_app, hs]; simp [totN, hd]
   rw [hd] at hxd
   simp only [hs]
   have HS1 := Aside0.mk hs1
   have hj0 : (0 : Int) ≤ (j : Int) := by omega
   have hj1 : (j : Int) < (m : Int) := by omega
   clear hd hs hs1 hjm
   go_wp2_with fail
   go_round
   case rel => exact ⟨j + 1, by omega, by rw [HS1.out]; go_num, by go_num⟩
   case measure => simp [intOf]; omega
  ·
   obtain rfl : m = j := by omega
   have htk : want.take m = want := List.take_of_length_le (by rw [HM.out]; exact Nat.le_refl _)
   obtain ⟨T, hT⟩ : ∃ T, totN want = T := ⟨_, rfl⟩
   have hTb : T ≤ 416 * 30 := by
    have := totN_le want (fun x hx => HP.out.data x hx)
    rw [hT, HM.out] at this
    omega
   simp only [htk, hT]
   have hkk := HP.out.kk_is
   rw [HL.out, hT] at hkk
   obtain ⟨z, hz⟩ : ∃ z : Int, (T : Int) - l + t = z := ⟨_, rfl⟩
   rw [hz] at hkk
   have hz0 : -480 ≤ z := by omega
   have hz1 : z ≤ 416 * 30 + 480 := by omega
   have HKK := Lib.hid hkk
   have HZ := Lib.hid hz
   clear htk hT hkk
   go_wp2_with fail
   clear HZ hz
   go_loop [15, 16] (fun v15 v16 => ∃ j : Nat, j ≤ m ∧ v15 = .int .i64 j ∧ v16 = .int .i64 (totN (want.take j) : Nat) ∧ Aside0 (j + cutN (want.drop j) (z - (totN (want.take j) : Nat)) = kk)) (fun v15 _ => m - (intOf v15).toNat)
   case atStart => exact ⟨0, by omega, rfl, rfl, ⟨by rw [HKK.out]; simp [totN]⟩⟩
   case round =>
    obtain ⟨j, hj, rfl, rfl, HC⟩ := hrel
    obtain ⟨s, hs⟩ : ∃ s, totN (want.take j) = s := ⟨_, rfl⟩
    have hsb : s ≤ 416 * 30 := by
     have := totN_le (want.take j) (fun x hx => HP.out.data x (List.mem_of_mem_take hx))
     rw [hs, List.length_take] at this
     omega
    rw [hs] at HC ⊢
    have HS := Lib.hid hs
    clear hs
    go_upto_region 17 with (fail)
    go_cut [108] (fun v108 wc => wc = wC ∧ ∃ b : Bool, v108 = .bool b ∧ ((b = true ∧ j < m ∧ ((s : Int) + (((rd_T57 want (j : Int)).f1.length : Int) + 16) ≤ z)) ∨ (b = false ∧ kk = j)))
    case first =>
     by_cases hlt : j < m
     ·
      have hjm : j < want.length := by rw [HM.out]; exact hlt
      obtain ⟨aw, Ad, cd, e, -, hxd, -, -⟩ := at_T57 CW2.out (j : Int) (by omega) (by omega)
      subst e
      simp only [Int.toNat_natCast] at hxd
      have hC := HC.out
      rw [want_drop hjm] at hC
      obtain ⟨d, hd⟩ : ∃ d, (rd_T57 want (j : Int)).f1.length = d := ⟨_, rfl⟩
      have hd400 : d ≤ 400 := by rw [← hd]; exact HP.out.data _ (want_mem hjm)
      simp only [cutN] at hC
      rw [hd] at hxd hC
      have HD := Aside0.mk hd
      have hj0 : (0 : Int) ≤ (j : Int) := by omega
      have hj1 : (j : Int) < (m : Int) := by omega
      have hdl : decide ((j : Int) < (m : Int)) = true := decide_eq_true hj1
      clear hd hjm
      by_cases hc : (s : Int) + ((d : Int) + 16) ≤ z
      ·
       have HCC := Aside0.mk hC
       have hdc : decide ((s : Int) + (d : Int) + 16 ≤ z) = true := decide_eq_true (by omega)
       clear hC
       go_wp2_with fail
       go_meet
       case rel => exact ⟨rfl, true, rfl, .inl ⟨rfl, hlt, by rw [HD.out]; exact hc⟩⟩
      ·
       rw [if_neg (by omega)] at hC
       have HCC := Aside0.mk hC
       have hdc : decide ((s : Int) + (d : Int) + 16 ≤ z) = false := decide_eq_false (by omega)
       clear hC
       go_wp2_with fail
       go_meet
       case rel => exact ⟨rfl, false, rfl, .inr ⟨rfl, by have := HCC.out; omega⟩⟩
     ·
      obtain rfl : m = j := by omega
      have hC := HC.out
      rw [List.drop_of_length_le (by rw [HM.out]; exact Nat.le_refl _)] at hC
      have HCC := Aside0.mk hC
      have hdl : decide ((m : Int) < (m : Int)) = false := decide_eq_false (by omega)
      clear hC
      go_wp2_with fail
      go_meet
      case rel => exact ⟨rfl, false, rfl, .inr ⟨rfl, by have := HCC.out; simp only [cutN] at this; omega⟩⟩
    case rest =>
     obtain ⟨rfl, b, rfl, hb⟩ := hcut
     rcases hb with ⟨rfl, hlt, hc⟩ | ⟨rfl, hkj⟩
     ·
      have hjm : j < want.length := by rw [HM.out]; exact hlt
      obtain ⟨aw, Ad, cd, e, -, hxd, -, -⟩ := at_T57 CW2.out (j : Int) (by omega) (by omega)
      subst e
      simp only [Int.toNat_natCast] at hxd
      have hC := HC.out
      rw [want_drop hjm] at hC
      obtain ⟨d, hd⟩ : ∃ d, (rd_T57 want (j : Int)).f1.length = d := ⟨_, rfl⟩
      have hd400 : d ≤ 400 := by rw [← hd]; exact HP.out.data _ (want_mem hjm)
      have hs1 : totN (want.take (j + 1)) = s + (d + 16) := by rw [want_at hjm, totN_app, HS.out]; simp [totN, hd]
      simp only [cutN] at hC
      rw [hd] at hxd hC hc
      rw [if_pos (by omega)] at hC
      have HS1 := Aside0.mk hs1
      have HCC := Aside0.mk hC
      have hj0 : (0 : Int) ≤ (j : Int) := by omega
      have hj1 : (j : Int) < (m : Int) := by omega
      clear hd hjm hC hs1
      go_wp2_with fail
      go_round
      case rel => exact ⟨j + 1, by omega, by go_num, by rw [HS1.out]; go_num, ⟨by have := HCC.out; rw [HS1.out]; rw [show z - ((s + (d + 16) : Nat) : Int) = z - s - (d + 16) by omega]; omega⟩⟩
      case measure => simp [intOf]; omega
     ·
      subst hkj
      have hin : segs.take n = init := by rw [HP.out.segs_is, List.take_left' HN.out]
      have FI := Aside0.mk (show Kd.F (Kd.slice 5 (Kd.int .u8)) wc (fun k => k < g) (some ad) n init from by
       have h := Kd.F_take (xs := segs) (m := n) (by rw [HSN.out]; exact FS2.out) (by rw [HSN.out]; omega)
       rw [hin, HN.out] at h
       exact h)
      have htl2 : (last.take t).length = t := by rw [List.length_take, HL.out]; omega
      have FT := Aside0.mk (show Kd.FK (Kd.slice 5 (Kd.int .u8)) wc (fun k => k < g) (last.take t) [.slice Al t cl] from by
       have h := Kd.FK_slice_mk (e := 5) (c := cl) (by rw [htl2]; omega) (Kd.F_take FL2.out (show t ≤ last.length by rw [HL.out]; omega))
       rw [htl2] at h
       exact h)
      have HTL := Lib.hid htl2
      have hcut1 : (t : Int) ≤ (cl : Int) := by omega
      have hcut2 : (n : Int) ≤ (cS : Int) := by omega
      clear hin htl2
      go_wp2_with (first | ((with_reducible refine gate_dst (N := 120) rfl ?_); refine Kd.N_lit (Kd.slice 5 (Kd.int .u8)) (w0 := wc) wc.heap.size 25 ?hg (N' := 120) ?hd (xs := ([] : List (List Int))) (inner := []) (ok := fun _ => True) (okp := fun _ => False) ?hr ?hp (fun _ _ => trivial) trivial (Below.refl _ _) (Nat.le_refl _) (by simp) ?_; (case hd => rfl); (case hg => rfl); (case hr => go_simp <;> rfl); (case hp => exact Reps.none _ _); intro v120 w2 ho3 hb hg_ hnew_; clear hg_ hnew_; have HO := Aside0.mk ho3; have HB3 := Aside0.mk hb; have z0 := pw_cell_below hb x0; clear hb ho3) | ((with_reducible refine gate_builtin (b := .append) (xs := #[.tmp 120, .tmp 127]) rfl ?_); at_builtin; refine Kd.N_append_rows (Kd.slice 5 (Kd.int .u8)) (w0 := wc) wc.heap.size rfl (.tmp 120) (.tmp 127) 22 25 (.slice none 0 0) 24 rfl Try.underlying22 info25 rfl (by decide) (by omega) v120 [] init _ _ _ (fun _ => True) (fun k => k < g) rfl rfl ?aO ?aR ?aK (fun _ _ => trivial) ?aB ?aS ?aL ?_; (case aR => exact (Kd.F_below FI.out HB3.out)); (case aB => exact HB3.out); (case aO => exact HO.out); (case aS => exact (below_size HB3.out)); (case aK => exact fun q hq => ⟨trivial, fun he => by have := Kd.N_base HO.out q he.symm; omega⟩); (case aL => simp only [List.length_nil]; omega); intro v128 w3 ho hb hg_ hat_; have HO4 := Aside0.mk ho; have HB4 := Aside0.mk hb; clear ho hb hg_ hat_) | ((with_reducible refine gate_builtin (b := .append) (xs := #[.tmp 130, .tmp 134]) rfl ?_); at_builtin; refine Kd.N_append (Kd.slice 5 (Kd.int .u8)) (w0 := wc) wc.heap.size rfl (.tmp 130) (.tmp 134) 22 25 (.slice none 0 0) 24 rfl Try.underlying22 info25 rfl (by decide) (by omega) v128 ([] ++ init) (last.take t) [.slice Al t cl] (fun _ => True) (fun k => k < g) rfl rfl ?aP ?aK (fun _ _ => trivial) ?aO ?aB ?aS ?aL ?_; (case aP => exact Kd.FK_below FT.out HB4.out); (case aB => exact HB4.out); (case aO => exact HO4.out); (case aS => exact (below_size HB4.out)); (case aK => exact fun q hq => ⟨trivial, fun he => by have := Kd.N_base HO4.out q he.symm; omega⟩); (case aL => rw [List.nil_append, HN.out]; omega); intro v135 w5 ho hb hg_ hat_; have HO5 := Aside0.mk ho; have HB5 := Aside0.mk hb; obtain ⟨A5, c5, rfl⟩ := Kd.N_slice ho; clear ho hb hg_ hat_))
      have q5 := Kd.N_reads' HO5.out
      simp only [List.nil_append] at q5
      have hrc := HP.out.rec_is
      rw [HM.out] at hrc
      have HR := wal_Recover.calls k A5 c5 (init ++ [last.take t]) (next - m) Y1 Y2 0 w5 q5.2.2 q5.2.1 hrc
      rw [show (init ++ [last.take t]).length = init.length + 1 by simp] at HR
      refine HR.mono ?_
      rintro e w6 ⟨vY, rfl, hoY, hbY⟩
      obtain ⟨AY, cY, rfl⟩ := Kd.S_slice hoY
      have HB6 := Aside0.mk (HB5.out.trans (hbY.mono HB5.out.size))
      have qY := Kd.S_reads' hoY
      have HCY := Aside0.mk qY.2.2
      have hcY := qY.2.1
      clear q5 hrc HR hoY hbY qY HO5 HB5 HO4 HB4 HO HB3 z0
      have hx7 := World.alloc_heap_new w6 (.cells #[.slice AY Y1.length cY, .int .i64 Y2] 27)
      have hb7 := below_alloc (Below.refl w6.heap.size w6) (.cells #[.slice AY Y1.length cY, .int .i64 Y2] 27)
      have x0 : (w6.alloc (.cells #[.slice AY Y1.length cY, .int .i64 Y2] 27)).cell? ⟨w6.heap.size, 0, none⟩ = some (.slice AY Y1.length cY) := blk_cell hx7 0
      have x1 : (w6.alloc (.cells #[.slice AY Y1.length cY, .int .i64 Y2] 27)).cell? ⟨w6.heap.size, 1, none⟩ = some (.int .i64 Y2) := blk_cell hx7 1
      go_wp2_with fail
      generalize w6.alloc (.cells #[.slice AY Y1.length cY, .int .i64 Y2] 27) = w7 at hx7 hb7 x0 x1 ⊢
      have HCY7 := Aside0.mk (Kd.C_below HCY.out hb7)
      have HB7 := Aside0.mk (HB6.out.trans (hb7.mono HB6.out.size))
      clear hx7 hb7 x0 x1 HB6 HCY
      refine (wal_Records.calls k AY cY Y1 Y2 rs 0 w7 HCY7.out hcY HP.out.recs).mono ?_
      rintro e w8 ⟨vR, rfl, hoR, hbR⟩
      obtain ⟨AR, cR, rfl⟩ := Kd.N_slice hoR
      have HB8 := Aside0.mk (HB7.out.trans (hbR.mono HB7.out.size))
      have qR := Kd.N_reads' hoR
      have HCR := Aside0.mk qR.2.2
      have hcR := qR.2.1
      have HCW := Aside0.mk (Kd.C_below CW2.out HB8.out)
      clear hoR hbR qR HB7 HCY7
      have hkc : (kk : Int) ≤ (cW : Int) := by omega
      go_wp2_with fail
      refine (fanlightlaw06_num.calls 0 0 _ rfl).mono ?_
      rintro e w9 ⟨rfl, hd9⟩
      have hb9 : Below w8.heap.size w8 w9 := by
       obtain ⟨nd, rfl⟩ := hd9
       exact pw_below_drewN (Below.refl _ _) nd
      go_wp2_with fail
      refine (fanlightlaw06_num.calls 0 0 _ rfl).mono ?_
      rintro e wX ⟨rfl, hdX⟩
      have hbX : Below w9.heap.size w9 wX := by
       obtain ⟨nd, rfl⟩ := hdX
       exact pw_below_drewN (Below.refl _ _) nd
      have hbb := hb9.trans (hbX.mono hb9.size)
      have HB9 := Aside0.mk (HB8.out.trans (hbb.mono HB8.out.size))
      have HCR9 := Aside0.mk (Kd.C_below HCR.out hbb)
      have HCW9 := Aside0.mk (Kd.C_below HCW.out hbb)
      clear hd9 hb9 hdX hbX hbb HB8 HCR HCW
      have hw00 : wrap64 (0 + 0) = 0 := by unfold wrap64; omega
      go_wp2_with fail
      have hkl : (want.take kk).length = kk := by rw [List.length_take, HM.out]; omega
      have hcw := Kd.C_take (xs := want) (m := kk) (by rw [HM.out]; exact HCW9.out) (by rw [HM.out]; omega)
      have HSM := fanlightlaw06_same.calls k AR cR rs AW cW (want.take kk) true wX HCR9.out hcR hcw (by rw [hkl]; omega) HP.out.same
      rw [hkl] at HSM
      refine HSM.mono ?_
      rintro e wY ⟨rfl, hdY⟩
      have hbY : Below wX.heap.size wX wY := by
       obtain ⟨nd, rfl⟩ := hdY
       exact pw_below_drewN (Below.refl _ _) nd
      have HBF := Aside0.mk (HB2.out.trans ((HB9.out.trans (hbY.mono HB9.out.size)).mono HB2.out.size))
      clear hkl hcw HSM hdY hbY HB9 HCR9 HCW9 hw00
      go_wp2_with fail
      go_ret
      exact ⟨rfl, HBF.out⟩
theorem fanlightlaw06_WalCut.calls (k : Nat) (a0 : Int) (A1 : Option Addr) (c1 : Nat) (l1 : List (List Int)) (a2 : Int) (r : Bool) (w : World) (hr1 : Kd.C (Kd.slice 5 (Kd.int .u8)) w A1 l1.length l1) (hc1 : l1.length ≤ c1) (h : fanlightlaw06_WalCut.P k a0 l1 a2 r) :
  Calls Try.prog 7 #[.int .i64 a0, .slice A1 l1.length c1, .int .i64 a2] w fun e w' => e = .returned (.bool r) ∧ Below w.heap.size w w' := by
 obtain ⟨rfl, hlive, segs, next, want, hfill, hcase⟩ := h
 rcases hcase with rfl | ⟨init, last, t, kk, Y1, Y2, rs, hP⟩
 ·
  exact walcut0 k a0 A1 c1 l1 a2 next want w hr1 hc1 hlive hfill
 ·
  exact walcut1 k a0 A1 c1 l1 a2 segs next want init last t kk Y1 Y2 rs w hr1 hc1 hlive hfill hP
end Go.Proofs.Ytgmkgobapeencaa.S
namespace Go.Proofs.Ytgmkgobapeencaa.PureCut
open Go.RowKit Go.Proofs.Ytgmkgobapeencaa.S Go.Proofs.YtgmkgobapeencaaW.PrintWords Go.Proofs.YtgmkgobapeencaaW.PrintLast RefSeal RefPut WalMath WalEv WalLog WalMore WalRef WalFill WalRec
def fit : List (List Int) → Nat → Nat
 | [], _ => 0
 | d :: ds, t => if d.length + 16 ≤ t then fit ds (t - (d.length + 16)) + 1 else 0
theorem fit_le : ∀ (ds : List (List Int)) (t : Nat), fit ds t ≤ ds.length
 | [], t => Nat.le_refl _
 | d :: ds, t => by
  have := fit_le ds (t - (d.length + 16))
  rw [fit]
  split
  ·
   simp only [List.length_cons]; omega
  ·
   omega
theorem cut_form : ∀ (ds : List (List Int)) (due : Int) (t : Nat), (∀ d ∈ ds, d.length ≤ 400 ∧ octs d) → t ≤ (flatR due ds).length →
  ∃ R, (flatR due ds).take t = flatR due (ds.take (fit ds t)) ++ R ∧ ¬ isRec R (due + (fit ds t : Nat))
 | [], due, t, hd, ht => ⟨[], by simp [flatR], fun h => getS_none h.1⟩
 | d :: ds, due, t, hd, ht => by
  obtain ⟨hd1, hd2⟩ := hd d (by simp)
  have hl : (recF due d).length = d.length + 16 := recF_length due d
  have htot : (flatR due (d :: ds)).length = d.length + 16 + (flatR (due + 1) ds).length := by rw [flatR, List.length_append, hl]
  rw [fit]
  by_cases hc : d.length + 16 ≤ t
  ·
   obtain ⟨R, hR, hn⟩ := cut_form ds (due + 1) (t - (d.length + 16)) (fun e he => hd e (by simp [he])) (by omega)
   refine ⟨R, ?_, ?_⟩
   ·
    rw [if_pos hc, List.take_succ_cons, flatR, flatR, List.take_append, List.take_of_length_le (by omega), hl, hR, List.append_assoc]
   ·
    rw [if_pos hc, show due + ((fit ds (t - (d.length + 16)) + 1 : Nat) : Int) = due + 1 + ((fit ds (t - (d.length + 16)) : Nat) : Int) from by omega]
    exact hn
  ·
   refine ⟨(flatR due (d :: ds)).take t, ?_, ?_⟩
   ·
    rw [if_neg hc]; simp [flatR]
   ·
    rw [if_neg hc]
    intro h
    have ho : octs ((flatR due (d :: ds)).take t) := octs_take (flatR_octs due _ (fun e he => (hd e he).2)) t
    obtain ⟨e, U, he, hel, _⟩ := rec_form ho h
    have h2 : recF (due + ((0 : Nat) : Int)) e ++ (U ++ (flatR due (d :: ds)).drop t) = recF due d ++ flatR (due + 1) ds := by
     rw [← List.append_assoc, ← he, List.take_append_drop]
     rfl
    obtain ⟨h3, _⟩ := recF_inj hel hd1 h2
    have h4 := congrArg List.length he
    rw [List.length_take, List.length_append, recF_length, h3] at h4
    omega
theorem rec_init : ∀ (init rest acc : List (List Int)) (due d1 : Int) (r1 : List (Int × List Int)), Okt init → 0 ≤ due → d1 ≤ 1099511627776 → walkS init due = some (r1, d1) → recS (init ++ rest) acc due = recS rest (acc ++ init) d1
 | [], rest, acc, due, d1, r1, hok, h0, h1, hw => by
  injection hw with hw
  injection hw with _ hw
  rw [hw, List.append_nil, List.nil_append]
 | s :: ss, rest, acc, due, d1, r1, hok, h0, h1, hw => by
  have hm := walk_mono _ _ _ _ hw
  rw [walkS] at hw
  split at hw
  ·
   cases hw
  ·
   rename_i hb
   obtain ⟨ds, hs, hne, hds, hd0, hl, hws⟩ := seg_form (hok s (by simp)).1 h0 (show due ≤ 2199023255552 by omega) hb
   obtain ⟨q, hq, he⟩ := Option.map_eq_some_iff.1 hw
   obtain ⟨q1, q2⟩ := q
   injection he with e1 e2
   dsimp only at e1 e2
   subst e2
   rw [hws] at hq
   dsimp only at hq
   rw [rowsR_length] at hq
   have hmq := walk_mono _ _ _ _ hq
   have hfl := flatR_length due ds
   have hp0 : 0 < ds.length := List.length_pos_iff.2 hne
   have hsl : s.length = (flatR due ds).length := by rw [← hs]
   have htk : s.take 480 = s := List.take_of_length_le hl
   rw [List.cons_append, recS, htk, hws]
   dsimp only
   rw [rowsR_length, if_neg (by omega), List.drop_length, List.any_nil, if_neg (by decide), List.take_length]
   rw [rec_init ss rest (acc ++ [s]) (due + ds.length) q2 q1 (fun u hu => hok u (by simp [hu])) (by omega) h1 hq, List.append_assoc]
   rfl
theorem rec_last (ds : List (List Int)) (d1 : Int) (t : Nat) (acc : List (List Int)) (hd : ∀ d ∈ ds, d.length ≤ 400 ∧ octs d) (h0 : 0 ≤ d1) (h1 : d1 + ds.length ≤ 1099511627776) (hl : (flatR d1 ds).length ≤ 480) (ht : t ≤ (flatR d1 ds).length) :
  recS [(flatR d1 ds).take t] acc d1 = (if ds.take (fit ds t) = [] then acc else acc ++ [flatR d1 (ds.take (fit ds t))], d1 + (fit ds t : Nat)) := by
 obtain ⟨R, hR, hn⟩ := cut_form ds d1 t hd ht
 have hfl := fit_le ds t
 have hlen : (ds.take (fit ds t)).length = fit ds t := by rw [List.length_take]; omega
 have hw : wscan ((flatR d1 ds).take t) d1 = (rowsR d1 (ds.take (fit ds t)), (flatR d1 (ds.take (fit ds t))).length) := by
  unfold wscan
  have hlen2 := congrArg List.length hR
  rw [List.length_append] at hlen2
  have hf := flatR_length d1 (ds.take (fit ds t))
  have := wscan_flat (ds.take (fit ds t)) d1 R (((flatR d1 ds).take t).length + 1) (fun d hx => (hd d (List.mem_of_mem_take hx)).1) h0 (by omega) (by rw [hlen]; exact hn) (by omega)
  rw [← hR] at this
  exact this
 have htk : ((flatR d1 ds).take t).take 480 = (flatR d1 ds).take t := List.take_of_length_le (by rw [List.length_take]; omega)
 have hf := flatR_length d1 (ds.take (fit ds t))
 rw [recS, htk, hw]
 dsimp only
 rw [rowsR_length, hlen]
 by_cases hz : ds.take (fit ds t) = []
 ·
  rw [hz] at hlen
  have h00 : fit ds t = 0 := by simpa using hlen.symm
  rw [if_pos hz, if_pos (by left; rw [hz]; rfl), h00]
  simp
 ·
  have hp : 0 < (ds.take (fit ds t)).length := List.length_pos_iff.2 hz
  rw [if_neg (by omega), if_neg hz]
  have htk2 : ((flatR d1 ds).take t).take (flatR d1 (ds.take (fit ds t))).length = flatR d1 (ds.take (fit ds t)) := by rw [hR, List.take_left]
  rw [htk2]
  split
  ·
   rfl
  ·
   rw [recS]
theorem rowsR_take : ∀ (ds : List (List Int)) (n : Int) (j : Nat), (rowsR n ds).take j = rowsR n (ds.take j)
 | [], n, j => by simp [rowsR]
 | d :: ds, n, 0 => by simp [rowsR]
 | d :: ds, n, j + 1 => by rw [rowsR, List.take_succ_cons, List.take_succ_cons, rowsR, rowsR_take ds]
theorem rowsR_data : ∀ (ds : List (List Int)) (n : Int) (r : Int × List Int), r ∈ rowsR n ds → r.2 ∈ ds
 | [], n, r, h => by simp [rowsR] at h
 | d :: ds, n, r, h => by
  rw [rowsR] at h
  rcases List.mem_cons.1 h with rfl | h
  ·
   simp
  ·
   exact List.mem_cons_of_mem _ (rowsR_data ds (n + 1) r h)
theorem tot_rows : ∀ (ds : List (List Int)) (n : Int), totN ((rowsR n ds).map rowD) = (flatR n ds).length
 | [], n => rfl
 | d :: ds, n => by
  simp only [rowsR, List.map_cons, totN, rowD, flatR, List.length_append, recF_length, tot_rows ds (n + 1)]
theorem cut_rows : ∀ (ds : List (List Int)) (n : Int) (t : Nat), cutN ((rowsR n ds).map rowD) (t : Int) = fit ds t
 | [], n, t => rfl
 | d :: ds, n, t => by
  simp only [rowsR, List.map_cons, cutN, rowD, fit]
  by_cases hc : d.length + 16 ≤ t
  ·
   rw [if_pos (by omega), if_pos hc, show (t : Int) - ((d.length : Int) + 16) = ((t - (d.length + 16) : Nat) : Int) from by omega, cut_rows ds (n + 1)]
  ·
   rw [if_neg (by omega), if_neg hc]
theorem cut_ahead : ∀ (a b : List S57) (t : Int), 0 ≤ t → cutN (a ++ b) ((totN a : Int) + t) = a.length + cutN b t
 | [], b, t, h => by simp [totN]
 | x :: a, b, t, h => by
  simp only [List.cons_append, cutN, totN, List.length_cons]
  rw [if_pos (by omega), show ((x.f1.length + 16 + totN a : Nat) : Int) + t - ((x.f1.length : Int) + 16) = (totN a : Int) + t from by omega, cut_ahead a b t h]
  omega
theorem WalCut (a : Int) (l : List (List Int)) (at_ : Int) (hl : ∀ d ∈ l, octs d) (hn : l.length ≤ 140737488351232) : ∃ k, fanlightlaw06_WalCut.P k a l at_ true := by
 obtain ⟨segs, next, rs, ⟨K1, hE⟩, hF⟩ := fill_is a l hl (by omega)
 obtain ⟨K2, hA⟩ := alive_is
 rcases List.eq_nil_or_concat segs with rfl | ⟨init, last, hsg⟩
 ·
  exact ⟨K1 + K2, rfl, hA _ (by omega), [], next, rs.map rowD, hE _ (by omega), .inl rfl⟩
 rw [List.concat_eq_append] at hsg
 obtain ⟨h0, h1, h2⟩ := log_range hF.log
 have hw := log_walk hF.log
 have hd := due_range hF.ok h0 h1
 have hm := walk_mono _ _ _ _ hw
 have hfew := hF.few
 have hoki : Okt init := fun s hs => hF.ok s (by rw [hsg]; simp [hs])
 have hol := hF.ok last (by rw [hsg]; simp)
 obtain ⟨due, hdue⟩ : ∃ x, dueS segs next = x := ⟨_, rfl⟩
 rw [hdue] at hw hd hm
 have hw2 := hw
 rw [hsg, walk_app] at hw2
 obtain ⟨⟨r1, d1⟩, hw3, hw4⟩ := Option.bind_eq_some_iff.1 hw2
 obtain ⟨⟨q1, q2⟩, hw5, he⟩ := Option.map_eq_some_iff.1 hw4
 injection he with e1 e2
 dsimp only at e1 e2 hw5
 subst e2
 have hm1 := walk_mono _ _ _ _ hw3
 have hm2 := walk_mono _ _ _ _ hw5
 rw [walkS] at hw5
 split at hw5
 ·
  cases hw5
 rename_i hb
 obtain ⟨ds, hs, hne, hds, hd0, hll, hws⟩ := seg_form hol.1 (show 0 ≤ d1 by omega) (show d1 ≤ 2199023255552 by omega) hb
 rw [hws] at hw5
 dsimp only at hw5
 rw [rowsR_length, walkS] at hw5
 simp only [Option.map_some, Option.some.injEq, Prod.mk.injEq, List.append_nil] at hw5
 obtain ⟨rfl, e3⟩ := hw5
 have hp : 0 < ds.length := List.length_pos_iff.2 hne
 have hfl := flatR_length d1 ds
 have hsl : last.length = (flatR d1 ds).length := by rw [← hs]
 -- the cut
 have hT0 : (0 : Int) < last.length := by omega
 have hT1 : -(last.length : Int) < Int.tmod at_ last.length ∧ Int.tmod at_ last.length < last.length := by
  constructor
  ·
   have := Int.lt_tmod_of_pos at_ hT0; omega
  ·
   exact Int.tmod_lt_of_pos at_ hT0
 have hwr : wrap64 (Int.tmod at_ last.length + last.length) = Int.tmod at_ last.length + last.length := wI (by omega) (by omega)
 obtain ⟨t, ht⟩ : ∃ t : Nat, Int.tmod (Int.tmod at_ last.length + last.length) last.length = t := by
  have := Int.tmod_nonneg (last.length : Int) (show 0 ≤ Int.tmod at_ last.length + last.length by omega)
  exact ⟨_, (Int.toNat_of_nonneg this).symm⟩
 have htl : (t : Int) < last.length := by rw [← ht]; exact Int.tmod_lt_of_pos _ hT0
 have hfit := fit_le ds t
 have hlen : (ds.take (fit ds t)).length = fit ds t := by rw [List.length_take]; omega
 -- what is recovered
 have hdue1 : 1 ≤ due := by
  cases hi : segs with
  | nil => rw [hi] at hsg; simp at hsg
  | cons s ss =>
   have hlog := hF.log
   have hok := hF.ok
   rw [hi] at hlog hok
   obtain ⟨due', ds', rs', _, _, _, hd1, hf, _⟩ := log_head hok hlog
   have : due = firstS s := by rw [← hdue, hi]; rfl
   omega
 have hoT : octs (last.take t) := octs_take hol.1 t
 have hrec := WalRec.rec_is (l := init ++ [last.take t]) (fun s hs => by
  rcases List.mem_append.1 hs with hs | hs
  ·
   exact (hoki s hs).1
  ·
   rw [List.mem_singleton.1 hs]; exact hoT) (by rw [hsg] at h2; simp at h2 ⊢; omega) (nx := due) (by omega) (by omega)
 rw [rec_init init [last.take t] [] due d1 r1 hoki (by omega) (by omega) hw3, List.nil_append, hs, rec_last ds d1 t init hds (by omega) (by omega) (by omega) (by omega), ← hs] at hrec
 dsimp only at hrec
 obtain ⟨Y, hY⟩ : ∃ Y, (if ds.take (fit ds t) = [] then init else init ++ [flatR d1 (ds.take (fit ds t))]) = Y := ⟨_, rfl⟩
 rw [hY] at hrec
 have hdt : ∀ d ∈ ds.take (fit ds t), d.length ≤ 400 ∧ octs d := fun d hx => hds d (List.mem_of_mem_take hx)
 have hft := flatR_length d1 (ds.take (fit ds t))
 have hYl : (flatR d1 (ds.take (fit ds t))).length ≤ 480 := by
  obtain ⟨R, hR, _⟩ := cut_form ds d1 t hds (by omega)
  have := congrArg List.length hR
  rw [List.length_take, List.length_append] at this
  omega
 have hYok : Okt Y := by
  intro s hs'
  rw [← hY] at hs'
  split at hs'
  ·
   exact hoki s hs'
  ·
   rcases List.mem_append.1 hs' with hs' | hs'
   ·
    exact hoki s hs'
   ·
    rw [List.mem_singleton.1 hs']
    exact ⟨flatR_octs _ _ (fun d hx => (hdt d hx).2), by omega⟩
 have hYw : walkS Y due = some (r1 ++ rowsR d1 (ds.take (fit ds t)), d1 + (fit ds t : Nat)) := by
  rw [← hY]
  by_cases hz : ds.take (fit ds t) = []
  ·
   have h00 : fit ds t = 0 := by rw [hz] at hlen; simpa using hlen.symm
   rw [if_pos hz, hz, h00, hw3]
   simp [rowsR]
  ·
   obtain ⟨g1, g2⟩ := seg_good (due := d1) (ds := ds.take (fit ds t)) (by omega) (by omega) hz (fun d hx => (hdt d hx).1) hYl
   rw [if_neg hz, walk_app, hw3]
   simp only [Option.bind_some, walkS, if_neg g1, g2, rowsR_length, Option.map_some, List.append_nil, hlen]
 have hYn : Y.length ≤ 64 := by
  rw [← hY]
  rw [hsg, List.length_append] at h2
  simp only [List.length_singleton] at h2
  split
  ·
   omega
  ·
   rw [List.length_append, List.length_singleton]; exact h2
 have hYlog : logS Y (d1 + (fit ds t : Nat)) = some (r1 ++ rowsR d1 (ds.take (fit ds t))) := by
  refine log_of (by omega) (by omega) hYn ?_
  rw [walk_due hYok (by omega) (by omega) hYw]
  exact hYw
 obtain ⟨K3, hR⟩ := hrec
 obtain ⟨K4, hRR⟩ := records_ok hYok hYlog
 have hrl : (r1 ++ rowsR d1 (ds.take (fit ds t))).length ≤ 4611686018427387904 := by
  rw [List.length_append, rowsR_length, hlen]
  have := congrArg List.length e1
  rw [List.length_append, rowsR_length] at this
  omega
 obtain ⟨K5, hS⟩ := same_is (r1 ++ rowsR d1 (ds.take (fit ds t))) hrl
 have hkk : cutN (rs.map rowD) ((totN (rs.map rowD) : Int) - last.length + t) = r1.length + fit ds t := by
  rw [← e1, List.map_append, totN_app, tot_rows, show (((totN (r1.map rowD) + (flatR d1 ds).length : Nat) : Int) - last.length + t) = (totN (r1.map rowD) : Int) + (t : Int) from by omega, cut_ahead _ _ _ (by omega), cut_rows, List.length_map]
 have htake : (rs.map rowD).take (r1.length + fit ds t) = (r1 ++ rowsR d1 (ds.take (fit ds t))).map rowD := by
  rw [← e1, ← List.map_take, List.take_append, List.take_of_length_le (by omega), show r1.length + fit ds t - r1.length = fit ds t from by omega, rowsR_take]
 refine ⟨K1 + K2 + K3 + K4 + K5, rfl, hA _ (by omega), segs, _, rs.map rowD, hE _ (by omega), .inr ⟨init, last, t, r1.length + fit ds t, Y, d1 + (fit ds t : Nat), (r1 ++ rowsR d1 (ds.take (fit ds t))).map rowP, ?_⟩⟩
 obtain ⟨_, es, hes, hes2⟩ := log_rows segs _ rs hF.ok hF.log
 exact {
  segs_is := hsg
  pos := by omega
  len := hll
  few := by rw [hsg, List.length_append] at h2; simp only [List.length_singleton] at h2; omega
  wants := by rw [List.length_map]; exact hfew
  data := fun x hx => by
   obtain ⟨r, hr, rfl⟩ := List.mem_map.1 hx
   rw [hes] at hr
   exact (hes2 _ (rowsR_data _ _ _ hr)).1
  low := ⟨by omega, h1⟩
  at_is := by rw [hwr]; exact ht
  at_lt := by omega
  kk_is := hkk.symm
  rec_is := by
   have := hR (K1 + K2 + K3 + K4 + K5) (by omega)
   rw [List.length_map, show q2 - (rs.length : Int) = due from by omega]
   exact this
  recs := hRR _ (by omega)
  same := by rw [htake]; exact hS _ (by omega) }
end Go.Proofs.Ytgmkgobapeencaa.PureCut
namespace Go.Proofs.Ytgmkgobapeencaa.Open
open Go.ChangeShapes Go.WideShapes Go.RowKit Go.Proofs.YtgmkgobapeencaaW.PrintWords
def Opens {α : Type} (P : Program) (n : Nat) (k : Kd α) (t : TypeId) (Wf Fit : α → Prop) (bk : α → Nat) : Prop :=
 ∀ (H : Type) (enc : TypeId × Value → H) (w : World) (base : Nat) (sp : Nat → Bool) (held : Bool) (m : Nat), m ≤ n → ∀ (cs : List Value) (d : DataW H) (ps : List MemPlace), DataW.trod enc P w base sp held m t cs = some (d, ps) →
  ∃ x, k.K w x cs ∧ Wf x ∧ ((∀ z ∈ DataW.weights P t d, z ≤ reachBytes) → Fit x) ∧ bk x ≤ Rows.uptoBulk d
def OpensF {α : Type} (P : Program) (n : Nat) (k : Kd α) (fs : List Field) (off : Nat) (Wf Fit : α → Prop) (bk : α → Nat) : Prop :=
 ∀ (H : Type) (enc : TypeId × Value → H) (w : World) (base : Nat) (sp : Nat → Bool) (held : Bool) (m : Nat), m ≤ n → ∀ (cs : List Value) (xs : List (DataW H × List MemPlace)), xs.length = fs.length → off + k.sz ≤ cs.length →
  (∀ (i : Nat) (f : Field), fs[i]? = some f → DataW.trod enc P w base sp held m f.type ((cs.drop f.offset).take (P.cellsOf f.type)) = xs[i]?) →
  ∃ x, k.K w x ((cs.drop off).take k.sz) ∧ Wf x ∧ ((∀ z ∈ DataW.weightsEach P (fs.map (·.type)) (xs.map (·.1)), z ≤ reachBytes) → Fit x) ∧ bk x ≤ Rows.uptoBulkAll (xs.map (·.1))
section
variable {P : Program} {n : Nat}
theorem int {t : TypeId} {k : IntKind} (ht : P.underlying t = some (.int k)) : Opens P n (Kd.int k) t (fun x => (Lit.int k x).wf = true) (fun _ => True) (fun _ => 1) := by
 intro H enc w base sp held m hm cs d ps h
 obtain ⟨x, rfl, he, hw⟩ := DataW.trod_int ht h
 obtain ⟨rfl, rfl⟩ := Prod.mk.inj he
 exact ⟨x, rfl, hw, fun _ => trivial, by simp [Rows.uptoBulk]⟩
theorem bool {t : TypeId} (ht : P.underlying t = some .bool) : Opens P n Kd.bool t (fun _ => True) (fun _ => True) (fun _ => 1) := by
 intro H enc w base sp held m hm cs d ps h
 obtain ⟨x, rfl, he⟩ := DataW.trod_bool ht h
 obtain ⟨rfl, rfl⟩ := Prod.mk.inj he
 exact ⟨x, rfl, trivial, fun _ => trivial, by simp [Rows.uptoBulk]⟩
theorem string {t : TypeId} (ht : P.underlying t = some .string) : Opens P n Kd.string t (fun s => s.size ≤ maxLen) (fun s => s.size ≤ reachBytes) (fun s => s.size + 1) := by
 intro H enc w base sp held m hm cs d ps h
 obtain ⟨s, rfl, he, hs⟩ := DataW.trod_string ht h
 obtain ⟨rfl, rfl⟩ := Prod.mk.inj he
 have e : s.data.toList.length = s.size := by rw [Array.length_toList]; rfl
 refine ⟨s, rfl, hs, fun h => ?_, by simp [Rows.uptoBulk, e]⟩
 have := h s.data.toList.length (by simp [DataW.weights])
 omega
theorem imp {α : Type} {k : Kd α} {t : TypeId} {Wf Fit Wf' Fit' : α → Prop} {bk bk' : α → Nat} (h : Opens P n k t Wf Fit bk) (h1 : ∀ x, Wf x → Wf' x) (h2 : ∀ x, Fit x → Fit' x) (h3 : ∀ x, bk' x ≤ bk x) : Opens P n k t Wf' Fit' bk' := by
 intro H enc w base sp held m hm cs d ps hh
 obtain ⟨x, a, b, c, e⟩ := h H enc w base sp held m hm cs d ps hh
 exact ⟨x, a, h1 x b, fun z => h2 x (c z), Nat.le_trans (h3 x) e⟩
theorem one {α : Type} {a : Kd α} {f : Field} {off : Nat} {Wf Fit : α → Prop} {bk : α → Nat} (h : Opens P n a f.type Wf Fit bk) (ho : f.offset = off) (hc : P.cellsOf f.type = a.sz) : OpensF P n a [f] off Wf Fit bk := by
 intro H enc w base sp held m hm cs xs hl hlen hx
 match xs, hl with
 | [y], _ =>
  have h0 := hx 0 f rfl
  rw [ho, hc] at h0
  obtain ⟨x, hk, hw, hf, hb⟩ := h H enc w base sp held m hm _ y.1 y.2 h0
  refine ⟨x, hk, hw, fun hz => hf (fun z hm => hz z ?_), ?_⟩
  ·
   simp [DataW.weightsEach, hm]
  ·
   simp [Rows.uptoBulkAll]; exact hb
theorem cons {α β : Type} {a : Kd α} {b : Kd β} {f : Field} {fs : List Field} {off : Nat} {Wa Fa : α → Prop} {ba : α → Nat} {Wb Fb : β → Prop} {bb : β → Nat} (h : Opens P n a f.type Wa Fa ba) (ho : f.offset = off) (hc : P.cellsOf f.type = a.sz)
  (hr : OpensF P n b fs (off + a.sz) Wb Fb bb) : OpensF P n (Kd.pair a b) (f :: fs) off (fun x => Wa x.1 ∧ Wb x.2) (fun x => Fa x.1 ∧ Fb x.2) (fun x => ba x.1 + bb x.2) := by
 intro H enc w base sp held m hm cs xs hl hlen hx
 match xs, hl with
 | y :: ys, hl =>
  have h0 := hx 0 f rfl
  rw [ho, hc] at h0
  obtain ⟨x, hk, hw, hf, hb⟩ := h H enc w base sp held m hm _ y.1 y.2 h0
  have hlen' : off + (a.sz + b.sz) ≤ cs.length := hlen
  obtain ⟨x2, hk2, hw2, hf2, hb2⟩ := hr H enc w base sp held m hm cs ys (by simpa using hl) (by omega) (fun i g hg => by simpa using hx (i + 1) g (by simpa using hg))
  refine ⟨(x, x2), ⟨(cs.drop off).take a.sz, (cs.drop (off + a.sz)).take b.sz, ?_, hk, hk2⟩, ⟨hw, hw2⟩, fun hz => ⟨hf fun z hm => hz z ?_, hf2 fun z hm => hz z ?_⟩, ?_⟩
  ·
   show (cs.drop off).take (a.sz + b.sz) = _
   rw [List.take_add, List.drop_drop]
  ·
   simp [DataW.weightsEach, hm]
  ·
   simp only [List.map_cons, DataW.weightsEach, List.mem_append]
   exact .inr hm
  ·
   simp only [List.map_cons, Rows.uptoBulkAll]
   omega
theorem struct {α : Type} {k : Kd α} {t : TypeId} {fs : Array Field} {Wf Fit : α → Prop} {bk : α → Nat} (ht : P.underlying t = some (.struct fs)) (hc : P.cellsOf t = k.sz) (h : OpensF P n k fs.toList 0 Wf Fit bk) : Opens P (n + 1) k t Wf Fit (fun x => bk x + 1) := by
 intro H enc w base sp held m hm cs d ps hh
 obtain ⟨xs, m', rfl, he, hl, hlen, hx⟩ := DataW.trod_struct ht hh
 obtain ⟨rfl, rfl⟩ := Prod.mk.inj he
 obtain ⟨x, hk, hw, hf, hb⟩ := h H enc w base sp held m' (by omega) cs xs (by simpa using hlen) (by omega) (fun i f hf => hx i f (by simpa using hf))
 refine ⟨x, ?_, hw, fun hz => hf fun z hm => hz z ?_, ?_⟩
 ·
  have e : (cs.drop 0).take k.sz = cs := by rw [List.drop_zero, ← hc, ← hl, List.take_length]
  rwa [e] at hk
 ·
  simp only [DataW.weights, ht]
  exact hm
 ·
  simp only [Rows.uptoBulk]
  omega
theorem iso {α β : Type} {k : Kd α} {t : TypeId} {Wf Fit : α → Prop} {bk : α → Nat} (h : Opens P n k t Wf Fit bk) (f : β → α) (g : α → β) (hfg : ∀ x, f (g x) = x) : Opens P n (Kd.iso k f) t (fun x => Wf (f x)) (fun x => Fit (f x)) (fun x => bk (f x)) := by
 intro H enc w base sp held m hm cs d ps hh
 obtain ⟨x, a, b, c, e⟩ := h H enc w base sp held m hm cs d ps hh
 exact ⟨g x, by show k.K w (f (g x)) cs; rw [hfg]; exact a, by show Wf (f (g x)); rw [hfg]; exact b, by show _ → Fit (f (g x)); rw [hfg]; exact c, by show bk (f (g x)) ≤ _; rw [hfg]; exact e⟩
theorem list_of {α : Type} {p : Nat → α → Prop} : ∀ (n : Nat), (∀ i, i < n → ∃ x, p i x) → ∃ xs : List α, xs.length = n ∧ ∀ i x, xs[i]? = some x → p i x
 | 0, _ => ⟨[], rfl, fun i x h => by simp at h⟩
 | n + 1, h => by
  obtain ⟨xs, hl, hx⟩ := list_of n (fun i hi => h i (by omega))
  obtain ⟨x, hp⟩ := h n (by omega)
  refine ⟨xs ++ [x], by simp [hl], fun i y hy => ?_⟩
  by_cases hi : i < n
  ·
   rw [List.getElem?_append_left (by omega)] at hy
   exact hx i y hy
  ·
   rw [List.getElem?_append_right (by omega)] at hy
   have : i = n := by
    have := List.getElem?_eq_some_iff.1 hy
    obtain ⟨h1, _⟩ := this
    simp at h1
    omega
   subst this
   simp [hl] at hy
   subst hy
   exact hp
theorem bulk_sum {H α : Type} (bk : α → Nat) : ∀ (l : List (DataW H)) (xs : List α), xs.length = l.length → (∀ (i : Nat) (x : α) (d : DataW H), xs[i]? = some x → l[i]? = some d → bk x ≤ Rows.uptoBulk d) → (xs.map bk).sum ≤ Rows.uptoBulkAll l := by
 intro l
 induction l with
 | nil => intro xs h _; have : xs = [] := List.length_eq_zero_iff.1 h; subst this; simp
 | cons d l ih =>
  intro xs h hx
  match xs, h with
  | x :: xs, h =>
   have h1 := ih xs (by simpa using h) (fun i y e hy he => hx (i + 1) y e (by simpa using hy) (by simpa using he))
   have h2 := hx 0 x d rfl rfl
   simp only [List.map_cons, List.sum_cons, Rows.uptoBulkAll]
   omega
theorem weights_mem {H : Type} {e : TypeId} : ∀ (l : List (DataW H)) (i : Nat) (d : DataW H), l[i]? = some d → ∀ z ∈ DataW.weights P e d, z ∈ DataW.weightsAll P e l := by
 intro l
 induction l with
 | nil => intro i d h; simp at h
 | cons x l ih =>
  intro i d h z hz
  cases i with
  | zero => simp at h; subst h; simp [DataW.weightsAll, hz]
  | succ i => simp only [DataW.weightsAll, List.mem_append]; exact .inr (ih i d (by simpa using h) z hz)
theorem slice {α : Type} {k : Kd α} {t e : TypeId} {Wf Fit : α → Prop} {bk : α → Nat} (ht : P.underlying t = some (.slice e)) (hc : P.cellsOf e = k.sz) (h : Opens P n k e Wf Fit bk) :
  Opens P (n + 1) (Kd.slice e k) t (fun xs => ∀ x ∈ xs, Wf x) (fun xs => xs.length * P.bytesOf e ≤ reachBytes ∧ ∀ x ∈ xs, Fit x) (fun xs => (xs.map bk).sum + 1) := by
 intro H enc w base sp held m hm cs d ps hh
 rcases DataW.trod_slice ht hh with ⟨rfl, he⟩ | ⟨a, len, cap, elems, rest, m', rfl, rfl, he, hba, hlc, hcm, hle, hel, hsp, hns⟩
 ·
  obtain ⟨rfl, rfl⟩ := Prod.mk.inj he
  exact ⟨[], ⟨none, 0, rfl, Nat.le_refl _, rfl, by simp, fun h => absurd h (Nat.lt_irrefl 0)⟩, by simp, fun _ => ⟨by simp, by simp⟩, by simp [Rows.uptoBulk]⟩
 ·
  obtain ⟨rfl, rfl⟩ := Prod.mk.inj he
  have step : ∀ i, i < len → ∃ x, ∃ y cs', elems[i]? = some y ∧ w.cells? base (a.add (i * k.sz)) k.sz = some cs' ∧ k.K w x cs' ∧ Wf x ∧ ((∀ z ∈ DataW.weights P e y.1, z ≤ reachBytes) → Fit x) ∧ bk x ≤ Rows.uptoBulk y.1 := by
   intro i hi
   have hk := hel i hi
   rw [List.getElem?_eq_getElem (by omega), hc] at hk
   obtain ⟨cs', h1, h2⟩ := Option.bind_eq_some_iff.1 hk
   obtain ⟨x, b1, b2, b3, b4⟩ := h H enc w base sp held m' (by omega) cs' (elems[i]'(by omega)).1 (elems[i]'(by omega)).2 h2
   exact ⟨x, elems[i]'(by omega), cs', List.getElem?_eq_getElem (by omega), h1, b1, b2, b3, b4⟩
  obtain ⟨xs, hxl, hxs⟩ := list_of len step
  have mem : ∀ x ∈ xs, ∃ i : Nat, xs[i]? = some x := fun x hx => List.mem_iff_getElem?.1 hx
  refine ⟨xs, ⟨some a, cap, by rw [hxl], by omega, rfl, ?_, fun _ => ⟨a, rfl, fun j p hj => ?_⟩⟩, fun x hx => ?_, fun hz => ⟨?_, fun x hx => ?_⟩, ?_⟩
  ·
   rw [hxl]; exact Nat.le_trans hlc hcm
  ·
   obtain ⟨y, cs', _, hcl, hk, _⟩ := hxs j p hj
   obtain ⟨_, hl, hcell⟩ := World.cells?_some hcl
   refine ⟨cs', hl, hk, fun i u hu => ?_⟩
   have := hcell i (by obtain ⟨h1, _⟩ := List.getElem?_eq_some_iff.1 hu; omega)
   rw [Addr.add_add, hu] at this
   exact this
  ·
   obtain ⟨i, hi⟩ := mem x hx
   obtain ⟨_, _, _, _, _, hw, _⟩ := hxs i x hi
   exact hw
  ·
   have := hz ((elems.length + rest.length) * P.bytesOf e) (by simp [DataW.weights, ht])
   rw [hxl, ← hle]
   exact Nat.le_trans (Nat.mul_le_mul_right _ (by omega)) this
  ·
   obtain ⟨i, hi⟩ := mem x hx
   obtain ⟨y, cs', hy, _, _, _, hf, _⟩ := hxs i x hi
   refine hf fun z hm => hz z ?_
   simp only [DataW.weights, ht, List.mem_cons, List.mem_append]
   exact .inr (.inl (weights_mem _ i y.1 (by simp [hy]) z hm))
  ·
   simp only [Rows.uptoBulk]
   have := bulk_sum bk (elems.map (·.1)) xs (by simp [hxl, hle]) (fun i x d hx hd => by
    obtain ⟨y, _, hy, _, _, _, _, hb⟩ := hxs i x hx
    simp [hy] at hd
    subst hd
    exact hb)
   omega
theorem len1 {P : Program} {e : TypeId} {n : Nat} (h : n * P.bytesOf e ≤ reachBytes) (hb : P.bytesOf e = 1) : n ≤ 140737488351232 := by
 rw [hb, Nat.mul_one] at h
 exact h
theorem wf_u8 {x : Int} (h : (Lit.int .u8 x).wf = true) : 0 ≤ x ∧ x < 256 := by
 have e1 : IntKind.u8.min = 0 := by decide
 have e2 : IntKind.u8.max = 255 := by decide
 simp only [Lit.wf, e1, e2, Bool.and_eq_true, decide_eq_true_eq] at h
 omega
end
end Go.Proofs.Ytgmkgobapeencaa.Open
