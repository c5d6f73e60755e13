import Derived.Laws.Cover3
import Derived.OpenShut
import Derived.Lib.SlBytesConst
import Derived.Deep.RegionHeld3
import Derived.Laws.BitsAllLaws
import Derived.WalkSpells
import Derived.RangeFuncNested
import Derived.RangeFuncBound
import Derived.RangeFuncCalls
import Derived.RangeFuncLeaves
import Derived.RangeFuncBox
import Derived.OwnWalkIn
import Derived.TacticsInMore
import Derived.LoopNIn
import Derived.LoopIn
import Derived.Lib.Hide
import Derived.Outline
import Derived.Maps.OwnIn
import Derived.StillTailTactics
import Derived.OrdersIn
import Derived.TacticsIn
import Derived.Test.YtgmkgobapeencaaYAid2
import Derived.Test.YtgmkgobapeencaaYS14
import Derived.Test.YtgmkgobapeencaaYS16
import Derived.Test.YtgmkgobapeencaaYS17
import Derived.Test.YtgmkgobapeencaaYS22
import Derived.Test.YtgmkgobapeencaaYS23
namespace Go.Proofs.Ytgmkgobapeencaa.S
open Go.RowKit Go.Shelf Go.Proofs.YtgmkgobapeencaaW.PrintWords Go.Proofs.YtgmkgobapeencaaW.PrintLast Go.Proofs.YtgmkgobapeencaaW.PrintMore
attribute [local go_sem] max2_int min2_int max_two min_two max_three min_three max_four min_four
set_option linter.unusedVariables false
set_option linter.unusedSimpArgs false
def fanlightlaw06_WalOwn.P (k : Nat) (l0 : List (List Int)) (a1 : Int) (l1 : List Int) (r : Bool) : Prop :=
 r = true ∧ fanlightlaw06_alive.f k = some true ∧ fanlightlaw06_Of.f k l0 a1 = some (l0, a1) ∧ fanlightplain_CopyBytes.f l1 = some l1 ∧ (∃ X : List (List Int) × Int × Int × Int, wal_Append.f k l0 a1 l1 = some X ∧ fanlightref06_Append.f k l0 a1 l1 = some X ∧ fanlightlaw06_Alike.f k X.1 X.2.1 X.1 X.2.1 = some 0) ∧
  (∀ l : List Int, l.length ≤ 1048576 → ∃ q, q.length = l.length ∧ fanlightplain_Spoil.f k l = some q) ∧ l0.length ≤ 1048576 ∧ (∀ s ∈ l0, s.length ≤ 1048576) ∧ l1.length ≤ 1048576
set_option maxRecDepth 100000 in
set_option maxHeartbeats 4000000 in
theorem walown1 (k : Nat) (A0 : Option Addr) (c0 : Nat) (l0 : List (List Int)) (a1 : Int) (A1 : Option Addr) (c1 : Nat) (l1 : List Int) (X1 : List (List Int)) (X2 X3 X4 : Int) (w : World) (hr0 : Kd.C (Kd.slice 5 (Kd.int .u8)) w A0 l0.length l0) (hc0 : l0.length ≤ c0) (hr1 : Kd.C (Kd.int .u8) w A1 l1.length l1) (hc1 : l1.length ≤ c1)
  (hlive : fanlightlaw06_alive.f k = some true) (hof : fanlightlaw06_Of.f k l0 a1 = some (l0, a1)) (hcp : fanlightplain_CopyBytes.f l1 = some l1) (hap : wal_Append.f k l0 a1 l1 = some (X1, X2, X3, X4)) (hrf : fanlightref06_Append.f k l0 a1 l1 = some (X1, X2, X3, X4)) (hal : fanlightlaw06_Alike.f k X1 X2 X1 X2 = some 0)
  (hsp : ∀ l : List Int, l.length ≤ 1048576 → ∃ q, q.length = l.length ∧ fanlightplain_Spoil.f k l = some q) (hl0 : l0.length ≤ 1048576) (hls : ∀ s ∈ l0, s.length ≤ 1048576) (hl1 : l1.length ≤ 1048576) :
  Calls Try.prog 3 #[.agg #[.slice A0 l0.length c0, .int .i64 a1], .slice A1 l1.length c1] w fun e w' => e = .returned (.bool true) ∧ Below w.heap.size w w' := by
 have HLIVE := Aside0.mk (fun (W : World) => fanlightlaw06_alive.calls k true W hlive rfl)
 have HOF := Aside0.mk (fun (W : World) (hW : Below w.heap.size w W) => fanlightlaw06_Of.calls k A0 c0 l0 a1 l0 a1 W (Kd.C_below hr0 hW) hc0 hof)
 have HCP := Aside0.mk (fun (W : World) (hW : Below w.heap.size w W) => fanlightplain_CopyBytes.calls A1 c1 l1 l1 W (Kd.C_below hr1 hW) hc1 hcp)
 have HAP := Aside0.mk (fun (A B : Option Addr) (c d : Nat) (W : World) (h1 : Kd.C (Kd.slice 5 (Kd.int .u8)) W A l0.length l0) (h2 : l0.length ≤ c) (h3 : Kd.C (Kd.int .u8) W B l1.length l1) (h4 : l1.length ≤ d) => wal_Append.calls k A c l0 a1 B d l1 X1 X2 X3 X4 W h1 h2 h3 h4 hap)
 have HRF := Aside0.mk (fun (W : World) (hW : Below w.heap.size w W) => fanlightref06_Append.calls k A0 c0 l0 a1 A1 c1 l1 X1 X2 X3 X4 W (Kd.C_below hr0 hW) hc0 (Kd.C_below hr1 hW) hc1 hrf)
 have HAL := Aside0.mk hal
 have HSP := Aside0.mk hsp
 have HLS := Aside0.mk hls
 have HL1 := Aside0.mk hl1
 clear hr0 hc0 hr1 hc1 hlive hof hcp hap hrf hal hsp hls hl1
 obtain ⟨n, hn⟩ : ∃ n, l0.length = n := ⟨_, rfl⟩
 obtain ⟨m, hm⟩ : ∃ m, l1.length = m := ⟨_, rfl⟩
 have HN := Lib.hid hn
 have HM := Lib.hid hm
 have hnb : n ≤ 1048576 := by rw [← hn]; exact hl0
 rw [hn] at HOF HAP HRF ⊢
 rw [hm] at HCP HAP HRF ⊢
 clear hn hm hl0
 have HB0 := Aside0.mk (below_alloc (Below.refl w.heap.size w) (.cells #[.slice A0 n c0, .int .i64 a1] 24))
 have HX0 := Aside0.mk (World.alloc_heap_new w (.cells #[.slice A0 n c0, .int .i64 a1] 24))
 go_enter Try.func3, Try.ntmps3
 go_wp2_with fail
 refine (HLIVE.out _).mono ?_
 rintro e wA ⟨rfl, hbA⟩
 have HB1 := Aside0.mk (HB0.out.trans (hbA.mono HB0.out.size))
 have HX1 := Aside0.mk ((hbA.block _ (blk_lt HX0.out)).trans HX0.out)
 have x0 : wA.cell? ⟨w.heap.size, 0, none⟩ = some (.slice A0 n c0) := blk_cell HX1.out 0
 have x1 : wA.cell? ⟨w.heap.size, 1, none⟩ = some (.int .i64 a1) := blk_cell HX1.out 1
 clear hbA HB0 HX0
 go_wp2_with fail
 refine (HOF.out _ HB1.out).mono ?_
 rintro e wB ⟨vO, rfl, hoO, hbB⟩
 have HO := Aside0.mk (Kd.S_lower (Kd.S_mono (ok' := fun q => q < wB.heap.size) (Kd.S_bound hoO) (fun q hq => hq.2.2.1)) HB1.out.size)
 have HB2 := Aside0.mk (HB1.out.trans (hbB.mono HB1.out.size))
 have HX2 := Aside0.mk ((hbB.block _ (blk_lt HX1.out)).trans HX1.out)
 obtain ⟨AO, cO, rfl⟩ := Kd.S_slice HO.out
 rw [HN.out] at HO ⊢
 clear hoO hbB HB1 HX1 x0 x1
 go_wp2_with fail
 refine (HCP.out _ HB2.out).mono ?_
 rintro e wC ⟨vI, rfl, hoI, hbC⟩
 have HB3 := Aside0.mk (HB2.out.trans (hbC.mono HB2.out.size))
 have HX3 := Aside0.mk ((hbC.block _ (blk_lt HX2.out)).trans HX2.out)
 have HO3 := Aside0.mk (Kd.S_below HO.out hbC)
 have HI3 := Aside0.mk (Kd.R_lower (Kd.R_mono (ok' := fun q => wB.heap.size ≤ q ∧ q < wC.heap.size) (Kd.R_bound hoI) (fun q hq => ⟨hq.2.1, hq.2.2.1⟩)) HB2.out.size)
 obtain ⟨AI, cI, rfl⟩ := Kd.R_slice HI3.out
 rw [HM.out] at HI3 ⊢
 have gBC : wB.heap.size ≤ wC.heap.size := hbC.size
 have g0B : w.heap.size < wB.heap.size := blk_lt HX2.out
 obtain ⟨hB, ehB⟩ : ∃ q, wB.heap.size = q := ⟨_, rfl⟩
 rw [ehB] at HO3 HI3 gBC g0B
 clear hoI hbC HO HX2 HB2 ehB
 go_wp2_with fail
 have hx5 := World.alloc_heap_new wC (.cells #[.slice AO n cO, .int .i64 a1] 27)
 have hb5 := below_alloc (Below.refl wC.heap.size wC) (.cells #[.slice AO n cO, .int .i64 a1] 27)
 generalize wC.alloc (.cells #[.slice AO n cO, .int .i64 a1] 27) = wD at hx5 hb5 ⊢
 have HX5 := Aside0.mk hx5
 have HB4 := Aside0.mk (HB3.out.trans (hb5.mono HB3.out.size))
 have HX4 := Aside0.mk ((hb5.block _ (blk_lt HX3.out)).trans HX3.out)
 have HO4 := Aside0.mk (Kd.S_below HO3.out hb5)
 have HI4 := Aside0.mk (Kd.R_below HI3.out hb5)
 have gCD : wC.heap.size < wD.heap.size := blk_lt hx5
 have g0C : w.heap.size < wC.heap.size := blk_lt HX3.out
 obtain ⟨b5, eb5⟩ : ∃ q, wC.heap.size = q := ⟨_, rfl⟩
 rw [eb5] at HX5 HI4 gBC gCD g0C ⊢
 clear hx5 hb5 HO3 HI3 HX3 HB3 eb5
 have q1 := (Kd.S_reads' HO4.out).2.2
 have q2 := (Kd.S_reads' HO4.out).2.1
 have q3 := (Kd.R_reads' HI4.out).2.2
 have q4 := (Kd.R_reads' HI4.out).2.1
 rw [HN.out] at q1
 rw [HM.out] at q3
 refine (HAP.out _ _ _ _ wD q1 q2 q3 q4).mono ?_
 clear q1 q2 q3 q4
 rintro e wE ⟨vA, rfl, hoA, hbE⟩
 have HB5 := Aside0.mk (HB4.out.trans (hbE.mono HB4.out.size))
 have HX6 := Aside0.mk ((hbE.block _ (blk_lt HX4.out)).trans HX4.out)
 have HY6 := Aside0.mk ((hbE.block _ (blk_lt HX5.out)).trans HX5.out)
 have HO5 := Aside0.mk (Kd.S_below HO4.out hbE)
 have HI5 := Aside0.mk (Kd.R_below HI4.out hbE)
 have HA5 := Aside0.mk (Kd.S_lower (Kd.S_mono (ok' := fun q => b5 < q ∧ q < wE.heap.size) (Kd.S_bound hoA) (fun q hq => ⟨Nat.lt_of_lt_of_le gCD hq.2.1, hq.2.2.1⟩)) HB4.out.size)
 have gE : b5 < wE.heap.size := blk_lt HY6.out
 obtain ⟨AA, cA, rfl⟩ := Kd.S_slice HA5.out
 obtain ⟨hE, ehE⟩ : ∃ q, wE.heap.size = q := ⟨_, rfl⟩
 rw [ehE] at HA5 gE
 clear hoA hbE HX4 HX5 HO4 HI4 HB4 gCD
 have hx7 := World.alloc_heap_new wE (.cells #[.slice AA X1.length cA, .int .i64 X2] 27)
 have hb7 := below_alloc (Below.refl wE.heap.size wE) (.cells #[.slice AA X1.length cA, .int .i64 X2] 27)
 have x0 : (wE.alloc (.cells #[.slice AA X1.length cA, .int .i64 X2] 27)).cell? ⟨w.heap.size, 0, none⟩ = some (.slice A0 n c0) := blk_cell ((hb7.block _ (blk_lt HX6.out)).trans HX6.out) 0
 have x1 : (wE.alloc (.cells #[.slice AA X1.length cA, .int .i64 X2] 27)).cell? ⟨w.heap.size, 1, none⟩ = some (.int .i64 a1) := blk_cell ((hb7.block _ (blk_lt HX6.out)).trans HX6.out) 1
 go_wp2_with fail
 rw [ehE] at hx7
 generalize wE.alloc (.cells #[.slice AA X1.length cA, .int .i64 X2] 27) = wF at hx7 hb7 x0 x1 ⊢
 have HX7 := Aside0.mk ((hb7.block _ (blk_lt HX6.out)).trans HX6.out)
 have HY7 := Aside0.mk ((hb7.block _ (blk_lt HY6.out)).trans HY6.out)
 have HE7 := Aside0.mk hx7
 have HB6 := Aside0.mk (HB5.out.trans (hb7.mono HB5.out.size))
 have HO6 := Aside0.mk (Kd.S_below HO5.out hb7)
 have HI6 := Aside0.mk (Kd.R_below HI5.out hb7)
 have HA6 := Aside0.mk (Kd.S_below HA5.out hb7)
 have gF : hE < wF.heap.size := blk_lt hx7
 clear hx7 hb7 x0 x1 ehE HX6 HY6 HB5 HO5 HI5 HA5
 refine (HRF.out wF HB6.out).mono ?_
 rintro e wG ⟨vB, rfl, hoB, hbG⟩
 have HB7 := Aside0.mk (HB6.out.trans (hbG.mono HB6.out.size))
 have HX8 := Aside0.mk ((hbG.block _ (blk_lt HX7.out)).trans HX7.out)
 have HY8 := Aside0.mk ((hbG.block _ (blk_lt HY7.out)).trans HY7.out)
 have HE8 := Aside0.mk ((hbG.block _ (blk_lt HE7.out)).trans HE7.out)
 have HO7 := Aside0.mk (Kd.S_below HO6.out hbG)
 have HI7 := Aside0.mk (Kd.R_below HI6.out hbG)
 have HA7 := Aside0.mk (Kd.S_below HA6.out hbG)
 have HBB7 := Aside0.mk (Kd.S_lower (Kd.S_mono (ok' := fun q => hE < q ∧ q < wG.heap.size) (Kd.S_bound hoB) (fun q hq => ⟨Nat.lt_of_lt_of_le gF hq.2.1, hq.2.2.1⟩)) HB6.out.size)
 have gG : hE < wG.heap.size := blk_lt HE8.out
 obtain ⟨AB, cB, rfl⟩ := Kd.S_slice HBB7.out
 obtain ⟨hG, ehG⟩ : ∃ q, wG.heap.size = q := ⟨_, rfl⟩
 rw [ehG] at HBB7 gG
 clear hoB hbG HX7 HY7 HE7 HO6 HI6 HA6 HB6 gF
 go_wp2_with fail
 have hx9 := World.alloc_heap_new wG (.cells #[.slice AB X1.length cB, .int .i64 X2] 24)
 have hb9 := below_alloc (Below.refl wG.heap.size wG) (.cells #[.slice AB X1.length cB, .int .i64 X2] 24)
 rw [ehG] at hx9
 generalize wG.alloc (.cells #[.slice AB X1.length cB, .int .i64 X2] 24) = wH at hx9 hb9 ⊢
 have HY9 := Aside0.mk ((hb9.block _ (blk_lt HY8.out)).trans HY8.out)
 have HE9 := Aside0.mk ((hb9.block _ (blk_lt HE8.out)).trans HE8.out)
 have HG9 := Aside0.mk hx9
 have HB8 := Aside0.mk (HB7.out.trans (hb9.mono HB7.out.size))
 have HO8 := Aside0.mk (Kd.S_below HO7.out hb9)
 have HI8 := Aside0.mk (Kd.R_below HI7.out hb9)
 have HA8 := Aside0.mk (Kd.S_below HA7.out hb9)
 have HBB8 := Aside0.mk (Kd.S_below HBB7.out hb9)
 clear hx9 hb9 HX8 HY8 HE8 HB7 HO7 HI7 HA7 HBB7 ehG
 obtain ⟨qI, hqI, hspI⟩ := HSP.out l1 HL1.out
 refine (fanlightplain_Spoil.calls k _ _ l1 qI w wH HB8.out HI8.out hspI).mono ?_
 rintro e wI ⟨rfl, hoI, hbI, hkI⟩
 have HY10 := Aside0.mk (blk_kept HY9.out hkI (by omega))
 have HE10 := Aside0.mk (blk_kept HE9.out hkI (by omega))
 have HG10 := Aside0.mk (blk_kept HG9.out hkI (by omega))
 have HO9 := Aside0.mk (Kd.S_kept HO8.out hkI (fun q hq h2 => by omega))
 have HA9 := Aside0.mk (Kd.S_kept HA8.out hkI (fun q hq h2 => by omega))
 have HBB9 := Aside0.mk (Kd.S_kept HBB8.out hkI (fun q hq h2 => by omega))
 have HB9 := Aside0.mk hbI
 clear hoI hbI hkI hspI hqI HY9 HE9 HG9 HB8 HO8 HI8 HA8 HBB8
 go_wp2_with fail
 go_loopg [13] (n + 1) (fun kq v13 w' => ∃ (j : Nat) (xs : List (List Int)), v13 = .int .i64 j ∧ j ≤ n ∧ kq + j = n + 1 ∧ xs.length = n ∧ Aside0 (∀ s ∈ xs, s.length ≤ 1048576) ∧ Aside0 (Below w.heap.size w w') ∧ Aside0 (w'.heap[b5]? = some (.cells #[.slice AO n cO, .int .i64 a1] 27)) ∧ Aside0 (w'.heap[hE]? = some (.cells #[.slice AA X1.length cA, .int .i64 X2] 27)) ∧ Aside0 (w'.heap[hG]? = some (.cells #[.slice AB X1.length cB, .int .i64 X2] 24)) ∧ Aside0 (Kd.S (Kd.slice 5 (Kd.int .u8)) 25 w' w.heap.size (fun q => q < hB) (.slice AO n cO) xs) ∧ Aside0 (Kd.S (Kd.slice 5 (Kd.int .u8)) 25 w' w.heap.size (fun q => b5 < q ∧ q < hE) (.slice AA X1.length cA) X1) ∧ Aside0 (Kd.S (Kd.slice 5 (Kd.int .u8)) 25 w' w.heap.size (fun q => hE < q ∧ q < hG) (.slice AB X1.length cB) X1))
 case atStart => exact ⟨0, l0, rfl, by omega, by omega, HN.out, HLS, HB9, HY10, HE10, HG10, HO9, HA9, HBB9⟩
 case round =>
  clear HB9 HY10 HE10 HG10 HO9 HA9 HBB9
  obtain ⟨j, xs, rfl, hjn, hkq, hxl, HLX, HB, HY, HE, HG, HO, HA, HBB⟩ := hrel
  cases gk with
  | zero => exact absurd hkq (by omega)
  | succ k1 =>
  by_cases hlt : j < n
  ·
   obtain ⟨g, cap, he, hgb, hgl, cells, hgc⟩ := Kd.S_form HO.out (by omega)
   have hxn : n = xs.length := hxl.symm
   rw [hxl] at he
   injection he with he1 he2 he3
   subst he1
   clear he2 he3 hgc cells hgb hgl cap
   have hgB : g < hB := (Kd.S_R HO.out).1 g rfl
   obtain ⟨oki, c, hcl, hM, hcc, hoki, hH⟩ := Kd.S_lend HO.out [] (j : Int) (by omega) (by omega)
   obtain ⟨v, rfl, hR⟩ := hM
   have hx := hcc 0 v rfl
   simp only [Int.toNat_natCast] at hR hx
   have hx' := hx
   rw [show j * (Kd.slice 5 (Kd.int .u8)).sz + 0 = j from Nat.mul_one j] at hx'
   have hmem : xs.getD j [] ∈ xs := by
    rw [List.getD_eq_getElem?_getD, List.getElem?_eq_getElem (by omega)]
    exact List.getElem_mem _
   obtain ⟨q, hql, hsp⟩ := HSP.out _ (HLX.out _ hmem)
   obtain ⟨Av, cv, rfl⟩ := Kd.R_slice hR
   have y0 : wr.cell? ⟨b5, 0, none⟩ = some (.slice (some ⟨g, 0, none⟩) n cO) := blk_cell HY.out 0
   have hj0 : decide ((j : Int) < n) = true := decide_eq_true (by omega)
   obtain ⟨s, hs⟩ : ∃ s, xs.getD j [] = s := ⟨_, rfl⟩
   have hsl := HLX.out _ hmem
   rw [hs] at hR hsp hH hx' hql hsl
   clear hcc hcl hx hs hmem
   have HR := Aside0.mk hR
   have HH := Aside0.mk hH
   have HSQ := Aside0.mk hsp
   have HQL := Aside0.mk hql
   have HSL := Aside0.mk hsl
   have HOK := Aside0.mk hoki
   have hj1 : (0 : Int) ≤ (j : Int) := by omega
   have hj2 : (j : Int) < (n : Int) := by omega
   have hw1 : wrap64 ((j : Int) + 1) = ((j + 1 : Nat) : Int) := by unfold wrap64; omega
   have HW1 := Aside0.mk hw1
   have HXL := Aside0.mk hxl
   have HKQ := Aside0.mk hkq
   clear hR hH hsp hql hsl hoki hw1 hxn hxl hkq
   go_wp2_with (go_at_call 13; refine (fanlightplain_Spoil.calls k oki _ s q w _ HB.out HR.out HSQ.out).mono ?_; rintro e wM ⟨rfl, hR2, hb2, hk2⟩)
   have hS := Kd.H_back (Kd.H_kept HH.out hk2 (fun _ _ h => h)) (x' := q) (okp := oki) ⟨_, rfl, ⟨HR.out.1, hR2.2⟩⟩ (fun _ h => h)
   simp only [Int.toNat_natCast] at hS
   have hlen : (xs.set j q).length = n := by rw [List.length_set]; exact HXL.out
   have hall : ∀ t ∈ xs.set j q, t.length ≤ 1048576 := fun t ht => by
    rcases List.mem_or_eq_of_mem_set ht with h | h
    ·
     exact HLX.out t h
    ·
     rw [h, HQL.out]; exact HSL.out
   have r1 := HKQ.out
   have r2 := blk_kept HY.out hk2 (fun h => by have := (HOK.out _ h).1; omega)
   have r3 := blk_kept HE.out hk2 (fun h => by have := (HOK.out _ h).1; omega)
   have r4 := blk_kept HG.out hk2 (fun h => by have := (HOK.out _ h).1; omega)
   have r5 := Kd.S_kept HA.out hk2 (fun u hu h => by have := (HOK.out _ h).1; omega)
   have r6 := Kd.S_kept HBB.out hk2 (fun u hu h => by have := (HOK.out _ h).1; omega)
   go_roundg k1
   case measure => omega
   case rel => exact ⟨j + 1, xs.set j q, by go_num, by omega, by omega, hlen, ⟨hall⟩, ⟨hb2⟩, ⟨r2⟩, ⟨r3⟩, ⟨r4⟩, ⟨hS⟩, ⟨r5⟩, ⟨r6⟩⟩
  ·
   obtain rfl : j = n := by omega
   have y0 : wr.cell? ⟨b5, 0, none⟩ = some (.slice AO j cO) := blk_cell HY.out 0
   have e0 : wr.cell? ⟨hE, 0, none⟩ = some (.slice AA X1.length cA) := blk_cell HE.out 0
   have e1 : wr.cell? ⟨hE, 1, none⟩ = some (.int .i64 X2) := blk_cell HE.out 1
   have f0 : wr.cell? ⟨hG, 0, none⟩ = some (.slice AB X1.length cB) := blk_cell HG.out 0
   have f1 : wr.cell? ⟨hG, 1, none⟩ = some (.int .i64 X2) := blk_cell HG.out 1
   have HXL := Aside0.mk hxl
   clear hxl hkq
   go_wp2_with fail
   refine (fanlightlaw06_num.calls X4 X4 _ rfl).mono ?_
   rintro e wN ⟨rfl, hd⟩
   have hbN : Below wr.heap.size wr wN := by
    obtain ⟨nd, rfl⟩ := hd
    exact pw_below_drewN (Below.refl _ _) nd
   have HE2 := Aside0.mk (blk_below HE.out hbN)
   have HG2 := Aside0.mk (blk_below HG.out hbN)
   have HA2 := Aside0.mk (Kd.S_below HA.out hbN)
   have HBB2 := Aside0.mk (Kd.S_below HBB.out hbN)
   have HB2 := Aside0.mk (HB.out.trans (hbN.mono HB.out.size))
   have e0 : wN.cell? ⟨hE, 0, none⟩ = some (.slice AA X1.length cA) := blk_cell HE2.out 0
   have e1 : wN.cell? ⟨hE, 1, none⟩ = some (.int .i64 X2) := blk_cell HE2.out 1
   have f0 : wN.cell? ⟨hG, 0, none⟩ = some (.slice AB X1.length cB) := blk_cell HG2.out 0
   have f1 : wN.cell? ⟨hG, 1, none⟩ = some (.int .i64 X2) := blk_cell HG2.out 1
   clear hd hbN HE HG HA HBB HB HY HO HXL y0
   go_wp2_with fail
   refine (fanlightlaw06_Alike.calls k AA cA X1 X2 AB cB X1 X2 0 _ (Kd.S_reads' HA2.out).2.2 (Kd.S_reads' HA2.out).2.1 (Kd.S_reads' HBB2.out).2.2 (Kd.S_reads' HBB2.out).2.1 HAL.out).mono ?_
   rintro e wP ⟨rfl, hbP⟩
   have HB3 := Aside0.mk (HB2.out.trans (hbP.mono HB2.out.size))
   clear hbP e0 e1 f0 f1 HE2 HG2 HA2 HBB2 HB2
   go_wp2_with fail
   go_ret
   exact ⟨rfl, HB3.out⟩
theorem fanlightlaw06_WalOwn.calls (k : Nat) (A0 : Option Addr) (c0 : Nat) (l0 : List (List Int)) (a1 : Int) (A1 : Option Addr) (c1 : Nat) (l1 : List Int) (r : Bool) (w : World) (hr0 : Kd.C (Kd.slice 5 (Kd.int .u8)) w A0 l0.length l0) (hc0 : l0.length ≤ c0) (hr1 : Kd.C (Kd.int .u8) w A1 l1.length l1) (hc1 : l1.length ≤ c1) (h : fanlightlaw06_WalOwn.P k l0 a1 l1 r) :
  Calls Try.prog 3 #[.agg #[.slice A0 l0.length c0, .int .i64 a1], .slice A1 l1.length c1] w fun e w' => e = .returned (.bool r) ∧ Below w.heap.size w w' := by
 obtain ⟨rfl, h1, h2, h3, ⟨⟨X1, X2, X3, X4⟩, h4, h5, h6⟩, h7, h8, h9, h10⟩ := h
 exact walown1 k A0 c0 l0 a1 A1 c1 l1 X1 X2 X3 X4 w hr0 hc0 hr1 hc1 h1 h2 h3 h4 h5 h6 h7 h8 h9 h10
end Go.Proofs.Ytgmkgobapeencaa.S
