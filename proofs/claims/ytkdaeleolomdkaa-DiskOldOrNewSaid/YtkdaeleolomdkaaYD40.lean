import Derived.Laws.Cover3
import Derived.OpenShut
import Derived.Lib.SlBytesConst
import Derived.Deep.RegionHeld3
import Derived.Laws.BitsAllLaws
import Derived.WalkSpells
import Derived.RangeFuncNested
import Derived.RangeFuncBound
import Derived.RangeFuncCalls
import Derived.RangeFuncLeaves
import Derived.RangeFuncBox
import Derived.OwnWalkIn
import Derived.TacticsInMore
import Derived.LoopNIn
import Derived.LoopIn
import Derived.Lib.Hide
import Derived.Outline
import Derived.Maps.OwnIn
import Derived.StillTailTactics
import Derived.OrdersIn
import Derived.TacticsIn
import Derived.Test.YtkdaeleolomdkaaYAid
import Derived.Test.YtkdaeleolomdkaaYAid2
import Derived.Test.YtkdaeleolomdkaaYAid4
import Derived.Test.YtkdaeleolomdkaaYD0
import Derived.Test.YtkdaeleolomdkaaYD1
import Derived.Test.YtkdaeleolomdkaaYD2
import Derived.Test.YtkdaeleolomdkaaYD12
import Derived.Test.YtkdaeleolomdkaaYD15
import Derived.Test.YtkdaeleolomdkaaYD18
import Derived.Test.YtkdaeleolomdkaaYD19
import Derived.Test.YtkdaeleolomdkaaYD21
namespace Go.Proofs.Ytkdaeleolomdkaa.D
open Go.RowKit Go.Shelf Go.Proofs.YtkdaeleolomdkaaW.PrintWords Go.Proofs.YtkdaeleolomdkaaW.PrintLast Go.Proofs.YtkdaeleolomdkaaW.PrintMore
attribute [local go_sem] max2_int min2_int max_two min_two max_three min_three max_four min_four
set_option linter.unusedVariables false
set_option linter.unusedSimpArgs false
def sbB (a b : List Int) : Bool := (strOfNums a).toList == (strOfNums b).toList
def newB (u : List Int) (i : Nat) (x : S57) : Bool := decide (0 ≤ (i : Int) - x.f1) && decide ((i : Int) - x.f1 < (x.f2.length : Int) / 48) && sbB u (chunkD x.f2 ((i : Int) - x.f1).toNat)
def oldNewB (u s : List Int) (i : Nat) (cache : List S57) : Bool := sbB u s || cache.any (newB u i)
def fanlightlaw05_DiskOldOrNew.P (k : Nat) (secs : List (List Int)) (cache : List S57) (ks : List Int) : Prop :=
 fanlightlaw05_alive.f k = some true ∧ fanlightlaw05_Of.f k secs cache = some (secs, cache) ∧ (∃ q, fanlightref05_Check.f k secs cache = some q ∧ (okSb secs cache = false → q ≠ 0)) ∧ (∀ y ∈ cache, y.f2.length < 140737488355328) ∧ (∀ z ∈ ks, -9223372036854775808 ≤ z ∧ z ≤ 9223372036854775807) ∧
  (okSb secs cache = true → ∀ i, i < secs.length → oldNewB ((settleL (keepF ks) 0 cache secs).getD i []) (secs.getD i []) i cache = true)
theorem cut_two {P : Program} (t e : TypeId) {i : TypeInfo} (ht : P.underlying t = some (.slice e)) (hi : P.info? e = some i) (size : Nat) (hsz : i.size = size) (A : Option Addr) (n c : Nat) (l h : Nat) (h1 : l ≤ h) (h2 : h ≤ c) :
  ∀ W : World, (Instr.slice t (.slice A n c) (some (.int .i64 (l : Int))) (some (.int .i64 (h : Int))) none).run P W = .ok (.slice (if c = l then A else A.map (·.add (l * size))) (h - l) (c - l)) W := by
 intro W
 have hel : P.elem t = e := by simp [Program.elem, ht]
 have hu : P.underlying t = some (.slice (P.elem t)) := by rw [hel]; exact ht
 rw [run_slice_lh W t A n c hu .i64 .i64 (l : Int) (h : Int) (by omega) (by omega) (by omega), hel]
 simp [sizeOf, typeInfo, hi, hsz, sliced, Result.andThen]
theorem num_same (a : Int) (W : World) : Calls Try.prog 32 #[.int .i64 a] W fun e w' => e = .returned (.int .i64 a) ∧ W = w' := by
 go_enter Try.func32, Try.ntmps32
 go_wp2
 go_ret
 exact ⟨rfl, rfl⟩
theorem same_at (A : Option Addr) (c : Nat) (a : List Int) (B : Option Addr) (d : Nat) (b : List Int) (W : World) (h1 : Kd.C (Kd.int .u8) W A a.length a) (h2 : a.length ≤ c) (h3 : Kd.C (Kd.int .u8) W B b.length b) (h4 : b.length ≤ d) (n : Nat) :
  Calls Try.prog 21 #[.slice A a.length c, .slice B b.length d] (W.drewN n) fun e w' => e = .returned (.bool (sbB a b)) ∧ ∃ m, w' = (W.drewN n).drewN m :=
 (fanlightplain_SameBytes.calls A c a B d b (sbB a b) (W.drewN n) (Kd.C_drewN h1 n) h2 (Kd.C_drewN h3 n) h4 rfl).mono fun e w' ⟨h, hd⟩ => ⟨h, hd.out⟩
set_option maxRecDepth 100000 in
set_option maxHeartbeats 4000000 in
theorem oldornew1 (k : Nat) (A0 : Option Addr) (c0 : Nat) (secs : List (List Int)) (A1 : Option Addr) (c1 : Nat) (cache : List S57) (Ak : Option Addr) (ck : Nat) (ks : List Int) (w : World)
  (hr0 : Kd.C (Kd.slice 5 (Kd.int .u8)) w A0 secs.length secs) (hc0 : secs.length ≤ c0) (hr1 : Kd.C k57 w A1 cache.length cache) (hc1 : cache.length ≤ c1) (hrk : Kd.C (Kd.int .i64) w Ak ks.length ks) (hck : ks.length ≤ ck) (hP : fanlightlaw05_DiskOldOrNew.P k secs cache ks) :
  Calls Try.prog 10 #[.agg #[.slice A0 secs.length c0, .slice A1 cache.length c1], .slice Ak ks.length ck] w fun e w' => e = .returned (.bool true) ∧ Below w.heap.size w w' := by
 obtain ⟨hlive, hof, ⟨q, hq, hq2⟩, hd, hks, hon⟩ := hP
 have HLIVE := Aside0.mk (fun (W : World) => fanlightlaw05_alive.calls k true W hlive rfl)
 have HOF := Aside0.mk (fun (W : World) (hW : Below w.heap.size w W) => fanlightlaw05_Of.calls k A0 c0 secs A1 c1 cache secs cache W (Kd.C_below hr0 hW) hc0 (Kd.C_below hr1 hW) hc1 hof)
 have HCR := Aside0.mk (fun (A B : Option Addr) (c d : Nat) (W : World) (hW : Below w.heap.size w W) (h1 : Kd.C (Kd.slice 5 (Kd.int .u8)) W A secs.length secs) (h2 : secs.length ≤ c) (h3 : Kd.C k57 W B cache.length cache) (h4 : cache.length ≤ d) => Crash_is A c secs B d cache Ak ck ks W h1 h2 h3 h4 (Kd.F_mono (Kd.F_below (Kd.C_F (Kd.heap_int .i64) hrk) hW) (fun k hk => Nat.lt_of_lt_of_le hk hW.size)) hd hks)
 have HCK := Aside0.mk (fun (W : World) (hW : Below w.heap.size w W) => fanlightref05_Check.calls k A0 c0 secs A1 c1 cache q W (Kd.C_below hr0 hW) hc0 (Kd.C_below hr1 hW) hc1 hq)
 have HQ2 := Aside0.mk hq2
 have HON := Aside0.mk hon
 have HR0 := Aside0.mk hr0
 have HR1 := Aside0.mk hr1
 have HD := Aside0.mk hd
 obtain ⟨n0, hn0⟩ : ∃ n, secs.length = n := ⟨_, rfl⟩
 obtain ⟨n1, hn1⟩ : ∃ n, cache.length = n := ⟨_, rfl⟩
 obtain ⟨nk, hnk⟩ : ∃ n, ks.length = n := ⟨_, rfl⟩
 have HN0 := Lib.hid hn0
 have HN1 := Lib.hid hn1
 rw [hn0] at HOF HCR HCK ⊢
 rw [hn1] at HOF HCR HCK ⊢
 rw [hnk] at HCR ⊢
 have hn0b : n0 ≤ 9223372036854775807 := by have := Kd.C_max hr0; omega
 clear hr0 hc0 hr1 hc1 hrk hck hlive hof hq hq2 hd hks hon hn0 hn1 hnk
 have HB0 := Aside0.mk (below_alloc (Below.refl w.heap.size w) (.cells #[.slice A0 n0 c0, .slice A1 n1 c1] 55))
 have HX0 := Aside0.mk (World.alloc_heap_new w (.cells #[.slice A0 n0 c0, .slice A1 n1 c1] 55))
 go_enter Try.func10, Try.ntmps10
 go_wp2_with fail
 refine (HLIVE.out _).mono ?_
 rintro e wA ⟨rfl, hbA⟩
 have HB1 := Aside0.mk (HB0.out.trans (hbA.mono HB0.out.size))
 have HX1 := Aside0.mk (blk_below HX0.out hbA)
 have x0 : wA.cell? ⟨w.heap.size, 0, none⟩ = some (.slice A0 n0 c0) := blk_cell HX1.out 0
 have x1 : wA.cell? ⟨w.heap.size, 1, none⟩ = some (.slice A1 n1 c1) := blk_cell HX1.out 1
 clear hbA HB0 HX0
 go_wp2_with fail
 refine (HOF.out _ HB1.out).mono ?_
 rintro e wB ⟨vO, vP, rfl, hO0, hO1, hbB⟩
 have HB2 := Aside0.mk (HB1.out.trans (hbB.mono HB1.out.size))
 have HX2 := Aside0.mk (blk_below HX1.out hbB)
 obtain ⟨B0, b0, rfl⟩ := Kd.S_slice hO0
 obtain ⟨B1, b1, rfl⟩ := Kd.S_slice hO1
 have hq0 := Kd.S_reads' hO0
 have hq1 := Kd.S_reads' hO1
 rw [HN0.out] at hq0
 rw [HN1.out] at hq1
 have HCRB := Aside0.mk (HCR.out B0 B1 b0 b1 wB HB2.out hq0.2.2 hq0.2.1 hq1.2.2 hq1.2.1)
 rw [HN0.out, HN1.out]
 clear hO0 hO1 hbB HB1 HX1 x0 x1 hq0 hq1
 go_wp2_with fail
 refine HCRB.out.mono ?_
 rintro e wC ⟨v0, v1, rfl, hV, hbC⟩
 have HB3 := Aside0.mk (HB2.out.trans (hbC.mono HB2.out.size))
 have HX3 := Aside0.mk (blk_below HX2.out hbC)
 obtain ⟨E0, e0, E1, e1, rfl, rfl⟩ := DVal_slice hV
 obtain ⟨PV, hV0, hV1⟩ := hV
 have hu0 := Kd.S_reads' hV0
 have hu1 := Kd.S_reads' hV1
 cases hok : okSb secs cache with
 | false =>
  have hR : crashR secs cache ks = ([], [], 9) := by unfold crashR; rw [if_neg (by rw [hok]; decide)]
  rw [hR] at hu0 hu1 ⊢
  have HNQ := Aside0.mk (HQ2.out hok)
  have hbl := below_alloc (Below.refl wC.heap.size wC) (.cells #[.slice E0 0 e0, .slice E1 0 e1] 58)
  have HB4 := Aside0.mk (HB3.out.trans (hbl.mono HB3.out.size))
  have HX4 := Aside0.mk (blk_below HX3.out hbl)
  have x0 := blk_cell HX4.out 0
  have x1 := blk_cell HX4.out 1
  have HCK4 := Aside0.mk (HCK.out _ HB4.out)
  have hqb : (q != 0) = true := bne_iff_ne.mpr HNQ.out
  clear hok hR hu0 hu1 hV0 hV1 hbC HCRB HON hbl HCK HQ2
  go_wp2_with (go_at_call 32; refine (num_same _ _).mono ?_; rintro e w' ⟨rfl, rfl⟩)
  refine HCK4.out.mono ?_
  rintro e wD ⟨rfl, hbD⟩
  have HB5 := Aside0.mk (HB4.out.trans (hbD.mono HB4.out.size))
  clear hbD x0 x1
  go_wp2_with fail
  go_ret
  exact ⟨rfl, HB5.out⟩
 | true =>
  have hR : crashR secs cache ks = (settleL (keepF ks) 0 cache secs, [], 0) := by unfold crashR; rw [if_pos hok]
  rw [hR] at hu0 hu1 hV0 ⊢
  dsimp only at hu0 hu1 hV0
  have hO := okS_of hok
  have hON := HON.out hok
  have hTl := settleL_len (keepF ks) cache 0 secs
  obtain ⟨T, hT⟩ : ∃ T, settleL (keepF ks) 0 cache secs = T := ⟨_, rfl⟩
  rw [hT] at hu0 hTl hON hV0 ⊢
  rw [HN0.out] at hTl
  rw [hTl] at hu0
  have hbl := below_alloc (Below.refl wC.heap.size wC) (.cells #[.slice E0 n0 e0, .slice E1 0 e1] 58)
  have HB4 := Aside0.mk (HB3.out.trans (hbl.mono HB3.out.size))
  have HX4 := Aside0.mk (blk_below HX3.out hbl)
  have HU4 := Aside0.mk (World.alloc_heap_new wC (.cells #[.slice E0 n0 e0, .slice E1 0 e1] 58))
  have HC4 := Aside0.mk (Kd.C_below (Kd.S_reads' hV0).2.2 hbl)
  have x0 := blk_cell HX4.out 0
  have hTl2 : T.length = n0 := hTl
  clear hR hV0 hV1 hbC HCRB HON hbl HCK HQ2 hok hT
  rw [hTl]
  simp only [List.length_nil]
  go_wp2_with (go_at_call 32; refine (num_same _ _).mono ?_; rintro e w' ⟨rfl, rfl⟩)
  obtain ⟨W4, hW4⟩ : ∃ W, wC.alloc (.cells #[.slice E0 n0 e0, .slice E1 0 e1] 58) = W := ⟨_, rfl⟩
  rw [hW4] at HB4 HX4 HU4 HC4 x0 ⊢
  obtain ⟨gu, hgu⟩ : ∃ g, wC.heap.size = g := ⟨_, rfl⟩
  rw [hgu] at HU4 ⊢
  have HO := Aside0.mk hO
  have HON := Aside0.mk hON
  have HTL := Aside0.mk hTl2
  have HUE := Aside0.mk hu0.2.1
  have hn4 : n0 ≤ 4096 := by have := hO.sl; have := HN0.out; omega
  have hn14 : n1 ≤ 4096 := by have := hO.cl; have := HN1.out; omega
  clear hW4 hgu hO hON hTl hTl2 hu0 hu1 x0
  go_loopw [7] (fun i wr => ∃ j : Nat, j ≤ n0 ∧ i = .int .i64 j ∧ Aside0 (Below W4.heap.size W4 wr)) (fun i _ => n0 - (intOf i).toNat)
  case atStart => exact ⟨0, by omega, rfl, ⟨Below.refl _ _⟩⟩
  case round =>
   obtain ⟨j, hj, rfl, HBj⟩ := hrel
   have hu := blk_below HU4.out HBj.out
   have hs := blk_below HX4.out HBj.out
   have u0 : wr.cell? ⟨gu, 0, none⟩ = some (.slice E0 n0 e0) := blk_cell hu 0
   have s0 : wr.cell? ⟨w.heap.size, 0, none⟩ = some (.slice A0 n0 c0) := blk_cell hs 0
   have s1 : wr.cell? ⟨w.heap.size, 1, none⟩ = some (.slice A1 n1 c1) := blk_cell hs 1
   have HBW := Aside0.mk (HB4.out.trans (HBj.out.mono HB4.out.size))
   by_cases hlt : j < n0
   ·
    obtain ⟨ad, A5, c5, e5, hx5, hl5, hC5⟩ := at_L1 (Kd.C_below HC4.out HBj.out) (j : Int) (by omega) (by rw [HTL.out]; omega)
    subst e5
    obtain ⟨ad', A6, c6, e6, hx6, hl6, hC6⟩ := at_L1 (Kd.C_below HR0.out HBW.out) (j : Int) (by omega) (by rw [HN0.out]; omega)
    subst e6
    have hon := HON.out j (by rw [HN0.out]; exact hlt)
    have ru : rd_L1 T (j : Int) = T.getD j [] := by unfold rd_L1; rw [Int.toNat_natCast]
    have rs : rd_L1 secs (j : Int) = secs.getD j [] := by unfold rd_L1; rw [Int.toNat_natCast]
    rw [ru] at hx5 hl5 hC5
    rw [rs] at hx6 hl6 hC6
    obtain ⟨U, hU⟩ : ∃ U, T.getD j [] = U := ⟨_, rfl⟩
    obtain ⟨V, hVe⟩ : ∃ V, secs.getD j [] = V := ⟨_, rfl⟩
    rw [hU] at hx5 hl5 hC5 hon
    rw [hVe] at hx6 hl6 hC6 hon
    simp only [Int.toNat_natCast] at hx5 hx6
    have hsame := same_at A5 c5 U A6 c6 V wr hC5 hl5 hC6 hl6
    obtain ⟨b, hb⟩ : ∃ b, sbB U V = b := ⟨_, rfl⟩
    rw [hb] at hsame
    have HSAME := Aside0.mk hsame
    have HC5 := Aside0.mk hC5
    have HL5 := Aside0.mk hl5
    have HON2 := Aside0.mk hon
    have HBB := Aside0.mk hb
    obtain ⟨lu, hlu⟩ : ∃ n, U.length = n := ⟨_, rfl⟩
    obtain ⟨lv, hlv⟩ : ∃ n, V.length = n := ⟨_, rfl⟩
    rw [hlu] at hx5 HSAME
    rw [hlv] at hx6 HSAME
    have HLU := Lib.hid hlu
    clear hC5 hl5 hC6 hl6 hsame hb hon ru rs hU hVe hu hs hlu hlv
    go_wp2_with fail
    go_quiet ((go_at_call 21; exact Calls.quiet_of (HSAME.out _)))
    have hbd := pw_below_drewN (Below.refl wr.heap.size wr) nq
    have HBq := Aside0.mk (HBj.out.trans (hbd.mono HBj.out.size))
    have hx5q := pw_cell_below hbd hx5
    have u0q := pw_cell_below hbd u0
    have s1q := pw_cell_below hbd s1
    have HC5q := Aside0.mk (Kd.C_below HC5.out hbd)
    obtain ⟨wq, hwq⟩ : ∃ wq, wr.drewN nq = wq := ⟨_, rfl⟩
    rw [hwq] at HBq hx5q u0q s1q HC5q ⊢
    clear hwq hbd hx5 u0 s0 s1 hx6 HC5 HSAME HBW HBj
    go_wp2_with fail
    have HX5Q := Aside0.mk hx5q
    have HU0Q := Aside0.mk u0q
    go_loopw [8, 9] (fun t i wr => ∃ m : Nat, m ≤ n1 ∧ i = .int .i64 m ∧ t = .bool (b || (cache.take m).any (newB U j)) ∧ Aside0 (Below wq.heap.size wq wr)) (fun _ i _ => n1 - (intOf i).toNat)
    case atStart => exact ⟨0, by omega, rfl, by simp, ⟨Below.refl _ _⟩⟩
    case round =>
     clear hx5q u0q s1q
     obtain ⟨m, hm, rfl, rfl, HBm⟩ := hrel
     have HBM := Aside0.mk (HBq.out.trans (HBm.out.mono HBq.out.size))
     have HBWM := Aside0.mk (HB4.out.trans (HBM.out.mono HB4.out.size))
     have s1 : wr.cell? ⟨w.heap.size, 1, none⟩ = some (.slice A1 n1 c1) := blk_cell (blk_below HX4.out HBM.out) 1
     by_cases hlm : m < n1
     ·
      have hml : m < cache.length := by have := HN1.out; omega
      obtain ⟨adx, A7, c7, e7, hy0, hy1, hy2, hl7, hC7⟩ := at_T57 (Kd.C_below HR1.out HBWM.out) (m : Int) (by omega) (by have := HN1.out; omega)
      subst e7
      simp only [Int.toNat_natCast] at hy0 hy1 hy2
      have hrd : rd_T57 cache (m : Int) = cache[m] := by simp [rd_T57, hml]
      have htk : cache.take (m + 1) = cache.take m ++ [cache[m]] := List.take_succ_eq_append_getElem hml
      have hokw := HO.out.cok cache[m] (List.getElem_mem hml)
      rw [hrd] at hy0 hy1 hy2 hl7 hC7
      obtain ⟨x, hx⟩ : ∃ x, cache[m] = x := ⟨_, rfl⟩
      rw [hx] at hy0 hy1 hy2 hl7 hC7 htk hokw
      obtain ⟨k1, k2, k3, k4⟩ := hokw
      have hany : (b || (cache.take (m + 1)).any (newB U j)) = ((b || (cache.take m).any (newB U j)) || newB U j x) := by rw [htk, List.any_append]; simp [Bool.or_assoc]
      have hnew : newB U j x = newB U j x := rfl
      conv at hnew => rhs; unfold newB
      obtain ⟨is0, his0⟩ : ∃ b', (b || (cache.take m).any (newB U j)) = b' := ⟨_, rfl⟩
      rw [his0] at hany ⊢
      obtain ⟨z0, hz0⟩ : ∃ z, x.f0 = z := ⟨_, rfl⟩
      obtain ⟨sx, hsx⟩ := Int.eq_ofNat_of_zero_le k1
      have hs4 := HO.out.sl
      rw [HN0.out] at k4 hs4
      rw [hz0] at hy0
      rw [hsx] at hy1 hnew k4
      obtain ⟨cnt, hcnt⟩ : ∃ c, x.f2.length / 48 = c := ⟨_, rfl⟩
      have hdl : x.f2.length = 48 * cnt := by omega
      rw [hcnt] at k4
      have hq48 : (x.f2.length : Int) / 48 = (cnt : Int) := by omega
      rw [hq48] at hnew
      have HC7 := Aside0.mk hC7
      have HL7 := Aside0.mk hl7
      have HDL := Lib.hid hdl
      obtain ⟨dl, hdle⟩ : ∃ n, x.f2.length = n := ⟨_, rfl⟩
      rw [hdle] at hy2 hq48
      have HDLE := Lib.hid hdle
      have hdlb : dl ≤ 9223372036854775807 := by omega
      have HNEW := Aside0.mk hnew
      have HANY := Aside0.mk hany
      have hbl7 := below_alloc (Below.refl wr.heap.size wr) (.cells #[.bool z0, .int .i64 (sx : Int), .slice A7 dl c7] 57)
      have HBL7 := Aside0.mk hbl7
      clear hrd htk hx hany hnew his0 hz0 hsx hcnt hC7 hl7 hbl7 hdl hdle k1 k2 k3 hml
      by_cases hin : sx ≤ j ∧ j < sx + cnt
      ·
       obtain ⟨p, hp⟩ : ∃ p, j = sx + p := ⟨j - sx, by omega⟩
       have hpc : p < cnt := by omega
       have hat : Aside0 (newB U j x = sbB U (chunkD x.f2 p)) := ⟨by
        rw [HNEW.out, decide_eq_true (show 0 ≤ (j : Int) - (sx : Int) by omega), decide_eq_true (show (j : Int) - (sx : Int) < (cnt : Int) by omega), Bool.true_and, Bool.true_and, show ((j : Int) - (sx : Int)).toNat = p by omega]⟩
       have hsub : (j : Int) - (sx : Int) = (p : Int) := by omega
       have hd1 : decide ((p : Int) ≥ 0) = true := decide_eq_true (by omega)
       have hd2 : decide ((p : Int) < (dl : Int) / 48) = true := decide_eq_true (by omega)
       obtain ⟨i0, hi0, _, hsz0, _⟩ := info_parts info5
       have hcut := cut_two (P := Try.prog) 22 5 Try.underlying22 hi0 1 hsz0 A7 dl c7 (48 * p) (48 * p + 48) (by omega) (by have := HL7.out; have := HDL.out; omega)
       have hC8 := Kd.C_mid (c := c7) (Kd.C_below HC7.out HBL7.out) (lo := 48 * p) (hi := 48 * p + 48) (by omega) (by have := HDL.out; omega) HL7.out
       have hck : (x.f2.take (48 * p + 48)).drop (48 * p) = chunkD x.f2 p := by unfold chunkD; rw [List.drop_take]; congr 1; omega
       have hckl : (chunkD x.f2 p).length = 48 := chunkD_len HDL.out hpc
       rw [hck] at hC8
       obtain ⟨AX, hAX⟩ : ∃ A : Option Addr, (if c7 = 48 * p then A7 else A7.map (·.add (48 * p * 1))) = A := ⟨_, rfl⟩
       have hC9 : (Kd.int .u8).C (wr.alloc (.cells #[.bool z0, .int .i64 (sx : Int), .slice A7 dl c7] 57)) AX (chunkD x.f2 p).length (chunkD x.f2 p) := by rw [← hAX]; exact hC8
       rw [hAX, show 48 * p + 48 - 48 * p = 48 by omega] at hcut
       have hw1 : IntKind.i64.wrap (48 * (p : Int)) = ((48 * p : Nat) : Int) := by rw [i64_w]; unfold wrap64; omega
       have hsame := same_at A5 c5 U AX (c7 - 48 * p) (chunkD x.f2 p) _ (Kd.C_below HC5q.out (HBm.out.trans (HBL7.out.mono HBm.out.size))) HL5.out hC9 (by have := HL7.out; have := HDL.out; omega)
       obtain ⟨b2, hb2⟩ : ∃ b, sbB U (chunkD x.f2 p) = b := ⟨_, rfl⟩
       rw [hb2] at hsame hat
       rw [hckl, HLU.out] at hsame
       have HSAME := Aside0.mk hsame
       have hx5' := pw_cell_below HBm.out (HX5Q.out)
       have u0' := pw_cell_below HBm.out (HU0Q.out)
       have hx5a := pw_cell_below HBL7.out hx5'
       have u0a := pw_cell_below HBL7.out u0'
       have hcut2 : ∀ W : World, (Instr.slice 22 (.slice A7 dl c7) (some (.int .i64 (48 * (p : Int)))) (some (.int .i64 (48 * (p : Int) + 48))) none).run Try.prog W = .ok (.slice AX 48 (c7 - 48 * p)) W := fun W => by
        have h := hcut W
        rw [show ((48 * p : Nat) : Int) = 48 * (p : Int) by omega, show ((48 * p + 48 : Nat) : Int) = 48 * (p : Int) + 48 by omega] at h
        exact h
       clear hcut hw1
       have HD := Aside0.mk hd1
       have HHIN := Aside0.mk hin
       clear hsame hC8 hC9 hck hckl hAX hi0 hsz0 hb2 hp hin hq48
       cases is0 with
       | true =>
        go_wp2_with fail
        go_quiet (fail)
        have HBN : Aside0 (Below wq.heap.size wq ((wr.alloc (.cells #[.bool z0, .int .i64 (sx : Int), .slice A7 dl c7] 57)).drewN nq)) := ⟨HBm.out.trans (pw_below_drewN (HBL7.out.mono HBm.out.size) nq)⟩
        clear hx5a u0a hx5' u0'
        go_wp2_with fail
        exact ⟨⟨m + 1, by omega, by go_num, by rw [HANY.out, hat.out]; rfl, HBN⟩, by simp [intOf]; omega⟩
       | false =>
        go_wp2_with fail
        go_quiet ((go_at_call 21; exact Calls.quiet_of (HSAME.out _)))
        have HBN : Aside0 (Below wq.heap.size wq ((wr.alloc (.cells #[.bool z0, .int .i64 (sx : Int), .slice A7 dl c7] 57)).drewN nq)) := ⟨HBm.out.trans (pw_below_drewN (HBL7.out.mono HBm.out.size) nq)⟩
        clear hx5a u0a hx5' u0'
        go_wp2_with fail
        exact ⟨⟨m + 1, by omega, by go_num, by rw [HANY.out, hat.out]; rfl, HBN⟩, by simp [intOf]; omega⟩
      ·
       have hnf : Aside0 (newB U j x = false) := ⟨by
        rw [HNEW.out]
        by_cases h1 : 0 ≤ (j : Int) - (sx : Int)
        ·
         rw [decide_eq_false (show ¬ (j : Int) - (sx : Int) < (cnt : Int) by omega)]; simp
        ·
         rw [decide_eq_false h1]; rfl⟩
       have HBN : Aside0 (Below wq.heap.size wq (wr.alloc (.cells #[.bool z0, .int .i64 (sx : Int), .slice A7 dl c7] 57))) := ⟨HBm.out.trans (HBL7.out.mono HBm.out.size)⟩
       have hrn : Aside0 ((b || (cache.take (m + 1)).any (newB U j)) = is0) := ⟨by rw [HANY.out, hnf.out, Bool.or_false]⟩
       by_cases h1 : sx ≤ j
       ·
        obtain ⟨p, hp⟩ : ∃ p, j = sx + p := ⟨j - sx, by omega⟩
        have hsub : (j : Int) - (sx : Int) = (p : Int) := by omega
        have hd1 : decide ((p : Int) ≥ 0) = true := decide_eq_true (by omega)
        have hd2 : decide ((p : Int) < (dl : Int) / 48) = false := decide_eq_false (by omega)
        have HIN := Aside0.mk hin
        clear hin hp hq48
        go_wp2_with fail
        exact ⟨⟨m + 1, by omega, by go_num, by rw [hrn.out], HBN⟩, by simp [intOf]; omega⟩
       ·
        have hd1 : decide ((j : Int) - (sx : Int) ≥ 0) = false := decide_eq_false (by omega)
        have HIN := Aside0.mk hin
        clear hin hq48
        go_wp2_with fail
        exact ⟨⟨m + 1, by omega, by go_num, by rw [hrn.out], HBN⟩, by simp [intOf]; omega⟩
     ·
      obtain rfl : m = n1 := by omega
      have hfin : (b || (cache.take m).any (newB U j)) = true := by
       rw [List.take_of_length_le (by rw [HN1.out]; exact Nat.le_refl _), ← HBB.out]
       exact HON2.out
      rw [hfin]
      clear hfin
      go_wp2_with fail
      exact ⟨⟨j + 1, by omega, by go_num, HBM⟩, by simp [intOf]; omega⟩
   ·
    obtain rfl : j = n0 := by omega
    clear hu hs
    go_wp2_with fail
    go_ret
    exact ⟨rfl, HBW.out⟩
theorem fanlightlaw05_DiskOldOrNew.calls (k : Nat) (A0_0 : Option Addr) (c0_0 : Nat) (l0_0 : List (List Int)) (A0_1 : Option Addr) (c0_1 : Nat) (l0_1 : List S57) (A1 : Option Addr) (c1 : Nat) (l1 : List Int) (r : Bool) (w : World)
  (hr0_0 : Kd.C (Kd.slice 5 (Kd.int .u8)) w A0_0 l0_0.length l0_0) (hc0_0 : l0_0.length ≤ c0_0) (hr0_1 : Kd.C k57 w A0_1 l0_1.length l0_1) (hc0_1 : l0_1.length ≤ c0_1) (hr1 : Kd.C (Kd.int .i64) w A1 l1.length l1) (hc1 : l1.length ≤ c1) (h : r = true ∧ fanlightlaw05_DiskOldOrNew.P k l0_0 l0_1 l1) :
  Calls Try.prog 10 #[.agg #[.slice A0_0 l0_0.length c0_0, .slice A0_1 l0_1.length c0_1], .slice A1 l1.length c1] w fun e w' => e = .returned (.bool r) ∧ Below w.heap.size w w' := by
 obtain ⟨rfl, hP⟩ := h
 exact oldornew1 k A0_0 c0_0 l0_0 A0_1 c0_1 l0_1 A1 c1 l1 w hr0_0 hc0_0 hr0_1 hc0_1 hr1 hc1 hP
end Go.Proofs.Ytkdaeleolomdkaa.D
