import Derived.Test.YtkdaeleolomdkaaYD0
import Derived.Test.YtkdaeleolomdkaaYD2
import Derived.Test.YtkdaeleolomdkaaYD5
import Derived.Test.YtkdaeleolomdkaaYD7
import Derived.Test.YtkdaeleolomdkaaYD8
import Derived.Test.YtkdaeleolomdkaaYD10
import Derived.Test.YtkdaeleolomdkaaYD11
namespace Go.Proofs.Ytkdaeleolomdkaa.D
open Go.RowKit Go.Proofs.YtkdaeleolomdkaaW.PrintWords Go.Proofs.YtkdaeleolomdkaaW.PrintLast Go.Proofs.YtkdaeleolomdkaaW.PrintMore
attribute [local go_sem] max2_int min2_int max_two min_two max_three min_three max_four min_four   -- for this text's walks alone
set_option linter.unusedVariables false
set_option linter.unusedSimpArgs false
def runL (secs : List (List Int)) (cache : List S57) : Nat → List S57 → List (List Int) × List S57 × Nat × Int
 | i, [] => (secs, cache, i, 0)
 | i, x :: xs => if (doF secs cache x).2.2 ≠ 0 then ((doF secs cache x).1, (doF secs cache x).2.1, i, (doF secs cache x).2.2) else runL (doF secs cache x).1 (doF secs cache x).2.1 (i + 1) xs
def runR (secs : List (List Int)) (cache : List S57) (l : List S57) : List (List Int) × List S57 × Nat × Int :=
 if okSb secs cache = true then runL secs cache 0 l else ([], [], 0, 9)
theorem doF_ok {secs : List (List Int)} {cache : List S57} {x : S57} (h : OkS secs cache) (he : (doF secs cache x).2.2 = 0) : OkS (doF secs cache x).1 (doF secs cache x).2.1 := by
 unfold doF at he ⊢
 by_cases h1 : x.f0 = true
 ·
  rw [if_pos h1] at he ⊢
  by_cases h2 : x.f1 ≠ 0 ∨ 0 < x.f2.length
  ·
   rw [if_pos h2] at he ⊢; cases he
  ·
   rw [if_neg h2]
   have hlen := settleL_len (fun _ => 4096) cache 0 secs
   exact ⟨by rw [hlen]; exact h.s0, by rw [hlen]; exact h.sl, settleL_48 _ cache 0 secs h.s48 (fun y hy => (h.cok y hy).2.2.1), by simp, fun y hy => by cases hy⟩
 ·
  rw [if_neg h1] at he ⊢
  by_cases h2 : chkW secs.length x.f1 x.f2.length ≠ 0
  ·
   rw [if_pos h2] at he ⊢; exact absurd he h2
  ·
   rw [if_neg h2] at he ⊢
   by_cases h3 : cache.length = 4096
   ·
    rw [if_pos h3] at he; cases he
   ·
    rw [if_neg h3]
    refine ⟨h.s0, h.sl, h.s48, by have := h.cl; simp; omega, fun y hy => ?_⟩
    rcases List.mem_append.1 hy with hy | hy
    ·
     exact h.cok y hy
    ·
     rw [List.mem_singleton.1 hy]
     exact okW_of (Decidable.not_not.1 h2)
set_option maxRecDepth 100000 in
set_option maxHeartbeats 4000000 in
theorem Run_is (A0 : Option Addr) (c0 : Nat) (secs : List (List Int)) (A1 : Option Addr) (c1 : Nat) (cache : List S57) (Al : Option Addr) (cl : Nat) (l : List S57) (w : World)
  (hr0 : Kd.C (Kd.slice 5 (Kd.int .u8)) w A0 secs.length secs) (hc0 : secs.length ≤ c0) (hr1 : Kd.C k57 w A1 cache.length cache) (hc1 : cache.length ≤ c1) (hrl : Kd.C k57 w Al l.length l)
  (hl : ∀ y ∈ cache, y.f2.length < 140737488355328) (hll : ∀ y ∈ l, y.f2.length < 140737488355328) :
  Calls Try.prog 38 #[.agg #[.slice A0 secs.length c0, .slice A1 cache.length c1], .slice Al l.length cl] w fun e w' => ∃ v0 v1 : Value, e = .returned (.tuple #[.agg #[v0, v1], .int .i64 ((runR secs cache l).2.2.1 : Int), .int .i64 (runR secs cache l).2.2.2]) ∧ DVal w' w.heap.size v0 v1 (runR secs cache l).1 (runR secs cache l).2.1 ∧ Below w.heap.size w w' := by
 have hlm := Kd.C_max hrl
 obtain ⟨W1, hW1⟩ : ∃ W, (w.alloc (.cells #[.slice A0 secs.length c0, .slice A1 cache.length c1] 58)).alloc (.cells #[.slice none 0 0, .slice none 0 0] 58) = W := ⟨_, rfl⟩
 have hb1 : Below w.heap.size w W1 := by rw [← hW1]; exact below_alloc (below_alloc (Below.refl _ _) _) _
 have hsz : W1.heap.size = w.heap.size + 2 := by rw [← hW1]; simp
 have b0 : W1.heap[w.heap.size]? = some (.cells #[.slice A0 secs.length c0, .slice A1 cache.length c1] 58 (0, 0)) := by rw [← hW1]; exact blk_alloc (blk_new rfl) _
 have b1 : W1.heap[w.heap.size + 1]? = some (.cells #[.slice none 0 0, .slice none 0 0] 58 (0, 0)) := by rw [← hW1]; exact blk_new (by simp)
 have HCK := Aside0.mk (disk_Check.calls 1 A0 c0 secs A1 c1 cache _ W1 (Kd.C_below hr0 hb1) hc0 (Kd.C_below hr1 hb1) hc1 (check_is 0 secs cache (fun y hy => Nat.le_of_lt (hl y hy))))
 have HCL := Aside0.mk (fun (W : World) (hW : Below w.heap.size w W) (hS : okSb secs cache = true) => diskclone1 A0 c0 secs A1 c1 cache W (Kd.C_below hr0 hW) (Kd.C_below hr1 hW) (by have := (okS_of hS).sl; omega) (by have := (okS_of hS).cl; omega) (fun s hs => by have := (okS_of hS).s48 s hs; omega) (fun y hy => hl y hy))
 have HRL := Aside0.mk hrl
 have HLL := Aside0.mk hll
 have HB1 := Aside0.mk hb1
 have HX0 := Aside0.mk b0
 have HX1 := Aside0.mk b1
 have HSZ := Aside0.mk hsz
 have hdo : runR secs cache l = runR secs cache l := rfl
 conv at hdo => rhs; unfold runR
 obtain ⟨R, hR⟩ : ∃ R, runR secs cache l = R := ⟨_, rfl⟩
 rw [hR] at hdo ⊢
 obtain ⟨n0, hn0⟩ : ∃ n, secs.length = n := ⟨_, rfl⟩
 obtain ⟨n1, hn1⟩ : ∃ n, cache.length = n := ⟨_, rfl⟩
 obtain ⟨nl, hnl⟩ : ∃ m, l.length = m := ⟨_, rfl⟩
 rw [hn0, hn1] at HCK HCL HX0
 rw [hnl] at hlm
 rw [hn0, hn1] at hW1
 rw [hn0, hn1, hnl]
 have y0 : W1.cell? ⟨w.heap.size, 0, none⟩ = some (.slice A0 n0 c0) := blk_cell HX0.out 0
 have y1 : W1.cell? ⟨w.heap.size, 1, none⟩ = some (.slice A1 n1 c1) := blk_cell HX0.out 1
 have HN0 := Lib.hid hn0
 have HN1 := Lib.hid hn1
 have HNL := Lib.hid hnl
 clear hr0 hc0 hr1 hc1 hrl hl hll hb1 hsz b0 b1 hR hn0 hn1 hnl
 go_enter Try.func38, Try.ntmps38
 cases hok : okSb secs cache with
 | false =>
  rw [hok] at HCK hdo
  rw [if_neg (show ¬ (false = true) by decide)] at HCK hdo
  have HR := Lib.hid hdo
  clear hdo hok HCL
  go_wp2_with fail
  refine HCK.out.mono ?_
  rintro e W2 ⟨rfl, hb2⟩
  have hx2 := blk_below HX1.out hb2
  have u0 : W2.cell? ⟨w.heap.size + 1, 0, none⟩ = some (.slice none 0 0) := blk_cell hx2 0
  have u1 : W2.cell? ⟨w.heap.size + 1, 1, none⟩ = some (.slice none 0 0) := blk_cell hx2 1
  have uf : ∀ i, W2.frozen? ⟨w.heap.size + 1, i, none⟩ = false := fun i => blk_frozen hx2 i
  have HXR := Aside0.mk (blk_put (cs' := #[.slice none 0 0, .slice none 0 0]) (blk_put (cs' := #[.slice none 0 0, .slice none 0 0]) hx2 0 (.slice none 0 0) rfl) 1 (.slice none 0 0) rfl)
  have HBF := Aside0.mk (((HB1.out.trans (hb2.mono HB1.out.size)).setCell (p := ⟨w.heap.size + 1, 0, none⟩) (by dsimp only; omega) (.slice none 0 0)).setCell (p := ⟨w.heap.size + 1, 1, none⟩) (by dsimp only; omega) (.slice none 0 0))
  clear hb2 hx2 y0 y1
  go_wp2_with fail
  exact bodyPost_ret (results_ctt rfl _ _ (w.heap.size + 1) 58 #[.slice none 0 0, .slice none 0 0] (0, 0) _ rfl HXR.out Try.underlying58 rfl (by kernel_rfl)) rfl ⟨_, _, by rw [HR.out]; rfl, by rw [HR.out]; exact DVal_nil _ _, HBF.out⟩
 | true =>
  rw [hok] at HCK
  rw [if_pos hok] at hdo
  rw [if_pos rfl] at HCK
  have HOK := Aside0.mk hok
  have HR := Lib.hid hdo
  clear hdo hok
  go_wp2_with fail
  refine HCK.out.mono ?_
  rintro e W2 ⟨rfl, hb2⟩
  have HB2 := Aside0.mk (HB1.out.trans (hb2.mono HB1.out.size))
  have HX02 := Aside0.mk (blk_below HX0.out hb2)
  have HX12 := Aside0.mk (blk_below HX1.out hb2)
  have HS2 : Aside0 (w.heap.size + 2 ≤ W2.heap.size) := ⟨by have := HSZ.out; have := hb2.size; omega⟩
  clear hb2 y0 y1
  have y0 : W2.cell? ⟨w.heap.size, 0, none⟩ = some (.slice A0 n0 c0) := blk_cell HX02.out 0
  have y1 : W2.cell? ⟨w.heap.size, 1, none⟩ = some (.slice A1 n1 c1) := blk_cell HX02.out 1
  go_wp2_with fail
  refine (HCL.out W2 HB2.out HOK.out).mono ?_
  rintro e W3 ⟨v0, v1, P, rfl, hS0, hS1, hb3⟩
  have hS0 := Kd.S_lower hS0 HS2.out
  have hS1 := Kd.S_lower hS1 HS2.out
  obtain ⟨Av0, cv0, rfl⟩ := Kd.S_slice hS0
  obtain ⟨Av1, cv1, rfl⟩ := Kd.S_slice hS1
  have hx03 := blk_below HX02.out hb3
  have hx13 := blk_below HX12.out hb3
  have HD4 := Aside0.mk (DSt_put hS0 hS1 hx03)
  have HX14 := Aside0.mk (blk_far (blk_far hx13 (p := ⟨w.heap.size, 0, none⟩) (by dsimp only; omega) (.slice Av0 secs.length cv0)) (p := ⟨w.heap.size, 1, none⟩) (by dsimp only; omega) (.slice Av1 cache.length cv1))
  have HB4 := Aside0.mk (((HB2.out.trans (hb3.mono HB2.out.size)).setCell (p := ⟨w.heap.size, 0, none⟩) (Nat.le_refl _) (.slice Av0 secs.length cv0)).setCell (p := ⟨w.heap.size, 1, none⟩) (Nat.le_refl _) (.slice Av1 cache.length cv1))
  have HN4 : Aside0 (w.heap.size + 2 ≤ ((W3.setCell ⟨w.heap.size, 0, none⟩ (.slice Av0 secs.length cv0)).setCell ⟨w.heap.size, 1, none⟩ (.slice Av1 cache.length cv1)).heap.size) := ⟨by have := hb3.size; have := HS2.out; simp; omega⟩
  have u0 : W3.cell? ⟨w.heap.size, 0, none⟩ = some (.slice A0 n0 c0) := blk_cell hx03 0
  have u1 : W3.cell? ⟨w.heap.size, 1, none⟩ = some (.slice A1 n1 c1) := blk_cell hx03 1
  have uf : ∀ i, W3.frozen? ⟨w.heap.size, i, none⟩ = false := fun i => blk_frozen hx03 i
  clear hS0 hS1 hb3 hx03 hx13 y0 y1
  go_wp2_with fail
  obtain ⟨W4, hW4⟩ : ∃ W, (W3.setCell ⟨w.heap.size, 0, none⟩ (.slice Av0 secs.length cv0)).setCell ⟨w.heap.size, 1, none⟩ (.slice Av1 cache.length cv1) = W := ⟨_, rfl⟩
  rw [hW4] at HD4 HX14 HB4 HN4 ⊢
  have HO0 := Aside0.mk (okS_of HOK.out)
  clear hW4 u0 u1 uf
  go_loopw [21] (fun i wr => ∃ (j : Nat) (T : List (List Int)) (K : List S57), j ≤ nl ∧ i = .int .i64 j ∧ Aside0 (runL T K j (l.drop j) = R) ∧ Aside0 (OkS T K) ∧ Aside0 (DSt wr (w.heap.size + 2) w.heap.size T K) ∧ Aside0 (BB (w.heap.size + 2) w.heap.size W4 wr)) (fun i _ => nl - (intOf i).toNat)
  case atStart => exact ⟨0, secs, cache, by omega, rfl, ⟨by rw [List.drop_zero]; exact HR.out.symm⟩, HO0, HD4, ⟨BB.of_below (Below.refl _ _)⟩⟩
  case round =>
   clear HD4 HO0 HCL
   obtain ⟨j, T, K, hj, rfl, HRj, HOj, HDj, HBj⟩ := hrel
   have hbw : Below w.heap.size w wr := HB4.out.trans (HBj.out.below (by omega) (Nat.le_refl _))
   have HBW := Aside0.mk hbw
   have hx1j := (HBj.out.block (w.heap.size + 1) (by omega) (by omega)).trans HX14.out
   have HX1J := Aside0.mk hx1j
   by_cases hlt : j < nl
   ·
    have hjl : j < l.length := by have := HNL.out; omega
    obtain ⟨ad, A2, c2, e, hx0, hx1, hx2, hl2, hC2⟩ := at_T57 (Kd.C_below HRL.out hbw) (j : Int) (by omega) (by have := HNL.out; omega)
    subst e
    simp only [Int.toNat_natCast] at hx0 hx1 hx2
    have hrd : rd_T57 l (j : Int) = l[j] := by simp [rd_T57, hjl]
    have hlx := HLL.out l[j] (List.getElem_mem hjl)
    have hdrop : l.drop j = l[j] :: l.drop (j + 1) := List.drop_eq_getElem_cons hjl
    rw [hrd] at hx0 hx1 hx2 hl2 hC2
    have hrj := HRj.out
    rw [hdrop] at hrj
    obtain ⟨x, hx⟩ : ∃ x, l[j] = x := ⟨_, rfl⟩
    rw [hx] at hx0 hx1 hx2 hl2 hC2 hlx hrj
    rw [runL] at hrj
    have hbl := below_alloc (Below.refl wr.heap.size wr) (.cells #[.bool x.f0, .int .i64 x.f1, .slice A2 x.f2.length c2] 57)
    have hdst : DSt (wr.alloc (.cells #[.bool x.f0, .int .i64 x.f1, .slice A2 x.f2.length c2] 57)) (w.heap.size + 2) w.heap.size T K := by
     obtain ⟨q0, q1, P, hg, hP, h0, h1⟩ := HDj.out
     exact ⟨q0, q1, P, blk_alloc hg _, hP, Kd.S_alloc h0 _, Kd.S_alloc h1 _⟩
    have hwr2 : w.heap.size + 2 ≤ wr.heap.size := by have := HBj.out.size; have := HN4.out; omega
    have hdo := do_is w.heap.size T K x A2 c2 (w.heap.size + 2) (wr.alloc (.cells #[.bool x.f0, .int .i64 x.f1, .slice A2 x.f2.length c2] 57)) (by have := hbl.size; omega) hdst HOj.out (Kd.C_below hC2 hbl) hl2 hlx
    have hok2 := fun he => doF_ok (x := x) HOj.out he
    obtain ⟨m, hm⟩ : ∃ m, x.f2.length = m := ⟨_, rfl⟩
    obtain ⟨z0, hz0⟩ : ∃ z, x.f0 = z := ⟨_, rfl⟩
    obtain ⟨z1, hz1⟩ : ∃ z, x.f1 = z := ⟨_, rfl⟩
    rw [hm] at hx2
    rw [hz0] at hx0
    rw [hz1] at hx1
    rw [hm, hz0, hz1] at hdo hbl
    obtain ⟨D, hD⟩ : ∃ D, doF T K x = D := ⟨_, rfl⟩
    rw [hD] at hdo hrj hok2
    obtain ⟨d0, d1, d2⟩ := D
    dsimp only at hdo hrj hok2
    have HDO := Aside0.mk hdo
    have HRJ := Aside0.mk hrj
    have HOK2 := Aside0.mk hok2
    have HBL := Aside0.mk hbl
    clear hbw hx1j hrd hlx hdrop hx hl2 hC2 hdst hdo hrj hok2 hm hz0 hz1 hD hbl HDj HRj HOj
    go_wp2_with fail
    refine HDO.out.mono ?_
    rintro e W5 ⟨rfl, hD5, hb5⟩
    have HB5 := Aside0.mk (HBj.out.trans ((BB.of_below (HBL.out.mono hwr2)).trans hb5))
    have HD5 := Aside0.mk hD5
    have HBW5 : Aside0 (Below w.heap.size w W5) := ⟨HB4.out.trans (HB5.out.below (by omega) (Nat.le_refl _))⟩
    have hx5 := (HB5.out.block (w.heap.size + 1) (by omega) (by omega)).trans HX14.out
    have HX5 := Aside0.mk hx5
    clear hD5 hb5 hx0 hx1 hx2 HX1J HBW
    by_cases hd : d2 = 0
    ·
     subst hd
     have HRN : Aside0 (runL d0 d1 (j + 1) (l.drop (j + 1)) = R) := ⟨by have := HRJ.out; rw [if_neg (by omega)] at this; exact this⟩
     have HON := Aside0.mk (HOK2.out rfl)
     clear hx5
     go_wp2_with fail
     exact ⟨⟨j + 1, d0, d1, by omega, by go_num, HRN, HON, HD5, HB5⟩, by simp [intOf]; omega⟩
    ·
     have HR2 : Aside0 (R = (d0, d1, j, d2)) := ⟨by have := HRJ.out; rw [if_pos hd] at this; exact this.symm⟩
     have hd1 : (d2 != 0) = true := bne_iff_ne.mpr hd
     obtain ⟨w0, w1, hg5, hv5⟩ := DSt_val HD5.out
     obtain ⟨B0, b0, B1, b1, rfl, rfl⟩ := DVal_slice hv5
     obtain ⟨P5, hP5⟩ := hv5
     have hv5 : DVal W5 w.heap.size (.slice B0 d0.length b0) (.slice B1 d1.length b1) d0 d1 := ⟨P5, Kd.S_lower hP5.1 (by omega), Kd.S_lower hP5.2 (by omega)⟩
     have HV := Aside0.mk (DVal_set hv5 HX5.out (.slice B0 d0.length b0) (.slice B1 d1.length b1))
     have HXF := Aside0.mk (blk_put (cs' := #[.slice B0 d0.length b0, .slice B1 d1.length b1]) (blk_put (cs' := #[.slice B0 d0.length b0, .slice none 0 0]) HX5.out 0 (.slice B0 d0.length b0) rfl) 1 (.slice B1 d1.length b1) rfl)
     have HBF := Aside0.mk ((HBW5.out.setCell (p := ⟨w.heap.size + 1, 0, none⟩) (by dsimp only; omega) (.slice B0 d0.length b0)).setCell (p := ⟨w.heap.size + 1, 1, none⟩) (by dsimp only; omega) (.slice B1 d1.length b1))
     have r0 : W5.cell? ⟨w.heap.size, 0, none⟩ = some (.slice B0 d0.length b0) := blk_cell hg5 0
     have r1 : W5.cell? ⟨w.heap.size, 1, none⟩ = some (.slice B1 d1.length b1) := blk_cell hg5 1
     have u0 : W5.cell? ⟨w.heap.size + 1, 0, none⟩ = some (.slice none 0 0) := blk_cell hx5 0
     have u1 : W5.cell? ⟨w.heap.size + 1, 1, none⟩ = some (.slice none 0 0) := blk_cell hx5 1
     have uf : ∀ i, W5.frozen? ⟨w.heap.size + 1, i, none⟩ = false := fun i => blk_frozen hx5 i
     clear hg5 hv5 hP5 hx5
     go_wp2_with fail
     exact bodyPost_ret (results_ctt rfl _ _ (w.heap.size + 1) 58 #[.slice B0 d0.length b0, .slice B1 d1.length b1] (0, 0) _ rfl HXF.out Try.underlying58 rfl (by kernel_rfl)) rfl ⟨_, _, by rw [HR2.out]; rfl, by rw [HR2.out]; exact HV.out, HBF.out⟩
   ·
    obtain rfl : j = nl := by omega
    have HR2 : Aside0 (R = (T, K, j, 0)) := ⟨by
     have := HRj.out
     rw [List.drop_of_length_le (by rw [HNL.out]; exact Nat.le_refl _)] at this
     exact this.symm⟩
    obtain ⟨w0, w1, hg5, hv5⟩ := DSt_val HDj.out
    obtain ⟨B0, b0, B1, b1, rfl, rfl⟩ := DVal_slice hv5
    obtain ⟨P5, hP5⟩ := hv5
    have hv5 : DVal wr w.heap.size (.slice B0 T.length b0) (.slice B1 K.length b1) T K := ⟨P5, Kd.S_lower hP5.1 (by omega), Kd.S_lower hP5.2 (by omega)⟩
    have HV := Aside0.mk (DVal_set hv5 HX1J.out (.slice B0 T.length b0) (.slice B1 K.length b1))
    have HXF := Aside0.mk (blk_put (cs' := #[.slice B0 T.length b0, .slice B1 K.length b1]) (blk_put (cs' := #[.slice B0 T.length b0, .slice none 0 0]) HX1J.out 0 (.slice B0 T.length b0) rfl) 1 (.slice B1 K.length b1) rfl)
    have HBF := Aside0.mk ((HBW.out.setCell (p := ⟨w.heap.size + 1, 0, none⟩) (by dsimp only; omega) (.slice B0 T.length b0)).setCell (p := ⟨w.heap.size + 1, 1, none⟩) (by dsimp only; omega) (.slice B1 K.length b1))
    have r0 : wr.cell? ⟨w.heap.size, 0, none⟩ = some (.slice B0 T.length b0) := blk_cell hg5 0
    have r1 : wr.cell? ⟨w.heap.size, 1, none⟩ = some (.slice B1 K.length b1) := blk_cell hg5 1
    have u0 : wr.cell? ⟨w.heap.size + 1, 0, none⟩ = some (.slice none 0 0) := blk_cell HX1J.out 0
    have u1 : wr.cell? ⟨w.heap.size + 1, 1, none⟩ = some (.slice none 0 0) := blk_cell HX1J.out 1
    have uf : ∀ i, wr.frozen? ⟨w.heap.size + 1, i, none⟩ = false := fun i => blk_frozen HX1J.out i
    clear hg5 hv5 hP5 hx1j hbw
    go_wp2_with fail
    exact bodyPost_ret (results_ctt rfl _ _ (w.heap.size + 1) 58 #[.slice B0 T.length b0, .slice B1 K.length b1] (0, 0) _ rfl HXF.out Try.underlying58 rfl (by kernel_rfl)) rfl ⟨_, _, by rw [HR2.out]; rfl, by rw [HR2.out]; exact HV.out, HBF.out⟩
def disk_Run.f (l0_0 : List (List Int)) (l0_1 : List S57) (l1 : List S57) : Option (List (List Int) × List S57 × Int × Int) :=
 if (∀ y ∈ l0_1, y.f2.length < 140737488355328) ∧ (∀ y ∈ l1, y.f2.length < 140737488355328) then some ((runR l0_0 l0_1 l1).1, (runR l0_0 l0_1 l1).2.1, ((runR l0_0 l0_1 l1).2.2.1 : Int), (runR l0_0 l0_1 l1).2.2.2) else none
theorem disk_Run.calls (A0_0 : Option Addr) (c0_0 : Nat) (l0_0 : List (List Int)) (A0_1 : Option Addr) (c0_1 : Nat) (l0_1 : List S57) (A1 : Option Addr) (c1 : Nat) (l1 : List S57) (r1 : List (List Int)) (r2 : List S57) (r3 : Int) (r4 : Int) (w : World) (hr0_0 : Kd.C (Kd.slice 5 (Kd.int .u8)) w A0_0 l0_0.length l0_0) (hc0_0 : l0_0.length ≤ c0_0) (hr0_1 : Kd.C k57 w A0_1 l0_1.length l0_1) (hc0_1 : l0_1.length ≤ c0_1) (hr1 : Kd.C k57 w A1 l1.length l1) (hc1 : l1.length ≤ c1) (h : disk_Run.f l0_0 l0_1 l1 = some (r1, r2, r3, r4)) :
  Calls Try.prog 38 #[.agg #[.slice A0_0 l0_0.length c0_0, .slice A0_1 l0_1.length c0_1], .slice A1 l1.length c1] w fun e w' => ∃ v0_ v1_ : Value, e = .returned (.tuple #[.agg #[v0_, v1_], .int .i64 r3, .int .i64 r4]) ∧ Kd.S (Kd.slice 5 (Kd.int .u8)) 22 w' w.heap.size (fun _ => True) v0_ r1 ∧ Kd.S k57 57 w' w.heap.size (fun _ => True) v1_ r2 ∧ Below w.heap.size w w' := by
 unfold disk_Run.f at h
 split at h
 case isFalse => cases h
 rename_i hl
 injection h with h
 have e1 := congrArg Prod.fst h
 have e2 := congrArg (fun p => p.2.1) h
 have e3 := congrArg (fun p => p.2.2.1) h
 have e4 := congrArg (fun p => p.2.2.2) h
 dsimp only at e1 e2 e3 e4
 refine (Run_is A0_0 c0_0 l0_0 A0_1 c0_1 l0_1 A1 c1 l1 w hr0_0 hc0_0 hr0_1 hc0_1 hr1 hl.1 hl.2).mono ?_
 rw [e1, e2, e3, e4]
 rintro e w' ⟨v0, v1, rfl, ⟨P, h0, h1⟩, hb⟩
 exact ⟨v0, v1, rfl, Kd.S_mono h0 (fun _ _ => trivial), Kd.S_mono h1 (fun _ _ => trivial), hb⟩
end Go.Proofs.Ytkdaeleolomdkaa.D
