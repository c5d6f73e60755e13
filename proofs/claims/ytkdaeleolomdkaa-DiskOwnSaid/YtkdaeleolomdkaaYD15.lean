import Derived.Test.YtkdaeleolomdkaaYD0
import Derived.Test.YtkdaeleolomdkaaYD2
import Derived.Test.YtkdaeleolomdkaaYD5
import Derived.Test.YtkdaeleolomdkaaYD7
import Derived.Test.YtkdaeleolomdkaaYD8
import Derived.Test.YtkdaeleolomdkaaYD11
namespace Go.Proofs.Ytkdaeleolomdkaa.D
open Go.RowKit Go.Proofs.YtkdaeleolomdkaaW.PrintWords Go.Proofs.YtkdaeleolomdkaaW.PrintLast Go.Proofs.YtkdaeleolomdkaaW.PrintMore
attribute [local go_sem] max2_int min2_int max_two min_two max_three min_three max_four min_four   -- for this text's walks alone
set_option linter.unusedVariables false
set_option linter.unusedSimpArgs false
def keepF (ks : List Int) (i : Nat) : Int := if i < ks.length then ks.getD i 0 else 0
def crashR (secs : List (List Int)) (cache : List S57) (ks : List Int) : List (List Int) × List S57 × Int :=
 if okSb secs cache = true then (settleL (keepF ks) 0 cache secs, [], 0) else ([], [], 9)
set_option maxRecDepth 100000 in
theorem crash1_is (i : Nat) (hib : i ≤ 4096) (gb : Nat) (Ak : Option Addr) (ck : Nat) (ks : List Int) (W : World) (hb : W.heap[gb]? = some (.cells #[.slice Ak ks.length ck] 64 (0, 0))) (hr : Kd.C (Kd.int .i64) W Ak ks.length ks) :
  Calls Try.prog 60 (#[.int .i64 (i : Int)] ++ #[.pointer (some ⟨gb, 0, none⟩)]) W fun e w' => e = .returned (.int .i64 (keepF ks i)) ∧ w' = W := by
 have y0 : W.cell? ⟨gb, 0, none⟩ = some (.slice Ak ks.length ck) := blk_cell hb 0
 have hm := Kd.C_max hr
 by_cases hlt : i < ks.length
 ·
  obtain ⟨ad, rfl, hc⟩ := Kd.at_int hr (i : Int) (by omega) (by omega)
  rw [Int.toNat_natCast] at hc
  have hk : rd ks (i : Int) = keepF ks i := by unfold rd keepF; rw [if_pos hlt, Int.toNat_natCast]
  rw [hk] at hc
  obtain ⟨z, hz⟩ : ∃ z, keepF ks i = z := ⟨_, rfl⟩
  rw [hz] at hc ⊢
  obtain ⟨n, hn⟩ : ∃ n, ks.length = n := ⟨_, rfl⟩
  rw [hn] at y0 hlt hm
  have hd : decide ((i : Int) < (n : Int)) = true := decide_eq_true (by omega)
  clear hr hb hk hz hn
  go_enter Try.func60, Try.ntmps60
  go_wp2
  go_ret
  exact ⟨rfl, rfl⟩
 ·
  have hk : keepF ks i = 0 := by unfold keepF; rw [if_neg hlt]
  rw [hk]
  obtain ⟨n, hn⟩ : ∃ n, ks.length = n := ⟨_, rfl⟩
  rw [hn] at y0 hlt hm
  have hd : decide ((i : Int) < (n : Int)) = false := decide_eq_false (by omega)
  clear hr hb hk hn
  go_enter Try.func60, Try.ntmps60
  go_wp2
  go_ret
  exact ⟨rfl, rfl⟩
set_option maxRecDepth 100000 in
set_option maxHeartbeats 4000000 in
theorem Crash_is (A0 : Option Addr) (c0 : Nat) (secs : List (List Int)) (A1 : Option Addr) (c1 : Nat) (cache : List S57) (Ak : Option Addr) (ck : Nat) (ks : List Int) (w : World)
  (hr0 : Kd.C (Kd.slice 5 (Kd.int .u8)) w A0 secs.length secs) (hc0 : secs.length ≤ c0) (hr1 : Kd.C k57 w A1 cache.length cache) (hc1 : cache.length ≤ c1) (hrk : Kd.F (Kd.int .i64) w (fun k => k < w.heap.size) Ak ks.length ks)
  (hl : ∀ y ∈ cache, y.f2.length < 140737488355328) (hks : ∀ z ∈ ks, -9223372036854775808 ≤ z ∧ z ≤ 9223372036854775807) :
  Calls Try.prog 35 #[.agg #[.slice A0 secs.length c0, .slice A1 cache.length c1], .slice Ak ks.length ck] w fun e w' => ∃ v0 v1 : Value, e = .returned (.tuple #[.agg #[v0, v1], .int .i64 (crashR secs cache ks).2.2]) ∧ DVal w' w.heap.size v0 v1 (crashR secs cache ks).1 (crashR secs cache ks).2.1 ∧ Below w.heap.size w w' := by
 obtain ⟨W1, hW1⟩ : ∃ W, ((w.alloc (.cells #[.slice A0 secs.length c0, .slice A1 cache.length c1] 58)).alloc (.cells #[.slice Ak ks.length ck] 64)).alloc (.cells #[.slice none 0 0, .slice none 0 0] 58) = W := ⟨_, rfl⟩
 have hb1 : Below w.heap.size w W1 := by rw [← hW1]; exact below_alloc (below_alloc (below_alloc (Below.refl _ _) _) _) _
 have hsz : W1.heap.size = w.heap.size + 3 := by rw [← hW1]; simp
 have b0 : W1.heap[w.heap.size]? = some (.cells #[.slice A0 secs.length c0, .slice A1 cache.length c1] 58 (0, 0)) := by rw [← hW1]; exact blk_alloc (blk_alloc (blk_new rfl) _) _
 have b1 : W1.heap[w.heap.size + 1]? = some (.cells #[.slice Ak ks.length ck] 64 (0, 0)) := by rw [← hW1]; exact blk_alloc (blk_new (by simp)) _
 have b2 : W1.heap[w.heap.size + 1 + 1]? = some (.cells #[.slice none 0 0, .slice none 0 0] 58 (0, 0)) := by rw [← hW1]; exact blk_new (by simp)
 have HCK := Aside0.mk (disk_Check.calls 1 A0 c0 secs A1 c1 cache _ W1 (Kd.C_below hr0 hb1) hc0 (Kd.C_below hr1 hb1) hc1 (check_is 0 secs cache (fun y hy => Nat.le_of_lt (hl y hy))))
 have HCL := Aside0.mk (fun (W : World) (hW : Below w.heap.size w W) (hS : okSb secs cache = true) => diskclone1 A0 c0 secs A1 c1 cache W (Kd.C_below hr0 hW) (Kd.C_below hr1 hW) (by have := (okS_of hS).sl; omega) (by have := (okS_of hS).cl; omega) (fun s hs => by have := (okS_of hS).s48 s hs; omega) (fun y hy => hl y hy))
 have HKF : Aside0 (∀ i, -9223372036854775808 ≤ keepF ks i ∧ keepF ks i ≤ 9223372036854775807) := ⟨fun i => by
  unfold keepF
  split
  ·
   rename_i h
   rw [List.getD_eq_getElem?_getD, List.getElem?_eq_getElem h]
   exact hks _ (List.getElem_mem h)
  ·
   omega⟩
 have HRK := Aside0.mk hrk
 have HB1 := Aside0.mk hb1
 have HX0 := Aside0.mk b0
 have HX1 := Aside0.mk b1
 have HX2 := Aside0.mk b2
 have HSZ := Aside0.mk hsz
 have hdo : crashR secs cache ks = crashR secs cache ks := rfl
 conv at hdo => rhs; unfold crashR
 obtain ⟨R, hR⟩ : ∃ R, crashR secs cache ks = R := ⟨_, rfl⟩
 rw [hR] at hdo ⊢
 obtain ⟨n0, hn0⟩ : ∃ n, secs.length = n := ⟨_, rfl⟩
 obtain ⟨n1, hn1⟩ : ∃ n, cache.length = n := ⟨_, rfl⟩
 obtain ⟨nk, hnk⟩ : ∃ m, ks.length = m := ⟨_, rfl⟩
 rw [hn0, hn1] at HCK HCL HX0
 rw [hn0, hn1, hnk] at hW1 ⊢
 have y0 : W1.cell? ⟨w.heap.size, 0, none⟩ = some (.slice A0 n0 c0) := blk_cell HX0.out 0
 have y1 : W1.cell? ⟨w.heap.size, 1, none⟩ = some (.slice A1 n1 c1) := blk_cell HX0.out 1
 have HN0 := Lib.hid hn0
 have HN1 := Lib.hid hn1
 clear hr0 hc0 hr1 hc1 hrk hl hks hb1 hsz b0 b1 b2 hR hn0 hn1 hnk
 go_enter Try.func35, Try.ntmps35
 cases hok : okSb secs cache with
 | false =>
  rw [hok] at HCK hdo
  rw [if_neg (show ¬ (false = true) by decide)] at HCK hdo
  have HR := Lib.hid hdo
  clear hdo hok HCL
  go_wp2_with fail
  refine HCK.out.mono ?_
  rintro e W2 ⟨rfl, hb2⟩
  have hx2 := blk_below HX2.out hb2
  have u0 : W2.cell? ⟨w.heap.size + 1 + 1, 0, none⟩ = some (.slice none 0 0) := blk_cell hx2 0
  have u1 : W2.cell? ⟨w.heap.size + 1 + 1, 1, none⟩ = some (.slice none 0 0) := blk_cell hx2 1
  have uf : ∀ i, W2.frozen? ⟨w.heap.size + 1 + 1, i, none⟩ = false := fun i => blk_frozen hx2 i
  have HXR := Aside0.mk (blk_put (cs' := #[.slice none 0 0, .slice none 0 0]) (blk_put (cs' := #[.slice none 0 0, .slice none 0 0]) hx2 0 (.slice none 0 0) rfl) 1 (.slice none 0 0) rfl)
  have HBF := Aside0.mk (((HB1.out.trans (hb2.mono HB1.out.size)).setCell (p := ⟨w.heap.size + 1 + 1, 0, none⟩) (by dsimp only; omega) (.slice none 0 0)).setCell (p := ⟨w.heap.size + 1 + 1, 1, none⟩) (by dsimp only; omega) (.slice none 0 0))
  clear hb2 hx2 y0 y1
  go_wp2_with fail
  exact bodyPost_ret (results_ct rfl _ _ (w.heap.size + 1 + 1) 58 #[.slice none 0 0, .slice none 0 0] (0, 0) _ rfl HXR.out Try.underlying58 rfl (by kernel_rfl)) rfl ⟨_, _, by rw [HR.out]; rfl, by rw [HR.out]; exact DVal_nil _ _, HBF.out⟩
 | true =>
  rw [hok] at HCK
  rw [if_pos hok] at hdo
  rw [if_pos rfl] at HCK
  have HOK := Aside0.mk hok
  have HR := Lib.hid hdo
  clear hdo hok
  go_wp2_with fail
  refine HCK.out.mono ?_
  rintro e W2 ⟨rfl, hb2⟩
  have HB2 := Aside0.mk (HB1.out.trans (hb2.mono HB1.out.size))
  have HX02 := Aside0.mk (blk_below HX0.out hb2)
  have HX12 := Aside0.mk (blk_below HX1.out hb2)
  have HX22 := Aside0.mk (blk_below HX2.out hb2)
  have HS2 : Aside0 (w.heap.size + 3 ≤ W2.heap.size) := ⟨by have := HSZ.out; have := hb2.size; omega⟩
  clear hb2 y0 y1
  have y0 : W2.cell? ⟨w.heap.size, 0, none⟩ = some (.slice A0 n0 c0) := blk_cell HX02.out 0
  have y1 : W2.cell? ⟨w.heap.size, 1, none⟩ = some (.slice A1 n1 c1) := blk_cell HX02.out 1
  go_wp2_with fail
  refine (HCL.out W2 HB2.out HOK.out).mono ?_
  rintro e W3 ⟨v0, v1, P, rfl, hS0, hS1, hb3⟩
  have hS0 := Kd.S_lower hS0 HS2.out
  have hS1 := Kd.S_lower hS1 HS2.out
  obtain ⟨Av0, cv0, rfl⟩ := Kd.S_slice hS0
  obtain ⟨Av1, cv1, rfl⟩ := Kd.S_slice hS1
  have hx03 := blk_below HX02.out hb3
  have hx13 := blk_below HX12.out hb3
  have hx23 := blk_below HX22.out hb3
  have HD4 := Aside0.mk (DSt_put hS0 hS1 hx03)
  have HX14 := Aside0.mk (blk_far (blk_far hx13 (p := ⟨w.heap.size, 0, none⟩) (by dsimp only; omega) (.slice Av0 secs.length cv0)) (p := ⟨w.heap.size, 1, none⟩) (by dsimp only; omega) (.slice Av1 cache.length cv1))
  have HX24 := Aside0.mk (blk_far (blk_far hx23 (p := ⟨w.heap.size, 0, none⟩) (by dsimp only; omega) (.slice Av0 secs.length cv0)) (p := ⟨w.heap.size, 1, none⟩) (by dsimp only; omega) (.slice Av1 cache.length cv1))
  have HB4 := Aside0.mk (((HB2.out.trans (hb3.mono HB2.out.size)).setCell (p := ⟨w.heap.size, 0, none⟩) (Nat.le_refl _) (.slice Av0 secs.length cv0)).setCell (p := ⟨w.heap.size, 1, none⟩) (Nat.le_refl _) (.slice Av1 cache.length cv1))
  have HN4 : Aside0 (w.heap.size + 3 ≤ ((W3.setCell ⟨w.heap.size, 0, none⟩ (.slice Av0 secs.length cv0)).setCell ⟨w.heap.size, 1, none⟩ (.slice Av1 cache.length cv1)).heap.size) := ⟨by have := hb3.size; have := HS2.out; simp; omega⟩
  have u0 : W3.cell? ⟨w.heap.size, 0, none⟩ = some (.slice A0 n0 c0) := blk_cell hx03 0
  have u1 : W3.cell? ⟨w.heap.size, 1, none⟩ = some (.slice A1 n1 c1) := blk_cell hx03 1
  have uf : ∀ i, W3.frozen? ⟨w.heap.size, i, none⟩ = false := fun i => blk_frozen hx03 i
  clear hS0 hS1 hb3 hx03 hx13 hx23 y0 y1
  go_wp2_with fail
  obtain ⟨W4, hW4⟩ : ∃ W, (W3.setCell ⟨w.heap.size, 0, none⟩ (.slice Av0 secs.length cv0)).setCell ⟨w.heap.size, 1, none⟩ (.slice Av1 cache.length cv1) = W := ⟨_, rfl⟩
  rw [hW4] at HD4 HX14 HX24 HB4 HN4 ⊢
  obtain ⟨q0, q1, P4, hg4, hPg4, hS04, hS14⟩ := HD4.out
  obtain ⟨B0, b0, rfl⟩ := Kd.S_slice hS04
  obtain ⟨B1, b1, rfl⟩ := Kd.S_slice hS14
  obtain ⟨P5, hP5⟩ : ∃ P : Nat → Prop, P = fun k => P4 k ∧ w.heap.size + 3 ≤ k := ⟨_, rfl⟩
  have hPl : ∀ k, P5 k → w.heap.size + 3 ≤ k := fun k hk => by rw [hP5] at hk; exact hk.2
  have hS05 := Kd.S_mono (Kd.S_bound hS04) (ok' := P5) (fun k hk => by rw [hP5]; exact ⟨hk.1, hk.2.1⟩)
  have hS15 := Kd.S_mono hS14 (ok' := fun k => ¬ P5 k) (fun k hk h => by rw [hP5] at h; exact hk h.1)
  have hO := okS_of HOK.out
  have hRK4 := Kd.F_below HRK.out HB4.out
  refine (settle_is w.heap.size (.slice B0 secs.length b0) secs B1 b1 cache 60 #[.pointer (some ⟨w.heap.size + 1, 0, none⟩)] (keepF ks) P5 (w.heap.size + 3) W4 HN4.out hg4 (fun h => by have := hPl _ h; omega) hS05 (Kd.R_F (Kd.S_R hS15)) hO.s0 hO.sl hO.s48 hO.cl hO.cok (enters_of Try.func60 (by kernel_rfl) rfl) HKF.out (fun i W hi hK => crash1_is i (by have := hO.cl; omega) (w.heap.size + 1) Ak ck ks W ((hK.2 _ (blk_lt HX14.out) (fun h => by have := hPl _ h; omega)).trans HX14.out) (Kd.F_now (Kd.F_kept hRK4 hK (fun k hk h => by have := hPl _ h; omega))))).mono ?_
  rintro e W5 ⟨⟨v, rfl⟩, hS5, hg5, hK5, hb5⟩
  have HB5 := Aside0.mk (HB4.out.trans (hb5.below (by omega) (Nat.le_refl _)))
  have hx5 := (hb5.block (w.heap.size + 1 + 1) (by omega) (by omega)).trans HX24.out
  have z0 : W5.cell? ⟨w.heap.size + 1 + 1, 0, none⟩ = some (.slice none 0 0) := blk_cell hx5 0
  have z1 : W5.cell? ⟨w.heap.size + 1 + 1, 1, none⟩ = some (.slice none 0 0) := blk_cell hx5 1
  have zf : ∀ i, W5.frozen? ⟨w.heap.size + 1 + 1, i, none⟩ = false := fun i => blk_frozen hx5 i
  have hv5 : DVal W5 w.heap.size (.slice B0 secs.length b0) (.slice none 0 0) (settleL (keepF ks) 0 cache secs) [] := ⟨P5, Kd.S_lower hS5 (by omega), Kd.S_nil _ _ _ _ _⟩
  have HV := Aside0.mk (DVal_set hv5 hx5 (.slice B0 secs.length b0) (.slice none 0 0))
  have HXF := Aside0.mk (blk_put (cs' := #[.slice B0 secs.length b0, .slice none 0 0]) (blk_put (cs' := #[.slice B0 secs.length b0, .slice none 0 0]) hx5 0 (.slice B0 secs.length b0) rfl) 1 (.slice none 0 0) rfl)
  have HBF := Aside0.mk ((HB5.out.setCell (p := ⟨w.heap.size + 1 + 1, 0, none⟩) (by dsimp only; omega) (.slice B0 secs.length b0)).setCell (p := ⟨w.heap.size + 1 + 1, 1, none⟩) (by dsimp only; omega) (.slice none 0 0))
  have r0 : W5.cell? ⟨w.heap.size, 0, none⟩ = some (.slice B0 secs.length b0) := blk_cell hg5 0
  have r1 : W5.cell? ⟨w.heap.size, 1, none⟩ = some (.slice none 0 0) := blk_cell hg5 1
  clear hS5 hg5 hK5 hb5 hx5 hv5 hS04 hS14 hS05 hS15 hP5 hPl hO hRK4 hg4 hPg4 hW4 u0 u1 uf
  go_wp2_with fail
  exact bodyPost_ret (results_ct rfl _ _ (w.heap.size + 1 + 1) 58 #[.slice B0 secs.length b0, .slice none 0 0] (0, 0) _ rfl HXF.out Try.underlying58 rfl (by kernel_rfl)) rfl ⟨_, _, by rw [HR.out]; rfl, by rw [HR.out]; exact HV.out, HBF.out⟩
def disk_Crash.f (l0_0 : List (List Int)) (l0_1 : List S57) (l1 : List Int) : Option (List (List Int) × List S57 × Int) :=
 if (∀ y ∈ l0_1, y.f2.length < 140737488355328) ∧ (∀ z ∈ l1, -9223372036854775808 ≤ z ∧ z ≤ 9223372036854775807) then some (crashR l0_0 l0_1 l1) else none
theorem disk_Crash.calls (A0_0 : Option Addr) (c0_0 : Nat) (l0_0 : List (List Int)) (A0_1 : Option Addr) (c0_1 : Nat) (l0_1 : List S57) (A1 : Option Addr) (c1 : Nat) (l1 : List Int) (r1 : List (List Int)) (r2 : List S57) (r3 : Int) (w : World) (hr0_0 : Kd.C (Kd.slice 5 (Kd.int .u8)) w A0_0 l0_0.length l0_0) (hc0_0 : l0_0.length ≤ c0_0) (hr0_1 : Kd.C k57 w A0_1 l0_1.length l0_1) (hc0_1 : l0_1.length ≤ c0_1) (hr1 : Kd.C (Kd.int .i64) w A1 l1.length l1) (hc1 : l1.length ≤ c1) (h : disk_Crash.f l0_0 l0_1 l1 = some (r1, r2, r3)) :
  Calls Try.prog 35 #[.agg #[.slice A0_0 l0_0.length c0_0, .slice A0_1 l0_1.length c0_1], .slice A1 l1.length c1] w fun e w' => ∃ v0_ v1_ : Value, e = .returned (.tuple #[.agg #[v0_, v1_], .int .i64 r3]) ∧ Kd.S (Kd.slice 5 (Kd.int .u8)) 22 w' w.heap.size (fun _ => True) v0_ r1 ∧ Kd.S k57 57 w' w.heap.size (fun _ => True) v1_ r2 ∧ Below w.heap.size w w' := by
 unfold disk_Crash.f at h
 split at h
 case isFalse => cases h
 rename_i hl
 injection h with h
 refine (Crash_is A0_0 c0_0 l0_0 A0_1 c0_1 l0_1 A1 c1 l1 w hr0_0 hc0_0 hr0_1 hc0_1 (Kd.C_F (Kd.heap_int .i64) hr1) hl.1 hl.2).mono ?_
 rw [h]
 rintro e w' ⟨v0, v1, rfl, ⟨P, h0, h1⟩, hb⟩
 exact ⟨v0, v1, rfl, Kd.S_mono h0 (fun _ _ => trivial), Kd.S_mono h1 (fun _ _ => trivial), hb⟩
end Go.Proofs.Ytkdaeleolomdkaa.D
