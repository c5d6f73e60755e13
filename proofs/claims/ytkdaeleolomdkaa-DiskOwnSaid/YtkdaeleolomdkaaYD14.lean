import Derived.Test.YtkdaeleolomdkaaYD0
import Derived.Test.YtkdaeleolomdkaaYD2
import Derived.Test.YtkdaeleolomdkaaYD5
import Derived.Test.YtkdaeleolomdkaaYD7
import Derived.Test.YtkdaeleolomdkaaYD8
import Derived.Test.YtkdaeleolomdkaaYD11
import Derived.Test.YtkdaeleolomdkaaYD13
namespace Go.Proofs.Ytkdaeleolomdkaa.D
open Go.RowKit Go.Proofs.YtkdaeleolomdkaaW.PrintWords Go.Proofs.YtkdaeleolomdkaaW.PrintLast Go.Proofs.YtkdaeleolomdkaaW.PrintMore
attribute [local go_sem] max2_int min2_int max_two min_two max_three min_three max_four min_four   -- for this text's walks alone
set_option linter.unusedVariables false
set_option linter.unusedSimpArgs false
def readR (secs : List (List Int)) (cache : List S57) (sec n : Int) : List Int × Int :=
 if okSb secs cache = true then (if sec < 0 ∨ n < 0 ∨ (secs.length : Int) < sec ∨ (secs.length : Int) - sec < n then ([], 4) else ((((settleL (fun _ => 4096) 0 cache secs).drop sec.toNat).take n.toNat).flatten, 0)) else ([], 9)
theorem read1_const (i : Int) (w : World) : Calls Try.prog 58 #[.int .i64 i] w fun e w' => e = .returned (.int .i64 4096) ∧ w' = w := by
 go_enter Try.func58, Try.ntmps58
 go_wp2
 go_ret
 exact ⟨rfl, rfl⟩
theorem cut_lh {P : Program} (t e : TypeId) {i : TypeInfo} (ht : P.underlying t = some (.slice e)) (hi : P.info? e = some i) (size : Nat) (hsz : i.size = size) (A : Option Addr) (n c : Nat) (l h : Int) (h0 : 0 ≤ l) (h1 : l ≤ h) (h2 : h ≤ (c : Int)) :
  ∀ W : World, (Instr.slice t (.slice A n c) (some (.int .i64 l)) (some (.int .i64 h)) none).run P W = .ok (.slice (if c = l.toNat then A else A.map (·.add (l.toNat * size))) (h.toNat - l.toNat) (c - l.toNat)) W := by
 intro W
 have hel : P.elem t = e := by simp [Program.elem, ht]
 have hu : P.underlying t = some (.slice (P.elem t)) := by rw [hel]; exact ht
 rw [run_slice_lh W t A n c hu .i64 .i64 l h h0 h1 h2, hel]
 simp [sizeOf, typeInfo, hi, hsz, sliced, Result.andThen]
theorem flatten_48 : ∀ l : List (List Int), (∀ s ∈ l, s.length = 48) → l.flatten.length = 48 * l.length
 | [], _ => rfl
 | x :: xs, h => by
  rw [List.flatten_cons, List.length_append, flatten_48 xs (fun s hs => h s (by simp [hs])), h x (by simp), List.length_cons]
  omega
set_option maxRecDepth 100000 in
set_option maxHeartbeats 4000000 in
theorem Read_is (A0 : Option Addr) (c0 : Nat) (secs : List (List Int)) (A1 : Option Addr) (c1 : Nat) (cache : List S57) (sec n : Int) (w : World)
  (hr0 : Kd.C (Kd.slice 5 (Kd.int .u8)) w A0 secs.length secs) (hc0 : secs.length ≤ c0) (hr1 : Kd.C k57 w A1 cache.length cache) (hc1 : cache.length ≤ c1)
  (hl : ∀ y ∈ cache, y.f2.length < 140737488355328) (hsb : -9223372036854775808 ≤ sec ∧ sec ≤ 9223372036854775807) (hnb : -9223372036854775808 ≤ n ∧ n ≤ 9223372036854775807) :
  Calls Try.prog 33 #[.agg #[.slice A0 secs.length c0, .slice A1 cache.length c1], .int .i64 sec, .int .i64 n] w fun e w' => ∃ v0 : Value, e = .returned (.tuple #[v0, .int .i64 (readR secs cache sec n).2]) ∧ Kd.R (Kd.int .u8) 5 w' w.heap.size (fun _ => True) v0 (readR secs cache sec n).1 ∧ Below w.heap.size w w' := by
 obtain ⟨W1, hW1⟩ : ∃ W, w.alloc (.cells #[.slice A0 secs.length c0, .slice A1 cache.length c1] 58) = W := ⟨_, rfl⟩
 have hb1 : Below w.heap.size w W1 := by rw [← hW1]; exact below_alloc (Below.refl _ _) _
 have hsz : W1.heap.size = w.heap.size + 1 := by rw [← hW1]; simp
 have b0 : W1.heap[w.heap.size]? = some (.cells #[.slice A0 secs.length c0, .slice A1 cache.length c1] 58 (0, 0)) := by rw [← hW1]; exact blk_new rfl
 have HCK := Aside0.mk (disk_Check.calls 1 A0 c0 secs A1 c1 cache _ W1 (Kd.C_below hr0 hb1) hc0 (Kd.C_below hr1 hb1) hc1 (check_is 0 secs cache (fun y hy => Nat.le_of_lt (hl y hy))))
 have HCL := Aside0.mk (fun (W : World) (hW : Below w.heap.size w W) (hS : okSb secs cache = true) => diskclone1 A0 c0 secs A1 c1 cache W (Kd.C_below hr0 hW) (Kd.C_below hr1 hW) (by have := (okS_of hS).sl; omega) (by have := (okS_of hS).cl; omega) (fun s hs => by have := (okS_of hS).s48 s hs; omega) (fun y hy => hl y hy))
 have HB1 := Aside0.mk hb1
 have HX0 := Aside0.mk b0
 have HSZ := Aside0.mk hsz
 have hdo : readR secs cache sec n = readR secs cache sec n := rfl
 conv at hdo => rhs; unfold readR
 obtain ⟨R, hR⟩ : ∃ R, readR secs cache sec n = R := ⟨_, rfl⟩
 rw [hR] at hdo ⊢
 obtain ⟨n0, hn0⟩ : ∃ n, secs.length = n := ⟨_, rfl⟩
 obtain ⟨n1, hn1⟩ : ∃ n, cache.length = n := ⟨_, rfl⟩
 rw [hn0, hn1] at HCK HCL HX0
 rw [hn0] at hdo
 rw [hn0, hn1] at hW1 ⊢
 have y0 : W1.cell? ⟨w.heap.size, 0, none⟩ = some (.slice A0 n0 c0) := blk_cell HX0.out 0
 have y1 : W1.cell? ⟨w.heap.size, 1, none⟩ = some (.slice A1 n1 c1) := blk_cell HX0.out 1
 have HN0 := Lib.hid hn0
 have HN1 := Lib.hid hn1
 clear hr0 hc0 hr1 hc1 hl hb1 hsz b0 hR hn0 hn1
 obtain ⟨hs1, hs2⟩ := hsb
 obtain ⟨hn1', hn2⟩ := hnb
 go_enter Try.func33, Try.ntmps33
 cases hok : okSb secs cache with
 | false =>
  rw [hok] at HCK hdo
  rw [if_neg (show ¬ (false = true) by decide)] at HCK hdo
  have HR := Lib.hid hdo
  clear hdo hok HCL
  go_wp2_with fail
  refine HCK.out.mono ?_
  rintro e W2 ⟨rfl, hb2⟩
  have HB2 := Aside0.mk (HB1.out.trans (hb2.mono HB1.out.size))
  clear hb2 y0 y1
  go_wp2_with fail
  go_ret2
  exact ⟨_, by rw [HR.out]; rfl, by rw [HR.out]; exact Kd.R_nil _ _ _ _ _, HB2.out⟩
 | true =>
  rw [hok] at HCK
  rw [if_pos hok] at hdo
  rw [if_pos rfl] at HCK
  have HOK := Aside0.mk hok
  have hO := okS_of hok
  have hn0b : n0 ≤ 4096 := by have := hO.sl; have := HN0.out; omega
  clear hok hO
  go_wp2_with fail
  refine HCK.out.mono ?_
  rintro e W2 ⟨rfl, hb2⟩
  have HB2 := Aside0.mk (HB1.out.trans (hb2.mono HB1.out.size))
  have HX02 := Aside0.mk (blk_below HX0.out hb2)
  have HS2 : Aside0 (w.heap.size + 1 ≤ W2.heap.size) := ⟨by have := HSZ.out; have := hb2.size; omega⟩
  clear hb2 y0 y1
  have y0 : W2.cell? ⟨w.heap.size, 0, none⟩ = some (.slice A0 n0 c0) := blk_cell HX02.out 0
  have y1 : W2.cell? ⟨w.heap.size, 1, none⟩ = some (.slice A1 n1 c1) := blk_cell HX02.out 1
  by_cases hbad : sec < 0 ∨ n < 0 ∨ (n0 : Int) < sec ∨ (n0 : Int) - sec < n
  ·
   rw [if_pos hbad] at hdo
   have HR := Lib.hid hdo
   clear hdo HCL
   by_cases h1 : n < sec
   ·
    by_cases h2 : n < 0
    ·
     clear hbad
     go_wp2_with fail
     go_ret2
     exact ⟨_, by rw [HR.out]; rfl, by rw [HR.out]; exact Kd.R_nil _ _ _ _ _, HB2.out⟩
    ·
     by_cases h3 : (n0 : Int) < sec
     ·
      have hd1 : decide (n < 0) = false := decide_eq_false h2
      have hd3 : decide (sec > (n0 : Int)) = true := decide_eq_true h3
      clear hbad
      go_wp2_with fail
      go_ret2
      exact ⟨_, by rw [HR.out]; rfl, by rw [HR.out]; exact Kd.R_nil _ _ _ _ _, HB2.out⟩
     ·
      have hd1 : decide (n < 0) = false := decide_eq_false h2
      have hd3 : decide (sec > (n0 : Int)) = false := decide_eq_false h3
      have h0 : 0 ≤ sec := by omega
      have hd4 : decide (n > (n0 : Int) - sec) = true := decide_eq_true (by omega)
      clear hbad
      go_wp2_with fail
      go_ret2
      exact ⟨_, by rw [HR.out]; rfl, by rw [HR.out]; exact Kd.R_nil _ _ _ _ _, HB2.out⟩
   ·
    by_cases h2 : sec < 0
    ·
     clear hbad
     go_wp2_with fail
     go_ret2
     exact ⟨_, by rw [HR.out]; rfl, by rw [HR.out]; exact Kd.R_nil _ _ _ _ _, HB2.out⟩
    ·
     by_cases h3 : (n0 : Int) < sec
     ·
      have hd1 : decide (sec < 0) = false := decide_eq_false h2
      have hd3 : decide (sec > (n0 : Int)) = true := decide_eq_true h3
      clear hbad
      go_wp2_with fail
      go_ret2
      exact ⟨_, by rw [HR.out]; rfl, by rw [HR.out]; exact Kd.R_nil _ _ _ _ _, HB2.out⟩
     ·
      have hd1 : decide (sec < 0) = false := decide_eq_false h2
      have hd3 : decide (sec > (n0 : Int)) = false := decide_eq_false h3
      have h0 : 0 ≤ sec := by omega
      have hd4 : decide (n > (n0 : Int) - sec) = true := decide_eq_true (by omega)
      clear hbad
      go_wp2_with fail
      go_ret2
      exact ⟨_, by rw [HR.out]; rfl, by rw [HR.out]; exact Kd.R_nil _ _ _ _ _, HB2.out⟩
  ·
   rw [if_neg hbad] at hdo
   have HR := Lib.hid hdo
   have h0 : 0 ≤ sec := by omega
   have h1 : 0 ≤ n := by omega
   have h2 : sec + n ≤ n0 := by omega
   have hd1 : decide (sec < 0) = false := decide_eq_false (by omega)
   have hd2 : decide (n < 0) = false := decide_eq_false (by omega)
   have hd3 : decide (sec > (n0 : Int)) = false := decide_eq_false (by omega)
   have hd4 : decide (n > (n0 : Int) - sec) = false := decide_eq_false (by omega)
   clear hdo hbad
   by_cases hm : n < sec
   all_goals
    go_wp2_with fail
    refine (HCL.out W2 HB2.out HOK.out).mono ?_
    rintro e W3 ⟨v0, v1, P, rfl, hS0, hS1, hb3⟩
    have hS0 := Kd.S_lower hS0 HS2.out
    have hS1 := Kd.S_lower hS1 HS2.out
    obtain ⟨Av0, cv0, rfl⟩ := Kd.S_slice hS0
    obtain ⟨Av1, cv1, rfl⟩ := Kd.S_slice hS1
    have hx03 := blk_below HX02.out hb3
    have HD4 := Aside0.mk (DSt_put hS0 hS1 hx03)
    have HB4 := Aside0.mk (((HB2.out.trans (hb3.mono HB2.out.size)).setCell (p := ⟨w.heap.size, 0, none⟩) (Nat.le_refl _) (.slice Av0 secs.length cv0)).setCell (p := ⟨w.heap.size, 1, none⟩) (Nat.le_refl _) (.slice Av1 cache.length cv1))
    have HN4 : Aside0 (w.heap.size + 1 ≤ ((W3.setCell ⟨w.heap.size, 0, none⟩ (.slice Av0 secs.length cv0)).setCell ⟨w.heap.size, 1, none⟩ (.slice Av1 cache.length cv1)).heap.size) := ⟨by have := hb3.size; have := HS2.out; simp; omega⟩
    have u0 : W3.cell? ⟨w.heap.size, 0, none⟩ = some (.slice A0 n0 c0) := blk_cell hx03 0
    have u1 : W3.cell? ⟨w.heap.size, 1, none⟩ = some (.slice A1 n1 c1) := blk_cell hx03 1
    have uf : ∀ i, W3.frozen? ⟨w.heap.size, i, none⟩ = false := fun i => blk_frozen hx03 i
    clear hS0 hS1 hb3 hx03 y0 y1
    go_wp2_with fail
    obtain ⟨W4, hW4⟩ : ∃ W, (W3.setCell ⟨w.heap.size, 0, none⟩ (.slice Av0 secs.length cv0)).setCell ⟨w.heap.size, 1, none⟩ (.slice Av1 cache.length cv1) = W := ⟨_, rfl⟩
    rw [hW4] at HD4 HB4 HN4 ⊢
    obtain ⟨q0, q1, P4, hg4, hPg4, hS04, hS14⟩ := HD4.out
    obtain ⟨B0, b0, rfl⟩ := Kd.S_slice hS04
    obtain ⟨B1, b1, rfl⟩ := Kd.S_slice hS14
    have hO := okS_of HOK.out
    refine (settle_is w.heap.size (.slice B0 secs.length b0) secs B1 b1 cache 58 #[] (fun _ => 4096) P4 (w.heap.size + 1) W4 HN4.out hg4 hPg4 hS04 (Kd.R_F (Kd.S_R hS14)) hO.s0 hO.sl hO.s48 hO.cl hO.cok (enters_of Try.func58 (by kernel_rfl) rfl) (fun _ => ⟨by omega, by omega⟩) (fun i W hi hK => read1_const i W)).mono ?_
    rintro e W5 ⟨⟨v, rfl⟩, hS5, hg5, hK5, hb5⟩
    have HB5 := Aside0.mk (HB4.out.trans (hb5.below (by omega) (Nat.le_refl _)))
    have hT48 := settleL_48 (fun _ => 4096) cache 0 secs hO.s48 (fun x hx => (hO.cok x hx).2.2.1)
    have hTl := settleL_len (fun _ => 4096) cache 0 secs
    obtain ⟨T, hT⟩ : ∃ T, settleL (fun _ => 4096) 0 cache secs = T := ⟨_, rfl⟩
    rw [hT] at hS5 hT48 hTl
    have hrd := Kd.S_reads' hS5
    rw [HN0.out] at hTl
    obtain ⟨i0, hi0, _, hsz0, _⟩ := info_parts info22
    have hsl : secs.length = n0 := HN0.out
    have hC := Kd.C_mid (c := b0) hrd.2.2 (lo := sec.toNat) (hi := (sec + n).toNat) (by omega) (by omega) (by rw [← hrd.1]; exact hrd.2.1)
    have hcut := cut_lh (P := Try.prog) 52 22 Try.underlying52 hi0 1 hsz0 B0 n0 b0 sec (sec + n) h0 (by omega) (by have := hrd.2.1; omega)
    obtain ⟨AX, hAX⟩ : ∃ A : Option Addr, (if b0 = sec.toNat then B0 else B0.map (·.add (sec.toNat * 1))) = A := ⟨_, rfl⟩
    rw [hAX] at hcut
    have hC : (Kd.slice 5 (Kd.int .u8)).C W5 AX ((T.take (sec + n).toNat).drop sec.toNat).length ((T.take (sec + n).toNat).drop sec.toNat) := by rw [← hAX]; exact hC
    have hll : ((T.take (sec + n).toNat).drop sec.toNat).length = (sec + n).toNat - sec.toNat := by rw [List.length_drop, List.length_take]; omega
    have hlT : (T.take (sec + n).toNat).drop sec.toNat = (T.drop sec.toNat).take n.toNat := by rw [List.drop_take]; congr 1; omega
    obtain ⟨Z, hZ⟩ : ∃ Z, (T.take (sec + n).toNat).drop sec.toNat = Z := ⟨_, rfl⟩
    rw [hZ] at hC hll hlT
    have hZ48 : ∀ s ∈ Z, s.length = 48 := fun s hs => by rw [← hZ] at hs; exact hT48 s (List.mem_of_mem_take (List.mem_of_mem_drop hs))
    have hfl := flatten_48 Z hZ48
    have HCAT := Aside0.mk (slices_Concat_byte_byte.calls AX (b0 - sec.toNat) Z Z.flatten W5 hC (by have := hrd.2.1; omega) (by unfold slices_Concat_byte_byte.f; rw [if_pos ⟨by omega, by omega⟩]))
    rw [← hll] at hcut
    have HRZ : Aside0 (R = (Z.flatten, 0)) := ⟨by rw [HR.out, hT, ← hlT]⟩
    have r0 : W5.cell? ⟨w.heap.size, 0, none⟩ = some (.slice B0 n0 b0) := by rw [← hsl]; exact blk_cell hg5 0
    have hw3 : IntKind.i64.wrap (sec + n) = sec + n := by rw [i64_w]; unfold wrap64; omega
    clear hS5 hg5 hK5 hb5 hS04 hS14 hO hg4 hPg4 hW4 u0 u1 uf hC hrd hZ48 hfl hll hlT hZ hT hT48 hTl hsl hAX hi0 hsz0
    go_wp2_with fail
    refine HCAT.out.mono ?_
    rintro e W6 ⟨v6, rfl, ho6, hb6⟩
    have HO6 := Aside0.mk (Kd.R_lower ho6 HB5.out.size)
    have HB6 := Aside0.mk (HB5.out.trans (hb6.mono HB5.out.size))
    clear ho6 hb6 r0 hcut
    go_wp2_with fail
    go_ret2
    exact ⟨_, by rw [HRZ.out]; rfl, by rw [HRZ.out]; exact HO6.out, HB6.out⟩
def disk_Read.f (l0_0 : List (List Int)) (l0_1 : List S57) (a1 : Int) (a2 : Int) : Option (List Int × Int) :=
 if (∀ y ∈ l0_1, y.f2.length < 140737488355328) ∧ (-9223372036854775808 ≤ a1 ∧ a1 ≤ 9223372036854775807) ∧ (-9223372036854775808 ≤ a2 ∧ a2 ≤ 9223372036854775807) then some (readR l0_0 l0_1 a1 a2) else none
theorem disk_Read.calls (A0_0 : Option Addr) (c0_0 : Nat) (l0_0 : List (List Int)) (A0_1 : Option Addr) (c0_1 : Nat) (l0_1 : List S57) (a1 : Int) (a2 : Int) (r1 : List Int) (r2 : Int) (w : World) (hr0_0 : Kd.C (Kd.slice 5 (Kd.int .u8)) w A0_0 l0_0.length l0_0) (hc0_0 : l0_0.length ≤ c0_0) (hr0_1 : Kd.C k57 w A0_1 l0_1.length l0_1) (hc0_1 : l0_1.length ≤ c0_1) (h : disk_Read.f l0_0 l0_1 a1 a2 = some (r1, r2)) :
  Calls Try.prog 33 #[.agg #[.slice A0_0 l0_0.length c0_0, .slice A0_1 l0_1.length c0_1], .int .i64 a1, .int .i64 a2] w fun e w' => ∃ v0_ : Value, e = .returned (.tuple #[v0_, .int .i64 r2]) ∧ Kd.R (Kd.int .u8) 5 w' w.heap.size (fun _ => True) v0_ r1 ∧ Below w.heap.size w w' := by
 unfold disk_Read.f at h
 split at h
 case isFalse => cases h
 rename_i hl
 injection h with h
 refine (Read_is A0_0 c0_0 l0_0 A0_1 c0_1 l0_1 a1 a2 w hr0_0 hc0_0 hr0_1 hc0_1 hl.1 hl.2.1 hl.2.2).mono ?_
 rw [h]
 rintro e w' ⟨v0, rfl, h0, hb⟩
 exact ⟨v0, rfl, h0, hb⟩
end Go.Proofs.Ytkdaeleolomdkaa.D
