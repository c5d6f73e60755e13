import Derived.Test.YtkdaeleolomdkaaYD0
import Derived.Test.YtkdaeleolomdkaaYD2
import Derived.Test.YtkdaeleolomdkaaYD5
import Derived.Test.YtkdaeleolomdkaaYD7
import Derived.Test.YtkdaeleolomdkaaYD8
import Derived.Test.YtkdaeleolomdkaaYD10
namespace Go.Proofs.Ytkdaeleolomdkaa.D
open Go.RowKit Go.Proofs.YtkdaeleolomdkaaW.PrintWords Go.Proofs.YtkdaeleolomdkaaW.PrintLast Go.Proofs.YtkdaeleolomdkaaW.PrintMore
attribute [local go_sem] max2_int min2_int max_two min_two max_three min_three max_four min_four   -- for this text's walks alone
set_option linter.unusedVariables false
set_option linter.unusedSimpArgs false
def okSb (secs : List (List Int)) (cache : List S57) : Bool := !(decide (secs.length = 0) || decide (4096 < secs.length) || decide (4096 < cache.length) || (secs.any fun b => (b.length : Int) != 48) || (cache.any fun x => x.f0 || chkW secs.length x.f1 x.f2.length != 0))
theorem anyBad_is (k : Nat) (l0 : List (List Int)) (l1 : List S57) (hl0 : l0.length ≤ 1099511627776) : ∀ l : List S57, (∀ x ∈ l, x.f2.length ≤ 140737488355328) → disk_anyBad (k + 1) l0 l1 l = some (l.any fun x => x.f0 || chkW l0.length x.f1 x.f2.length != 0)
 | [], _ => rfl
 | x :: xs, h => by
  unfold disk_anyBad
  by_cases hf : x.f0 = true
  ·
   rw [if_pos hf, List.any_cons, hf]; rfl
  ·
   rw [if_neg hf, chkW_is k l0 l1 x.f0 x.f1 x.f2 hl0 (h x (by simp)), Option.bind_some]
   by_cases he : chkW l0.length x.f1 x.f2.length = 0
   ·
    rw [if_pos he, anyBad_is k l0 l1 hl0 xs (fun y hy => h y (by simp [hy])), List.any_cons]
    simp [hf, he]
   ·
    rw [if_neg he, List.any_cons]
    simp [he]
theorem check_is (k : Nat) (secs : List (List Int)) (cache : List S57) (hl : ∀ x ∈ cache, x.f2.length ≤ 140737488355328) : disk_Check.f (k + 1) secs cache = some (if okSb secs cache = true then 0 else 9) := by
 unfold disk_Check.f okSb
 by_cases c1 : secs.length = 0
 ·
  rw [if_pos (.inl c1)]; simp [c1]
 ·
  by_cases c2 : 4096 < secs.length
  ·
   rw [if_pos (.inr (.inl c2))]; simp [c2]
  ·
   by_cases c3 : 4096 < cache.length
   ·
    rw [if_pos (.inr (.inr (.inl c3)))]; simp [c3]
   ·
    cases c4 : (secs.any fun b => (b.length : Int) != 48) with
    | true => rw [if_pos (.inr (.inr (.inr rfl)))]; simp
    | false =>
     rw [if_neg (by rintro (h | h | h | h) <;> first | omega | cases h), anyBad_is k secs cache (by omega) cache hl, Option.bind_some]
     cases (cache.any fun x => x.f0 || chkW secs.length x.f1 x.f2.length != 0) with
     | true => simp
     | false => simp [c1, c2, c3]
theorem okW_of {n : Nat} {x : S57} (h : chkW n x.f1 x.f2.length = 0) : okW n x := by
 unfold chkW at h
 split at h
 ·
  cases h
 ·
  split at h
  ·
   cases h
  ·
   rename_i h1 h2
   unfold okW
   omega
theorem okS_of {secs : List (List Int)} {cache : List S57} (h : okSb secs cache = true) : OkS secs cache := by
 unfold okSb at h
 simp only [Bool.not_eq_true', Bool.or_eq_false_iff, decide_eq_false_iff_not, List.any_eq_false] at h
 obtain ⟨⟨⟨⟨h1, h2⟩, h3⟩, h4⟩, h5⟩ := h
 refine ⟨by omega, by omega, fun s hs => ?_, by omega, fun x hx => okW_of ?_⟩
 ·
  have := h4 s hs
  simp at this
  omega
 ·
  have := h5 x hx
  simp at this
  exact this.2
theorem DSt_put {W : World} {base g : Nat} {secs : List (List Int)} {cache : List S57} {v0 v1 a b : Value} {P : Nat → Prop} (h0 : Kd.S (Kd.slice 5 (Kd.int .u8)) 22 W base P v0 secs) (h1 : Kd.S k57 57 W base (fun k => ¬ P k) v1 cache)
  (hg : W.heap[g]? = some (.cells #[a, b] 58 (0, 0))) : DSt ((W.setCell ⟨g, 0, none⟩ v0).setCell ⟨g, 1, none⟩ v1) base g secs cache := by
 have k1 := blk_put (cs' := #[v0, b]) hg 0 v0 rfl
 have k2 := blk_put (cs' := #[v0, v1]) k1 1 v1 rfl
 refine ⟨v0, v1, fun k => P k ∧ k ≠ g, k2, fun h => h.2 rfl, ?_, ?_⟩
 ·
  exact Kd.S_set (Kd.S_set (Kd.S_types h0 hg (by decide)) hg (by decide) 0 v0) k1 (by decide) 1 v1
 ·
  exact Kd.S_mono (Kd.S_set (Kd.S_set h1 hg (by decide) 0 v0) k1 (by decide) 1 v1) (fun k hk h => hk h.1)
def DVal (W : World) (base : Nat) (v0 v1 : Value) (secs : List (List Int)) (cache : List S57) : Prop :=
 ∃ P : Nat → Prop, Kd.S (Kd.slice 5 (Kd.int .u8)) 22 W base P v0 secs ∧ Kd.S k57 57 W base (fun k => ¬ P k) v1 cache
theorem DVal_nil (W : World) (base : Nat) : DVal W base (.slice none 0 0) (.slice none 0 0) [] [] := ⟨fun _ => True, Kd.S_nil _ _ _ _ _, Kd.S_nil _ _ _ _ _⟩
theorem DVal_set {W : World} {base g : Nat} {v0 v1 a b : Value} {secs : List (List Int)} {cache : List S57} (h : DVal W base v0 v1 secs cache) (hg : W.heap[g]? = some (.cells #[a, b] 58 (0, 0))) (x y : Value) : DVal ((W.setCell ⟨g, 0, none⟩ x).setCell ⟨g, 1, none⟩ y) base v0 v1 secs cache := by
 obtain ⟨P, h0, h1⟩ := h
 have k1 := blk_put (cs' := #[x, b]) hg 0 x rfl
 exact ⟨P, Kd.S_set (Kd.S_set h0 hg (by decide) 0 x) k1 (by decide) 1 y, Kd.S_set (Kd.S_set h1 hg (by decide) 0 x) k1 (by decide) 1 y⟩
theorem DSt_val {W : World} {base g : Nat} {secs : List (List Int)} {cache : List S57} (h : DSt W base g secs cache) : ∃ v0 v1 : Value, W.heap[g]? = some (.cells #[v0, v1] 58 (0, 0)) ∧ DVal W base v0 v1 secs cache := by
 obtain ⟨v0, v1, P, hg, _, h0, h1⟩ := h
 exact ⟨v0, v1, hg, P, h0, h1⟩
theorem DVal_slice {W : World} {base : Nat} {v0 v1 : Value} {secs : List (List Int)} {cache : List S57} (h : DVal W base v0 v1 secs cache) : ∃ A0 c0 A1 c1, v0 = .slice A0 secs.length c0 ∧ v1 = .slice A1 cache.length c1 := by
 obtain ⟨P, h0, h1⟩ := h
 obtain ⟨A0, c0, e0⟩ := Kd.S_slice h0
 obtain ⟨A1, c1, e1⟩ := Kd.S_slice h1
 exact ⟨A0, c0, A1, c1, e0, e1⟩
def doR (secs : List (List Int)) (cache : List S57) (x : S57) : List (List Int) × List S57 × Int :=
 if okSb secs cache = true then (if (doF secs cache x).2.2 = 0 then ((doF secs cache x).1, (doF secs cache x).2.1, 0) else ([], [], (doF secs cache x).2.2)) else ([], [], 9)
set_option maxRecDepth 100000 in
set_option maxHeartbeats 4000000 in
theorem Do_is (A0 : Option Addr) (c0 : Nat) (secs : List (List Int)) (A1 : Option Addr) (c1 : Nat) (cache : List S57) (x : S57) (A2 : Option Addr) (c2 : Nat) (w : World)
  (hr0 : Kd.C (Kd.slice 5 (Kd.int .u8)) w A0 secs.length secs) (hc0 : secs.length ≤ c0) (hr1 : Kd.C k57 w A1 cache.length cache) (hc1 : cache.length ≤ c1) (hr2 : Kd.C (Kd.int .u8) w A2 x.f2.length x.f2) (hc2 : x.f2.length ≤ c2)
  (hl : ∀ y ∈ cache, y.f2.length < 140737488355328) (hlx : x.f2.length < 140737488355328) :
  Calls Try.prog 30 #[.agg #[.slice A0 secs.length c0, .slice A1 cache.length c1], .agg #[.bool x.f0, .int .i64 x.f1, .slice A2 x.f2.length c2]] w fun e w' => ∃ v0 v1 : Value, e = .returned (.tuple #[.agg #[v0, v1], .int .i64 (doR secs cache x).2.2]) ∧ DVal w' w.heap.size v0 v1 (doR secs cache x).1 (doR secs cache x).2.1 ∧ Below w.heap.size w w' := by
 obtain ⟨W1, hW1⟩ : ∃ W, ((w.alloc (.cells #[.slice A0 secs.length c0, .slice A1 cache.length c1] 58)).alloc (.cells #[.bool x.f0, .int .i64 x.f1, .slice A2 x.f2.length c2] 57)).alloc (.cells #[.slice none 0 0, .slice none 0 0] 58) = W := ⟨_, rfl⟩
 have hb1 : Below w.heap.size w W1 := by rw [← hW1]; exact below_alloc (below_alloc (below_alloc (Below.refl _ _) _) _) _
 have hsz : W1.heap.size = w.heap.size + 3 := by rw [← hW1]; simp
 have b0 : W1.heap[w.heap.size]? = some (.cells #[.slice A0 secs.length c0, .slice A1 cache.length c1] 58 (0, 0)) := by rw [← hW1]; exact blk_alloc (blk_alloc (blk_new rfl) _) _
 have b1 : W1.heap[w.heap.size + 1]? = some (.cells #[.bool x.f0, .int .i64 x.f1, .slice A2 x.f2.length c2] 57 (0, 0)) := by rw [← hW1]; exact blk_alloc (blk_new (by simp)) _
 have b2 : W1.heap[w.heap.size + 1 + 1]? = some (.cells #[.slice none 0 0, .slice none 0 0] 58 (0, 0)) := by rw [← hW1]; exact blk_new (by simp)
 have HCK := Aside0.mk (disk_Check.calls 1 A0 c0 secs A1 c1 cache _ W1 (Kd.C_below hr0 hb1) hc0 (Kd.C_below hr1 hb1) hc1 (check_is 0 secs cache (fun y hy => Nat.le_of_lt (hl y hy))))
 have HCL := Aside0.mk (fun (W : World) (hW : Below w.heap.size w W) (hS : okSb secs cache = true) => diskclone1 A0 c0 secs A1 c1 cache W (Kd.C_below hr0 hW) (Kd.C_below hr1 hW) (by have := (okS_of hS).sl; omega) (by have := (okS_of hS).cl; omega) (fun s hs => by have := (okS_of hS).s48 s hs; omega) (fun y hy => hl y hy))
 have HDO := Aside0.mk (fun (W : World) (hW : Below w.heap.size w W) (hN : w.heap.size + 3 ≤ W.heap.size) (hD : DSt W (w.heap.size + 3) w.heap.size secs cache) (hS : okSb secs cache = true) => do_is w.heap.size secs cache x A2 c2 (w.heap.size + 3) W hN hD (okS_of hS) (Kd.C_below hr2 hW) hc2 hlx)
 have HB1 := Aside0.mk hb1
 have HX0 := Aside0.mk b0
 have HX1 := Aside0.mk b1
 have HX2 := Aside0.mk b2
 have HSZ := Aside0.mk hsz
 have hdo : doR secs cache x = doR secs cache x := rfl
 conv at hdo => rhs; unfold doR
 obtain ⟨R, hR⟩ : ∃ R, doR secs cache x = R := ⟨_, rfl⟩
 rw [hR] at hdo ⊢
 obtain ⟨n0, hn0⟩ : ∃ n, secs.length = n := ⟨_, rfl⟩
 obtain ⟨n1, hn1⟩ : ∃ n, cache.length = n := ⟨_, rfl⟩
 obtain ⟨m, hm⟩ : ∃ m, x.f2.length = m := ⟨_, rfl⟩
 obtain ⟨z0, hz0⟩ : ∃ z, x.f0 = z := ⟨_, rfl⟩
 obtain ⟨z1, hz1⟩ : ∃ z, x.f1 = z := ⟨_, rfl⟩
 rw [hn0, hn1] at HCK HCL HX0
 rw [hm, hz0, hz1] at HX1 HDO
 rw [hn0, hn1, hm, hz0, hz1] at hW1 ⊢
 have y0 : W1.cell? ⟨w.heap.size, 0, none⟩ = some (.slice A0 n0 c0) := blk_cell HX0.out 0
 have y1 : W1.cell? ⟨w.heap.size, 1, none⟩ = some (.slice A1 n1 c1) := blk_cell HX0.out 1
 have HN0 := Lib.hid hn0
 have HN1 := Lib.hid hn1
 have HL0 := Aside0.mk hl
 clear hr0 hc0 hr1 hc1 hr2 hc2 hl hlx hb1 hsz b0 b1 b2 hR hn0 hn1 hm hz0 hz1
 go_enter Try.func30, Try.ntmps30
 cases hok : okSb secs cache with
 | false =>
  rw [hok] at HCK hdo
  rw [if_neg (show ¬ (false = true) by decide)] at HCK hdo
  have HR := Lib.hid hdo
  clear hdo hok HCL HDO
  go_wp2_with fail
  refine HCK.out.mono ?_
  rintro e W2 ⟨rfl, hb2⟩
  have hx2 := blk_below HX2.out hb2
  have u0 : W2.cell? ⟨w.heap.size + 1 + 1, 0, none⟩ = some (.slice none 0 0) := blk_cell hx2 0
  have u1 : W2.cell? ⟨w.heap.size + 1 + 1, 1, none⟩ = some (.slice none 0 0) := blk_cell hx2 1
  have uf : ∀ i, W2.frozen? ⟨w.heap.size + 1 + 1, i, none⟩ = false := fun i => blk_frozen hx2 i
  have HXR := Aside0.mk (blk_put (cs' := #[.slice none 0 0, .slice none 0 0]) (blk_put (cs' := #[.slice none 0 0, .slice none 0 0]) hx2 0 (.slice none 0 0) rfl) 1 (.slice none 0 0) rfl)
  have HBF := Aside0.mk (((HB1.out.trans (hb2.mono HB1.out.size)).setCell (p := ⟨w.heap.size + 1 + 1, 0, none⟩) (by dsimp only; omega) (.slice none 0 0)).setCell (p := ⟨w.heap.size + 1 + 1, 1, none⟩) (by dsimp only; omega) (.slice none 0 0))
  clear hb2 hx2 y0 y1
  go_wp2_with fail
  exact bodyPost_ret (results_ct rfl _ _ (w.heap.size + 1 + 1) 58 #[.slice none 0 0, .slice none 0 0] (0, 0) _ rfl HXR.out Try.underlying58 rfl (by kernel_rfl)) rfl ⟨_, _, by rw [HR.out]; rfl, by rw [HR.out]; exact DVal_nil _ _, HBF.out⟩
 | true =>
  rw [hok] at HCK
  rw [if_pos hok] at hdo
  rw [if_pos rfl] at HCK
  have HOK := Aside0.mk hok
  obtain ⟨D, hD⟩ : ∃ D, doF secs cache x = D := ⟨_, rfl⟩
  rw [hD] at hdo HDO
  obtain ⟨d0, d1, d2⟩ := D
  dsimp only at hdo HDO
  have HR := Lib.hid hdo
  clear hdo hok hD
  go_wp2_with fail
  refine HCK.out.mono ?_
  rintro e W2 ⟨rfl, hb2⟩
  have HB2 := Aside0.mk (HB1.out.trans (hb2.mono HB1.out.size))
  have HX02 := Aside0.mk (blk_below HX0.out hb2)
  have HX12 := Aside0.mk (blk_below HX1.out hb2)
  have HX22 := Aside0.mk (blk_below HX2.out hb2)
  have HS2 : Aside0 (w.heap.size + 3 ≤ W2.heap.size) := ⟨by have := HSZ.out; have := hb2.size; omega⟩
  clear hb2 y0 y1
  have y0 : W2.cell? ⟨w.heap.size, 0, none⟩ = some (.slice A0 n0 c0) := blk_cell HX02.out 0
  have y1 : W2.cell? ⟨w.heap.size, 1, none⟩ = some (.slice A1 n1 c1) := blk_cell HX02.out 1
  go_wp2_with fail
  refine (HCL.out W2 HB2.out HOK.out).mono ?_
  rintro e W3 ⟨v0, v1, P, rfl, hS0, hS1, hb3⟩
  have hS0 := Kd.S_lower hS0 HS2.out
  have hS1 := Kd.S_lower hS1 HS2.out
  obtain ⟨Av0, cv0, rfl⟩ := Kd.S_slice hS0
  obtain ⟨Av1, cv1, rfl⟩ := Kd.S_slice hS1
  have hx03 := blk_below HX02.out hb3
  have hx13 := blk_below HX12.out hb3
  have hx23 := blk_below HX22.out hb3
  have HD4 := Aside0.mk (DSt_put hS0 hS1 hx03)
  have HX14 := Aside0.mk (blk_far (blk_far hx13 (p := ⟨w.heap.size, 0, none⟩) (by dsimp only; omega) (.slice Av0 secs.length cv0)) (p := ⟨w.heap.size, 1, none⟩) (by dsimp only; omega) (.slice Av1 cache.length cv1))
  have HX24 := Aside0.mk (blk_far (blk_far hx23 (p := ⟨w.heap.size, 0, none⟩) (by dsimp only; omega) (.slice Av0 secs.length cv0)) (p := ⟨w.heap.size, 1, none⟩) (by dsimp only; omega) (.slice Av1 cache.length cv1))
  have HB4 := Aside0.mk (((HB2.out.trans (hb3.mono HB2.out.size)).setCell (p := ⟨w.heap.size, 0, none⟩) (Nat.le_refl _) (.slice Av0 secs.length cv0)).setCell (p := ⟨w.heap.size, 1, none⟩) (Nat.le_refl _) (.slice Av1 cache.length cv1))
  have HN4 : Aside0 (w.heap.size + 3 ≤ ((W3.setCell ⟨w.heap.size, 0, none⟩ (.slice Av0 secs.length cv0)).setCell ⟨w.heap.size, 1, none⟩ (.slice Av1 cache.length cv1)).heap.size) := ⟨by have := hb3.size; have := HS2.out; simp; omega⟩
  have u0 : W3.cell? ⟨w.heap.size, 0, none⟩ = some (.slice A0 n0 c0) := blk_cell hx03 0
  have u1 : W3.cell? ⟨w.heap.size, 1, none⟩ = some (.slice A1 n1 c1) := blk_cell hx03 1
  have uf : ∀ i, W3.frozen? ⟨w.heap.size, i, none⟩ = false := fun i => blk_frozen hx03 i
  have t0 : W3.cell? ⟨w.heap.size + 1, 0, none⟩ = some (.bool z0) := blk_cell hx13 0
  have t1 : W3.cell? ⟨w.heap.size + 1, 1, none⟩ = some (.int .i64 z1) := blk_cell hx13 1
  have t2 : W3.cell? ⟨w.heap.size + 1, 2, none⟩ = some (.slice A2 m c2) := blk_cell hx13 2
  clear hS0 hS1 hb3 hx03 hx13 hx23 y0 y1
  go_wp2_with fail
  refine (HDO.out _ HB4.out HN4.out HD4.out HOK.out).mono ?_
  rintro e W5 ⟨rfl, hD5, hb5⟩
  have HB5 := Aside0.mk (HB4.out.trans (hb5.below (by omega) (Nat.le_refl _)))
  have hx5 := (hb5.block (w.heap.size + 1 + 1) (by omega) (by omega)).trans HX24.out
  have q0 : W5.cell? ⟨w.heap.size + 1 + 1, 0, none⟩ = some (.slice none 0 0) := blk_cell hx5 0
  have q1 : W5.cell? ⟨w.heap.size + 1 + 1, 1, none⟩ = some (.slice none 0 0) := blk_cell hx5 1
  have qf : ∀ i, W5.frozen? ⟨w.heap.size + 1 + 1, i, none⟩ = false := fun i => blk_frozen hx5 i
  have HX5 := Aside0.mk hx5
  have HD5 := Aside0.mk hD5
  clear u0 u1 uf t0 t1 t2 hb5 hx5 hD5
  by_cases hd : d2 = 0
  ·
   subst hd
   have HR2 : Aside0 (R = (d0, d1, 0)) := ⟨by rw [HR.out, if_pos rfl]⟩
   obtain ⟨w0, w1, hg5, hv5⟩ := DSt_val HD5.out
   obtain ⟨B0, b0, B1, b1, rfl, rfl⟩ := DVal_slice hv5
   obtain ⟨P5, hP5⟩ := hv5
   have hv5 : DVal W5 w.heap.size (.slice B0 d0.length b0) (.slice B1 d1.length b1) d0 d1 := ⟨P5, Kd.S_lower hP5.1 (by omega), Kd.S_lower hP5.2 (by omega)⟩
   have HV := Aside0.mk (DVal_set hv5 HX5.out (.slice B0 d0.length b0) (.slice B1 d1.length b1))
   have HXF := Aside0.mk (blk_put (cs' := #[.slice B0 d0.length b0, .slice B1 d1.length b1]) (blk_put (cs' := #[.slice B0 d0.length b0, .slice none 0 0]) HX5.out 0 (.slice B0 d0.length b0) rfl) 1 (.slice B1 d1.length b1) rfl)
   have HBF := Aside0.mk ((HB5.out.setCell (p := ⟨w.heap.size + 1 + 1, 0, none⟩) (by dsimp only; omega) (.slice B0 d0.length b0)).setCell (p := ⟨w.heap.size + 1 + 1, 1, none⟩) (by dsimp only; omega) (.slice B1 d1.length b1))
   have r0 : W5.cell? ⟨w.heap.size, 0, none⟩ = some (.slice B0 d0.length b0) := blk_cell hg5 0
   have r1 : W5.cell? ⟨w.heap.size, 1, none⟩ = some (.slice B1 d1.length b1) := blk_cell hg5 1
   clear hg5 hv5 hP5
   go_wp2_with fail
   exact bodyPost_ret (results_ct rfl _ _ (w.heap.size + 1 + 1) 58 #[.slice B0 d0.length b0, .slice B1 d1.length b1] (0, 0) _ rfl HXF.out Try.underlying58 rfl (by kernel_rfl)) rfl ⟨_, _, by rw [HR2.out]; rfl, by rw [HR2.out]; exact HV.out, HBF.out⟩
  ·
   have HR2 : Aside0 (R = ([], [], d2)) := ⟨by rw [HR.out, if_neg hd]⟩
   have hd1 : (d2 != 0) = true := bne_iff_ne.mpr hd
   have HXR := Aside0.mk (blk_put (cs' := #[.slice none 0 0, .slice none 0 0]) (blk_put (cs' := #[.slice none 0 0, .slice none 0 0]) HX5.out 0 (.slice none 0 0) rfl) 1 (.slice none 0 0) rfl)
   have HBF := Aside0.mk ((HB5.out.setCell (p := ⟨w.heap.size + 1 + 1, 0, none⟩) (by dsimp only; omega) (.slice none 0 0)).setCell (p := ⟨w.heap.size + 1 + 1, 1, none⟩) (by dsimp only; omega) (.slice none 0 0))
   go_wp2_with fail
   exact bodyPost_ret (results_ct rfl _ _ (w.heap.size + 1 + 1) 58 #[.slice none 0 0, .slice none 0 0] (0, 0) _ rfl HXR.out Try.underlying58 rfl (by kernel_rfl)) rfl ⟨_, _, by rw [HR2.out]; rfl, by rw [HR2.out]; exact DVal_nil _ _, HBF.out⟩
def disk_Do.f (l0_0 : List (List Int)) (l0_1 : List S57) (a1_0 : Bool) (a1_1 : Int) (l1_2 : List Int) : Option (List (List Int) × List S57 × Int) :=
 if (∀ y ∈ l0_1, y.f2.length < 140737488355328) ∧ l1_2.length < 140737488355328 then some (doR l0_0 l0_1 ⟨a1_0, a1_1, l1_2⟩) else none
theorem disk_Do.calls (A0_0 : Option Addr) (c0_0 : Nat) (l0_0 : List (List Int)) (A0_1 : Option Addr) (c0_1 : Nat) (l0_1 : List S57) (a1_0 : Bool) (a1_1 : Int) (A1_2 : Option Addr) (c1_2 : Nat) (l1_2 : List Int) (r1 : List (List Int)) (r2 : List S57) (r3 : Int) (w : World) (hr0_0 : Kd.C (Kd.slice 5 (Kd.int .u8)) w A0_0 l0_0.length l0_0) (hc0_0 : l0_0.length ≤ c0_0) (hr0_1 : Kd.C k57 w A0_1 l0_1.length l0_1) (hc0_1 : l0_1.length ≤ c0_1) (hr1_2 : Kd.C (Kd.int .u8) w A1_2 l1_2.length l1_2) (hc1_2 : l1_2.length ≤ c1_2) (h : disk_Do.f l0_0 l0_1 a1_0 a1_1 l1_2 = some (r1, r2, r3)) :
  Calls Try.prog 30 #[.agg #[.slice A0_0 l0_0.length c0_0, .slice A0_1 l0_1.length c0_1], .agg #[.bool a1_0, .int .i64 a1_1, .slice A1_2 l1_2.length c1_2]] w fun e w' => ∃ v0_ v1_ : Value, e = .returned (.tuple #[.agg #[v0_, v1_], .int .i64 r3]) ∧ Kd.S (Kd.slice 5 (Kd.int .u8)) 22 w' w.heap.size (fun _ => True) v0_ r1 ∧ Kd.S k57 57 w' w.heap.size (fun _ => True) v1_ r2 ∧ Below w.heap.size w w' := by
 unfold disk_Do.f at h
 split at h
 case isFalse => cases h
 rename_i hl
 injection h with h
 refine (Do_is A0_0 c0_0 l0_0 A0_1 c0_1 l0_1 ⟨a1_0, a1_1, l1_2⟩ A1_2 c1_2 w hr0_0 hc0_0 hr0_1 hc0_1 hr1_2 hc1_2 hl.1 hl.2).mono ?_
 rw [h]
 rintro e w' ⟨v0, v1, rfl, ⟨P, h0, h1⟩, hb⟩
 exact ⟨v0, v1, rfl, Kd.S_mono h0 (fun _ _ => trivial), Kd.S_mono h1 (fun _ _ => trivial), hb⟩
end Go.Proofs.Ytkdaeleolomdkaa.D
