/- What the print's words and the walks are, as far as this claim names them. -/
import Derived.Test.YtleofbidijbahaaYD0
import Derived.Test.YtleofbidijbahaaYD5
import Derived.Test.YtleofbidijbahaaYD12
import Derived.Test.YtleofbidijbahaaYD14
import Derived.Test.YtleofbidijbahaaYD19
import Derived.Test.YtleofbidijbahaaYD24
import Derived.Test.YtleofbidijbahaaYD30
import Derived.Test.YtleofbidijbahaaYD32
import Derived.Test.YtleofbidijbahaaYD33
import Derived.Test.YtleofbidijbahaaYD34
import Derived.Test.YtleofbidijbahaaYD37
import Derived.Test.YtleofbidijbahaaYD52
import Derived.Test.YtleofbidijbahaaYD35
import Derived.Test.YtleofbidijbahaaYD2
namespace Go.Proofs.Ytleofbidijbahaa.D
open Go.RowKit Go.Proofs.YtleofbidijbahaaW.PrintWords Go.Proofs.YtleofbidijbahaaW.PrintLast Go.Proofs.YtleofbidijbahaaW.PrintMore
attribute [local go_sem] max2_int min2_int max_two min_two max_three min_three max_four min_four   -- for this text's walks alone
set_option linter.unusedVariables false
set_option linter.unusedSimpArgs false
def applyE (s : S28) (p : S45) : Int × S28 :=
 if checkE s.f0 s.f1 s.f2 ≠ 0 then (checkE s.f0 s.f1 s.f2, ⟨[], 0, 0⟩) else if (doE s p).1 ≠ 0 then ((doE s p).1, ⟨[], 0, 0⟩) else (0, (doE s p).2)
def Back (w : World) (R : Int × S28) (e : Ending) (w' : World) : Prop := ∃ v', e = .returned (.tuple #[.agg #[v', .int .i64 R.2.f1, .int .i64 R.2.f2], .int .i64 R.1]) ∧ Kd.S k63 63 w' w.heap.size (fun _ => True) v' R.2.f0 ∧ Below w.heap.size w w'
set_option maxRecDepth 100000 in
set_option maxHeartbeats 8000000 in
theorem apply_is (A : Option Addr) (c n : Nat) (ns : List S63) (r nx : Int) (p : S45) (w : World) (hC : Kd.C k63 w A n ns) (hn : ns.length = n) (hkr : ∀ x ∈ ns, ∀ k ∈ x.f6, InI k) :
  Calls Try.prog 18 #[.agg #[.slice A n c, .int .i64 r, .int .i64 nx], patchV p] w (Back w (applyE ⟨ns, r, nx⟩ p)) := by
 obtain ⟨P, hP⟩ : ∃ P, Back w (applyE ⟨ns, r, nx⟩ p) = P := ⟨_, rfl⟩
 rw [hP]
 have HP := Aside0.mk hP
 have HC := Aside0.mk hC
 have HCK := Aside0.mk (fun (W : World) (hW : Below w.heap.size w W) => check_is A c n ns r nx W (Kd.C_below hC hW) hn hkr)
 have HF : Aside0 (checkE ns r nx = 0 → (Rises ns ∧ Fit ⟨ns, r, nx⟩ p) ∧ n ≤ 100000 ∧ ∀ W : World, Below w.heap.size w W → Calls Try.prog 33 #[.agg #[.slice A n c, .int .i64 r, .int .i64 nx]] W fun e w' => ∃ v : Value, e = .returned (.agg #[v, .int .i64 r, .int .i64 nx]) ∧ Kd.S k63 63 w' W.heap.size (fun _ => True) v ns ∧ Below W.heap.size W w') := ⟨fun h0 => by
  have hv := checkE_valid h0
  have hle := hv.len
  exact ⟨⟨hv.rises, fit_of_valid hv p⟩, by omega, fun W hW => domclone_is A c n ns r nx W (Kd.C_below hC hW) hn (by omega) (fun x hx => ⟨by have := (plain_attrs (hv.plain x hx)).2; omega, by have := hv.few x hx; omega⟩)⟩⟩
 have HN := Lib.hid hn
 obtain ⟨ce, hce⟩ : ∃ z, checkE ns r nx = z := ⟨_, rfl⟩
 rw [hce] at HCK HF
 have HCE := Lib.hid hce
 clear hP hC hn hkr hce
 obtain ⟨N, hNN⟩ : ∃ N, w.heap.size = N := ⟨_, rfl⟩
 obtain ⟨W1, hW1⟩ : ∃ W, w.alloc (.cells #[.slice A n c, .int .i64 r, .int .i64 nx] 28) = W := ⟨_, rfl⟩
 have hb1 : Below N w W1 := by rw [← hW1, ← hNN]; exact (Below.refl _ _).alloc (Nat.le_refl _) _
 have hx1 : W1.heap[N]? = some (.cells #[.slice A n c, .int .i64 r, .int .i64 nx] 28 (0, 0)) := by rw [← hW1, ← hNN]; exact World.alloc_heap_new w _
 have hs1 : W1.heap.size = N + 1 := by rw [← hW1, ← hNN]; simp
 obtain ⟨W2, hW2⟩ : ∃ W, W1.alloc (.cells #[.int .i64 p.f0, .int .i64 p.f1, .int .i64 p.f2, .int .i64 p.f3, .string p.f4, .string p.f5, .string p.f6, .string p.f7, .string p.f8] 45) = W := ⟨_, rfl⟩
 have hb2 : Below W1.heap.size W1 W2 := by rw [← hW2]; exact (Below.refl _ _).alloc (Nat.le_refl _) _
 have hx2 : PBox W2 (N + 1) p := by rw [← hW2, ← hs1]; exact World.alloc_heap_new W1 _
 have hs2 : W2.heap.size = N + 2 := by rw [← hW2]; simp [hs1]
 obtain ⟨W3, hW3⟩ : ∃ W, W2.alloc (.cells #[.slice none 0 0, .int .i64 0, .int .i64 0] 28) = W := ⟨_, rfl⟩
 have hb3 : Below W2.heap.size W2 W3 := by rw [← hW3]; exact (Below.refl _ _).alloc (Nat.le_refl _) _
 have hx3 : W3.heap[N + 2]? = some (.cells #[.slice none 0 0, .int .i64 0, .int .i64 0] 28 (0, 0)) := by rw [← hW3, ← hs2]; exact World.alloc_heap_new W2 _
 have hs3 : W3.heap.size = N + 3 := by rw [← hW3]; simp [hs2]
 have hx2' := (hb3.block _ (blk_lt hx2)).trans hx2
 have hx1' := (hb3.block _ (by have := blk_lt hx1; have := hb2.size; omega)).trans ((hb2.block _ (blk_lt hx1)).trans hx1)
 have hb13 : Below N w W3 := hb1.trans ((hb2.trans (hb3.mono hb2.size)).mono (by omega))
 have s0 : W3.cell? ⟨N, 0, none⟩ = some (.slice A n c) := blk_cell hx1' 0
 have s1 : W3.cell? ⟨N, 1, none⟩ = some (.int .i64 r) := blk_cell hx1' 1
 have s2 : W3.cell? ⟨N, 2, none⟩ = some (.int .i64 nx) := blk_cell hx1' 2
 have HX1 := Aside0.mk hx1'
 have HX2 : Aside0 (PBox W3 (N + 1) p) := ⟨hx2'⟩
 have HX3 := Aside0.mk hx3
 have HB3 := Aside0.mk hb13
 have HS3 := Aside0.mk hs3
 have HNN := Lib.hid hNN
 rw [hNN] at HCK HF
 clear hb1 hx1 hb2 hx2 hb3 hx3 hx2' hx1' hb13 hs3
 go_enter Try.func18, Try.ntmps18
 go_wp2_with fail
 refine (HCK.out _ HB3.out).mono ?_
 rintro e w4 ⟨rfl, hb4⟩
 have HB4 := Aside0.mk (HB3.out.trans (hb4.mono (show N ≤ W3.heap.size by have := HS3.out; omega)))
 have hx1 := (hb4.block _ (blk_lt HX1.out)).trans HX1.out
 have hx2 := (hb4.block _ (blk_lt HX2.out)).trans HX2.out
 have hx3 := (hb4.block _ (blk_lt HX3.out)).trans HX3.out
 have HX14 := Aside0.mk hx1
 have HX24 : Aside0 (PBox w4 (N + 1) p) := ⟨hx2⟩
 have HX34 := Aside0.mk hx3
 have s0 : w4.cell? ⟨N, 0, none⟩ = some (.slice A n c) := blk_cell hx1 0
 have s1 : w4.cell? ⟨N, 1, none⟩ = some (.int .i64 r) := blk_cell hx1 1
 have s2 : w4.cell? ⟨N, 2, none⟩ = some (.int .i64 nx) := blk_cell hx1 2
 have t0 : w4.cell? ⟨N + 2, 0, none⟩ = some (.slice none 0 0) := blk_cell hx3 0
 have t1 : w4.cell? ⟨N + 2, 1, none⟩ = some (.int .i64 0) := blk_cell hx3 1
 have t2 : w4.cell? ⟨N + 2, 2, none⟩ = some (.int .i64 0) := blk_cell hx3 2
 have f0 : w4.frozen? ⟨N + 2, 0, none⟩ = false := blk_frozen hx3 _
 have f1 : w4.frozen? ⟨N + 2, 1, none⟩ = false := blk_frozen hx3 _
 have f2 : w4.frozen? ⟨N + 2, 2, none⟩ = false := blk_frozen hx3 _
 have HSZ : Aside0 (N + 3 ≤ w4.heap.size) := ⟨by have := hb4.size; have := HS3.out; omega⟩
 clear hb4 hx1 hx2 hx3 HX1 HX2 HX3
 have HPE : Aside0 (∀ (W : World) (z : Int), Below N w W → W.heap[N + 2]? = some (.cells #[.slice none 0 0, .int .i64 0, .int .i64 0] 28 (0, 0)) → (W.setCells (N + 2) 0 [.slice none 0 0, .int .i64 0, .int .i64 0]).heap[N + 2]? = some (.cells #[.slice none 0 0, .int .i64 0, .int .i64 0] 28 (0, 0)) ∧ Back w (z, ⟨[], 0, 0⟩) (.returned (.tuple #[.agg #[.slice none 0 0, .int .i64 0, .int .i64 0], .int .i64 z])) (W.setCells (N + 2) 0 [.slice none 0 0, .int .i64 0, .int .i64 0])) := ⟨fun W z hb hx => by
  refine ⟨blk_put (blk_put (blk_put hx 0 (.slice none 0 0) rfl) 1 (.int .i64 0) rfl) 2 (.int .i64 0) rfl, _, rfl, Kd.S_nil _ _ _ _ _, ?_⟩
  rw [HNN.out]
  exact hb.grown (grown_cells W (N + 2) 0 _) (by have := hb.size; have := HNN.out; omega) (fun k hk => by injection hk with hk; omega)⟩
 have HA : Aside0 (applyE ⟨ns, r, nx⟩ p = if ce ≠ 0 then (ce, ⟨[], 0, 0⟩) else if (doE ⟨ns, r, nx⟩ p).1 ≠ 0 then ((doE ⟨ns, r, nx⟩ p).1, ⟨[], 0, 0⟩) else (0, (doE ⟨ns, r, nx⟩ p).2)) := ⟨by unfold applyE; simp only [HCE.out]⟩
 by_cases h0 : ce = 0
 ·
  have d0 : (ce != 0) = false := by rw [h0]; rfl
  obtain ⟨⟨hrs, hft⟩, hlen, hcl⟩ := HF.out h0
  have HCL := Aside0.mk hcl
  clear hcl HF
  have ha := HA.out
  rw [if_neg (fun h => h h0)] at ha
  have HA2 := Aside0.mk ha
  clear ha
  go_wp2_with fail
  refine (HCL.out _ HB4.out).mono ?_
  rintro e w5 ⟨v5, rfl, hS5, hb5⟩
  obtain ⟨A5, c5, rfl⟩ := Kd.S_slice hS5
  have hsz4 := HSZ.out
  have HB5 := Aside0.mk (HB4.out.trans (hb5.mono (show N ≤ w4.heap.size by omega)))
  have hx1 := (hb5.block _ (blk_lt HX14.out)).trans HX14.out
  have hx2 := (hb5.block _ (blk_lt HX24.out)).trans HX24.out
  have hx3 := (hb5.block _ (blk_lt HX34.out)).trans HX34.out
  have s0 : w5.cell? ⟨N, 0, none⟩ = some (.slice A n c) := blk_cell hx1 0
  have s1 : w5.cell? ⟨N, 1, none⟩ = some (.int .i64 r) := blk_cell hx1 1
  have s2 : w5.cell? ⟨N, 2, none⟩ = some (.int .i64 nx) := blk_cell hx1 2
  have k0 : w5.frozen? ⟨N, 0, none⟩ = false := blk_frozen hx1 _
  have k1 : w5.frozen? ⟨N, 1, none⟩ = false := blk_frozen hx1 _
  have k2 : w5.frozen? ⟨N, 2, none⟩ = false := blk_frozen hx1 _
  have hx6 : (w5.setCells N 0 [.slice A5 ns.length c5, .int .i64 r, .int .i64 nx]).heap[N]? = some (.cells #[.slice A5 ns.length c5, .int .i64 r, .int .i64 nx] 28 (0, 0)) := blk_put (blk_put (blk_put hx1 0 _ rfl) 1 _ rfl) 2 _ rfl
  have hg6 := grown_cells w5 N 0 [.slice A5 ns.length c5, .int .i64 r, .int .i64 nx]
  have hS5' : Kd.S k63 63 w5 N (fun k => N + 3 ≤ k) (.slice A5 ns.length c5) ns := Kd.S_lower (Kd.S_mono (Kd.S_bound hS5) (fun k hk => by have := hk.2.1; omega)) (show N ≤ w4.heap.size by omega)
  have hS6 := Kd.S_step (w1 := w5.setCells N 0 [.slice A5 ns.length c5, .int .i64 r, .int .i64 nx]) hS5' (fun k hk _ => setCells_far _ _ k (by omega))
  have hx36 : (w5.setCells N 0 [.slice A5 ns.length c5, .int .i64 r, .int .i64 nx]).heap[N + 2]? = some (.cells #[.slice none 0 0, .int .i64 0, .int .i64 0] 28 (0, 0)) := (setCells_far _ _ (N + 2) (by omega)).trans hx3
  have hx26 : PBox (w5.setCells N 0 [.slice A5 ns.length c5, .int .i64 r, .int .i64 nx]) (N + 1) p := (setCells_far _ _ (N + 1) (by omega)).trans hx2
  have hN5 : N + 3 ≤ w5.heap.size := by have := hb5.size; omega
  have hb6 : Below N w (w5.setCells N 0 [.slice A5 ns.length c5, .int .i64 r, .int .i64 nx]) := HB5.out.grown hg6 (show N ≤ w5.heap.size by omega) (fun k hk => by injection hk with hk; omega)
  have hs6 : (w5.setCells N 0 [.slice A5 ns.length c5, .int .i64 r, .int .i64 nx]).heap.size = w5.heap.size := (setCells_same N _ 0 w5).2.2.2
  obtain ⟨w6, hw6⟩ : ∃ W, w5.setCells N 0 [.slice A5 ns.length c5, .int .i64 r, .int .i64 nx] = W := ⟨_, rfl⟩
  have hw6' : ((w5.setCell ⟨N, 0, none⟩ (.slice A5 ns.length c5)).setCell ⟨N, 1, none⟩ (.int .i64 r)).setCell ⟨N, 2, none⟩ (.int .i64 nx) = w6 := hw6
  rw [hw6] at hS6 hx36 hx26 hx6 hb6 hs6
  have hD6 : Disp w6 N N (fun k => N + 3 ≤ k) (.slice A5 ns.length c5) ns r nx := ⟨hx6, hS6, by have := HN.out; omega, hrs, Nat.le_refl _, by omega⟩
  have HDO := Aside0.mk (do_is N N _ _ ns r nx p w6 hD6 hft (by omega))
  have y0 : w6.cell? ⟨N + 1, 0, none⟩ = some (.int .i64 p.f0) := blk_cell hx26 0
  have y1 : w6.cell? ⟨N + 1, 1, none⟩ = some (.int .i64 p.f1) := blk_cell hx26 1
  have y2 : w6.cell? ⟨N + 1, 2, none⟩ = some (.int .i64 p.f2) := blk_cell hx26 2
  have y3 : w6.cell? ⟨N + 1, 3, none⟩ = some (.int .i64 p.f3) := blk_cell hx26 3
  have y4 : w6.cell? ⟨N + 1, 4, none⟩ = some (.string p.f4) := blk_cell hx26 4
  have y5 : w6.cell? ⟨N + 1, 5, none⟩ = some (.string p.f5) := blk_cell hx26 5
  have y6 : w6.cell? ⟨N + 1, 6, none⟩ = some (.string p.f6) := blk_cell hx26 6
  have y7 : w6.cell? ⟨N + 1, 7, none⟩ = some (.string p.f7) := blk_cell hx26 7
  have y8 : w6.cell? ⟨N + 1, 8, none⟩ = some (.string p.f8) := blk_cell hx26 8
  have HX36 := Aside0.mk hx36
  have HB6 := Aside0.mk hb6
  have HS6 : Aside0 (N + 3 ≤ w6.heap.size) := ⟨by omega⟩
  obtain ⟨Q, hQ⟩ : ∃ Q, doE ⟨ns, r, nx⟩ p = Q := ⟨_, rfl⟩
  rw [hQ] at HDO HA2
  obtain ⟨z, ⟨ns2, r2, nx2⟩⟩ := Q
  clear hS5 hb5 hx1 hx2 hx3 hx6 hg6 hS5' hS6 hx36 hx26 hb6 hs6 hD6 hrs hft hw6 hQ
  go_wp2_with fail
  refine HDO.out.mono ?_
  rintro e w7 ⟨v7, rfl, hD7, hc7⟩
  obtain ⟨A7, c7, rfl⟩ := hD7.slice_
  have hs6 := HS6.out
  have hb7 : Below N w w7 := HB6.out.trans (hc7.to_below (fun k hk => by rcases hk with hk | hk <;> omega) (by omega))
  have hx37 := hc7.blk HX36.out (fun hk => by rcases hk with hk | hk <;> omega)
  have hx7 := hD7.box
  have m0 : w7.cell? ⟨N, 0, none⟩ = some (.slice A7 ns2.length c7) := blk_cell hx7 0
  have m1 : w7.cell? ⟨N, 1, none⟩ = some (.int .i64 r2) := blk_cell hx7 1
  have m2 : w7.cell? ⟨N, 2, none⟩ = some (.int .i64 nx2) := blk_cell hx7 2
  have t0 : w7.cell? ⟨N + 2, 0, none⟩ = some (.slice none 0 0) := blk_cell hx37 0
  have t1 : w7.cell? ⟨N + 2, 1, none⟩ = some (.int .i64 0) := blk_cell hx37 1
  have t2 : w7.cell? ⟨N + 2, 2, none⟩ = some (.int .i64 0) := blk_cell hx37 2
  have f0 : w7.frozen? ⟨N + 2, 0, none⟩ = false := blk_frozen hx37 _
  have f1 : w7.frozen? ⟨N + 2, 1, none⟩ = false := blk_frozen hx37 _
  have f2 : w7.frozen? ⟨N + 2, 2, none⟩ = false := blk_frozen hx37 _
  have ha := HA2.out
  by_cases hz : z = 0
  ·
   have dz : (z != 0) = false := by rw [hz]; rfl
   rw [if_neg (fun h => h hz)] at ha
   have HV := Aside0.mk ha
   have hxf : (w7.setCells (N + 2) 0 [.slice A7 ns2.length c7, .int .i64 r2, .int .i64 nx2]).heap[N + 2]? = some (.cells #[.slice A7 ns2.length c7, .int .i64 r2, .int .i64 nx2] 28 (0, 0)) := blk_put (blk_put (blk_put hx37 0 _ rfl) 1 _ rfl) 2 _ rfl
   have hbf : Below N w (w7.setCells (N + 2) 0 [.slice A7 ns2.length c7, .int .i64 r2, .int .i64 nx2]) := hb7.grown (grown_cells w7 (N + 2) 0 _) (by have := hb7.size; have := hc7.size; omega) (fun k hk => by injection hk with hk; omega)
   have hrow := Kd.S_step (w1 := w7.setCells (N + 2) 0 [.slice A7 ns2.length c7, .int .i64 r2, .int .i64 nx2]) hD7.row (fun k hk _ => setCells_far _ _ k (by rcases hk with hk | hk <;> omega))
   have HXF := Aside0.mk hxf
   have HFIN : Aside0 (Back w (0, ⟨ns2, r2, nx2⟩) (.returned (.tuple #[.agg #[.slice A7 ns2.length c7, .int .i64 r2, .int .i64 nx2], .int .i64 0])) (w7.setCells (N + 2) 0 [.slice A7 ns2.length c7, .int .i64 r2, .int .i64 nx2])) := ⟨⟨_, rfl, by rw [HNN.out]; exact Kd.S_mono hrow (fun _ _ => trivial), by rw [HNN.out]; exact hbf⟩⟩
   clear hD7 hc7 hb7 hx37 hx7 ha hxf hbf hrow
   go_wp2_with fail
   exact bodyPost_ret (results_ct rfl _ _ (N + 2) 28 #[.slice A7 ns2.length c7, .int .i64 r2, .int .i64 nx2] (0, 0) _ rfl HXF.out Try.underlying28 rfl (by kernel_rfl)) rfl (by rw [← HP.out, HV.out]; exact HFIN.out)
  ·
   have dz : (z != 0) = true := bne_iff_ne.2 hz
   rw [if_pos hz] at ha
   have HV := Aside0.mk ha
   obtain ⟨he1, he2⟩ := HPE.out w7 z hb7 hx37
   have HE1 := Aside0.mk he1
   have HE2 := Aside0.mk he2
   clear hD7 hc7 hb7 hx37 hx7 ha he1 he2
   go_wp2_with fail
   exact bodyPost_ret (results_ct rfl _ _ (N + 2) 28 #[.slice none 0 0, .int .i64 0, .int .i64 0] (0, 0) _ rfl HE1.out Try.underlying28 rfl (by kernel_rfl)) rfl (by rw [← HP.out, HV.out]; exact HE2.out)
 ·
  have d0 : (ce != 0) = true := bne_iff_ne.2 h0
  have ha := HA.out
  rw [if_pos h0] at ha
  have HV := Aside0.mk ha
  obtain ⟨he1, he2⟩ := HPE.out w4 ce HB4.out HX34.out
  have HE1 := Aside0.mk he1
  have HE2 := Aside0.mk he2
  clear ha he1 he2
  go_wp2_with fail
  exact bodyPost_ret (results_ct rfl _ _ (N + 2) 28 #[.slice none 0 0, .int .i64 0, .int .i64 0] (0, 0) _ rfl HE1.out Try.underlying28 rfl (by kernel_rfl)) rfl (by rw [← HP.out, HV.out]; exact HE2.out)
def dom_Apply.f (l0_0 : List S63) (a0_1 a0_2 : Int) (a1_0 a1_1 a1_2 a1_3 : Int) (a1_4 a1_5 a1_6 a1_7 a1_8 : ByteArray) : Option (List S63 × Int × Int × Int) :=
 if (∀ x ∈ l0_0, ∀ k ∈ x.f6, -9223372036854775808 ≤ k ∧ k ≤ 9223372036854775807) then some ((applyE ⟨l0_0, a0_1, a0_2⟩ ⟨a1_0, a1_1, a1_2, a1_3, a1_4, a1_5, a1_6, a1_7, a1_8⟩).2.f0, (applyE ⟨l0_0, a0_1, a0_2⟩ ⟨a1_0, a1_1, a1_2, a1_3, a1_4, a1_5, a1_6, a1_7, a1_8⟩).2.f1, (applyE ⟨l0_0, a0_1, a0_2⟩ ⟨a1_0, a1_1, a1_2, a1_3, a1_4, a1_5, a1_6, a1_7, a1_8⟩).2.f2, (applyE ⟨l0_0, a0_1, a0_2⟩ ⟨a1_0, a1_1, a1_2, a1_3, a1_4, a1_5, a1_6, a1_7, a1_8⟩).1) else none
theorem dom_Apply.calls (A0_0 : Option Addr) (c0_0 : Nat) (l0_0 : List S63) (a0_1 a0_2 : Int) (a1_0 a1_1 a1_2 a1_3 : Int) (a1_4 a1_5 a1_6 a1_7 a1_8 : ByteArray) (r1 : List S63) (r2 r3 r4 : Int) (w : World) (hr0_0 : Kd.C k63 w A0_0 l0_0.length l0_0) (hc0_0 : l0_0.length ≤ c0_0) (h : dom_Apply.f l0_0 a0_1 a0_2 a1_0 a1_1 a1_2 a1_3 a1_4 a1_5 a1_6 a1_7 a1_8 = some (r1, r2, r3, r4)) :
  Calls Try.prog 18 #[.agg #[.slice A0_0 l0_0.length c0_0, .int .i64 a0_1, .int .i64 a0_2], .agg #[.int .i64 a1_0, .int .i64 a1_1, .int .i64 a1_2, .int .i64 a1_3, .string a1_4, .string a1_5, .string a1_6, .string a1_7, .string a1_8]] w fun e w' => ∃ v0_ : Value, e = .returned (.tuple #[.agg #[v0_, .int .i64 r2, .int .i64 r3], .int .i64 r4]) ∧ Kd.S k63 63 w' w.heap.size (fun _ => True) v0_ r1 ∧ Below w.heap.size w w' := by
 unfold dom_Apply.f at h
 split at h
 ·
  rename_i hk
  injection h with h
  injection h with h1 h
  injection h with h2 h
  injection h with h3 h4
  subst h1 h2 h3 h4
  exact apply_is A0_0 c0_0 _ l0_0 a0_1 a0_2 ⟨a1_0, a1_1, a1_2, a1_3, a1_4, a1_5, a1_6, a1_7, a1_8⟩ w hr0_0 rfl hk
 ·
  cases h
end Go.Proofs.Ytleofbidijbahaa.D
namespace Go.Proofs.Ytleofbidijbahaa.DomEv
set_option linter.unusedVariables false
set_option linter.unusedSimpArgs false
open Go.RowKit Go.Proofs.Ytleofbidijbahaa.D Go.Proofs.YtleofbidijbahaaW.PrintWords Go.Proofs.YtleofbidijbahaaW.PrintLast
theorem wI {i : Int} (h0 : -9223372036854775808 ≤ i) (h1 : i ≤ 9223372036854775807) : wrap64 i = i := by unfold wrap64; omega
theorem alive_is : fanlightlaw10_alive.f = some true := by decide +kernel
theorem alive_det : ∀ (r : Bool), fanlightlaw10_alive.f = some r → r = true := fun r h => by rw [alive_is] at h; injection h with h; exact h.symm
def toN (z : S64) : S63 := ⟨z.f0, z.f1, z.f2, z.f3, z.f4, z.f5, z.f6⟩
structure FitD (l : List S64) : Prop where
 n : l.length ≤ 1256584717421
 a : ∀ x ∈ l, x.f5.length < 4398046511104
 k : ∀ x ∈ l, x.f6.length < 17592186044416
 i : ∀ x ∈ l, ∀ k ∈ x.f6, -9223372036854775808 ≤ k ∧ k ≤ 9223372036854775807
theorem rd64_at {l pre rest : List S64} {x : S64} (h : l = pre ++ x :: rest) : rd_T64 l (pre.length : Int) = x := by
 unfold rd_T64
 rw [Int.toNat_natCast, h, List.getD_eq_getElem?_getD, List.getElem?_append_right (Nat.le_refl _), Nat.sub_self]
 rfl
theorem of_l0 (l : List S64) (r nx : Int) (hf : FitD l) : ∀ (rest pre : List S64), l = pre ++ rest → Ev (fun k => fanlightlaw10_Of.l0 k (pre.length : Int) l r nx (pre.map toN) r nx) (l.map toN, r, nx)
 | [], pre, h => by
  refine Ev.step (fun k => rfl) ?_
  have e : l = pre := by simpa using h
  simp only [fanlightlaw10_Of.l0, if_neg (show ¬ (pre.length : Int) < (l.length : Int) by rw [e]; omega)]
  rw [← e]
  exact Ev.now _
 | x :: xs, pre, h => by
  refine Ev.step (fun k => rfl) ?_
  have hlen : l.length = pre.length + 1 + xs.length := by rw [h]; simp; omega
  have hm : x ∈ l := by rw [h]; simp
  have hx := hf.a x hm
  have hk := hf.k x hm
  have hn := hf.n
  have hc : fanlightplain_CopyInts.f x.f6 = some x.f6 := by
   unfold fanlightplain_CopyInts.f
   rw [if_pos (by simpa using hk), List.nil_append]
  have hl : (pre.map toN).length < 1256584717458 := by rw [List.length_map]; omega
  have h5 : ([] : List S68).length + x.f5.length < 4398046511104 := by simpa using hx
  have hp : pre.map toN ++ [(⟨x.f0, x.f1, x.f2, x.f3, x.f4, ([] : List S68) ++ x.f5, x.f6⟩ : S63)] = (pre ++ [x]).map toN := by rw [List.map_append]; rfl
  have w2 : wrap64 ((pre.length : Int) + 1) = (((pre ++ [x]).length : Nat) : Int) := by rw [List.length_append]; exact wI (by omega) (by omega)
  simp only [fanlightlaw10_Of.l0, if_pos (show (pre.length : Int) < (l.length : Int) by omega), if_pos (show (0 : Int) ≤ (pre.length : Int) by omega), rd64_at h, hc, Option.bind_some, if_pos hl, if_pos h5, hp, w2]
  exact of_l0 l r nx hf xs (pre ++ [x]) (by rw [h]; simp)
theorem of_is {l : List S64} (r nx : Int) (h : FitD l) : Ev (fun k => fanlightlaw10_Of.f k l r nx) (l.map toN, r, nx) := of_l0 l r nx h l [] rfl
theorem applyE_cases {s : S28} {p : S45} : ((applyE s p).1 ≠ 0 ∧ (applyE s p).2 = ⟨[], 0, 0⟩) ∨ ((applyE s p).1 = 0 ∧ ValidD s.f0 s.f1 s.f2 ∧ (doE s p).1 = 0 ∧ (applyE s p).2 = (doE s p).2) := by
 unfold applyE
 split
 ·
  rename_i h; exact .inl ⟨h, rfl⟩
 ·
  rename_i h
  split
  ·
   rename_i h2; exact .inl ⟨h2, rfl⟩
  ·
   rename_i h2
   exact .inr ⟨rfl, checkE_valid (Decidable.not_not.1 h), Decidable.not_not.1 h2, rfl⟩
end Go.Proofs.Ytleofbidijbahaa.DomEv
