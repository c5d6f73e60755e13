import Derived.Test.YtleofbidijbahaaYD0
import Derived.Test.YtleofbidijbahaaYD5
import Derived.Test.YtleofbidijbahaaYD12
import Derived.Test.YtleofbidijbahaaYD14
import Derived.Test.YtleofbidijbahaaYD19
import Derived.Test.YtleofbidijbahaaYD24
import Derived.Test.YtleofbidijbahaaYD30
import Derived.Test.YtleofbidijbahaaYD32
import Derived.Test.YtleofbidijbahaaYD33
import Derived.Test.YtleofbidijbahaaYD34
import Derived.Test.YtleofbidijbahaaYD35
namespace Go.Proofs.Ytleofbidijbahaa.D
open Go.RowKit Go.Proofs.YtleofbidijbahaaW.PrintWords Go.Proofs.YtleofbidijbahaaW.PrintLast Go.Proofs.YtleofbidijbahaaW.PrintMore
attribute [local go_sem] max2_int min2_int max_two min_two max_three min_three max_four min_four   -- for this text's walks alone
set_option linter.unusedVariables false
set_option linter.unusedSimpArgs false
def runL (s : S28) : List S45 → Int → Int × Int × S28
 | [], i => (i, 0, s)
 | p :: l, i => if (doE s p).1 ≠ 0 then (i, (doE s p).1, (doE s p).2) else runL (doE s p).2 l (i + 1)
def FitAll (s : S28) : List S45 → Prop
 | [] => True
 | p :: l => Fit s p ∧ ((doE s p).1 = 0 → FitAll (doE s p).2 l)
theorem fitAll_of_valid : ∀ {s : S28}, ValidD s.f0 s.f1 s.f2 → ∀ ps : List S45, FitAll s ps
 | _, _, [] => trivial
 | s, h, p :: ps => ⟨fit_of_valid h p, fun h0 => fitAll_of_valid (doE_valid h h0) ps⟩
def runE (s : S28) (l : List S45) : Int × Int × S28 :=
 if checkE s.f0 s.f1 s.f2 ≠ 0 then (0, checkE s.f0 s.f1 s.f2, ⟨[], 0, 0⟩) else runL s l 0
def Back3 (w : World) (R : Int × Int × S28) (e : Ending) (w' : World) : Prop := ∃ v', e = .returned (.tuple #[.agg #[v', .int .i64 R.2.2.f1, .int .i64 R.2.2.f2], .int .i64 R.1, .int .i64 R.2.1]) ∧ Kd.S k63 63 w' w.heap.size (fun _ => True) v' R.2.2.f0 ∧ Below w.heap.size w w'
set_option maxRecDepth 100000 in
set_option maxHeartbeats 8000000 in
theorem run_is (A : Option Addr) (c n : Nat) (ns : List S63) (r nx : Int) (B : Option Addr) (d m : Nat) (ps : List S45) (w : World) (hC : Kd.C k63 w A n ns) (hn : ns.length = n) (hkr : ∀ x ∈ ns, ∀ k ∈ x.f6, InI k) (hP : Kd.C k45 w B m ps) (hm : ps.length = m) :
  Calls Try.prog 12 #[.agg #[.slice A n c, .int .i64 r, .int .i64 nx], .slice B m d] w (Back3 w (runE ⟨ns, r, nx⟩ ps)) := by
 obtain ⟨P, hPP⟩ : ∃ P, Back3 w (runE ⟨ns, r, nx⟩ ps) = P := ⟨_, rfl⟩
 rw [hPP]
 have HP := Aside0.mk hPP
 have HPS := Aside0.mk hP
 have HM := Lib.hid hm
 have hmm : m ≤ 9223372036854775807 := hP.2.1
 have HCK := Aside0.mk (fun (W : World) (hW : Below w.heap.size w W) => check_is A c n ns r nx W (Kd.C_below hC hW) hn hkr)
 have HF : Aside0 (checkE ns r nx = 0 → (Rises ns ∧ FitAll ⟨ns, r, nx⟩ ps) ∧ n ≤ 100000 ∧ ∀ W : World, Below w.heap.size w W → Calls Try.prog 33 #[.agg #[.slice A n c, .int .i64 r, .int .i64 nx]] W fun e w' => ∃ v : Value, e = .returned (.agg #[v, .int .i64 r, .int .i64 nx]) ∧ Kd.S k63 63 w' W.heap.size (fun _ => True) v ns ∧ Below W.heap.size W w') := ⟨fun h0 => by
  have hv := checkE_valid h0
  have hle := hv.len
  exact ⟨⟨hv.rises, fitAll_of_valid (s := ⟨ns, r, nx⟩) hv ps⟩, by omega, fun W hW => domclone_is A c n ns r nx W (Kd.C_below hC hW) hn (by omega) (fun x hx => ⟨by have := (plain_attrs (hv.plain x hx)).2; omega, by have := hv.few x hx; omega⟩)⟩⟩
 have HN := Lib.hid hn
 obtain ⟨ce, hce⟩ : ∃ z, checkE ns r nx = z := ⟨_, rfl⟩
 rw [hce] at HCK HF
 have HCE := Lib.hid hce
 clear hPP hP hC hn hkr hce hm
 obtain ⟨N, hNN⟩ : ∃ N, w.heap.size = N := ⟨_, rfl⟩
 obtain ⟨W1, hW1⟩ : ∃ W, w.alloc (.cells #[.slice A n c, .int .i64 r, .int .i64 nx] 28) = W := ⟨_, rfl⟩
 have hb1 : Below N w W1 := by rw [← hW1, ← hNN]; exact (Below.refl _ _).alloc (Nat.le_refl _) _
 have hx1 : W1.heap[N]? = some (.cells #[.slice A n c, .int .i64 r, .int .i64 nx] 28 (0, 0)) := by rw [← hW1, ← hNN]; exact World.alloc_heap_new w _
 have hs1 : W1.heap.size = N + 1 := by rw [← hW1, ← hNN]; simp
 obtain ⟨W3, hW3⟩ : ∃ W, W1.alloc (.cells #[.slice none 0 0, .int .i64 0, .int .i64 0] 28) = W := ⟨_, rfl⟩
 have hb3 : Below W1.heap.size W1 W3 := by rw [← hW3]; exact (Below.refl _ _).alloc (Nat.le_refl _) _
 have hx3 : W3.heap[N + 1]? = some (.cells #[.slice none 0 0, .int .i64 0, .int .i64 0] 28 (0, 0)) := by rw [← hW3, ← hs1]; exact World.alloc_heap_new W1 _
 have hs3 : W3.heap.size = N + 2 := by rw [← hW3]; simp [hs1]
 have hx1' := (hb3.block _ (blk_lt hx1)).trans hx1
 have hb13 : Below N w W3 := hb1.trans (hb3.mono (by omega))
 have s0 : W3.cell? ⟨N, 0, none⟩ = some (.slice A n c) := blk_cell hx1' 0
 have s1 : W3.cell? ⟨N, 1, none⟩ = some (.int .i64 r) := blk_cell hx1' 1
 have s2 : W3.cell? ⟨N, 2, none⟩ = some (.int .i64 nx) := blk_cell hx1' 2
 have HX1 := Aside0.mk hx1'
 have HX3 := Aside0.mk hx3
 have HB3 := Aside0.mk hb13
 have HS3 := Aside0.mk hs3
 have HNN := Lib.hid hNN
 rw [hNN] at HCK HF
 clear hb1 hx1 hb3 hx3 hx1' hb13 hs3
 go_enter Try.func12, Try.ntmps12
 go_wp2_with fail
 refine (HCK.out _ HB3.out).mono ?_
 rintro e w4 ⟨rfl, hb4⟩
 have HB4 := Aside0.mk (HB3.out.trans (hb4.mono (show N ≤ W3.heap.size by have := HS3.out; omega)))
 have hx1 := (hb4.block _ (blk_lt HX1.out)).trans HX1.out
 have hx3 := (hb4.block _ (blk_lt HX3.out)).trans HX3.out
 have HX14 := Aside0.mk hx1
 have HX34 := Aside0.mk hx3
 have s0 : w4.cell? ⟨N, 0, none⟩ = some (.slice A n c) := blk_cell hx1 0
 have s1 : w4.cell? ⟨N, 1, none⟩ = some (.int .i64 r) := blk_cell hx1 1
 have s2 : w4.cell? ⟨N, 2, none⟩ = some (.int .i64 nx) := blk_cell hx1 2
 have t0 : w4.cell? ⟨N + 1, 0, none⟩ = some (.slice none 0 0) := blk_cell hx3 0
 have t1 : w4.cell? ⟨N + 1, 1, none⟩ = some (.int .i64 0) := blk_cell hx3 1
 have t2 : w4.cell? ⟨N + 1, 2, none⟩ = some (.int .i64 0) := blk_cell hx3 2
 have f0 : w4.frozen? ⟨N + 1, 0, none⟩ = false := blk_frozen hx3 _
 have f1 : w4.frozen? ⟨N + 1, 1, none⟩ = false := blk_frozen hx3 _
 have f2 : w4.frozen? ⟨N + 1, 2, none⟩ = false := blk_frozen hx3 _
 have HSZ : Aside0 (N + 2 ≤ w4.heap.size) := ⟨by have := hb4.size; have := HS3.out; omega⟩
 clear hb4 hx1 hx3 HX1 HX3
 have HPE : Aside0 (∀ (W : World) (i z : Int) (v : Value) (l : List S63) (r2 nx2 : Int), Below N w W → W.heap[N + 1]? = some (.cells #[.slice none 0 0, .int .i64 0, .int .i64 0] 28 (0, 0)) → Kd.S k63 63 W N (fun k => N + 2 ≤ k) v l → (W.setCells (N + 1) 0 [v, .int .i64 r2, .int .i64 nx2]).heap[N + 1]? = some (.cells #[v, .int .i64 r2, .int .i64 nx2] 28 (0, 0)) ∧ Back3 w (i, z, ⟨l, r2, nx2⟩) (.returned (.tuple #[.agg #[v, .int .i64 r2, .int .i64 nx2], .int .i64 i, .int .i64 z])) (W.setCells (N + 1) 0 [v, .int .i64 r2, .int .i64 nx2])) := ⟨fun W i z v l r2 nx2 hb hx hS => by
  refine ⟨blk_put (blk_put (blk_put hx 0 v rfl) 1 (.int .i64 r2) rfl) 2 (.int .i64 nx2) rfl, v, rfl, ?_, ?_⟩
  ·
   rw [HNN.out]
   exact Kd.S_mono (Kd.S_step hS (fun k hk _ => setCells_far _ _ k (by omega))) (fun _ _ => trivial)
  ·
   rw [HNN.out]
   exact hb.grown (grown_cells W (N + 1) 0 _) (by have := hb.size; have := HNN.out; omega) (fun k hk => by injection hk with hk; omega)⟩
 have HA : Aside0 (runE ⟨ns, r, nx⟩ ps = if ce ≠ 0 then (0, ce, ⟨[], 0, 0⟩) else runL ⟨ns, r, nx⟩ ps 0) := ⟨by unfold runE; simp only [HCE.out]⟩
 by_cases h0 : ce = 0
 ·
  have d0 : (ce != 0) = false := by rw [h0]; rfl
  obtain ⟨⟨hrs, hft⟩, hlen, hcl⟩ := HF.out h0
  have HCL := Aside0.mk hcl
  clear hcl HF
  have ha := HA.out
  rw [if_neg (fun h => h h0)] at ha
  have HA2 := Aside0.mk ha
  clear ha
  go_wp2_with fail
  refine (HCL.out _ HB4.out).mono ?_
  rintro e w5 ⟨v5, rfl, hS5, hb5⟩
  obtain ⟨A5, c5, rfl⟩ := Kd.S_slice hS5
  have hsz4 := HSZ.out
  have HB5 := Aside0.mk (HB4.out.trans (hb5.mono (show N ≤ w4.heap.size by omega)))
  have hx1 := (hb5.block _ (blk_lt HX14.out)).trans HX14.out
  have hx3 := (hb5.block _ (blk_lt HX34.out)).trans HX34.out
  have s0 : w5.cell? ⟨N, 0, none⟩ = some (.slice A n c) := blk_cell hx1 0
  have s1 : w5.cell? ⟨N, 1, none⟩ = some (.int .i64 r) := blk_cell hx1 1
  have s2 : w5.cell? ⟨N, 2, none⟩ = some (.int .i64 nx) := blk_cell hx1 2
  have k0 : w5.frozen? ⟨N, 0, none⟩ = false := blk_frozen hx1 _
  have k1 : w5.frozen? ⟨N, 1, none⟩ = false := blk_frozen hx1 _
  have k2 : w5.frozen? ⟨N, 2, none⟩ = false := blk_frozen hx1 _
  have hx6 : (w5.setCells N 0 [.slice A5 ns.length c5, .int .i64 r, .int .i64 nx]).heap[N]? = some (.cells #[.slice A5 ns.length c5, .int .i64 r, .int .i64 nx] 28 (0, 0)) := blk_put (blk_put (blk_put hx1 0 _ rfl) 1 _ rfl) 2 _ rfl
  have hg6 := grown_cells w5 N 0 [.slice A5 ns.length c5, .int .i64 r, .int .i64 nx]
  have hS5' : Kd.S k63 63 w5 N (fun k => N + 2 ≤ k) (.slice A5 ns.length c5) ns := Kd.S_lower (Kd.S_mono (Kd.S_bound hS5) (fun k hk => by have := hk.2.1; omega)) (show N ≤ w4.heap.size by omega)
  have hS6 := Kd.S_step (w1 := w5.setCells N 0 [.slice A5 ns.length c5, .int .i64 r, .int .i64 nx]) hS5' (fun k hk _ => setCells_far _ _ k (by omega))
  have hx36 : (w5.setCells N 0 [.slice A5 ns.length c5, .int .i64 r, .int .i64 nx]).heap[N + 1]? = some (.cells #[.slice none 0 0, .int .i64 0, .int .i64 0] 28 (0, 0)) := (setCells_far _ _ (N + 1) (by omega)).trans hx3
  have hN5 : N + 2 ≤ w5.heap.size := by have := hb5.size; omega
  have hb6 : Below N w (w5.setCells N 0 [.slice A5 ns.length c5, .int .i64 r, .int .i64 nx]) := HB5.out.grown hg6 (show N ≤ w5.heap.size by omega) (fun k hk => by injection hk with hk; omega)
  have hs6 : (w5.setCells N 0 [.slice A5 ns.length c5, .int .i64 r, .int .i64 nx]).heap.size = w5.heap.size := (setCells_same N _ 0 w5).2.2.2
  obtain ⟨w6, hw6⟩ : ∃ W, w5.setCells N 0 [.slice A5 ns.length c5, .int .i64 r, .int .i64 nx] = W := ⟨_, rfl⟩
  have hw6' : ((w5.setCell ⟨N, 0, none⟩ (.slice A5 ns.length c5)).setCell ⟨N, 1, none⟩ (.int .i64 r)).setCell ⟨N, 2, none⟩ (.int .i64 nx) = w6 := hw6
  rw [hw6] at hS6 hx36 hx6 hb6 hs6
  have HD6 : Aside0 (Disp w6 N N (fun k => N + 2 ≤ k) (.slice A5 ns.length c5) ns r nx) := ⟨hx6, hS6, by have := HN.out; omega, hrs, Nat.le_refl _, by omega⟩
  have HX36 := Aside0.mk hx36
  have HB6 := Aside0.mk hb6
  have HFT := Aside0.mk hft
  clear hS5 hb5 hx1 hx3 hx6 hg6 hS5' hS6 hx36 hb6 hs6 hrs hft hw6
  go_wp2_with fail
  clear hw6'
  go_loopw [21] (fun v21 wr => ∃ (j : Nat) (v : Value) (ns2 : List S63) (r2 nx2 : Int), j ≤ m ∧ v21 = .int .i64 j ∧ Aside0 (runL ⟨ns, r, nx⟩ ps 0 = runL ⟨ns2, r2, nx2⟩ (ps.drop j) j) ∧ Aside0 (FitAll ⟨ns2, r2, nx2⟩ (ps.drop j)) ∧ Aside0 (Disp wr N N (fun k => N + 2 ≤ k) v ns2 r2 nx2) ∧ Aside0 (Below N w wr) ∧ Aside0 (wr.heap[N + 1]? = some (.cells #[.slice none 0 0, .int .i64 0, .int .i64 0] 28 (0, 0)))) (fun v21 _ => m - (intOf v21).toNat)
  case atStart => exact ⟨0, _, ns, r, nx, by omega, rfl, ⟨rfl⟩, HFT, HD6, HB6, HX36⟩
  case round =>
   clear HFT HD6 HB6 HX36
   obtain ⟨j, v, ns2, r2, nx2, hj, rfl, HRN, HFT, HDR, HBR, HXR⟩ := hrel
   obtain ⟨A7, c7, rfl⟩ := HDR.out.slice_
   have hbx := HDR.out.box
   have hx3 := HXR.out
   have m0 : wr.cell? ⟨N, 0, none⟩ = some (.slice A7 ns2.length c7) := blk_cell hbx 0
   have m1 : wr.cell? ⟨N, 1, none⟩ = some (.int .i64 r2) := blk_cell hbx 1
   have m2 : wr.cell? ⟨N, 2, none⟩ = some (.int .i64 nx2) := blk_cell hbx 2
   have t0 : wr.cell? ⟨N + 1, 0, none⟩ = some (.slice none 0 0) := blk_cell hx3 0
   have t1 : wr.cell? ⟨N + 1, 1, none⟩ = some (.int .i64 0) := blk_cell hx3 1
   have t2 : wr.cell? ⟨N + 1, 2, none⟩ = some (.int .i64 0) := blk_cell hx3 2
   have f0 : wr.frozen? ⟨N + 1, 0, none⟩ = false := blk_frozen hx3 _
   have f1 : wr.frozen? ⟨N + 1, 1, none⟩ = false := blk_frozen hx3 _
   have f2 : wr.frozen? ⟨N + 1, 2, none⟩ = false := blk_frozen hx3 _
   by_cases hlt : j < m
   ·
    have d22 : decide ((j : Int) < (m : Int)) = true := decide_eq_true (by omega)
    have hjl : j < ps.length := by have := HM.out; omega
    obtain ⟨ad, rfl, e0, e1, e2, e3, e4, e5, e6, e7, e8⟩ := at_T45 (Kd.C_below HPS.out (HNN.out ▸ HBR.out)) (j : Int) (by omega) (by omega)
    have hpx : rd_T45 ps (j : Int) = ps[j] := by unfold rd_T45; rw [Int.toNat_natCast, List.getD_eq_getElem?_getD, List.getElem?_eq_getElem hjl, Option.getD_some]
    simp only [Int.toNat_natCast, hpx] at e0 e1 e2 e3 e4 e5 e6 e7 e8
    have hrn := HRN.out
    have hft := HFT.out
    rw [List.drop_eq_getElem_cons hjl] at hrn hft
    obtain ⟨p, hpe⟩ : ∃ p, ps[j] = p := ⟨_, rfl⟩
    rw [hpe] at e0 e1 e2 e3 e4 e5 e6 e7 e8 hrn hft
    rw [runL] at hrn
    have hft1 := hft.1
    have hft2 := hft.2
    obtain ⟨W8, hW8⟩ : ∃ W, wr.alloc (.cells #[.int .i64 p.f0, .int .i64 p.f1, .int .i64 p.f2, .int .i64 p.f3, .string p.f4, .string p.f5, .string p.f6, .string p.f7, .string p.f8] 45) = W := ⟨_, rfl⟩
    obtain ⟨N8, hN8⟩ : ∃ M, wr.heap.size = M := ⟨_, rfl⟩
    have hb8 : Below wr.heap.size wr W8 := by rw [← hW8]; exact (Below.refl _ _).alloc (Nat.le_refl _) _
    have hx8 : PBox W8 N8 p := by rw [← hW8, ← hN8]; exact World.alloc_heap_new wr _
    have hNr : N + 2 ≤ wr.heap.size := by have := blk_lt hx3; omega
    have HB8 := Aside0.mk (HBR.out.trans (hb8.mono (show N ≤ wr.heap.size by omega)))
    have HX38 := Aside0.mk ((hb8.block _ (blk_lt hx3)).trans hx3)
    have hD8 := HDR.out.below hb8
    have HDO := Aside0.mk (do_is N N _ _ ns2 r2 nx2 p W8 hD8 hft1 (by have := hb8.size; omega))
    have HN8 : Aside0 (N + 2 ≤ W8.heap.size) := ⟨by have := hb8.size; omega⟩
    have y0 : W8.cell? ⟨N8, 0, none⟩ = some (.int .i64 p.f0) := blk_cell hx8 0
    have y1 : W8.cell? ⟨N8, 1, none⟩ = some (.int .i64 p.f1) := blk_cell hx8 1
    have y2 : W8.cell? ⟨N8, 2, none⟩ = some (.int .i64 p.f2) := blk_cell hx8 2
    have y3 : W8.cell? ⟨N8, 3, none⟩ = some (.int .i64 p.f3) := blk_cell hx8 3
    have y4 : W8.cell? ⟨N8, 4, none⟩ = some (.string p.f4) := blk_cell hx8 4
    have y5 : W8.cell? ⟨N8, 5, none⟩ = some (.string p.f5) := blk_cell hx8 5
    have y6 : W8.cell? ⟨N8, 6, none⟩ = some (.string p.f6) := blk_cell hx8 6
    have y7 : W8.cell? ⟨N8, 7, none⟩ = some (.string p.f7) := blk_cell hx8 7
    have y8 : W8.cell? ⟨N8, 8, none⟩ = some (.string p.f8) := blk_cell hx8 8
    obtain ⟨Q, hQ⟩ : ∃ Q, doE ⟨ns2, r2, nx2⟩ p = Q := ⟨_, rfl⟩
    rw [hQ] at HDO hrn hft2
    obtain ⟨z, ⟨ns3, r3, nx3⟩⟩ := Q
    have HRN2 := Aside0.mk hrn
    have HFT2 := Aside0.mk hft2
    clear hQ hrn hft hft1 hft2 hpx hpe hb8 hx8 hD8 hbx hx3 hNr hjl HRN HFT HDR HBR HXR t0 t1 t2 f0 f1 f2 m0 m1 m2
    go_wp2_with fail
    refine HDO.out.mono ?_
    rintro e w9 ⟨v9, rfl, hD9, hc9⟩
    obtain ⟨A9, c9, rfl⟩ := hD9.slice_
    have hn8 := HN8.out
    have hD9' : Disp w9 N N (fun k => N + 2 ≤ k) (.slice A9 ns3.length c9) ns3 r3 nx3 := hD9.mono (fun k hk => by rcases hk with hk | hk <;> omega) (by omega)
    have hb9 : Below N w w9 := HB8.out.trans (hc9.to_below (fun k hk => by rcases hk with hk | hk <;> omega) (by omega))
    have hx39 := hc9.blk HX38.out (fun hk => by rcases hk with hk | hk <;> omega)
    have hbx9 := hD9'.box
    have m0 : w9.cell? ⟨N, 0, none⟩ = some (.slice A9 ns3.length c9) := blk_cell hbx9 0
    have m1 : w9.cell? ⟨N, 1, none⟩ = some (.int .i64 r3) := blk_cell hbx9 1
    have m2 : w9.cell? ⟨N, 2, none⟩ = some (.int .i64 nx3) := blk_cell hbx9 2
    have t0 : w9.cell? ⟨N + 1, 0, none⟩ = some (.slice none 0 0) := blk_cell hx39 0
    have t1 : w9.cell? ⟨N + 1, 1, none⟩ = some (.int .i64 0) := blk_cell hx39 1
    have t2 : w9.cell? ⟨N + 1, 2, none⟩ = some (.int .i64 0) := blk_cell hx39 2
    have f0 : w9.frozen? ⟨N + 1, 0, none⟩ = false := blk_frozen hx39 _
    have f1 : w9.frozen? ⟨N + 1, 1, none⟩ = false := blk_frozen hx39 _
    have f2 : w9.frozen? ⟨N + 1, 2, none⟩ = false := blk_frozen hx39 _
    have hrn := HRN2.out
    by_cases hz : z = 0
    ·
     have dz : (z != 0) = false := by rw [hz]; rfl
     rw [if_neg (fun h => h hz)] at hrn
     have HRN3 := Aside0.mk hrn
     have HFT3 := Aside0.mk (HFT2.out hz)
     have HDN := Aside0.mk hD9'
     have HBN := Aside0.mk hb9
     have HXN := Aside0.mk hx39
     clear hrn hD9 hc9 hD9' hb9 hx39 hbx9
     go_wp2_with fail
     go_round
     case rel => exact ⟨j + 1, _, ns3, r3, nx3, by omega, by go_num, ⟨by rw [HRN3.out]; congr 1⟩, HFT3, HDN, HBN, HXN⟩
     case measure => simp [intOf]; omega
    ·
     have dz : (z != 0) = true := bne_iff_ne.2 hz
     rw [if_pos hz] at hrn
     have HV : Aside0 (runE ⟨ns, r, nx⟩ ps = ((j : Int), z, ⟨ns3, r3, nx3⟩)) := ⟨HA2.out.trans hrn⟩
     obtain ⟨he1, he2⟩ := HPE.out w9 (j : Int) z _ ns3 r3 nx3 hb9 hx39 hD9'.row
     have HE1 := Aside0.mk he1
     have HE2 := Aside0.mk he2
     clear hrn hD9 hc9 hD9' hb9 hx39 hbx9 he1 he2
     go_wp2_with fail
     exact bodyPost_ret (results_ctt rfl _ _ (N + 1) 28 #[.slice A9 ns3.length c9, .int .i64 r3, .int .i64 nx3] (0, 0) _ rfl HE1.out Try.underlying28 rfl (by kernel_rfl)) rfl (by rw [← HP.out, HV.out]; exact HE2.out)
   ·
    obtain rfl : j = m := by omega
    have d22 : decide ((j : Int) < (j : Int)) = false := decide_eq_false (by omega)
    have hrn := HRN.out
    rw [List.drop_eq_nil_of_le (by have := HM.out; omega), runL] at hrn
    have HV : Aside0 (runE ⟨ns, r, nx⟩ ps = ((j : Int), 0, ⟨ns2, r2, nx2⟩)) := ⟨HA2.out.trans hrn⟩
    obtain ⟨he1, he2⟩ := HPE.out wr (j : Int) 0 _ ns2 r2 nx2 HBR.out HXR.out HDR.out.row
    have HE1 := Aside0.mk he1
    have HE2 := Aside0.mk he2
    clear hrn he1 he2 hbx hx3 HDR HBR HXR HRN HFT
    go_wp2_with fail
    exact bodyPost_ret (results_ctt rfl _ _ (N + 1) 28 #[.slice A7 ns2.length c7, .int .i64 r2, .int .i64 nx2] (0, 0) _ rfl HE1.out Try.underlying28 rfl (by kernel_rfl)) rfl (by rw [← HP.out, HV.out]; exact HE2.out)
 ·
  have d0 : (ce != 0) = true := bne_iff_ne.2 h0
  have ha := HA.out
  rw [if_pos h0] at ha
  have HV := Aside0.mk ha
  obtain ⟨he1, he2⟩ := HPE.out w4 0 ce (.slice none 0 0) [] 0 0 HB4.out HX34.out (Kd.S_nil _ _ _ _ _)
  have HE1 := Aside0.mk he1
  have HE2 := Aside0.mk he2
  clear ha he1 he2
  go_wp2_with fail
  exact bodyPost_ret (results_ctt rfl _ _ (N + 1) 28 #[.slice none 0 0, .int .i64 0, .int .i64 0] (0, 0) _ rfl HE1.out Try.underlying28 rfl (by kernel_rfl)) rfl (by rw [← HP.out, HV.out]; exact HE2.out)
def dom_Run.f (l0_0 : List S63) (a0_1 a0_2 : Int) (l1 : List S45) : Option (List S63 × Int × Int × Int × Int) :=
 if (∀ x ∈ l0_0, ∀ k ∈ x.f6, -9223372036854775808 ≤ k ∧ k ≤ 9223372036854775807) then some ((runE ⟨l0_0, a0_1, a0_2⟩ l1).2.2.f0, (runE ⟨l0_0, a0_1, a0_2⟩ l1).2.2.f1, (runE ⟨l0_0, a0_1, a0_2⟩ l1).2.2.f2, (runE ⟨l0_0, a0_1, a0_2⟩ l1).1, (runE ⟨l0_0, a0_1, a0_2⟩ l1).2.1) else none
theorem dom_Run.calls (A0_0 : Option Addr) (c0_0 : Nat) (l0_0 : List S63) (a0_1 a0_2 : Int) (A1 : Option Addr) (c1 : Nat) (l1 : List S45) (r1 : List S63) (r2 r3 r4 r5 : Int) (w : World) (hr0_0 : Kd.C k63 w A0_0 l0_0.length l0_0) (hc0_0 : l0_0.length ≤ c0_0) (hr1 : Kd.C k45 w A1 l1.length l1) (hc1 : l1.length ≤ c1) (h : dom_Run.f l0_0 a0_1 a0_2 l1 = some (r1, r2, r3, r4, r5)) :
  Calls Try.prog 12 #[.agg #[.slice A0_0 l0_0.length c0_0, .int .i64 a0_1, .int .i64 a0_2], .slice A1 l1.length c1] w fun e w' => ∃ v0_ : Value, e = .returned (.tuple #[.agg #[v0_, .int .i64 r2, .int .i64 r3], .int .i64 r4, .int .i64 r5]) ∧ Kd.S k63 63 w' w.heap.size (fun _ => True) v0_ r1 ∧ Below w.heap.size w w' := by
 unfold dom_Run.f at h
 split at h
 ·
  rename_i hk
  injection h with h
  injection h with h1 h
  injection h with h2 h
  injection h with h3 h
  injection h with h4 h5
  subst h1 h2 h3 h4 h5
  exact run_is A0_0 c0_0 _ l0_0 a0_1 a0_2 A1 c1 _ l1 w hr0_0 rfl hk hr1 rfl
 ·
  cases h
end Go.Proofs.Ytleofbidijbahaa.D
