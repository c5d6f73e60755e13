import Derived.Test.YtgmkgobapeencaaYS0
import Derived.Test.YtgmkgobapeencaaYS2
import Derived.Test.YtgmkgobapeencaaYS11
import Derived.Test.YtgmkgobapeencaaYS1
namespace Go.Proofs.Ytgmkgobapeencaa.S
open Go.RowKit Go.Proofs.YtgmkgobapeencaaW.PrintWords Go.Proofs.YtgmkgobapeencaaW.PrintLast Go.Proofs.YtgmkgobapeencaaW.PrintMore
attribute [local go_sem] max2_int min2_int max_two min_two max_three min_three max_four min_four   -- for this text's walks alone
set_option linter.unusedVariables false
set_option linter.unusedSimpArgs false
def sealHead (k n : Int) : List Int := [k % 256, n / 65536 % 256, n / 256 % 256, n % 256]
def laidL (c : Int) : List Int := [c % 256, c / 256 % 256, c / 65536 % 256, c / 16777216 % 256]
def sealBody (k : Int) (l : List Int) : List Int := sealHead k l.length ++ l
def sumOf (b : List Int) : Int := Go.bits .xor .u32 4294967295 (sumTo b)
def seal_Put.f (a0_0 : Int) (l0_1 : List Int) : Option (List Int × Int) :=
 if a0_0 = 0 ∨ ¬ a0_0 = a0_0 % 256 then some ([], 22) else if 65536 < l0_1.length then some ([], 5) else some (sealBody a0_0 l0_1 ++ laidL (sumOf (sealBody a0_0 l0_1)), 0)
theorem C_two {w : World} {g : Nat} {A1 A2 : Option Addr} {l1 l2 : List Int} {c1 c2 : Nat} (h1 : w.cell? ⟨g, 0, none⟩ = some (.slice A1 l1.length c1)) (h2 : w.cell? ⟨g, 1, none⟩ = some (.slice A2 l2.length c2)) (k1 : l1.length ≤ c1) (k2 : l2.length ≤ c2)
  (r1 : Kd.C (Kd.int .u8) w A1 l1.length l1) (r2 : Kd.C (Kd.int .u8) w A2 l2.length l2) : Kd.C (Kd.slice 5 (Kd.int .u8)) w (some ⟨g, 0, none⟩) 2 [l1, l2] := by
 refine ⟨rfl, by omega, fun _ => ⟨⟨g, 0, none⟩, rfl, fun j p hj => ?_⟩⟩
 match j, hj with
 | 0, hj =>
  cases hj
  refine ⟨[.slice A1 l1.length c1], rfl, ⟨A1, c1, rfl, k1, r1⟩, fun i u hu => ?_⟩
  match i, hu with
  | 0, hu => cases hu; rw [add_plain]; exact h1
 | 1, hj =>
  cases hj
  refine ⟨[.slice A2 l2.length c2], rfl, ⟨A2, c2, rfl, k2, r2⟩, fun i u hu => ?_⟩
  match i, hu with
  | 0, hu => cases hu; rw [add_plain]; exact h2
set_option maxRecDepth 100000 in
set_option maxHeartbeats 4000000 in
theorem put1 (a0 : Int) (A1 : Option Addr) (c1 : Nat) (l1 : List Int) (w : World) (hr1 : Kd.C (Kd.int .u8) w A1 l1.length l1) (hc1 : l1.length ≤ c1) (h0 : ¬ a0 = 0) (hk : a0 = a0 % 256) (hl : l1.length ≤ 65536) :
  Calls Try.prog 27 #[.agg #[.int .i64 a0, .slice A1 l1.length c1]] w fun e w' => ∃ v0_ : Value, e = .returned (.tuple #[v0_, .int .i64 0]) ∧ Kd.R (Kd.int .u8) 5 w' w.heap.size (fun _ => True) v0_ (sealBody a0 l1 ++ laidL (sumOf (sealBody a0 l1))) ∧ Below w.heap.size w w' := by
 have HR := Aside0.mk hr1
 have HC := Aside0.mk hc1
 clear hr1 hc1
 have b1 : (a0 == 0) = false := beq_eq_false_iff_ne.mpr h0
 have b2 : (a0 != a0 % 256) = false := bne_eq_false_iff_eq.mpr hk
 have HK := Lib.hid hk
 clear hk
 have HBox := Boxed.new w 3 (.int .i64 a0)
 clear HBox
 go_enter Try.func27, Try.ntmps27
 go_wp2_with fail
 refine (seal_four.calls _ _ _ rfl).mono ?_
 rintro e w1 ⟨v, rfl, ho, hb⟩
 obtain ⟨g, cap, rfl, hg1, hg2, cells, hcells⟩ := Kd.R_form ho (by simp)
 have hbx := (hb.block w.heap.size (by simp)).trans (World.alloc_heap_new w _)
 obtain ⟨x0, f0⟩ := Kd.R_celln (0 : Int) ho (0 : Int) (by omega) (by simp)
 have HO := Aside0.mk (show Kd.R (Kd.int .u8) 5 (w1.setCell ⟨g, 0, none⟩ (.int .u8 (a0 % 256))) _ _ _ _ from Kd.R_putn ho (0 : Int) (a0 % 256))
 have hww : w.heap.size < w1.heap.size := by simp at hg1; omega
 have HB := Aside0.mk (((Below.refl _ w).alloc (Nat.le_refl _) (.cells #[.int .i64 a0, .slice A1 l1.length c1] 67)).trans (hb.mono (by simp)))
 have hgb : g ≠ w.heap.size := by simp at hg1; omega
 have hgb' := hgb.symm
 have y0 : w1.cell? ⟨w.heap.size, 0, none⟩ = some (.int .i64 a0) := by simp [World.cell?, hbx]
 have y1 : w1.cell? ⟨w.heap.size, 1, none⟩ = some (.slice A1 l1.length c1) := by simp [World.cell?, hbx]
 have HX := Aside0.mk hbx
 change w1.cell? ⟨g, 0, none⟩ = some (.int .u8 _) at x0
 change w1.frozen? ⟨g, 0, none⟩ = false at f0
 have hcap : ([(l1.length : Int) / 16777216 % 256, (l1.length : Int) / 65536 % 256, (l1.length : Int) / 256 % 256, (l1.length : Int) % 256] : List Int).length = 4 := rfl
 clear ho hb hbx hcells
 go_wp2_with fail
 have HB2 := Aside0.mk (HB.out.setCell (p := ⟨g, 0, none⟩) (by simp at hg1; show w.heap.size ≤ g; omega) (.int .u8 (a0 % 256)))
 have hb3 := below_alloc HB2.out (.cells #[.slice (some ⟨g, 0, none⟩) 4 cap, .slice A1 l1.length c1] 25)
 have hn := World.alloc_heap_new (w1.setCell ⟨g, 0, none⟩ (.int .u8 (a0 % 256))) (.cells #[.slice (some ⟨g, 0, none⟩) 4 cap, .slice A1 l1.length c1] 25)
 have ho3 := Kd.R_alloc HO.out (.cells #[.slice (some ⟨g, 0, none⟩) 4 cap, .slice A1 l1.length c1] 25)
 have hbx3 := (Below.heap_alloc (w1.setCell ⟨g, 0, none⟩ (.int .u8 (a0 % 256))) (.cells #[.slice (some ⟨g, 0, none⟩) 4 cap, .slice A1 l1.length c1] 25) w.heap.size (by simp; omega)).trans ((Below.heap_setCell w1 ⟨g, 0, none⟩ (.int .u8 (a0 % 256)) w.heap.size hgb').trans HX.out)
 have hsz : (w1.setCell ⟨g, 0, none⟩ (.int .u8 (a0 % 256))).heap.size = w1.heap.size := by simp
 rw [hsz] at hn
 generalize (w1.setCell ⟨g, 0, none⟩ (.int .u8 (a0 % 256))).alloc (.cells #[.slice (some ⟨g, 0, none⟩) 4 cap, .slice A1 l1.length c1] 25) = w3 at hb3 hn ho3 hbx3 ⊢
 clear HO HB HB2 HX x0 f0 y0 y1 hsz
 obtain ⟨Ag, cg, eg, hcg, hCg⟩ := Kd.R_reads ho3
 have eset : ([(l1.length : Int) / 16777216 % 256, (l1.length : Int) / 65536 % 256, (l1.length : Int) / 256 % 256, (l1.length : Int) % 256] : List Int).set (Int.toNat 0) (a0 % 256) = sealHead a0 l1.length := rfl
 have hCC : Kd.C (Kd.slice 5 (Kd.int .u8)) w3 (some ⟨w1.heap.size, 0, none⟩) 2 [sealHead a0 l1.length, l1] := by
  rw [eset] at hCg hcg eg
  have e4 : (sealHead a0 l1.length).length = 4 := rfl
  injection eg with e1 _ e3
  subst e1
  subst e3
  refine C_two (A1 := some ⟨g, 0, none⟩) (c1 := cap) (A2 := A1) (c2 := c1) ?_ ?_ hcg HC.out hCg (Kd.C_below HR.out hb3)
  ·
   simp [World.cell?, hn, e4]
  ·
   simp [World.cell?, hn]
 refine (slices_Concat_byte_byte.calls _ 2 [sealHead a0 l1.length, l1] (sealBody a0 l1) w3 hCC (Nat.le_refl _) ?_).mono ?_
 ·
  unfold slices_Concat_byte_byte.f
  rw [if_pos (by simp [sealHead]; omega)]
  simp [sealBody]
 rintro e w4 ⟨v4, rfl, ho4, hb4⟩
 clear hCC hCg hcg eg ho3 hn eset
 obtain ⟨A4, c4, rfl⟩ := Kd.R_slice ho4
 have hb5 := hb3.trans (hb4.mono hb3.size)
 have hlen : (sealBody a0 l1).length = l1.length + 4 := by simp [sealBody, sealHead]
 have hbx4 := (hb4.block w.heap.size (Array.getElem?_eq_some_iff.1 hbx3).1).trans hbx3
 have ho5 := Kd.R_lower ho4 hb3.size
 clear ho4 hb4 hb3 hbx3 hcap hg1 hg2 hgb hgb'
 obtain ⟨B, hBd⟩ : ∃ B, sealBody a0 l1 = B := ⟨_, rfl⟩
 rw [hBd] at ho5 hlen ⊢
 have HO5 := Aside0.mk ho5
 have HB5 := Aside0.mk hb5
 have HX4 := Aside0.mk hbx4
 have HLEN := Lib.hid hlen
 have HBD := Lib.hid hBd
 clear ho5 hb5 hbx4 hBd hlen
 go_wp2_with fail
 refine (sum1 A4 c4 B w4 (Kd.R_reads' HO5.out).2.2 (by have := HLEN.out; omega)).mono ?_
 rintro e w5 ⟨rfl, hb6⟩
 have ho6 := Kd.R_below HO5.out hb6
 have HB6 := Aside0.mk (HB5.out.trans (hb6.mono HB5.out.size))
 have HO6 := Aside0.mk ho6
 clear ho6 hb6 HO5 HB5 HX4
 rw [show Go.bits .xor .u32 4294967295 (sumTo B) = sumOf B from rfl]
 generalize hS : sumOf B = S
 have HS := Lib.hid hS
 clear hS
 go_wp2_with fail
 refine (laid_calls S w5).mono ?_
 rintro e w6 ⟨rfl, hb7⟩
 have HB7 := Aside0.mk (HB6.out.trans (hb7.mono HB6.out.size))
 have HO7 := Aside0.mk (Kd.R_below HO6.out hb7)
 clear hb7 HO6 HB6
 have hlen4 : (laidL S).length = 4 := rfl
 have hCL : ∀ W : World, W = w6.alloc (.cells #[.int .u8 (S % 256), .int .u8 (S / 256 % 256), .int .u8 (S / 65536 % 256), .int .u8 (S / 16777216 % 256)] 81) → Kd.C (Kd.int .u8) W (some ⟨w6.heap.size, 0, none⟩) (laidL S).length (laidL S) ∧ Below w.heap.size w W ∧ Kd.R (Kd.int .u8) 5 W w.heap.size (fun _ => True) (.slice A4 B.length c4) B := by
  intro W hW
  have hn := World.alloc_heap_new w6 (.cells #[.int .u8 (S % 256), .int .u8 (S / 256 % 256), .int .u8 (S / 65536 % 256), .int .u8 (S / 16777216 % 256)] 81)
  rw [← hW] at hn
  refine ⟨⟨rfl, by simp [laidL], fun _ => ⟨⟨w6.heap.size, 0, none⟩, rfl, fun j p hj => ?_⟩⟩, hW ▸ below_alloc HB7.out _, hW ▸ Kd.R_alloc HO7.out _⟩
  clear hW
  have hj4 : j < 4 := by have := (List.getElem?_eq_some_iff.1 hj).1; simpa [laidL] using this
  match j, hj, hj4 with
  | 0, hj, _ => cases hj; refine ⟨_, rfl, rfl, fun i u hu => ?_⟩; match i, hu with | 0, hu => cases hu; rw [add_plain]; simp [World.cell?, hn]
  | 1, hj, _ => cases hj; refine ⟨_, rfl, rfl, fun i u hu => ?_⟩; match i, hu with | 0, hu => cases hu; rw [add_plain]; simp [World.cell?, hn]; rfl
  | 2, hj, _ => cases hj; refine ⟨_, rfl, rfl, fun i u hu => ?_⟩; match i, hu with | 0, hu => cases hu; rw [add_plain]; simp [World.cell?, hn]; rfl
  | 3, hj, _ => cases hj; refine ⟨_, rfl, rfl, fun i u hu => ?_⟩; match i, hu with | 0, hu => cases hu; rw [add_plain]; simp [World.cell?, hn]; rfl
 have HCL := Aside0.mk hCL
 have HL4 := Lib.hid hlen4
 clear hCL hlen4
 go_wp2_with ((with_reducible refine gate_builtin (b := .append) (xs := #[.tmp 41, .tmp 42]) rfl ?_); at_builtin; refine Kd.R_append_rows (Kd.int .u8) (w0 := w) w.heap.size rfl (.tmp 41) (.tmp 42) 25 5 (.int .u8 0) 1 rfl Try.underlying25 info5 rfl (by decide) (by omega) (.slice A4 B.length c4) B (laidL S) _ _ _ (fun _ => True) (fun _ => False) rfl rfl ?aO ?aR (fun _ _ h => h) (fun _ h => h.elim) ?aF ?aB ?aS ?aL ?_; (case aR => exact (HCL.out _ rfl).1); (case aB => exact (HCL.out _ rfl).2.1); (case aF => exact (fun _ _ => trivial)); (case aO => exact (HCL.out _ rfl).2.2); (case aS => exact (below_size (HCL.out _ rfl).2.1)); (case aL => have := HLEN.out; have := HL4.out; omega); intro v121 w8 ho hb hg hat; have HB8 := Aside0.mk hb; have HO8 := Aside0.mk ho; clear ho hb hg hat)
 have key : B ++ laidL S = sealBody a0 l1 ++ laidL (sumOf (sealBody a0 l1)) := by
  have e1 := HBD.out
  have e2 := HS.out
  rw [e1, e2]
 have HKey := Lib.hid key
 clear key HBD HS
 have hg := HO8.out
 have HB9 := HB8.out
 rw [HKey.out] at hg
 go_ret2
 exact ⟨_, rfl, hg, HB9⟩
theorem seal_Put.calls (a0_0 : Int) (A0_1 : Option Addr) (c0_1 : Nat) (l0_1 : List Int) (r0 : List Int) (r1 : Int) (w : World) (hr0_1 : Kd.C (Kd.int .u8) w A0_1 l0_1.length l0_1) (hc0_1 : l0_1.length ≤ c0_1) (h : seal_Put.f a0_0 l0_1 = some (r0, r1)) :
  Calls Try.prog 27 #[.agg #[.int .i64 a0_0, .slice A0_1 l0_1.length c0_1]] w fun e w' => ∃ v0_ : Value, e = .returned (.tuple #[v0_, .int .i64 r1]) ∧ Kd.R (Kd.int .u8) 5 w' w.heap.size (fun _ => True) v0_ r0 ∧ Below w.heap.size w w' := by
 unfold seal_Put.f at h
 split at h
 ·
  rename_i h1
  injection h with h
  injection h with h2 h3
  subst h2
  subst h3
  clear hr0_1 hc0_1
  have b1 : a0_0 = 0 ∨ (¬ a0_0 = 0 ∧ ¬ a0_0 = a0_0 % 256) := by omega
  have HBox := Boxed.new w 3 (.int .i64 a0_0)
  clear HBox h1
  rcases b1 with b1 | b1
  ·
   subst b1
   go_enter Try.func27, Try.ntmps27
   go_wp2
   go_ret2
   exact ⟨_, rfl, Kd.R_nil _ _ _ _ _, ((Below.refl _ w).alloc (Nat.le_refl _) _)⟩
  ·
   obtain ⟨b1, b2⟩ := b1
   have b1' : (a0_0 == 0) = false := beq_eq_false_iff_ne.mpr b1
   have b2' : (a0_0 != a0_0 % 256) = true := bne_iff_ne.mpr b2
   go_enter Try.func27, Try.ntmps27
   go_wp2
   go_ret2
   exact ⟨_, rfl, Kd.R_nil _ _ _ _ _, ((Below.refl _ w).alloc (Nat.le_refl _) _)⟩
 ·
  rename_i h1
  split at h
  ·
   rename_i h2
   injection h with h
   injection h with h3 h4
   subst h3
   subst h4
   clear hr0_1 hc0_1
   have b1' : (a0_0 == 0) = false := beq_eq_false_iff_ne.mpr (by omega)
   have b2' : (a0_0 != a0_0 % 256) = false := bne_eq_false_iff_eq.mpr (by omega)
   clear h1
   go_enter Try.func27, Try.ntmps27
   go_wp2
   go_ret2
   exact ⟨_, rfl, Kd.R_nil _ _ _ _ _, ((Below.refl _ w).alloc (Nat.le_refl _) _)⟩
  ·
   rename_i h2
   injection h with h
   injection h with h3 h4
   subst h3
   subst h4
   exact put1 a0_0 A0_1 c0_1 l0_1 w hr0_1 hc0_1 (by omega) (by omega) (by omega)
end Go.Proofs.Ytgmkgobapeencaa.S
