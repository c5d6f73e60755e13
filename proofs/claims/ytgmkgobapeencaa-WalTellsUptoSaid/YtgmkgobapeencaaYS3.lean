import Derived.Test.YtgmkgobapeencaaYS0
import Derived.Test.YtgmkgobapeencaaYS2
namespace Go.Proofs.Ytgmkgobapeencaa.S
open Go.RowKit Go.Proofs.YtgmkgobapeencaaW.PrintWords Go.Proofs.YtgmkgobapeencaaW.PrintLast Go.Proofs.YtgmkgobapeencaaW.PrintMore
attribute [local go_sem] max2_int min2_int max_two min_two max_three min_three max_four min_four
set_option linter.unusedVariables false
set_option linter.unusedSimpArgs false
theorem reverse4 (a b c d : Int) : slices_Reverse_byte_byte.f 3 [a, b, c, d] = some [d, c, b, a] := by
 have e1 : wrap64 ((([a, b, c, d] : List Int).length : Int) - 1) = 3 := by simp [wrap64]
 have e2 : wrap64 ((0 : Int) + 1) = 1 := by simp [wrap64]
 have e3 : wrap64 ((3 : Int) - 1) = 2 := by simp [wrap64]
 have e4 : wrap64 ((1 : Int) + 1) = 2 := by simp [wrap64]
 have e5 : wrap64 ((2 : Int) - 1) = 1 := by simp [wrap64]
 have e6 : wrap64 (1 : Int) = 1 := by simp [wrap64]
 have e7 : wrap64 (2 : Int) = 2 := by simp [wrap64]
 have e8 : wrap64 (3 : Int) = 3 := by simp [wrap64]
 unfold slices_Reverse_byte_byte.f
 rw [e1]
 simp [slices_Reverse_byte_byte.l0, rd, e2, e3, e4, e5, e6, e7, e8]
set_option maxRecDepth 100000 in
set_option maxHeartbeats 4000000 in
theorem laid_calls (c : Int) (w : World) : Calls Try.prog 42 #[.int .u32 c] w fun e w' => e = .returned (.agg #[.int .u8 (c % 256), .int .u8 (c / 256 % 256), .int .u8 (c / 65536 % 256), .int .u8 (c / 16777216 % 256)]) ∧ Below w.heap.size w w' := by
 go_enter Try.func42, Try.ntmps42
 go_wp2_with fail
 refine (seal_four.calls c _ _ rfl).mono ?_
 rintro e w1 ⟨v, rfl, ho, hb⟩
 obtain ⟨A1, c1, rfl⟩ := Kd.R_slice ho
 go_wp2_with fail
 refine (slices_Reverse_byte_byte.calls 3 (fun _ => True) _ _ _ _ _ hb ho (reverse4 _ _ _ _)).mono ?_
 rintro e w2 ⟨rfl, ho2, hb2, _⟩
 clear ho hb
 obtain ⟨g, cap, eg, hg1, hg2, cells, hcells⟩ := Kd.R_form ho2 (by simp)
 injection eg with eA _ ec
 subst eA
 subst ec
 obtain ⟨x0, f0⟩ := Kd.R_celln (0 : Int) ho2 (0 : Int) (by omega) (by simp)
 obtain ⟨x1, f1⟩ := Kd.R_celln (0 : Int) ho2 (1 : Int) (by omega) (by simp)
 obtain ⟨x2, f2⟩ := Kd.R_celln (0 : Int) ho2 (2 : Int) (by omega) (by simp)
 obtain ⟨x3, f3⟩ := Kd.R_celln (0 : Int) ho2 (3 : Int) (by omega) (by simp)
 change w2.cell? ⟨g, 0, none⟩ = some (.int .u8 (c % 256)) at x0
 change w2.cell? ⟨g, 1, none⟩ = some (.int .u8 (c / 256 % 256)) at x1
 change w2.cell? ⟨g, 2, none⟩ = some (.int .u8 (c / 65536 % 256)) at x2
 change w2.cell? ⟨g, 3, none⟩ = some (.int .u8 (c / 16777216 % 256)) at x3
 have hz := (hb2.block w.heap.size (by simp)).trans (World.alloc_heap_new w _)
 obtain ⟨z0, z1, z2, z3, zf⟩ : w2.cell? ⟨w.heap.size, 0, none⟩ = some (.int .u8 0) ∧ w2.cell? ⟨w.heap.size, 1, none⟩ = some (.int .u8 0) ∧ w2.cell? ⟨w.heap.size, 2, none⟩ = some (.int .u8 0) ∧ w2.cell? ⟨w.heap.size, 3, none⟩ = some (.int .u8 0) ∧ ∀ j, w2.frozen? ⟨w.heap.size, j, none⟩ = false := by
  refine ⟨?_, ?_, ?_, ?_, fun j => ?_⟩ <;> simp [World.cell?, World.frozen?, hz]
 have HB := Aside0.mk ((((Below.refl _ w).alloc (Nat.le_refl _) (.cells #[.int .u8 0, .int .u8 0, .int .u8 0, .int .u8 0] 81))).trans (hb2.mono (by simp)))
 have hne : w.heap.size ≠ g := by simp at hg1; omega
 have HZ := Aside0.mk hz
 clear hb2 hcells ho2 f0 f1 f2 f3 hz
 have hAA := fun W : World => run_arrayAt (P := Try.prog) (w := W) 81 5 4 (some ⟨g, 0, none⟩) 4 c1 Try.underlying81 (by omega)
 go_wp2
 have H1 := HZ.out
 have hfin : ((((w2.setCell ⟨w.heap.size, 0, none⟩ (.int .u8 (c % 256))).setCell ⟨w.heap.size, 1, none⟩ (.int .u8 (c / 256 % 256))).setCell ⟨w.heap.size, 2, none⟩ (.int .u8 (c / 65536 % 256))).setCell ⟨w.heap.size, 3, none⟩ (.int .u8 (c / 16777216 % 256))).heap[w.heap.size]? = some (.cells #[.int .u8 (c % 256), .int .u8 (c / 256 % 256), .int .u8 (c / 65536 % 256), .int .u8 (c / 16777216 % 256)] 81 (0, 0)) := by
  have h2 := heap_setCell_here 3 (.int .u8 (c / 16777216 % 256)) (heap_setCell_here 2 (.int .u8 (c / 65536 % 256)) (heap_setCell_here 1 (.int .u8 (c / 256 % 256)) (heap_setCell_here 0 (.int .u8 (c % 256)) H1)))
  exact h2
 exact bodyPost_ret (v := .agg #[.int .u8 (c % 256), .int .u8 (c / 256 % 256), .int .u8 (c / 65536 % 256), .int .u8 (c / 16777216 % 256)]) (results_cell_row (fn := Try.f42) rfl _ _ w.heap.size _ _ _ _ rfl hfin Try.underlying81 rfl (by kernel_rfl)) rfl ⟨rfl, (((HB.out.setCell (p := ⟨w.heap.size, 0, none⟩) (Nat.le_refl _) _).setCell (p := ⟨w.heap.size, 1, none⟩) (Nat.le_refl _) _).setCell (p := ⟨w.heap.size, 2, none⟩) (Nat.le_refl _) _).setCell (p := ⟨w.heap.size, 3, none⟩) (Nat.le_refl _) _⟩
end Go.Proofs.Ytgmkgobapeencaa.S
