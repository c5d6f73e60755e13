import Derived.Test.YtgmkgobapeencaaYS0
import Derived.Test.YtgmkgobapeencaaYS2
namespace Go.Proofs.Ytgmkgobapeencaa.S
open Go.RowKit Go.Proofs.YtgmkgobapeencaaW.PrintWords Go.Proofs.YtgmkgobapeencaaW.PrintLast Go.Proofs.YtgmkgobapeencaaW.PrintMore
attribute [local go_sem] max2_int min2_int max_two min_two max_three min_three max_four min_four   -- for this text's walks alone
set_option linter.unusedVariables false
set_option linter.unusedSimpArgs false
theorem reverse4 (a b c d : Int) : slices_Reverse_byte_byte.f 3 [a, b, c, d] = some [d, c, b, a] := by
 have e1 : wrap64 ((([a, b, c, d] : List Int).length : Int) - 1) = 3 := by simp [wrap64]
 have e2 : wrap64 ((0 : Int) + 1) = 1 := by simp [wrap64]
 have e3 : wrap64 ((3 : Int) - 1) = 2 := by simp [wrap64]
 have e4 : wrap64 ((1 : Int) + 1) = 2 := by simp [wrap64]
 have e5 : wrap64 ((2 : Int) - 1) = 1 := by simp [wrap64]
 have e6 : wrap64 (1 : Int) = 1 := by simp [wrap64]
 have e7 : wrap64 (2 : Int) = 2 := by simp [wrap64]
 have e8 : wrap64 (3 : Int) = 3 := by simp [wrap64]
 unfold slices_Reverse_byte_byte.f
 rw [e1]
 simp [slices_Reverse_byte_byte.l0, rd, e2, e3, e4, e5, e6, e7, e8]
set_option maxRecDepth 100000 in
set_option maxHeartbeats 4000000 in
theorem laid_calls (c : Int) (w : World) : Calls Try.prog 42 #[.int .u32 c] w fun e w' => e = .returned (.agg #[.int .u8 (c % 256), .int .u8 (c / 256 % 256), .int .u8 (c / 65536 % 256), .int .u8 (c / 16777216 % 256)]) ∧ Below w.heap.size w w' := by
 go_enter Try.func42, Try.ntmps42
 go_wp2_with fail
 refine (seal_four.calls c _ _ rfl).mono ?_
 rintro e w1 ⟨v, rfl, ho, hb⟩
 obtain ⟨A1, c1, rfl⟩ := Kd.R_slice ho
 go_wp2_with fail
 refine (slices_Reverse_byte_byte.calls 3 (fun _ => True) _ _ _ _ _ hb ho (reverse4 _ _ _ _)).mono ?_
 rintro e w2 ⟨rfl, ho2, hb2, _⟩
 clear ho hb
 obtain ⟨g, cap, eg, hg1, hg2, cells, hcells⟩ := Kd.R_form ho2 (by simp)
 injection eg with eA _ ec
 subst eA
 subst ec
 obtain ⟨x0, f0⟩ := Kd.R_celln (0 : Int) ho2 (0 : Int) (by omega) (by simp)
 obtain ⟨x1, f1⟩ := Kd.R_celln (0 : Int) ho2 (1 : Int) (by omega) (by simp)
 obtain ⟨x2, f2⟩ := Kd.R_celln (0 : Int) ho2 (2 : Int) (by omega) (by simp)
 obtain ⟨x3, f3⟩ := Kd.R_celln (0 : Int) ho2 (3 : Int) (by omega) (by simp)
 change w2.cell? ⟨g, 0, none⟩ = some (.int .u8 (c % 256)) at x0
 change w2.cell? ⟨g, 1, none⟩ = some (.int .u8 (c / 256 % 256)) at x1
 change w2.cell? ⟨g, 2, none⟩ = some (.int .u8 (c / 65536 % 256)) at x2
 change w2.cell? ⟨g, 3, none⟩ = some (.int .u8 (c / 16777216 % 256)) at x3
 have hz := (hb2.block w.heap.size (by simp)).trans (World.alloc_heap_new w _)
 obtain ⟨z0, z1, z2, z3, zf⟩ : w2.cell? ⟨w.heap.size, 0, none⟩ = some (.int .u8 0) ∧ w2.cell? ⟨w.heap.size, 1, none⟩ = some (.int .u8 0) ∧ w2.cell? ⟨w.heap.size, 2, none⟩ = some (.int .u8 0) ∧ w2.cell? ⟨w.heap.size, 3, none⟩ = some (.int .u8 0) ∧ ∀ j, w2.frozen? ⟨w.heap.size, j, none⟩ = false := by
  refine ⟨?_, ?_, ?_, ?_, fun j => ?_⟩ <;> simp [World.cell?, World.frozen?, hz]
 have HB := Aside0.mk ((((Below.refl _ w).alloc (Nat.le_refl _) (.cells #[.int .u8 0, .int .u8 0, .int .u8 0, .int .u8 0] 81))).trans (hb2.mono (by simp)))
 have hne : w.heap.size ≠ g := by simp at hg1; omega
 have HZ := Aside0.mk hz
 clear hb2 hcells ho2 f0 f1 f2 f3 hz
 have hAA := fun W : World => run_arrayAt (P := Try.prog) (w := W) 81 5 4 (some ⟨g, 0, none⟩) 4 c1 Try.underlying81 (by omega)
 go_wp2
 have H1 := HZ.out
 have hfin : ((((w2.setCell ⟨w.heap.size, 0, none⟩ (.int .u8 (c % 256))).setCell ⟨w.heap.size, 1, none⟩ (.int .u8 (c / 256 % 256))).setCell ⟨w.heap.size, 2, none⟩ (.int .u8 (c / 65536 % 256))).setCell ⟨w.heap.size, 3, none⟩ (.int .u8 (c / 16777216 % 256))).heap[w.heap.size]? = some (.cells #[.int .u8 (c % 256), .int .u8 (c / 256 % 256), .int .u8 (c / 65536 % 256), .int .u8 (c / 16777216 % 256)] 81 (0, 0)) := by
  have h2 := heap_setCell_here 3 (.int .u8 (c / 16777216 % 256)) (heap_setCell_here 2 (.int .u8 (c / 65536 % 256)) (heap_setCell_here 1 (.int .u8 (c / 256 % 256)) (heap_setCell_here 0 (.int .u8 (c % 256)) H1)))
  exact h2
 exact bodyPost_ret (v := .agg #[.int .u8 (c % 256), .int .u8 (c / 256 % 256), .int .u8 (c / 65536 % 256), .int .u8 (c / 16777216 % 256)]) (results_cell_row (fn := Try.f42) rfl _ _ w.heap.size _ _ _ _ rfl hfin Try.underlying81 rfl (by kernel_rfl)) rfl ⟨rfl, (((HB.out.setCell (p := ⟨w.heap.size, 0, none⟩) (Nat.le_refl _) _).setCell (p := ⟨w.heap.size, 1, none⟩) (Nat.le_refl _) _).setCell (p := ⟨w.heap.size, 2, none⟩) (Nat.le_refl _) _).setCell (p := ⟨w.heap.size, 3, none⟩) (Nat.le_refl _) _⟩
end Go.Proofs.Ytgmkgobapeencaa.S
namespace Go.Proofs.Ytgmkgobapeencaa.S
open Go.RowKit Go.Proofs.YtgmkgobapeencaaW.PrintWords Go.Proofs.YtgmkgobapeencaaW.PrintLast Go.Proofs.YtgmkgobapeencaaW.PrintMore
attribute [local go_sem] max2_int min2_int max_two min_two max_three min_three max_four min_four   -- for this text's walks alone
set_option linter.unusedVariables false
set_option linter.unusedSimpArgs false
def seal_number.l0 : Nat → Int → List Int → Int → Int → Option (Int)
 | 0, _, _, _, _ => none
 | k + 1, x3, x6, x7, x8 => if x8 < x7 then (if 0 ≤ x8 then (if x8 < (x6.length : Int) then (seal_number.l0 k (Go.bits .or .i64 (wrap64 (x3 * 256)) (wrap64 (rd x6 x8))) x6 x7 (wrap64 (x8 + 1))) else (none)) else (none)) else (some x3)
def seal_number.f (k : Nat) (l0 : List Int) : Option (Int) := seal_number.l0 k 0 l0 (l0.length : Int) 0
theorem seal_number.mono_l : ∀ k, (∀ y0 y1 y2 y3, LeO (seal_number.l0 k y0 y1 y2 y3) (seal_number.l0 (k + 1) y0 y1 y2 y3))
 | 0 => fun _ _ _ _ r h => by simp [seal_number.l0] at h
 | k + 1 => by
  have ih0 := seal_number.mono_l k
  ·
   intro y0 y1 y2 y3
   unfold seal_number.l0
   repeat' first
   | (with_reducible exact ih0 _ _ _ _)
   | (with_reducible exact LeO.refl _)
   | (with_reducible exact LeO.none _)
   | (with_reducible refine LeO.ite ?_ ?_)
   | (with_reducible refine LeO.bind ?_ (fun _ => ?_))
theorem seal_number.mono : ∀ a0 k, LeO (seal_number.f k a0) (seal_number.f (k + 1) a0) := by
 intro a0 k
 have ih0 := seal_number.mono_l k
 unfold seal_number.f
 repeat' first
   | (with_reducible exact ih0 _ _ _ _)
   | (with_reducible exact LeO.refl _)
   | (with_reducible exact LeO.none _)
   | (with_reducible refine LeO.ite ?_ ?_)
   | (with_reducible refine LeO.bind ?_ (fun _ => ?_))
set_option maxHeartbeats 8000000 in
set_option maxRecDepth 100000 in
theorem seal_number.calls (k : Nat) (A0 : Option Addr) (c0 : Nat) (l0 : List Int) (r : Int) (w : World) (hr0 : Kd.C (Kd.int .u8) w A0 l0.length l0) (hc0 : l0.length ≤ c0) (h : seal_number.f k l0 = some r) :
  Calls Try.prog 56 #[.slice A0 l0.length c0] w fun e w' => e = .returned (.int .i64 r) ∧ Drawn0 w w' := by
 have HR0 := Aside0.mk hr0
 have HC0 := Aside0.mk hc0
 clear hr0 hc0
 have H : (seal_number.l0 k 0 l0 (l0.length : Int) 0) = some r := h
 clear h
 have H' := Aside0.mk H
 clear H
 go_enter Try.func56, Try.ntmps56
 go_wp2
 go_loopg [3, 8] k (fun kq v3 v8 w' => ∃ (x3_1 : Int) (x8_1 : Int), v3 = .int .i64 x3_1 ∧ v8 = .int .i64 x8_1 ∧ Aside0 (seal_number.l0 kq x3_1 l0 (l0.length : Int) x8_1 = some r) ∧ Aside0 (kq ≤ k) ∧ Drawn0 w w')
 case atStart => exact ⟨(0), (0), (by first | rfl | (simp; done) | (simp [*]; done)), (by first | rfl | (simp; done) | (simp [*]; done)), H', ⟨Nat.le_refl _⟩, by repeat (first | exact Drawn0.refl _ | apply Drawn0.step)⟩
 case round =>
  clear H'
  obtain ⟨x3_1, x8_1, rfl, rfl, HA, HK1, ⟨m1, rfl⟩⟩ := hrel
  cases gk with
  | zero => exact absurd HA.out (by simp [seal_number.l0])
  | succ k1 =>
   have H := HA.out
   clear HA
   simp only [seal_number.l0] at H
   by_cases c2 : x8_1 < (l0.length : Int)
   ·
    rw [if_pos c2] at H
    have c2b0 : decide (x8_1 < (l0.length : Int)) = true := decide_eq_true c2
    clear c2
    by_cases c3 : 0 ≤ x8_1
    ·
     rw [if_pos c3] at H
     have c3b0 : decide (0 ≤ x8_1) = true := decide_eq_true c3
     clear c3
     by_cases c4 : x8_1 < (l0.length : Int)
     ·
      rw [if_pos c4] at H
      have c4b0 : decide (x8_1 < (l0.length : Int)) = true := decide_eq_true c4
      clear c4
      have H' := Aside0.mk H
      clear H
      have p108 : 0 ≤ (x8_1 : Int) := oD
      have q108 : x8_1 < (l0.length : Int) := oD
      obtain ⟨ad108, e108, hx108_0⟩ := Kd.at_int HR0.out x8_1 p108 q108
      cases e108
      replace p108 := eq_true p108
      replace q108 := eq_true q108
      go_wp2
      go_roundg k1
      case measure => have := HK1.out; omega
      case rel => exact ⟨(Go.bits .or .i64 (wrap64 (x3_1 * 256)) (wrap64 (rd l0 x8_1))), (wrap64 (x8_1 + 1)), (by first | rfl | (simp; done) | (simp [*]; done)), (by first | rfl | (simp; done) | (simp [*]; done)), H', ⟨by have := HK1.out; omega⟩, by repeat (first | exact Drawn0.refl _ | apply Drawn0.step)⟩
     ·
      rw [if_neg c4] at H
      exact absurd H (by simp)
    ·
     rw [if_neg c3] at H
     exact absurd H (by simp)
   ·
    rw [if_neg c2] at H
    have c2b0 : decide (x8_1 < (l0.length : Int)) = false := decide_eq_false c2
    clear c2
    obtain rfl := Option.some.inj H
    go_wp2
    go_ret
    exact ⟨by first | rfl | (simp; done) | (simp [*]; done), by repeat (first | exact Drawn0.refl _ | apply Drawn0.step)⟩
end Go.Proofs.Ytgmkgobapeencaa.S
