import Derived.Test.YtgmkgobapeencaaYS2
set_option linter.unusedVariables false
set_option linter.unusedSimpArgs false
set_option maxRecDepth 100000
namespace Go.Proofs.Ytgmkgobapeencaa.S
open Go.RowKit Go.Proofs.YtgmkgobapeencaaW.PrintWords Go.Proofs.YtgmkgobapeencaaW.PrintLast Go.Proofs.YtgmkgobapeencaaW.PrintMore
attribute [local go_sem] max2_int min2_int max_two min_two max_three min_three max_four min_four   -- for this text's walks alone
theorem reverse4 (a b c d : Int) : slices_Reverse_byte_byte.f 3 [a, b, c, d] = some [d, c, b, a] := by
 have e1 : wrap64 ((([a, b, c, d] : List Int).length : Int) - 1) = 3 := by simp [wrap64]
 have e2 : wrap64 ((0 : Int) + 1) = 1 := by simp [wrap64]
 have e3 : wrap64 ((3 : Int) - 1) = 2 := by simp [wrap64]
 have e4 : wrap64 ((1 : Int) + 1) = 2 := by simp [wrap64]
 have e5 : wrap64 ((2 : Int) - 1) = 1 := by simp [wrap64]
 have e6 : wrap64 (1 : Int) = 1 := by simp [wrap64]
 have e7 : wrap64 (2 : Int) = 2 := by simp [wrap64]
 have e8 : wrap64 (3 : Int) = 3 := by simp [wrap64]
 unfold slices_Reverse_byte_byte.f
 rw [e1]
 simp [slices_Reverse_byte_byte.l0, rd, e2, e3, e4, e5, e6, e7, e8]
set_option maxHeartbeats 4000000 in
theorem laid_calls (c : Int) (w : World) : Calls Try.prog 42 #[.int .u32 c] w fun e w' => e = .returned (.agg #[.int .u8 (c % 256), .int .u8 (c / 256 % 256), .int .u8 (c / 65536 % 256), .int .u8 (c / 16777216 % 256)]) ∧ Below w.heap.size w w' := by
 go_enter Try.func42, Try.ntmps42
 go_wp2_with fail
 refine (seal_four.calls c _ _ rfl).mono ?_
 rintro e w1 ⟨v, rfl, ho, hb⟩
 obtain ⟨A1, c1, rfl⟩ := Kd.R_slice ho
 go_wp2_with fail
 refine (slices_Reverse_byte_byte.calls 3 (fun _ => True) _ _ _ _ _ hb ho (reverse4 _ _ _ _)).mono ?_
 rintro e w2 ⟨rfl, ho2, hb2, _⟩
 clear ho hb
 obtain ⟨g, cap, eg, hg1, hg2, cells, hcells⟩ := Kd.R_form ho2 (by simp)
 injection eg with eA _ ec
 subst eA
 subst ec
 obtain ⟨x0, f0⟩ := Kd.R_celln (0 : Int) ho2 (0 : Int) (by omega) (by simp)
 obtain ⟨x1, f1⟩ := Kd.R_celln (0 : Int) ho2 (1 : Int) (by omega) (by simp)
 obtain ⟨x2, f2⟩ := Kd.R_celln (0 : Int) ho2 (2 : Int) (by omega) (by simp)
 obtain ⟨x3, f3⟩ := Kd.R_celln (0 : Int) ho2 (3 : Int) (by omega) (by simp)
 change w2.cell? ⟨g, 0, none⟩ = some (.int .u8 (c % 256)) at x0
 change w2.cell? ⟨g, 1, none⟩ = some (.int .u8 (c / 256 % 256)) at x1
 change w2.cell? ⟨g, 2, none⟩ = some (.int .u8 (c / 65536 % 256)) at x2
 change w2.cell? ⟨g, 3, none⟩ = some (.int .u8 (c / 16777216 % 256)) at x3
 have hz := (hb2.block w.heap.size (by simp)).trans (World.alloc_heap_new w _)
 obtain ⟨z0, z1, z2, z3, zf⟩ : w2.cell? ⟨w.heap.size, 0, none⟩ = some (.int .u8 0) ∧ w2.cell? ⟨w.heap.size, 1, none⟩ = some (.int .u8 0) ∧ w2.cell? ⟨w.heap.size, 2, none⟩ = some (.int .u8 0) ∧ w2.cell? ⟨w.heap.size, 3, none⟩ = some (.int .u8 0) ∧ ∀ j, w2.frozen? ⟨w.heap.size, j, none⟩ = false := by
  refine ⟨?_, ?_, ?_, ?_, fun j => ?_⟩ <;> simp [World.cell?, World.frozen?, hz]
 have HB := Aside0.mk ((((Below.refl _ w).alloc (Nat.le_refl _) (.cells #[.int .u8 0, .int .u8 0, .int .u8 0, .int .u8 0] 81))).trans (hb2.mono (by simp)))
 have hne : w.heap.size ≠ g := by simp at hg1; omega
 have HZ := Aside0.mk hz
 clear hb2 hcells ho2 f0 f1 f2 f3 hz
 have hAA := fun W : World => run_arrayAt (P := Try.prog) (w := W) 81 5 4 (some ⟨g, 0, none⟩) 4 c1 Try.underlying81 (by omega)
 go_wp2
 have H1 := HZ.out
 have hfin : ((((w2.setCell ⟨w.heap.size, 0, none⟩ (.int .u8 (c % 256))).setCell ⟨w.heap.size, 1, none⟩ (.int .u8 (c / 256 % 256))).setCell ⟨w.heap.size, 2, none⟩ (.int .u8 (c / 65536 % 256))).setCell ⟨w.heap.size, 3, none⟩ (.int .u8 (c / 16777216 % 256))).heap[w.heap.size]? = some (.cells #[.int .u8 (c % 256), .int .u8 (c / 256 % 256), .int .u8 (c / 65536 % 256), .int .u8 (c / 16777216 % 256)] 81 (0, 0)) := by
  have h2 := heap_setCell_here 3 (.int .u8 (c / 16777216 % 256)) (heap_setCell_here 2 (.int .u8 (c / 65536 % 256)) (heap_setCell_here 1 (.int .u8 (c / 256 % 256)) (heap_setCell_here 0 (.int .u8 (c % 256)) H1)))
  exact h2
 exact bodyPost_ret (v := .agg #[.int .u8 (c % 256), .int .u8 (c / 256 % 256), .int .u8 (c / 65536 % 256), .int .u8 (c / 16777216 % 256)]) (results_cell_row (fn := Try.f42) rfl _ _ w.heap.size _ _ _ _ rfl hfin Try.underlying81 rfl (by kernel_rfl)) rfl ⟨rfl, (((HB.out.setCell (p := ⟨w.heap.size, 0, none⟩) (Nat.le_refl _) _).setCell (p := ⟨w.heap.size, 1, none⟩) (Nat.le_refl _) _).setCell (p := ⟨w.heap.size, 2, none⟩) (Nat.le_refl _) _).setCell (p := ⟨w.heap.size, 3, none⟩) (Nat.le_refl _) _⟩
end Go.Proofs.Ytgmkgobapeencaa.S
namespace Go.Proofs.Ytgmkgobapeencaa.S
open Go.RowKit Go.Proofs.YtgmkgobapeencaaW.PrintWords Go.Proofs.YtgmkgobapeencaaW.PrintLast Go.Proofs.YtgmkgobapeencaaW.PrintMore
attribute [local go_sem] max2_int min2_int max_two min_two max_three min_three max_four min_four   -- for this text's walks alone
def seal_number.l0 : Nat → Int → List Int → Int → Int → Option (Int)
 | 0, _, _, _, _ => none
 | k + 1, x3, x6, x7, x8 => if x8 < x7 then (if 0 ≤ x8 then (if x8 < (x6.length : Int) then (seal_number.l0 k (Go.bits .or .i64 (wrap64 (x3 * 256)) (wrap64 (rd x6 x8))) x6 x7 (wrap64 (x8 + 1))) else (none)) else (none)) else (some x3)
def seal_number.f (k : Nat) (l0 : List Int) : Option (Int) := seal_number.l0 k 0 l0 (l0.length : Int) 0
theorem seal_number.mono_l : ∀ k, (∀ y0 y1 y2 y3, LeO (seal_number.l0 k y0 y1 y2 y3) (seal_number.l0 (k + 1) y0 y1 y2 y3))
 | 0 => fun _ _ _ _ r h => by simp [seal_number.l0] at h
 | k + 1 => by
  have ih0 := seal_number.mono_l k
  ·
   intro y0 y1 y2 y3
   unfold seal_number.l0
   repeat' first
   | (with_reducible exact ih0 _ _ _ _)
   | with_reducible first | exact LeO.refl _ | exact LeO.none _ | refine LeO.ite ?_ ?_ | refine LeO.bind ?_ fun _ => ?_
theorem seal_number.mono : ∀ a0 k, LeO (seal_number.f k a0) (seal_number.f (k + 1) a0) := by
 intro a0 k
 have ih0 := seal_number.mono_l k
 unfold seal_number.f
 repeat' first
   | (with_reducible exact ih0 _ _ _ _)
   | with_reducible first | exact LeO.refl _ | exact LeO.none _ | refine LeO.ite ?_ ?_ | refine LeO.bind ?_ fun _ => ?_
set_option maxHeartbeats 8000000 in
theorem seal_number.calls (k : Nat) (A0 : Option Addr) (c0 : Nat) (l0 : List Int) (r : Int) (w : World) (hr0 : Kd.C (Kd.int .u8) w A0 l0.length l0) (hc0 : l0.length ≤ c0) (h : seal_number.f k l0 = some r) :
  Calls Try.prog 56 #[.slice A0 l0.length c0] w fun e w' => e = .returned (.int .i64 r) ∧ Drawn0 w w' := by
 have HR0 := Aside0.mk hr0
 have HC0 := Aside0.mk hc0
 clear hr0 hc0
 have H : (seal_number.l0 k 0 l0 (l0.length : Int) 0) = some r := h
 clear h
 have H' := Aside0.mk H
 clear H
 go_enter Try.func56, Try.ntmps56
 go_wp2
 go_loopg [3, 8] k (fun kq v3 v8 w' => ∃ (x3_1 : Int) (x8_1 : Int), v3 = .int .i64 x3_1 ∧ v8 = .int .i64 x8_1 ∧ Aside0 (seal_number.l0 kq x3_1 l0 (l0.length : Int) x8_1 = some r) ∧ Aside0 (kq ≤ k) ∧ Drawn0 w w')
 case atStart => exact ⟨(0), (0), (by first | rfl | (simp; done) | (simp [*]; done)), (by first | rfl | (simp; done) | (simp [*]; done)), H', ⟨Nat.le_refl _⟩, by repeat (first | exact Drawn0.refl _ | apply Drawn0.step)⟩
 case round =>
  clear H'
  obtain ⟨x3_1, x8_1, rfl, rfl, HA, HK1, ⟨m1, rfl⟩⟩ := hrel
  cases gk with
  | zero => exact absurd HA.out (by simp [seal_number.l0])
  | succ k1 =>
   have H := HA.out
   clear HA
   simp only [seal_number.l0] at H
   by_cases c2 : x8_1 < (l0.length : Int)
   ·
    rw [if_pos c2] at H
    have c2b0 : decide (x8_1 < (l0.length : Int)) = true := decide_eq_true c2
    clear c2
    by_cases c3 : 0 ≤ x8_1
    ·
     rw [if_pos c3] at H
     have c3b0 : decide (0 ≤ x8_1) = true := decide_eq_true c3
     clear c3
     by_cases c4 : x8_1 < (l0.length : Int)
     ·
      rw [if_pos c4] at H
      have c4b0 : decide (x8_1 < (l0.length : Int)) = true := decide_eq_true c4
      clear c4
      have H' := Aside0.mk H
      clear H
      have p108 : 0 ≤ (x8_1 : Int) := oD
      have q108 : x8_1 < (l0.length : Int) := oD
      obtain ⟨ad108, e108, hx108_0⟩ := Kd.at_int HR0.out x8_1 p108 q108
      cases e108
      replace p108 := eq_true p108
      replace q108 := eq_true q108
      go_wp2
      go_roundg k1
      case measure => have := HK1.out; omega
      case rel => exact ⟨(Go.bits .or .i64 (wrap64 (x3_1 * 256)) (wrap64 (rd l0 x8_1))), (wrap64 (x8_1 + 1)), (by first | rfl | (simp; done) | (simp [*]; done)), (by first | rfl | (simp; done) | (simp [*]; done)), H', ⟨by have := HK1.out; omega⟩, by repeat (first | exact Drawn0.refl _ | apply Drawn0.step)⟩
     ·
      rw [if_neg c4] at H
      exact absurd H (by simp)
    ·
     rw [if_neg c3] at H
     exact absurd H (by simp)
   ·
    rw [if_neg c2] at H
    have c2b0 : decide (x8_1 < (l0.length : Int)) = false := decide_eq_false c2
    clear c2
    obtain rfl := Option.some.inj H
    go_wp2
    go_ret
    exact ⟨by first | rfl | (simp; done) | (simp [*]; done), by repeat (first | exact Drawn0.refl _ | apply Drawn0.step)⟩
end Go.Proofs.Ytgmkgobapeencaa.S
namespace Go.Proofs.Ytgmkgobapeencaa.S
open Go.RowKit Go.Proofs.YtgmkgobapeencaaW.PrintWords Go.Proofs.YtgmkgobapeencaaW.PrintLast Go.Proofs.YtgmkgobapeencaaW.PrintMore
attribute [local go_sem] max2_int min2_int max_two min_two max_three min_three max_four min_four   -- for this text's walks alone
theorem catRow_at {w : World} {A : Option Addr} {n : Nat} {xs : List (List Int)} (h : Kd.C (Kd.slice 5 (Kd.int .u8)) w A n xs) (i : Nat) (h1 : i < n) : ∃ ad A0 c0, A = some ad ∧ w.cell? (ad.add i) = some (.slice A0 (xs.getD i []).length c0) ∧ (xs.getD i []).length ≤ c0 ∧ (Kd.int .u8).C w A0 (xs.getD i []).length (xs.getD i []) := by
 obtain ⟨ad, c, e, _, hK, hc0⟩ := Kd.C_get h ([] : List Int) i (by omega) (by omega)
 have hc : ∀ j u, c[j]? = some u → w.cell? (ad.add ((i : Int).toNat * 1 + j)) = some u := hc0
 obtain ⟨A0, c0, rfl, l0, g0⟩ := hK
 refine ⟨ad, A0, c0, e, ?_, l0, g0⟩
 have hq := hc 0 _ rfl
 simpa using hq
theorem growNil_0 (w : World) : Calls Try.prog 44 #[.slice none 0 0, .int .i64 0] w fun e w' => e = .returned (.slice none 0 0) ∧ w = w' := by
 go_enter Try.func44, Try.ntmps44
 go_wp2
 go_ret
 exact ⟨rfl, rfl⟩
set_option maxHeartbeats 2000000 in
theorem growNil (n : Int) (h0 : 0 < n) (h1 : n < 140737488355328) (w : World) : Calls Try.prog 44 #[.slice none 0 0, .int .i64 n] w fun e w' => ∃ v : Value, e = .returned v ∧ Kd.R (Kd.int .u8) 5 w' w.heap.size (fun _ => True) v [] ∧ Below w.heap.size w w' := by
 have hd1 : decide (n < 0) = false := decide_eq_false (by omega)
 have hd2 : decide (0 < n) = true := decide_eq_true h0
 go_enter Try.func44, Try.ntmps44
 go_wp2_with ((with_reducible refine gate_builtin (b := .append) (xs := #[.tmp 20, .tmp 21]) rfl ?_); at_builtin; refine Kd.R_append_zeros (Kd.int .u8) (w0 := w) w.heap.size rfl (.tmp 20) (.tmp 21) 25 3 5 (.int .u8 0) 1 rfl Try.underlying25 Try.underlying3 info5 rfl (by decide) (by decide) (.slice none 0 0) ([] : List Int) 0 n (fun _ => True) rfl rfl rfl (fun _ _ => trivial) (Kd.R_nil _ _ _ _ _) (by omega) (Below.refl _ _) (Nat.le_refl _) (by simp; omega) ?_; intro v1 w1 ho hb hg hat; obtain ⟨A1, c1, rfl, hc1, hC1⟩ := Kd.R_reads ho; have HO := Aside0.mk ho; have HB := Aside0.mk hb; clear ho hb hg hat hC1)
 go_ret
 exact ⟨_, rfl, by have := Kd.R_take (m := 0) HO.out (by omega); simpa using this, HB.out⟩
def slices_Concat_byte_byte.f (l0 : List (List Int)) : Option (List Int) := if l0.length ≤ 1000000 ∧ l0.flatten.length < 140737488355328 then some l0.flatten else none
def catLen (ls : List (List Int)) (k : Nat) : Nat := (ls.take k).flatten.length
def catOf (ls : List (List Int)) (k : Nat) : List Int := (ls.take k).flatten
theorem catLen_le (ls : List (List Int)) (k : Nat) : catLen ls k ≤ ls.flatten.length := by
 unfold catLen
 conv => rhs; rw [← List.take_append_drop k ls, List.flatten_append, List.length_append]
 omega
theorem catOf_succ {ls : List (List Int)} {k : Nat} (hk : k < ls.length) : catOf ls (k + 1) = catOf ls k ++ ls.getD k [] := by
 unfold catOf
 rw [List.take_succ_eq_append_getElem hk, List.flatten_append, List.flatten_singleton]
 congr 1
 simp [hk]
theorem catOf_length (ls : List (List Int)) (k : Nat) : (catOf ls k).length = catLen ls k := rfl
theorem catLen_succ {ls : List (List Int)} {k : Nat} (hk : k < ls.length) : catLen ls (k + 1) = catLen ls k + (ls.getD k []).length := by
 rw [← catOf_length, ← catOf_length, catOf_succ hk, List.length_append]
set_option maxHeartbeats 4000000 in
theorem concat1 (A0 : Option Addr) (c0 : Nat) (l0 : List (List Int)) (w : World) (hr0 : Kd.C (Kd.slice 5 (Kd.int .u8)) w A0 l0.length l0) (hlen : l0.length ≤ 1000000) (hl : l0.flatten.length < 140737488355328) :
  Calls Try.prog 28 #[.slice A0 l0.length c0] w fun e w' => ∃ v0_ : Value, e = .returned v0_ ∧ Kd.R (Kd.int .u8) 5 w' w.heap.size (fun _ => True) v0_ (catOf l0 l0.length) ∧ Below w.heap.size w w' := by
 have HR := Aside0.mk hr0
 have HL : ∀ k, catLen l0 k < 140737488355328 := fun k => Nat.lt_of_le_of_lt (catLen_le l0 k) hl
 have HLh := Lib.hid HL
 clear hr0 hl HL
 go_enter Try.func28, Try.ntmps28
 go_wp2
 go_loop [3, 11] (fun s i => ∃ k : Nat, k ≤ l0.length ∧ i = .int .i64 k ∧ s = .int .i64 (catLen l0 k : Nat)) (fun _ i => l0.length - (intOf i).toNat)
 case atStart => exact ⟨0, by omega, rfl, rfl⟩
 case round =>
  obtain ⟨k, hk, rfl, rfl⟩ := hrel
  by_cases hlt : k < l0.length
  ·
   obtain ⟨ad, A1, c1, rfl, hcell, _, _⟩ := catRow_at HR.out k hlt
   have hs2 := catLen_succ hlt
   have hb := HLh.out (k + 1)
   obtain ⟨a, ha⟩ : ∃ a, catLen l0 k = a := ⟨_, rfl⟩
   obtain ⟨b, hb'⟩ : ∃ b, (l0.getD k []).length = b := ⟨_, rfl⟩
   rw [ha, hb'] at hs2
   rw [hb'] at hcell
   have H2 := Lib.hid hs2
   have hbd : a + b < 140737488355328 := by omega
   rw [ha]
   clear hs2 hb ha hb'
   have h00 : decide ((a : Int) + b < 0) = false := decide_eq_false (by omega)
   go_wp2
   go_round
   case rel => exact ⟨k + 1, by omega, by go_num, by rw [H2.out]; go_num⟩
   case measure => simp [intOf]; omega
  ·
   obtain rfl : k = l0.length := by omega
   have hb := HLh.out l0.length
   obtain ⟨T, hT⟩ : ∃ T, catLen l0 l0.length = T := ⟨_, rfl⟩
   rw [hT] at hb ⊢
   clear hT
   go_wp2_with fail
   have HG : Calls Try.prog 44 #[.slice none 0 0, .int .i64 T] w fun e w' => ∃ v : Value, e = .returned v ∧ Kd.R (Kd.int .u8) 5 w' w.heap.size (fun _ => True) v [] ∧ Below w.heap.size w w' := by
    rcases Nat.eq_zero_or_pos T with h0 | h0
    ·
     subst h0
     exact (growNil_0 w).mono fun e w' ⟨h1, h2⟩ => by subst h2; exact ⟨_, h1, Kd.R_nil _ _ _ _ _, Below.refl _ _⟩
    ·
     exact growNil T (by omega) (by omega) w
   refine HG.mono ?_
   rintro e w1 ⟨v, rfl, ho, hb1⟩
   obtain ⟨A1, c1, rfl⟩ := Kd.R_slice ho
   have HO := Aside0.mk ho
   have HB := Aside0.mk hb1
   clear ho hb1 HG
   go_wp2
   go_loopw [6, 27] (fun v i wr => ∃ k : Nat, k ≤ l0.length ∧ i = .int .i64 k ∧ Aside0 (Kd.R (Kd.int .u8) 5 wr w.heap.size (fun _ => True) v (catOf l0 k)) ∧ Aside0 (Below w.heap.size w wr)) (fun _ i _ => l0.length - (intOf i).toNat)
   case atStart => exact ⟨0, by omega, rfl, HO, HB⟩
   case round =>
    obtain ⟨k, hk, rfl, HO2, HB2⟩ := hrel
    obtain ⟨A2, c2, rfl⟩ := Kd.R_slice HO2.out
    by_cases hlt2 : k < l0.length
    ·
     obtain ⟨ad, A3, c3, rfl, hcell, hc3, hC3⟩ := catRow_at HR.out k hlt2
     have hcell2 := pw_cell_below HB2.out hcell
     have HC3 := Aside0.mk hC3
     have hs2 := catOf_succ hlt2
     have hb2 := HLh.out (k + 1)
     have hs3 := catLen_succ hlt2
     have hal : (catOf l0 k).length + (l0.getD k []).length < 140737488355328 := by rw [catOf_length]; omega
     obtain ⟨row, hrow⟩ : ∃ row, l0.getD k [] = row := ⟨_, rfl⟩
     rw [hrow] at hs2 hcell2 HC3 hal
     have H2 := Lib.hid hs2
     have HAL := Lib.hid hal
     clear hs2 hcell hC3 hrow hb2 hs3 hal
     go_wp2_with ((with_reducible refine gate_builtin (b := .append) (xs := #[.tmp 31, .tmp 32]) rfl ?_); at_builtin; refine Kd.R_append_rows (Kd.int .u8) (w0 := w) w.heap.size rfl (.tmp 31) (.tmp 32) 25 5 (.int .u8 0) 1 rfl Try.underlying25 info5 rfl (by decide) (by omega) (.slice A2 (catOf l0 k).length c2) (catOf l0 k) row _ _ _ (fun _ => True) (fun _ => False) rfl rfl ?aO ?aR (fun _ _ h => h) (fun _ h => h.elim) ?aF ?aB ?aS ?aL ?_; (case aR => exact (Kd.C_below HC3.out HB2.out)); (case aB => exact HB2.out); (case aF => exact (fun _ _ => trivial)); (case aO => exact HO2.out); (case aS => exact (below_size HB2.out)); (case aL => have := HAL.out; omega); intro v121 w3 ho hb hg hat; rw [← H2.out] at ho; have n0_ := Aside0.mk hb; have n1_ := Aside0.mk ho; clear HB2; have HB2 := n0_; have HO3 := n1_; clear n0_ n1_; clear ho hb hg hat)
     go_roundw
     case rel => exact ⟨k + 1, by omega, by go_num, HO3, HB2⟩
     case measure => simp [intOf]; omega
    ·
     obtain rfl : k = l0.length := by omega
     go_wp2
     go_ret
     exact ⟨_, rfl, HO2.out, HB2.out⟩
theorem slices_Concat_byte_byte.calls (A0 : Option Addr) (c0 : Nat) (l0 : List (List Int)) (r : List Int) (w : World) (hr0 : Kd.C (Kd.slice 5 (Kd.int .u8)) w A0 l0.length l0) (hc0 : l0.length ≤ c0) (h : slices_Concat_byte_byte.f l0 = some r) :
  Calls Try.prog 28 #[.slice A0 l0.length c0] w fun e w' => ∃ v0_ : Value, e = .returned v0_ ∧ Kd.R (Kd.int .u8) 5 w' w.heap.size (fun _ => True) v0_ r ∧ Below w.heap.size w w' := by
 unfold slices_Concat_byte_byte.f at h
 split at h
 ·
  rename_i hl
  injection h with h
  subst h
  have := concat1 A0 c0 l0 w hr0 hl.1 hl.2
  rwa [show catOf l0 l0.length = l0.flatten by unfold catOf; rw [List.take_length]] at this
 ·
  cases h
end Go.Proofs.Ytgmkgobapeencaa.S
namespace Go.Proofs.Ytgmkgobapeencaa.S
open Go.RowKit Go.Proofs.YtgmkgobapeencaaW.PrintWords Go.Proofs.YtgmkgobapeencaaW.PrintLast Go.Proofs.YtgmkgobapeencaaW.PrintMore
attribute [local go_sem] max2_int min2_int max_two min_two max_three min_three max_four min_four   -- for this text's walks alone
def sealHead (k n : Int) : List Int := [k % 256, n / 65536 % 256, n / 256 % 256, n % 256]
def laidL (c : Int) : List Int := [c % 256, c / 256 % 256, c / 65536 % 256, c / 16777216 % 256]
def sealBody (k : Int) (l : List Int) : List Int := sealHead k l.length ++ l
def sumOf (b : List Int) : Int := Go.bits .xor .u32 4294967295 (sumTo b)
def seal_Put.f (a0_0 : Int) (l0_1 : List Int) : Option (List Int × Int) :=
 if a0_0 = 0 ∨ ¬ a0_0 = a0_0 % 256 then some ([], 22) else if 65536 < l0_1.length then some ([], 5) else some (sealBody a0_0 l0_1 ++ laidL (sumOf (sealBody a0_0 l0_1)), 0)
theorem C_two {w : World} {g : Nat} {A1 A2 : Option Addr} {l1 l2 : List Int} {c1 c2 : Nat} (h1 : w.cell? ⟨g, 0, none⟩ = some (.slice A1 l1.length c1)) (h2 : w.cell? ⟨g, 1, none⟩ = some (.slice A2 l2.length c2)) (k1 : l1.length ≤ c1) (k2 : l2.length ≤ c2)
  (r1 : Kd.C (Kd.int .u8) w A1 l1.length l1) (r2 : Kd.C (Kd.int .u8) w A2 l2.length l2) : Kd.C (Kd.slice 5 (Kd.int .u8)) w (some ⟨g, 0, none⟩) 2 [l1, l2] := by
 refine ⟨rfl, by omega, fun _ => ⟨⟨g, 0, none⟩, rfl, fun j p hj => ?_⟩⟩
 match j, hj with
 | 0, hj =>
  cases hj
  refine ⟨[.slice A1 l1.length c1], rfl, ⟨A1, c1, rfl, k1, r1⟩, fun i u hu => ?_⟩
  match i, hu with
  | 0, hu => cases hu; rw [add_plain]; exact h1
 | 1, hj =>
  cases hj
  refine ⟨[.slice A2 l2.length c2], rfl, ⟨A2, c2, rfl, k2, r2⟩, fun i u hu => ?_⟩
  match i, hu with
  | 0, hu => cases hu; rw [add_plain]; exact h2
set_option maxHeartbeats 4000000 in
theorem put1 (a0 : Int) (A1 : Option Addr) (c1 : Nat) (l1 : List Int) (w : World) (hr1 : Kd.C (Kd.int .u8) w A1 l1.length l1) (hc1 : l1.length ≤ c1) (h0 : ¬ a0 = 0) (hk : a0 = a0 % 256) (hl : l1.length ≤ 65536) :
  Calls Try.prog 27 #[.agg #[.int .i64 a0, .slice A1 l1.length c1]] w fun e w' => ∃ v0_ : Value, e = .returned (.tuple #[v0_, .int .i64 0]) ∧ Kd.R (Kd.int .u8) 5 w' w.heap.size (fun _ => True) v0_ (sealBody a0 l1 ++ laidL (sumOf (sealBody a0 l1))) ∧ Below w.heap.size w w' := by
 have HR := Aside0.mk hr1
 have HC := Aside0.mk hc1
 clear hr1 hc1
 have b1 : (a0 == 0) = false := beq_eq_false_iff_ne.mpr h0
 have b2 : (a0 != a0 % 256) = false := bne_eq_false_iff_eq.mpr hk
 have HK := Lib.hid hk
 clear hk
 have HBox := Boxed.new w 3 (.int .i64 a0)
 clear HBox
 go_enter Try.func27, Try.ntmps27
 go_wp2_with fail
 refine (seal_four.calls _ _ _ rfl).mono ?_
 rintro e w1 ⟨v, rfl, ho, hb⟩
 obtain ⟨g, cap, rfl, hg1, hg2, cells, hcells⟩ := Kd.R_form ho (by simp)
 have hbx := (hb.block w.heap.size (by simp)).trans (World.alloc_heap_new w _)
 obtain ⟨x0, f0⟩ := Kd.R_celln (0 : Int) ho (0 : Int) (by omega) (by simp)
 have HO := Aside0.mk (show Kd.R (Kd.int .u8) 5 (w1.setCell ⟨g, 0, none⟩ (.int .u8 (a0 % 256))) _ _ _ _ from Kd.R_putn ho (0 : Int) (a0 % 256))
 have hww : w.heap.size < w1.heap.size := by simp at hg1; omega
 have HB := Aside0.mk (((Below.refl _ w).alloc (Nat.le_refl _) (.cells #[.int .i64 a0, .slice A1 l1.length c1] 67)).trans (hb.mono (by simp)))
 have hgb : g ≠ w.heap.size := by simp at hg1; omega
 have hgb' := hgb.symm
 have y0 : w1.cell? ⟨w.heap.size, 0, none⟩ = some (.int .i64 a0) := by simp [World.cell?, hbx]
 have y1 : w1.cell? ⟨w.heap.size, 1, none⟩ = some (.slice A1 l1.length c1) := by simp [World.cell?, hbx]
 have HX := Aside0.mk hbx
 change w1.cell? ⟨g, 0, none⟩ = some (.int .u8 _) at x0
 change w1.frozen? ⟨g, 0, none⟩ = false at f0
 have hcap : ([(l1.length : Int) / 16777216 % 256, (l1.length : Int) / 65536 % 256, (l1.length : Int) / 256 % 256, (l1.length : Int) % 256] : List Int).length = 4 := rfl
 clear ho hb hbx hcells
 go_wp2_with fail
 have HB2 := Aside0.mk (HB.out.setCell (p := ⟨g, 0, none⟩) (by simp at hg1; show w.heap.size ≤ g; omega) (.int .u8 (a0 % 256)))
 have hb3 := below_alloc HB2.out (.cells #[.slice (some ⟨g, 0, none⟩) 4 cap, .slice A1 l1.length c1] 25)
 have hn := World.alloc_heap_new (w1.setCell ⟨g, 0, none⟩ (.int .u8 (a0 % 256))) (.cells #[.slice (some ⟨g, 0, none⟩) 4 cap, .slice A1 l1.length c1] 25)
 have ho3 := Kd.R_alloc HO.out (.cells #[.slice (some ⟨g, 0, none⟩) 4 cap, .slice A1 l1.length c1] 25)
 have hbx3 := (Below.heap_alloc (w1.setCell ⟨g, 0, none⟩ (.int .u8 (a0 % 256))) (.cells #[.slice (some ⟨g, 0, none⟩) 4 cap, .slice A1 l1.length c1] 25) w.heap.size (by simp; omega)).trans ((Below.heap_setCell w1 ⟨g, 0, none⟩ (.int .u8 (a0 % 256)) w.heap.size hgb').trans HX.out)
 have hsz : (w1.setCell ⟨g, 0, none⟩ (.int .u8 (a0 % 256))).heap.size = w1.heap.size := by simp
 rw [hsz] at hn
 generalize (w1.setCell ⟨g, 0, none⟩ (.int .u8 (a0 % 256))).alloc (.cells #[.slice (some ⟨g, 0, none⟩) 4 cap, .slice A1 l1.length c1] 25) = w3 at hb3 hn ho3 hbx3 ⊢
 clear HO HB HB2 HX x0 f0 y0 y1 hsz
 obtain ⟨Ag, cg, eg, hcg, hCg⟩ := Kd.R_reads ho3
 have eset : ([(l1.length : Int) / 16777216 % 256, (l1.length : Int) / 65536 % 256, (l1.length : Int) / 256 % 256, (l1.length : Int) % 256] : List Int).set (Int.toNat 0) (a0 % 256) = sealHead a0 l1.length := rfl
 have hCC : Kd.C (Kd.slice 5 (Kd.int .u8)) w3 (some ⟨w1.heap.size, 0, none⟩) 2 [sealHead a0 l1.length, l1] := by
  rw [eset] at hCg hcg eg
  have e4 : (sealHead a0 l1.length).length = 4 := rfl
  injection eg with e1 _ e3
  subst e1
  subst e3
  refine C_two (A1 := some ⟨g, 0, none⟩) (c1 := cap) (A2 := A1) (c2 := c1) ?_ ?_ hcg HC.out hCg (Kd.C_below HR.out hb3)
  ·
   simp [World.cell?, hn, e4]
  ·
   simp [World.cell?, hn]
 refine (slices_Concat_byte_byte.calls _ 2 [sealHead a0 l1.length, l1] (sealBody a0 l1) w3 hCC (Nat.le_refl _) ?_).mono ?_
 ·
  unfold slices_Concat_byte_byte.f
  rw [if_pos (by simp [sealHead]; omega)]
  simp [sealBody]
 rintro e w4 ⟨v4, rfl, ho4, hb4⟩
 clear hCC hCg hcg eg ho3 hn eset
 obtain ⟨A4, c4, rfl⟩ := Kd.R_slice ho4
 have hb5 := hb3.trans (hb4.mono hb3.size)
 have hlen : (sealBody a0 l1).length = l1.length + 4 := by simp [sealBody, sealHead]
 have hbx4 := (hb4.block w.heap.size (Array.getElem?_eq_some_iff.1 hbx3).1).trans hbx3
 have ho5 := Kd.R_lower ho4 hb3.size
 clear ho4 hb4 hb3 hbx3 hcap hg1 hg2 hgb hgb'
 obtain ⟨B, hBd⟩ : ∃ B, sealBody a0 l1 = B := ⟨_, rfl⟩
 rw [hBd] at ho5 hlen ⊢
 have HO5 := Aside0.mk ho5
 have HB5 := Aside0.mk hb5
 have HX4 := Aside0.mk hbx4
 have HLEN := Lib.hid hlen
 have HBD := Lib.hid hBd
 clear ho5 hb5 hbx4 hBd hlen
 go_wp2_with fail
 refine (sum1 A4 c4 B w4 (Kd.R_reads' HO5.out).2.2 (by have := HLEN.out; omega)).mono ?_
 rintro e w5 ⟨rfl, hb6⟩
 have ho6 := Kd.R_below HO5.out hb6
 have HB6 := Aside0.mk (HB5.out.trans (hb6.mono HB5.out.size))
 have HO6 := Aside0.mk ho6
 clear ho6 hb6 HO5 HB5 HX4
 rw [show Go.bits .xor .u32 4294967295 (sumTo B) = sumOf B from rfl]
 generalize hS : sumOf B = S
 have HS := Lib.hid hS
 clear hS
 go_wp2_with fail
 refine (laid_calls S w5).mono ?_
 rintro e w6 ⟨rfl, hb7⟩
 have HB7 := Aside0.mk (HB6.out.trans (hb7.mono HB6.out.size))
 have HO7 := Aside0.mk (Kd.R_below HO6.out hb7)
 clear hb7 HO6 HB6
 have hlen4 : (laidL S).length = 4 := rfl
 have hCL : ∀ W : World, W = w6.alloc (.cells #[.int .u8 (S % 256), .int .u8 (S / 256 % 256), .int .u8 (S / 65536 % 256), .int .u8 (S / 16777216 % 256)] 81) → Kd.C (Kd.int .u8) W (some ⟨w6.heap.size, 0, none⟩) (laidL S).length (laidL S) ∧ Below w.heap.size w W ∧ Kd.R (Kd.int .u8) 5 W w.heap.size (fun _ => True) (.slice A4 B.length c4) B := by
  intro W hW
  have hn := World.alloc_heap_new w6 (.cells #[.int .u8 (S % 256), .int .u8 (S / 256 % 256), .int .u8 (S / 65536 % 256), .int .u8 (S / 16777216 % 256)] 81)
  rw [← hW] at hn
  refine ⟨⟨rfl, by simp [laidL], fun _ => ⟨⟨w6.heap.size, 0, none⟩, rfl, fun j p hj => ?_⟩⟩, hW ▸ below_alloc HB7.out _, hW ▸ Kd.R_alloc HO7.out _⟩
  clear hW
  have hj4 : j < 4 := by have := (List.getElem?_eq_some_iff.1 hj).1; simpa [laidL] using this
  match j, hj, hj4 with
  | 0, hj, _ => cases hj; refine ⟨_, rfl, rfl, fun i u hu => ?_⟩; match i, hu with | 0, hu => cases hu; rw [add_plain]; simp [World.cell?, hn]
  | 1, hj, _ => cases hj; refine ⟨_, rfl, rfl, fun i u hu => ?_⟩; match i, hu with | 0, hu => cases hu; rw [add_plain]; simp [World.cell?, hn]; rfl
  | 2, hj, _ => cases hj; refine ⟨_, rfl, rfl, fun i u hu => ?_⟩; match i, hu with | 0, hu => cases hu; rw [add_plain]; simp [World.cell?, hn]; rfl
  | 3, hj, _ => cases hj; refine ⟨_, rfl, rfl, fun i u hu => ?_⟩; match i, hu with | 0, hu => cases hu; rw [add_plain]; simp [World.cell?, hn]; rfl
 have HCL := Aside0.mk hCL
 have HL4 := Lib.hid hlen4
 clear hCL hlen4
 go_wp2_with ((with_reducible refine gate_builtin (b := .append) (xs := #[.tmp 41, .tmp 42]) rfl ?_); at_builtin; refine Kd.R_append_rows (Kd.int .u8) (w0 := w) w.heap.size rfl (.tmp 41) (.tmp 42) 25 5 (.int .u8 0) 1 rfl Try.underlying25 info5 rfl (by decide) (by omega) (.slice A4 B.length c4) B (laidL S) _ _ _ (fun _ => True) (fun _ => False) rfl rfl ?aO ?aR (fun _ _ h => h) (fun _ h => h.elim) ?aF ?aB ?aS ?aL ?_; (case aR => exact (HCL.out _ rfl).1); (case aB => exact (HCL.out _ rfl).2.1); (case aF => exact (fun _ _ => trivial)); (case aO => exact (HCL.out _ rfl).2.2); (case aS => exact (below_size (HCL.out _ rfl).2.1)); (case aL => have := HLEN.out; have := HL4.out; omega); intro v121 w8 ho hb hg hat; have HB8 := Aside0.mk hb; have HO8 := Aside0.mk ho; clear ho hb hg hat)
 have key : B ++ laidL S = sealBody a0 l1 ++ laidL (sumOf (sealBody a0 l1)) := by
  have e1 := HBD.out
  have e2 := HS.out
  rw [e1, e2]
 have HKey := Lib.hid key
 clear key HBD HS
 have hg := HO8.out
 have HB9 := HB8.out
 rw [HKey.out] at hg
 go_ret2
 exact ⟨_, rfl, hg, HB9⟩
theorem seal_Put.calls (a0_0 : Int) (A0_1 : Option Addr) (c0_1 : Nat) (l0_1 : List Int) (r0 : List Int) (r1 : Int) (w : World) (hr0_1 : Kd.C (Kd.int .u8) w A0_1 l0_1.length l0_1) (hc0_1 : l0_1.length ≤ c0_1) (h : seal_Put.f a0_0 l0_1 = some (r0, r1)) :
  Calls Try.prog 27 #[.agg #[.int .i64 a0_0, .slice A0_1 l0_1.length c0_1]] w fun e w' => ∃ v0_ : Value, e = .returned (.tuple #[v0_, .int .i64 r1]) ∧ Kd.R (Kd.int .u8) 5 w' w.heap.size (fun _ => True) v0_ r0 ∧ Below w.heap.size w w' := by
 unfold seal_Put.f at h
 split at h
 ·
  rename_i h1
  injection h with h
  injection h with h2 h3
  subst h2
  subst h3
  clear hr0_1 hc0_1
  have b1 : a0_0 = 0 ∨ (¬ a0_0 = 0 ∧ ¬ a0_0 = a0_0 % 256) := by omega
  have HBox := Boxed.new w 3 (.int .i64 a0_0)
  clear HBox h1
  rcases b1 with b1 | b1
  ·
   subst b1
   go_enter Try.func27, Try.ntmps27
   go_wp2
   go_ret2
   exact ⟨_, rfl, Kd.R_nil _ _ _ _ _, ((Below.refl _ w).alloc (Nat.le_refl _) _)⟩
  ·
   obtain ⟨b1, b2⟩ := b1
   have b1' : (a0_0 == 0) = false := beq_eq_false_iff_ne.mpr b1
   have b2' : (a0_0 != a0_0 % 256) = true := bne_iff_ne.mpr b2
   go_enter Try.func27, Try.ntmps27
   go_wp2
   go_ret2
   exact ⟨_, rfl, Kd.R_nil _ _ _ _ _, ((Below.refl _ w).alloc (Nat.le_refl _) _)⟩
 ·
  rename_i h1
  split at h
  ·
   rename_i h2
   injection h with h
   injection h with h3 h4
   subst h3
   subst h4
   clear hr0_1 hc0_1
   have b1' : (a0_0 == 0) = false := beq_eq_false_iff_ne.mpr (by omega)
   have b2' : (a0_0 != a0_0 % 256) = false := bne_eq_false_iff_eq.mpr (by omega)
   clear h1
   go_enter Try.func27, Try.ntmps27
   go_wp2
   go_ret2
   exact ⟨_, rfl, Kd.R_nil _ _ _ _ _, ((Below.refl _ w).alloc (Nat.le_refl _) _)⟩
  ·
   rename_i h2
   injection h with h
   injection h with h3 h4
   subst h3
   subst h4
   exact put1 a0_0 A0_1 c0_1 l0_1 w hr0_1 hc0_1 (by omega) (by omega) (by omega)
end Go.Proofs.Ytgmkgobapeencaa.S
