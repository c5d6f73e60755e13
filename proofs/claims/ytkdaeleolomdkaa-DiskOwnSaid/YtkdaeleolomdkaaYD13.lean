import Derived.Test.YtkdaeleolomdkaaYD0
namespace Go.Proofs.Ytkdaeleolomdkaa.D
open Go.RowKit Go.Proofs.YtkdaeleolomdkaaW.PrintWords Go.Proofs.YtkdaeleolomdkaaW.PrintLast Go.Proofs.YtkdaeleolomdkaaW.PrintMore
attribute [local go_sem] max2_int min2_int max_two min_two max_three min_three max_four min_four   -- for this text's walks alone
set_option linter.unusedVariables false
set_option linter.unusedSimpArgs false
theorem catRow_at {w : World} {A : Option Addr} {n : Nat} {xs : List (List Int)} (h : Kd.C (Kd.slice 5 (Kd.int .u8)) w A n xs) (i : Nat) (h1 : i < n) : ∃ ad A0 c0, A = some ad ∧ w.cell? (ad.add i) = some (.slice A0 (xs.getD i []).length c0) ∧ (xs.getD i []).length ≤ c0 ∧ (Kd.int .u8).C w A0 (xs.getD i []).length (xs.getD i []) := by
 obtain ⟨ad, c, e, _, hK, hc0⟩ := Kd.C_get h ([] : List Int) i (by omega) (by omega)
 have hc : ∀ j u, c[j]? = some u → w.cell? (ad.add ((i : Int).toNat * 1 + j)) = some u := hc0
 obtain ⟨A0, c0, rfl, l0, g0⟩ := hK
 refine ⟨ad, A0, c0, e, ?_, l0, g0⟩
 have hq := hc 0 _ rfl
 simpa using hq
theorem growNil_0 (w : World) : Calls Try.prog 67 #[.slice none 0 0, .int .i64 0] w fun e w' => e = .returned (.slice none 0 0) ∧ w = w' := by
 go_enter Try.func67, Try.ntmps67
 go_wp2
 go_ret
 exact ⟨rfl, rfl⟩
set_option maxRecDepth 100000 in
set_option maxHeartbeats 2000000 in
theorem growNil (n : Int) (h0 : 0 < n) (h1 : n < 140737488355328) (w : World) : Calls Try.prog 67 #[.slice none 0 0, .int .i64 n] w fun e w' => ∃ v : Value, e = .returned v ∧ Kd.R (Kd.int .u8) 5 w' w.heap.size (fun _ => True) v [] ∧ Below w.heap.size w w' := by
 have hd1 : decide (n < 0) = false := decide_eq_false (by omega)
 have hd2 : decide (0 < n) = true := decide_eq_true h0
 go_enter Try.func67, Try.ntmps67
 go_wp2_with ((with_reducible refine gate_builtin (b := .append) (xs := #[.tmp 20, .tmp 21]) rfl ?_); at_builtin; refine Kd.R_append_zeros (Kd.int .u8) (w0 := w) w.heap.size rfl (.tmp 20) (.tmp 21) 22 3 5 (.int .u8 0) 1 rfl Try.underlying22 Try.underlying3 info5 rfl (by decide) (by decide) (.slice none 0 0) ([] : List Int) 0 n (fun _ => True) rfl rfl rfl (fun _ _ => trivial) (Kd.R_nil _ _ _ _ _) (by omega) (Below.refl _ _) (Nat.le_refl _) (by simp; omega) ?_; intro v1 w1 ho hb hg hat; obtain ⟨A1, c1, rfl, hc1, hC1⟩ := Kd.R_reads ho; have HO := Aside0.mk ho; have HB := Aside0.mk hb; clear ho hb hg hat hC1)
 go_ret
 exact ⟨_, rfl, by have := Kd.R_take (m := 0) HO.out (by omega); simpa using this, HB.out⟩
def slices_Concat_byte_byte.f (l0 : List (List Int)) : Option (List Int) := if l0.length ≤ 1000000 ∧ l0.flatten.length < 140737488355328 then some l0.flatten else none
def catLen (ls : List (List Int)) (k : Nat) : Nat := (ls.take k).flatten.length
def catOf (ls : List (List Int)) (k : Nat) : List Int := (ls.take k).flatten
theorem catLen_le (ls : List (List Int)) (k : Nat) : catLen ls k ≤ ls.flatten.length := by
 unfold catLen
 conv => rhs; rw [← List.take_append_drop k ls, List.flatten_append, List.length_append]
 omega
theorem catOf_succ {ls : List (List Int)} {k : Nat} (hk : k < ls.length) : catOf ls (k + 1) = catOf ls k ++ ls.getD k [] := by
 unfold catOf
 rw [List.take_succ_eq_append_getElem hk, List.flatten_append, List.flatten_singleton]
 congr 1
 simp [hk]
theorem catOf_length (ls : List (List Int)) (k : Nat) : (catOf ls k).length = catLen ls k := rfl
theorem catLen_succ {ls : List (List Int)} {k : Nat} (hk : k < ls.length) : catLen ls (k + 1) = catLen ls k + (ls.getD k []).length := by
 rw [← catOf_length, ← catOf_length, catOf_succ hk, List.length_append]
set_option maxRecDepth 100000 in
set_option maxHeartbeats 4000000 in
theorem concat1 (A0 : Option Addr) (c0 : Nat) (l0 : List (List Int)) (w : World) (hr0 : Kd.C (Kd.slice 5 (Kd.int .u8)) w A0 l0.length l0) (hlen : l0.length ≤ 1000000) (hl : l0.flatten.length < 140737488355328) :
  Calls Try.prog 41 #[.slice A0 l0.length c0] w fun e w' => ∃ v0_ : Value, e = .returned v0_ ∧ Kd.R (Kd.int .u8) 5 w' w.heap.size (fun _ => True) v0_ (catOf l0 l0.length) ∧ Below w.heap.size w w' := by
 have HR := Aside0.mk hr0
 have HL : ∀ k, catLen l0 k < 140737488355328 := fun k => Nat.lt_of_le_of_lt (catLen_le l0 k) hl
 have HLh := Lib.hid HL
 clear hr0 hl HL
 go_enter Try.func41, Try.ntmps41
 go_wp2
 go_loop [3, 11] (fun s i => ∃ k : Nat, k ≤ l0.length ∧ i = .int .i64 k ∧ s = .int .i64 (catLen l0 k : Nat)) (fun _ i => l0.length - (intOf i).toNat)
 case atStart => exact ⟨0, by omega, rfl, rfl⟩
 case round =>
  obtain ⟨k, hk, rfl, rfl⟩ := hrel
  by_cases hlt : k < l0.length
  ·
   obtain ⟨ad, A1, c1, rfl, hcell, _, _⟩ := catRow_at HR.out k hlt
   have hs2 := catLen_succ hlt
   have hb := HLh.out (k + 1)
   obtain ⟨a, ha⟩ : ∃ a, catLen l0 k = a := ⟨_, rfl⟩
   obtain ⟨b, hb'⟩ : ∃ b, (l0.getD k []).length = b := ⟨_, rfl⟩
   rw [ha, hb'] at hs2
   rw [hb'] at hcell
   have H2 := Lib.hid hs2
   have hbd : a + b < 140737488355328 := by omega
   rw [ha]
   clear hs2 hb ha hb'
   have h00 : decide ((a : Int) + b < 0) = false := decide_eq_false (by omega)
   go_wp2
   go_round
   case rel => exact ⟨k + 1, by omega, by go_num, by rw [H2.out]; go_num⟩
   case measure => simp [intOf]; omega
  ·
   obtain rfl : k = l0.length := by omega
   have hb := HLh.out l0.length
   obtain ⟨T, hT⟩ : ∃ T, catLen l0 l0.length = T := ⟨_, rfl⟩
   rw [hT] at hb ⊢
   clear hT
   go_wp2_with fail
   have HG : Calls Try.prog 67 #[.slice none 0 0, .int .i64 T] w fun e w' => ∃ v : Value, e = .returned v ∧ Kd.R (Kd.int .u8) 5 w' w.heap.size (fun _ => True) v [] ∧ Below w.heap.size w w' := by
    rcases Nat.eq_zero_or_pos T with h0 | h0
    ·
     subst h0
     exact (growNil_0 w).mono fun e w' ⟨h1, h2⟩ => by subst h2; exact ⟨_, h1, Kd.R_nil _ _ _ _ _, Below.refl _ _⟩
    ·
     exact growNil T (by omega) (by omega) w
   refine HG.mono ?_
   rintro e w1 ⟨v, rfl, ho, hb1⟩
   obtain ⟨A1, c1, rfl⟩ := Kd.R_slice ho
   have HO := Aside0.mk ho
   have HB := Aside0.mk hb1
   clear ho hb1 HG
   go_wp2
   go_loopw [6, 27] (fun v i wr => ∃ k : Nat, k ≤ l0.length ∧ i = .int .i64 k ∧ Aside0 (Kd.R (Kd.int .u8) 5 wr w.heap.size (fun _ => True) v (catOf l0 k)) ∧ Aside0 (Below w.heap.size w wr)) (fun _ i _ => l0.length - (intOf i).toNat)
   case atStart => exact ⟨0, by omega, rfl, HO, HB⟩
   case round =>
    obtain ⟨k, hk, rfl, HO2, HB2⟩ := hrel
    obtain ⟨A2, c2, rfl⟩ := Kd.R_slice HO2.out
    by_cases hlt2 : k < l0.length
    ·
     obtain ⟨ad, A3, c3, rfl, hcell, hc3, hC3⟩ := catRow_at HR.out k hlt2
     have hcell2 := pw_cell_below HB2.out hcell
     have HC3 := Aside0.mk hC3
     have hs2 := catOf_succ hlt2
     have hb2 := HLh.out (k + 1)
     have hs3 := catLen_succ hlt2
     have hal : (catOf l0 k).length + (l0.getD k []).length < 140737488355328 := by rw [catOf_length]; omega
     obtain ⟨row, hrow⟩ : ∃ row, l0.getD k [] = row := ⟨_, rfl⟩
     rw [hrow] at hs2 hcell2 HC3 hal
     have H2 := Lib.hid hs2
     have HAL := Lib.hid hal
     clear hs2 hcell hC3 hrow hb2 hs3 hal
     go_wp2_with ((with_reducible refine gate_builtin (b := .append) (xs := #[.tmp 31, .tmp 32]) rfl ?_); at_builtin; refine Kd.R_append_rows (Kd.int .u8) (w0 := w) w.heap.size rfl (.tmp 31) (.tmp 32) 22 5 (.int .u8 0) 1 rfl Try.underlying22 info5 rfl (by decide) (by omega) (.slice A2 (catOf l0 k).length c2) (catOf l0 k) row _ _ _ (fun _ => True) (fun _ => False) rfl rfl ?aO ?aR (fun _ _ h => h) (fun _ h => h.elim) ?aF ?aB ?aS ?aL ?_; (case aR => exact (Kd.C_below HC3.out HB2.out)); (case aB => exact HB2.out); (case aF => exact (fun _ _ => trivial)); (case aO => exact HO2.out); (case aS => exact (below_size HB2.out)); (case aL => have := HAL.out; omega); intro v121 w3 ho hb hg hat; rw [← H2.out] at ho; have n0_ := Aside0.mk hb; have n1_ := Aside0.mk ho; clear HB2; have HB2 := n0_; have HO3 := n1_; clear n0_ n1_; clear ho hb hg hat)
     go_roundw
     case rel => exact ⟨k + 1, by omega, by go_num, HO3, HB2⟩
     case measure => simp [intOf]; omega
    ·
     obtain rfl : k = l0.length := by omega
     go_wp2
     go_ret
     exact ⟨_, rfl, HO2.out, HB2.out⟩
theorem slices_Concat_byte_byte.calls (A0 : Option Addr) (c0 : Nat) (l0 : List (List Int)) (r : List Int) (w : World) (hr0 : Kd.C (Kd.slice 5 (Kd.int .u8)) w A0 l0.length l0) (hc0 : l0.length ≤ c0) (h : slices_Concat_byte_byte.f l0 = some r) :
  Calls Try.prog 41 #[.slice A0 l0.length c0] w fun e w' => ∃ v0_ : Value, e = .returned v0_ ∧ Kd.R (Kd.int .u8) 5 w' w.heap.size (fun _ => True) v0_ r ∧ Below w.heap.size w w' := by
 unfold slices_Concat_byte_byte.f at h
 split at h
 ·
  rename_i hl
  injection h with h
  subst h
  have := concat1 A0 c0 l0 w hr0 hl.1 hl.2
  rwa [show catOf l0 l0.length = l0.flatten by unfold catOf; rw [List.take_length]] at this
 ·
  cases h
end Go.Proofs.Ytkdaeleolomdkaa.D
