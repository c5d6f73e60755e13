import Derived.Test.YtgmkgobapeencaaYS0
set_option linter.unusedVariables false
set_option linter.unusedSimpArgs false
namespace Go.Proofs.Ytgmkgobapeencaa.S
open Go.RowKit Go.Proofs.YtgmkgobapeencaaW.PrintWords Go.Proofs.YtgmkgobapeencaaW.PrintLast Go.Proofs.YtgmkgobapeencaaW.PrintMore
attribute [local go_sem] max2_int min2_int max_two min_two max_three min_three max_four min_four   -- for this text's walks alone
def half (c : Int) : Int := Go.bits .xor .u32 (c / 2) (Go.bits .and .u32 3945912366 ((-(Go.bits .and .u32 c 1)) % 4294967296))
def halfN : Nat → Int → Int
 | 0, c => c
 | n + 1, c => half (halfN n c)
def quarter (i : Int) : Int := halfN 2 i
def four4 (c : Int) : Int := Go.bits .xor .u32 (c / 4) (quarter (Go.bits .and .u32 c 3))
def fourN : Nat → Int → Int
 | 0, c => c
 | n + 1, c => four4 (fourN n c)
def oct (c x : Int) : Int := fourN 4 (Go.bits .xor .u32 c (x % 4294967296))
def sumTo (l : List Int) : Int := l.foldl oct 4294967295
def seal_Sum.f (l0 : List Int) : Option Int := if l0.length ≤ 140737488351232 then some (Go.bits .xor .u32 4294967295 (sumTo l0)) else none
theorem bits32 (op : BinOp) (x y : Int) : 0 ≤ Go.bits op .u32 x y ∧ Go.bits op .u32 x y < 4294967296 := by
 have := wf_bits op .u32 x y
 have e1 : IntKind.u32.min = 0 := by decide
 have e2 : IntKind.u32.max = 4294967295 := by decide
 simp only [Lit.wf, e1, e2, Bool.and_eq_true, decide_eq_true_eq] at this
 omega
theorem and3 (c : Int) (h0 : 0 ≤ c) (h1 : c < 4294967296) : Go.bits .and .u32 c 3 = c % 4 :=
 bits_mask .u32 32 (by decide) (fun n h0 h1 => by rw [IntKind.wrap_u32]; omega) 2 (by decide) c h0 h1
set_option maxHeartbeats 1000000 in
theorem sum1 (A0 : Option Addr) (c0 : Nat) (l0 : List Int) (w : World) (hr0 : Kd.C (Kd.int .u8) w A0 l0.length l0) (hl : l0.length ≤ 140737488351232) :
  Calls Try.prog 43 #[.slice A0 l0.length c0] w fun e w' => e = .returned (.int .u32 (Go.bits .xor .u32 4294967295 (sumTo l0))) ∧ Below w.heap.size w w' := by
 have HR := Aside0.mk hr0
 clear hr0
 go_enter Try.func43, Try.ntmps43
 go_wp2
 go_loopw [9] (fun i wr => ∃ k : Nat, k ≤ 4 ∧ i = .int .u32 k ∧ ∃ a0 a1 a2 a3 : Int, wr = w.alloc (.cells #[.int .u32 a0, .int .u32 a1, .int .u32 a2, .int .u32 a3] 97) ∧ Aside0 ((0 < k → a0 = quarter 0) ∧ (1 < k → a1 = quarter 1) ∧ (2 < k → a2 = quarter 2) ∧ (3 < k → a3 = quarter 3))) (fun i _ => 4 - (intOf i).toNat)
 case atStart => exact ⟨0, by omega, rfl, 0, 0, 0, 0, rfl, ⟨by omega, by omega, by omega, by omega⟩⟩
 case round =>
  obtain ⟨k, hk, rfl, a0, a1, a2, a3, rfl, HQ⟩ := hrel
  by_cases hlt : k < 4
  ·
   go_wp2
   go_loop [5, 13] (fun c j => ∃ m : Nat, m ≤ 2 ∧ j = .int .i64 m ∧ c = .int .u32 (halfN m k)) (fun _ j => 2 - (intOf j).toNat)
   case atStart => exact ⟨0, by omega, rfl, rfl⟩
   case round =>
    obtain ⟨m, hm, rfl, rfl⟩ := hrel
    by_cases hm2 : m < 2
    ·
     go_wp2
     go_round
     case rel => exact ⟨m + 1, by omega, by go_num, rfl⟩
     case measure => simp [intOf]; omega
    ·
     obtain rfl : m = 2 := by omega
     obtain ⟨c, hc⟩ : ∃ c, c = halfN 2 k := ⟨_, rfl⟩
     rw [← hc]
     have HC := Lib.hid hc
     clear hc
     have hk4 : k = 0 ∨ k = 1 ∨ k = 2 ∨ k = 3 := by omega
     rcases hk4 with rfl | rfl | rfl | rfl
     ·
      go_wp2
      exact ⟨⟨1, by omega, rfl, c, a1, a2, a3, rfl, ⟨fun _ => HC.out, by omega, by omega, by omega⟩⟩, by simp [intOf]⟩
     ·
      go_wp2
      exact ⟨⟨2, by omega, rfl, a0, c, a2, a3, rfl, ⟨fun _ => HQ.out.1 (by omega), fun _ => HC.out, by omega, by omega⟩⟩, by simp [intOf]⟩
     ·
      go_wp2
      exact ⟨⟨3, by omega, rfl, a0, a1, c, a3, rfl, ⟨fun _ => HQ.out.1 (by omega), fun _ => HQ.out.2.1 (by omega), fun _ => HC.out, by omega⟩⟩, by simp [intOf]⟩
     ·
      go_wp2
      exact ⟨⟨4, by omega, rfl, a0, a1, a2, c, rfl, ⟨fun _ => HQ.out.1 (by omega), fun _ => HQ.out.2.1 (by omega), fun _ => HQ.out.2.2.1 (by omega), fun _ => HC.out⟩⟩, by simp [intOf]⟩
  ·
   obtain rfl : k = 4 := by omega
   go_wp2
   go_loopw [6, 29] (fun c i wr => ∃ k : Nat, k ≤ l0.length ∧ i = .int .i64 k ∧ c = .int .u32 (sumTo (l0.take k)) ∧ wr = (w.alloc (.cells #[.int .u32 a0, .int .u32 a1, .int .u32 a2, .int .u32 a3] 97))) (fun _ i _ => l0.length - (intOf i).toNat)
   case atStart => exact ⟨0, by omega, rfl, rfl, rfl⟩
   case round =>
    obtain ⟨k, hk, rfl, rfl, rfl⟩ := hrel
    by_cases hlt : k < l0.length
    ·
     obtain ⟨ad, e1, hcell⟩ := Kd.at_int HR.out (k : Int) (by omega) (by omega)
     rw [Int.toNat_natCast] at hcell
     have hb := World.block_lt_of_cell? w _ hcell
     obtain ⟨y, hy⟩ : ∃ y, rd l0 (k : Int) = y := ⟨_, rfl⟩
     rw [hy] at hcell
     have HY := Lib.hid hy
     subst e1
     have hkl : (k : Int) < l0.length := by omega
     have hbne : w.heap.size ≠ (ad.add k).block := by omega
     clear hy
     go_wp2
     go_loop [6, 37] (fun c j => ∃ m : Nat, m ≤ 4 ∧ j = .int .i64 m ∧ c = .int .u32 (fourN m (Go.bits .xor .u32 (sumTo (l0.take k)) (y % 4294967296)))) (fun _ j => 4 - (intOf j).toNat)
     case atStart => exact ⟨0, by omega, rfl, rfl⟩
     case round =>
      obtain ⟨m, hm, rfl, rfl⟩ := hrel
      by_cases hm2 : m < 4
      ·
       obtain ⟨c, hc⟩ : ∃ c, fourN m (Go.bits .xor .u32 (sumTo (l0.take k)) (y % 4294967296)) = c := ⟨_, rfl⟩
       have hb2 : 0 ≤ c ∧ c < 4294967296 := by
        rw [← hc]
        cases m with
        | zero => unfold fourN; exact bits32 _ _ _
        | succ m => unfold fourN four4; exact bits32 _ _ _
       have h3 := and3 c hb2.1 hb2.2
       have HC : Hid (fourN (m + 1) (Go.bits .xor .u32 (sumTo (l0.take k)) (y % 4294967296)) = four4 c) := Lib.hid (by rw [← hc]; rfl)
       rw [hc]
       clear hc
       have hc0 := hb2.1
       have h4 : c % 4 = 0 ∨ c % 4 = 1 ∨ c % 4 = 2 ∨ c % 4 = 3 := by omega
       have H3 := Lib.hid h3
       rcases h4 with h4 | h4 | h4 | h4 <;> rw [h4] at h3
       all_goals
        clear h4 hb2
        go_wp2
        go_round
       case measure => simp [intOf]; omega
       case measure => simp [intOf]; omega
       case measure => simp [intOf]; omega
       case measure => simp [intOf]; omega
       all_goals
        refine ⟨m + 1, by omega, by go_num, ?_⟩
        rw [HC.out]
        unfold four4
        rw [h3]
       ·
        rw [HQ.out.1 (by omega)]
       ·
        rw [HQ.out.2.1 (by omega)]
       ·
        rw [HQ.out.2.2.1 (by omega)]
       ·
        rw [HQ.out.2.2.2 (by omega)]
      ·
       obtain rfl : m = 4 := by omega
       go_wp2
       exact ⟨⟨k + 1, by omega, by go_num, by
        have e : l0.take (k + 1) = l0.take k ++ [y] := by
         rw [List.take_succ_eq_append_getElem hlt]
         have := HY.out
         simp [rd, hlt] at this
         rw [this]
        rw [e]
        simp only [sumTo, List.foldl_append, List.foldl_cons, List.foldl_nil]
        rfl, trivial⟩, by simp [intOf]; omega⟩
    ·
     obtain rfl : k = l0.length := by omega
     rw [List.take_length]
     go_wp2
     go_ret
     exact ⟨rfl, (Below.refl _ _).alloc (Nat.le_refl _) _⟩
theorem seal_Sum.calls (A0 : Option Addr) (c0 : Nat) (l0 : List Int) (r : Int) (w : World) (hr0 : Kd.C (Kd.int .u8) w A0 l0.length l0) (hc0 : l0.length ≤ c0) (h : seal_Sum.f l0 = some r) :
  Calls Try.prog 43 #[.slice A0 l0.length c0] w fun e w' => e = .returned (.int .u32 r) ∧ Below w.heap.size w w' := by
 unfold seal_Sum.f at h
 split at h
 ·
  rename_i hl
  injection h with h
  subst h
  exact sum1 A0 c0 l0 w hr0 hl
 ·
  cases h
end Go.Proofs.Ytgmkgobapeencaa.S
namespace Go.Proofs.Ytgmkgobapeencaa.S
open Go.RowKit Go.Proofs.YtgmkgobapeencaaW.PrintWords Go.Proofs.YtgmkgobapeencaaW.PrintLast Go.Proofs.YtgmkgobapeencaaW.PrintMore
attribute [local go_sem] max2_int min2_int max_two min_two max_three min_three max_four min_four   -- for this text's walks alone
def bytes_Clone.f (l0 : List Int) : Option (List Int) := if l0.length < 140737488355328 then some l0 else none
set_option maxRecDepth 100000 in
set_option maxHeartbeats 2000000 in
theorem bytes_Clone.calls (A0 : Option Addr) (c0 : Nat) (l0 : List Int) (r : List Int) (w : World) (hr0 : Kd.C (Kd.int .u8) w A0 l0.length l0) (hc0 : l0.length ≤ c0) (h : bytes_Clone.f l0 = some r) :
  Calls Try.prog 37 #[.slice A0 l0.length c0] w fun e w' => ∃ v0_ : Value, e = .returned v0_ ∧ Kd.R (Kd.int .u8) 5 w' w.heap.size (fun _ => True) v0_ r ∧ Below w.heap.size w w' := by
 unfold bytes_Clone.f at h
 split at h
 ·
  rename_i hl
  injection h with h
  subst h
  cases A0 with
  | none =>
   have e0 : l0 = [] := by
    cases l0 with
    | nil => rfl
    | cons x xs =>
     obtain ⟨ad, e, _⟩ := Kd.at_int hr0 0 (by omega) (by simp)
     cases e
   subst e0
   have hq := fun W : World => Lib.run_eql_slice_nil (P := Try.prog) W 25 5 none (List.length ([] : List Int)) c0 0 0 Try.underlying25
   simp only [List.length_nil] at hq
   clear hr0
   go_enter Try.func37, Try.ntmps37
   go_wp2
   go_ret
   exact ⟨_, rfl, Kd.R_nil _ _ _ _ _, Below.refl _ _⟩
  | some ad =>
   have hq := fun W : World => Lib.run_eql_slice_nil (P := Try.prog) W 25 5 (some ad) l0.length c0 0 0 Try.underlying25
   have HR0 := Aside0.mk hr0
   have HC0 := Aside0.mk hc0
   clear hr0 hc0
   have HB := Aside0.mk (Below.refl w.heap.size w)
   go_enter Try.func37, Try.ntmps37
   go_wp2_with (first | ((with_reducible refine gate_dst (N := 5) rfl ?_); refine Kd.R_lit (Kd.int .u8) _ 5 ?hg (N := 5) ?hd (xs := ([] : List Int)) (inner := []) (ok := fun _ => True) (okp := fun _ => True) ?hr ?hp (fun _ hk => hk) trivial (Below.refl _ _) (Nat.le_refl _) (by simp) ?_; (case hd => rfl); (case hg => rfl); (case hr => go_simp <;> rfl); (case hp => exact Reps.none _ _); intro v102 w2 ho3 hb hg_ hnew_; clear hg_ hnew_; have n0_ := Aside0.mk ho3; have n1_ := Aside0.mk hb; clear HB; have HO := n0_; have HB := n1_; clear n0_ n1_ hb ho3) | ((with_reducible refine gate_builtin (b := .append) (xs := #[.tmp 5, .tmp 6]) rfl ?_); at_builtin; refine Kd.R_append_rows (Kd.int .u8) (w0 := w) w.heap.size rfl (.tmp 5) (.tmp 6) 25 5 (.int .u8 0) 1 rfl Try.underlying25 info5 rfl (by decide) (by omega) v102 ([] : List Int) l0 _ _ _ (fun _ => True) (fun _ => False) rfl rfl ?aO ?aR (fun _ _ h => h) (fun _ h => h.elim) ?aF ?aB ?aS ?aL ?_; (case aR => exact (Kd.C_below HR0.out HB.out)); (case aB => exact HB.out); (case aF => exact (fun _ _ => trivial)); (case aO => exact HO.out); (case aS => exact (below_size HB.out)); (case aL => simp; omega); intro v121 w3 ho hb hg hat; have n0_ := Aside0.mk hb; have n1_ := Aside0.mk ho; clear HB; have HB := n0_; have HO2 := n1_; clear n0_ n1_; clear ho hb hg hat))
   go_ret
   exact ⟨_, rfl, by simpa using HO2.out, HB.out⟩
 ·
  cases h
end Go.Proofs.Ytgmkgobapeencaa.S
