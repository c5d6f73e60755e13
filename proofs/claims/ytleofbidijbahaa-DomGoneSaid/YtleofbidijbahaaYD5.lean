import Derived.Test.YtleofbidijbahaaYD0
namespace Go.Proofs.Ytleofbidijbahaa.D
open Go.RowKit Go.Proofs.YtleofbidijbahaaW.PrintWords Go.Proofs.YtleofbidijbahaaW.PrintLast Go.Proofs.YtleofbidijbahaaW.PrintMore
attribute [local go_sem] max2_int min2_int max_two min_two max_three min_three max_four min_four   -- for this text's walks alone
set_option linter.unusedVariables false
set_option linter.unusedSimpArgs false
def badC (x : Int) : Bool := decide (x < 97) || decide (122 < x)
def lettersB (s : ByteArray) : Bool := !decide (s.toList = []) && (decide (s.size ≤ 16) && !((bytesOf s).any badC))
def tree_Letters.f (a0 : ByteArray) : Option Bool := some (lettersB a0)
theorem badC_calls (x : Int) (b : Bool) (hb : badC x = b) (w : World) : Calls Try.prog 116 #[.int .u8 x] w fun e w' => e = .returned (.bool b) ∧ w = w' := by
 subst hb
 by_cases h1 : x < 97
 ·
  have d1 : decide (x < 97) = true := decide_eq_true h1
  go_enter Try.func116, Try.ntmps116
  go_wp2
  go_ret
  exact ⟨by unfold badC; rw [d1]; rfl, rfl⟩
 ·
  have d1 : decide (x < 97) = false := decide_eq_false h1
  go_enter Try.func116, Try.ntmps116
  go_wp2
  go_ret
  exact ⟨by unfold badC; rw [d1]; rfl, rfl⟩
set_option maxRecDepth 100000 in
set_option maxHeartbeats 2000000 in
theorem indexfunc1 (A0 : Option Addr) (c0 : Nat) (l0 : List Int) (w : World) (hr0 : Kd.C (Kd.int .u8) w A0 l0.length l0) (hlen : l0.length ≤ 1099511627776) :
  Calls Try.prog 129 #[.slice A0 l0.length c0, .func (.func 116) #[] #[]] w fun e w' => (∃ i : Int, e = .returned (.int .i64 i) ∧ (0 ≤ i ↔ (l0.any badC) = true)) ∧ w = w' := by
 have HR := Aside0.mk hr0
 have HL := Aside0.mk hlen
 obtain ⟨n, hn⟩ : ∃ n, l0.length = n := ⟨_, rfl⟩
 have HN := Lib.hid hn
 have hnb : n ≤ 1099511627776 := by rw [← hn]; exact hlen
 rw [hn]
 clear hr0 hlen hn
 go_enter Try.func129, Try.ntmps129
 go_wp2_with fail
 go_loop [8] (fun i => ∃ k : Nat, k ≤ n ∧ i = .int .i64 k ∧ Aside0 (∀ x ∈ l0.take k, badC x = false)) (fun i => n - (intOf i).toNat)
 case atStart => exact ⟨0, by omega, rfl, ⟨by simp⟩⟩
 case round =>
  obtain ⟨k, hk, rfl, HZ⟩ := hrel
  by_cases hlt : k < n
  ·
   obtain ⟨ad, rfl, hcell⟩ := Kd.at_int HR.out (k : Int) (by omega) (by have := HN.out; omega)
   simp only [Int.toNat_natCast] at hcell
   have hx : l0.take (k + 1) = l0.take k ++ [rd l0 (k : Int)] := by
    have hk' : k < l0.length := by have := HN.out; omega
    rw [List.take_succ_eq_append_getElem hk']
    simp [rd, hk']
   obtain ⟨x, hxe⟩ : ∃ x, rd l0 (k : Int) = x := ⟨_, rfl⟩
   rw [hxe] at hcell hx
   have HX := Lib.hid hx
   clear hx hxe
   cases hb : badC x with
   | false =>
    go_wp2_with (go_at_call 116; refine (badC_calls x false hb _).mono ?_; rintro e w2 ⟨rfl, rfl⟩)
    go_round
    case rel =>
     refine ⟨k + 1, by omega, by go_num, ⟨fun y hy => ?_⟩⟩
     rw [HX.out] at hy
     rcases List.mem_append.1 hy with hy | hy
     ·
      exact HZ.out y hy
     ·
      rw [List.mem_singleton.1 hy]; exact hb
    case measure => simp [intOf]; omega
   | true =>
    go_wp2_with (go_at_call 116; refine (badC_calls x true hb _).mono ?_; rintro e w2 ⟨rfl, rfl⟩)
    go_ret
    refine ⟨⟨(k : Int), rfl, ?_⟩, rfl⟩
    refine ⟨fun _ => List.any_eq_true.2 ⟨x, ?_, hb⟩, fun _ => by omega⟩
    have : x ∈ l0.take (k + 1) := by rw [HX.out]; simp
    exact List.mem_of_mem_take this
  ·
   obtain rfl : k = n := by omega
   go_wp2
   go_ret
   refine ⟨⟨-1, rfl, ⟨fun h => by omega, fun h => ?_⟩⟩, rfl⟩
   obtain ⟨x, hx, hx2⟩ := h
   have hm : x ∈ l0.take k := by rw [List.take_of_length_le (by have := HN.out; omega)]; exact hx
   exact absurd (HZ.out x hm) (by rw [hx2]; decide)
theorem anybad1 (A0 : Option Addr) (c0 : Nat) (l0 : List Int) (w : World) (hr0 : Kd.C (Kd.int .u8) w A0 l0.length l0) (hl : l0.length ≤ 1099511627776) :
  Calls Try.prog 117 #[.slice A0 l0.length c0, .func (.func 116) #[] #[]] w fun e w' => e = .returned (.bool (l0.any badC)) ∧ w = w' := by
 have HC := Aside0.mk (indexfunc1 A0 c0 l0 w hr0 hl)
 obtain ⟨r, hr⟩ : ∃ r, l0.any badC = r := ⟨_, rfl⟩
 have HH := Lib.hid hr
 rw [hr]
 clear hr0 hl hr
 go_enter Try.func117, Try.ntmps117
 go_wp2_with (go_at_call 129; refine HC.out.mono ?_; rintro e w2 ⟨⟨i, rfl, hi⟩, rfl⟩; have HI := Aside0.mk hi; clear hi)
 go_ret
 refine ⟨?_, rfl⟩
 have hi := HI.out
 rw [HH.out] at hi
 cases r with
 | false =>
  have hd : decide (0 ≤ i) = false := decide_eq_false (fun h => by have := hi.1 h; cases this)
  rw [hd]
  rfl
 | true =>
  have hd : decide (0 ≤ i) = true := decide_eq_true (hi.2 rfl)
  rw [hd]
  rfl
theorem tree_Letters.calls (a0 : ByteArray) (r : Bool) (w : World) (h : tree_Letters.f a0 = some r) :
  Calls Try.prog 94 #[.string a0] w fun e w' => e = .returned (.bool r) ∧ Below w.heap.size w w' := by
 replace h := Option.some.inj h
 have HH := Lib.hid h
 clear h
 cases h1 : a0.toList.isEmpty with
 | true =>
  have e1 : a0.toList = [] := List.isEmpty_iff.1 h1
  go_enter Try.func94, Try.ntmps94
  go_wp2_with fail
  go_ret
  refine ⟨?_, Below.refl _ _⟩
  rw [← HH.out]
  unfold lettersB
  rw [decide_eq_true e1]
  rfl
 | false =>
  have e1 : ¬ a0.toList = [] := fun h => by rw [List.isEmpty_iff.2 h] at h1; cases h1
  by_cases h2 : a0.size ≤ 16
  ·
   have kb := fun W => print_bytes (P := Try.prog) 9 158 5 Try.underlying9 Try.underlying158 Try.underlying5 a0 W
   have d2 : decide ((a0.size : Int) ≤ 16) = true := decide_eq_true (by omega)
   have hrd := bytes_reads w 5 a0 (by omega)
   have hC := anybad1 (some ⟨w.heap.size, 0, none⟩) (grownCap w a0.size 0 5) (bytesOf a0) (Lib.bytesWorld w 5 a0) (by rw [bytesOf_length]; exact Kd.C_of_reads hrd) (by rw [bytesOf_length]; omega)
   rw [bytesOf_length] at hC
   have HC := Aside0.mk hC
   have hbel := bytes_below (Below.refl w.heap.size w) (Nat.le_refl _) 5 a0
   have HB := Aside0.mk hbel
   obtain ⟨b, hb⟩ : ∃ b, (bytesOf a0).any badC = b := ⟨_, rfl⟩
   rw [hb] at HC
   have HV := Lib.hid hb
   clear hrd hC hbel hb
   go_enter Try.func94, Try.ntmps94
   go_wp2_with fail
   refine HC.out.mono ?_
   rintro e w2 ⟨rfl, rfl⟩
   go_wp2_with fail
   go_ret
   refine ⟨?_, HB.out⟩
   rw [← HH.out]
   unfold lettersB
   rw [decide_eq_false e1, decide_eq_true h2, HV.out]
   cases b <;> rfl
  ·
   have d2 : decide ((a0.size : Int) ≤ 16) = false := decide_eq_false (by omega)
   go_enter Try.func94, Try.ntmps94
   go_wp2_with fail
   go_ret
   refine ⟨?_, Below.refl _ _⟩
   rw [← HH.out]
   unfold lettersB
   rw [decide_eq_false e1, decide_eq_false h2]
   rfl
end Go.Proofs.Ytleofbidijbahaa.D
