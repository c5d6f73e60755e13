import Derived.Test.YtleofbidijbahaaYD0
import Derived.Test.YtleofbidijbahaaYD5
import Derived.Test.YtleofbidijbahaaYD11
import Derived.Test.YtleofbidijbahaaYD19
import Derived.Test.YtleofbidijbahaaYD17
namespace Go.Proofs.Ytleofbidijbahaa.D
open Go.RowKit Go.Proofs.YtleofbidijbahaaW.PrintWords Go.Proofs.YtleofbidijbahaaW.PrintLast Go.Proofs.YtleofbidijbahaaW.PrintMore
attribute [local go_sem] max2_int min2_int max_two min_two max_three min_three max_four min_four   -- for this text's walks alone
set_option linter.unusedVariables false
set_option linter.unusedSimpArgs false
def fanlightlaw10_num.f (a0 : Int) : Option (Int) := some a0
set_option maxHeartbeats 8000000 in
set_option maxRecDepth 100000 in
theorem fanlightlaw10_num.calls (a0 : Int) (r : Int) (w : World) (h : fanlightlaw10_num.f a0 = some r) :
  Calls Try.prog 16 #[.int .i64 a0] w fun e w' => e = .returned (.int .i64 r) ∧ Drawn0 w w' := by
 have H : (some a0) = some r := h
 clear h
 obtain rfl := Option.some.inj H
 go_enter Try.func16, Try.ntmps16
 go_wp2
 go_ret
 exact ⟨by first | rfl | (simp; done) | (simp [*]; done), by repeat (first | exact Drawn0.refl _ | apply Drawn0.step)⟩
end Go.Proofs.Ytleofbidijbahaa.D
namespace Go.Proofs.Ytleofbidijbahaa.D
open Go.RowKit Go.Proofs.YtleofbidijbahaaW.PrintWords Go.Proofs.YtleofbidijbahaaW.PrintLast Go.Proofs.YtleofbidijbahaaW.PrintMore
attribute [local go_sem] max2_int min2_int max_two min_two max_three min_three max_four min_four   -- for this text's walks alone
set_option linter.unusedVariables false
set_option linter.unusedSimpArgs false
def idxB (p : Int → Bool) : List Int → Int
 | [] => -1
 | x :: xs => if p x = true then 0 else if idxB p xs < 0 then -1 else idxB p xs + 1
theorem idxB_lo (p : Int → Bool) : ∀ l : List Int, (idxB p l = -1 ∧ l.any p = false) ∨ (0 ≤ idxB p l ∧ l.any p = true)
 | [] => .inl ⟨rfl, rfl⟩
 | x :: xs => by
  unfold idxB
  by_cases h : p x = true
  ·
   rw [if_pos h]; exact .inr ⟨Int.le_refl _, by simp [h]⟩
  ·
   rw [if_neg h]
   rcases idxB_lo p xs with ⟨h1, h2⟩ | ⟨h1, h2⟩
   ·
    rw [h1]; exact .inl ⟨rfl, by simp [h2]; simpa using h⟩
   ·
    rw [if_neg (by omega)]; exact .inr ⟨by omega, by simp only [List.any_cons, h2, Bool.or_true]⟩
set_option maxRecDepth 100000 in
set_option maxHeartbeats 2000000 in
theorem idx3_is (A : Option Addr) (c n : Nat) (xs : List Int) (p : Int → Bool) (u1 u2 : Value) (w : World) (hR : Kd.C (Kd.int .i64) w A n xs) (hn : xs.length = n)
  (hcall : ∀ x ∈ xs, ∀ W, Below w.heap.size w W → Calls Try.prog 76 #[.int .i64 x, u1, u2] W fun e w' => e = .returned (.bool (p x)) ∧ Below W.heap.size W w') :
  Calls Try.prog 97 #[.slice A n c, .func (.func 76) #[] #[u1, u2]] w fun e w' => e = .returned (.int .i64 (idxB p xs)) ∧ Below w.heap.size w w' := by
 have HR := Aside0.mk hR
 have hm : n ≤ 9223372036854775807 := hR.2.1
 have HN := Lib.hid hn
 have HCALL := Aside0.mk hcall
 obtain ⟨R, hRR⟩ : ∃ R, idxB p xs = R := ⟨_, rfl⟩
 rw [hRR]
 have HRR := Lib.hid hRR
 clear hR hn hcall hRR
 go_enter Try.func97, Try.ntmps97
 go_wp2_with fail
 go_loopw [8] (fun i wr => ∃ k : Nat, k ≤ n ∧ i = .int .i64 k ∧ Aside0 (R = if idxB p (xs.drop k) < 0 then -1 else k + idxB p (xs.drop k)) ∧ Aside0 (Below w.heap.size w wr)) (fun i _ => n - (intOf i).toNat)
 case atStart =>
  refine ⟨0, by omega, rfl, ⟨?_⟩, ⟨Below.refl _ _⟩⟩
  rw [List.drop_zero, ← HRR.out]
  rcases idxB_lo p xs with ⟨h, _⟩ | ⟨h, _⟩
  ·
   rw [h]; rfl
  ·
   rw [if_neg (by omega)]; omega
 case round =>
  obtain ⟨k, hk, rfl, HZ, HB⟩ := hrel
  by_cases hlt : k < n
  ·
   have hkl : k < xs.length := by have := HN.out; omega
   obtain ⟨ad, rfl, hcell⟩ := Kd.at_int (Kd.C_below HR.out HB.out) (k : Int) (by omega) (by omega)
   have hx : rd xs (k : Int) = xs[k] := by unfold rd; rw [Int.toNat_natCast, List.getD_eq_getElem?_getD, List.getElem?_eq_getElem hkl, Option.getD_some]
   rw [hx, Int.toNat_natCast] at hcell
   have hz := HZ.out
   rw [List.drop_eq_getElem_cons hkl, idxB] at hz
   have HC := Aside0.mk (HCALL.out xs[k] (List.getElem_mem hkl) wr HB.out)
   obtain ⟨x, hxe⟩ : ∃ x, xs[k] = x := ⟨_, rfl⟩
   rw [hxe] at hcell hz HC
   have d9 : decide ((k : Int) < (n : Int)) = true := decide_eq_true (by omega)
   clear hx hxe HZ hkl
   cases hc : p x with
   | true =>
    rw [hc] at hz HC
    have HV : Aside0 (R = k) := ⟨by rw [hz]; simp⟩
    clear hz hc
    go_wp2_with fail
    refine HC.out.mono ?_
    rintro e w2 ⟨rfl, hb2⟩
    go_wp2_with fail
    go_ret
    exact ⟨by rw [HV.out]; rfl, HB.out.trans (hb2.mono HB.out.size)⟩
   | false =>
    rw [hc] at hz HC
    have HV : Aside0 (R = if idxB p (xs.drop (k + 1)) < 0 then -1 else ((k + 1 : Nat) : Int) + idxB p (xs.drop (k + 1))) := ⟨by
     rw [hz]
     simp only [Bool.false_eq_true, if_false]
     by_cases h0 : idxB p (xs.drop (k + 1)) < 0
     ·
      simp [if_pos h0]
     ·
      simp only [if_neg h0]; rw [if_neg (by omega)]; omega⟩
    clear hz hc
    go_wp2_with fail
    refine HC.out.mono ?_
    rintro e w2 ⟨rfl, hb2⟩
    go_wp2_with fail
    go_round
    case rel => exact ⟨k + 1, by omega, by go_num, HV, ⟨HB.out.trans (hb2.mono HB.out.size)⟩⟩
    case measure => simp [intOf]; omega
  ·
   obtain rfl : k = n := by omega
   have d9 : decide ((k : Int) < (k : Int)) = false := decide_eq_false (by omega)
   have HV : Aside0 (R = -1) := ⟨by rw [HZ.out, List.drop_eq_nil_of_le (by have := HN.out; omega)]; rfl⟩
   go_wp2_with fail
   go_ret
   exact ⟨by rw [HV.out]; rfl, HB.out⟩
set_option maxRecDepth 100000 in
set_option maxHeartbeats 2000000 in
theorem any3_is (A : Option Addr) (c n : Nat) (xs : List Int) (p : Int → Bool) (u1 u2 : Value) (w : World) (hR : Kd.C (Kd.int .i64) w A n xs) (hn : xs.length = n)
  (hcall : ∀ x ∈ xs, ∀ W, Below w.heap.size w W → Calls Try.prog 76 #[.int .i64 x, u1, u2] W fun e w' => e = .returned (.bool (p x)) ∧ Below W.heap.size W w') :
  Calls Try.prog 75 #[.slice A n c, .func (.func 76) #[] #[u1, u2]] w fun e w' => e = .returned (.bool (xs.any p)) ∧ Below w.heap.size w w' := by
 have HCALL := Aside0.mk (idx3_is A c n xs p u1 u2 w hR hn hcall)
 obtain ⟨z, hz⟩ : ∃ z, idxB p xs = z := ⟨_, rfl⟩
 have hlo := idxB_lo p xs
 rw [hz] at HCALL hlo
 have dz : decide (z ≥ 0) = xs.any p := by
  rcases hlo with ⟨h1, h2⟩ | ⟨h1, h2⟩
  ·
   rw [h2]; exact decide_eq_false (by omega)
  ·
   rw [h2]; exact decide_eq_true (by omega)
 obtain ⟨q, hq⟩ : ∃ q, xs.any p = q := ⟨_, rfl⟩
 rw [hq] at dz ⊢
 clear hR hn hcall hz hlo hq
 go_enter Try.func75, Try.ntmps75
 go_wp2_with fail
 refine HCALL.out.mono ?_
 rintro e w2 ⟨rfl, hb2⟩
 go_wp2_with fail
 go_ret
 exact ⟨rfl, hb2⟩
def deepF (ns : List S63) : Nat → Int → Bool
 | 0, _ => true
 | k + 1, id => match nodeOf ns id with
  | none => false
  | some y => y.f6.any (deepF ns k)
set_option maxRecDepth 100000 in
set_option maxHeartbeats 4000000 in
theorem deep_is (g : Nat) (rv nv : Value) (A : Option Addr) (c n : Nat) (ns : List S63) (hall : ∀ y ∈ ns, ∀ k ∈ y.f6, ∃ x, nodeOf ns k = some x) : ∀ (k : Nat) (id : Int) (w : World), k ≤ 8 → Sees w g rv nv A c n ns → (∃ x, nodeOf ns id = some x) →
  Calls Try.prog 44 #[.pointer (some ⟨g, 0, none⟩), .int .i64 id, .int .i64 (9 - (k : Int))] w fun e w' => e = .returned (.bool (deepF ns k id)) ∧ Below w.heap.size w w' := by
 intro k
 induction k with
 | zero =>
  intro id w hk hS hno
  go_enter Try.func44, Try.ntmps44
  go_wp2_with fail
  go_ret
  exact ⟨rfl, below_alloc (below_alloc (Below.refl _ _) _) _⟩
 | succ k ih =>
  intro id w hk hS hno
  obtain ⟨y, hy⟩ := hno
  obtain ⟨lv, hlv⟩ : ∃ z : Int, 9 - ((k + 1 : Nat) : Int) = z := ⟨_, rfl⟩
  rw [hlv]
  have dl : decide (lv > 8) = false := decide_eq_false (by omega)
  have hwr : IntKind.i64.wrap (lv + 1) = 9 - (k : Int) := by rw [IntKind.wrap_i64]; omega
  have hdf : deepF ns (k + 1) id = y.f6.any (deepF ns k) := by rw [deepF, hy]
  rw [hdf]
  have hym : ∀ x ∈ y.f6, ∃ z, nodeOf ns x = some z := by
   obtain ⟨hL, hr, -⟩ := nodeOf_some hy
   exact hall y (by rw [← hr, rd_lt hL]; exact List.getElem_mem _)
  obtain ⟨W1, hW1⟩ : ∃ W, w.alloc (.cells #[.pointer (some ⟨g, 0, none⟩)] 104) = W := ⟨_, rfl⟩
  obtain ⟨N, hNN⟩ : ∃ N, w.heap.size = N := ⟨_, rfl⟩
  have hb1 : Below N w W1 := by rw [← hW1, ← hNN]; exact (Below.refl _ _).alloc (Nat.le_refl _) _
  have hx1 : W1.heap[N]? = some (.cells #[.pointer (some ⟨g, 0, none⟩)] 104 (0, 0)) := by rw [← hW1, ← hNN]; exact World.alloc_heap_new w _
  have hs1 : W1.heap.size = N + 1 := by rw [← hW1, ← hNN]; simp
  obtain ⟨W2, hW2⟩ : ∃ W, W1.alloc (.cells #[.int .i64 lv] 3) = W := ⟨_, rfl⟩
  have hb2 : Below W1.heap.size W1 W2 := by rw [← hW2]; exact (Below.refl _ _).alloc (Nat.le_refl _) _
  have hx2 : W2.heap[N + 1]? = some (.cells #[.int .i64 lv] 3 (0, 0)) := by rw [← hW2, ← hs1]; exact World.alloc_heap_new W1 _
  have hx1' := (hb2.block _ (blk_lt hx1)).trans hx1
  have hb12 : Below N w W2 := hb1.trans (hb2.mono (by omega))
  have hS2 := hS.below (hNN ▸ hb12)
  have s0 : W2.cell? ⟨N, 0, none⟩ = some (.pointer (some ⟨g, 0, none⟩)) := blk_cell hx1' 0
  have s1 : W2.cell? ⟨N + 1, 0, none⟩ = some (.int .i64 lv) := blk_cell hx2 0
  have HFIND := Aside0.mk (hS2.find id)
  have hclo : ∀ x ∈ y.f6, ∀ W, Below W2.heap.size W2 W → Calls Try.prog 76 #[.int .i64 x, .pointer (some ⟨N, 0, none⟩), .pointer (some ⟨N + 1, 0, none⟩)] W fun e w' => e = .returned (.bool (deepF ns k x)) ∧ Below W.heap.size W w' := by
   intro x hx W hW
   have c0 := pw_cell_below hW s0
   have c1 := pw_cell_below hW s1
   have HREC := Aside0.mk (ih x W (by omega) (hS2.below hW) (hym x hx))
   obtain ⟨q, hq⟩ : ∃ q, deepF ns k x = q := ⟨_, rfl⟩
   rw [hq] at HREC ⊢
   clear s0 s1 HFIND hS hS2 hy hym ih hb1 hb2 hb12 hx1 hx2 hx1' hW1 hW2 hdf hW hx hq
   go_enter Try.func76, Try.ntmps76
   go_wp2_with fail
   refine HREC.out.mono ?_
   rintro e w2 ⟨rfl, hb⟩
   go_wp2_with fail
   go_ret
   exact ⟨rfl, hb⟩
  have HCLO := Aside0.mk hclo
  have HS2 := Aside0.mk hS2
  have HB12 := Aside0.mk hb12
  have HY := Aside0.mk hy
  obtain ⟨q, hq⟩ : ∃ q, y.f6.any (deepF ns k) = q := ⟨_, rfl⟩
  rw [hq]
  have HQ := Lib.hid hq
  have HNN := Lib.hid hNN
  clear hclo hS hS2 hy hym ih hb1 hb2 hb12 hx1 hx2 hx1' hdf hq hlv
  go_enter Try.func44, Try.ntmps44
  go_wp2_with fail
  refine HFIND.out.mono ?_
  rintro e w3 ⟨rfl, hb3⟩
  obtain ⟨ad, L, A5, c5, A6, c6, rfl, -, -, -, -, hfv, -, -, -, -, -, -, e6, -, hl6, hC6⟩ := (HS2.out.below hb3).get HY.out
  rw [hfv]
  have HANY := Aside0.mk (any3_is A6 c6 y.f6.length y.f6 (deepF ns k) (.pointer (some ⟨N, 0, none⟩)) (.pointer (some ⟨N + 1, 0, none⟩)) w3 hC6 rfl (fun x hx W hW => HCLO.out x hx W (hb3.trans (hW.mono hb3.size))))
  rw [HQ.out] at HANY
  have HB3 := Aside0.mk (HB12.out.trans (hb3.mono (show N ≤ W2.heap.size by have := HB12.out.size; have := HNN.out; omega)))
  obtain ⟨m6, hm6⟩ : ∃ m, y.f6.length = m := ⟨_, rfl⟩
  rw [hm6] at e6 HANY
  clear hb3 hfv hl6 hC6 hm6 HFIND
  go_wp2_with fail
  refine HANY.out.mono ?_
  rintro e w4 ⟨rfl, hb4⟩
  go_wp2_with fail
  go_ret
  exact ⟨rfl, by rw [HNN.out]; exact HB3.out.trans (hb4.mono (by have := HB3.out.size; have := HNN.out; omega))⟩
end Go.Proofs.Ytleofbidijbahaa.D
