/- What the print's words and the walks are, as far as this claim names them. -/
import Derived.Test.YtgmkgobapeencaaYAid
import Derived.Test.YtgmkgobapeencaaYS4
import Derived.Test.YtgmkgobapeencaaYS6
import Derived.Test.YtgmkgobapeencaaYS12
import Derived.Test.YtgmkgobapeencaaYS18
import Derived.Test.YtgmkgobapeencaaYS21
namespace Go.Proofs.Ytgmkgobapeencaa.SealCrc
set_option linter.unusedVariables false
set_option linter.unusedSimpArgs false
open Go.RowKit Go.Proofs.Ytgmkgobapeencaa.S Go.Proofs.YtgmkgobapeencaaW.PrintWords Go.Proofs.YtgmkgobapeencaaW.PrintLast Crc
theorem xor_nat (k : IntKind) (j : Nat) (hj : j = k.bits) (hk : ∀ n : Int, 0 ≤ n → n < 2 ^ j → k.wrap n = n) (a b : Nat) (ha : a < 2 ^ j) (hb : b < 2 ^ j) : Go.bits .xor k a b = ((a ^^^ b : Nat) : Int) := by
 subst hj
 simp only [Go.bits, BitVec.ofInt_natCast, BitVec.toNat_xor, BitVec.toNat_ofNat, Nat.mod_eq_of_lt ha, Nat.mod_eq_of_lt hb]
 exact hk _ (Int.natCast_nonneg _) (by exact_mod_cast Nat.xor_lt_two_pow ha hb)
theorem xor32 (a b : Nat) (ha : a < 4294967296) (hb : b < 4294967296) : Go.bits .xor .u32 a b = ((a ^^^ b : Nat) : Int) :=
 xor_nat .u32 32 rfl (fun n h0 h1 => by rw [IntKind.wrap_u32]; omega) a b ha hb
theorem xorB (a b : BitVec 32) : Go.bits .xor .u32 (a.toNat : Int) (b.toNat : Int) = (((a ^^^ b).toNat : Nat) : Int) := by
 rw [xor32 _ _ a.isLt b.isLt, BitVec.toNat_xor]
theorem and32 (a b : Nat) (ha : a < 4294967296) (hb : b < 4294967296) : Go.bits .and .u32 a b = ((a &&& b : Nat) : Int) :=
 (bits_nat .u32 32 (Nat.le_refl _) (fun n h0 h1 => by rw [IntKind.wrap_u32]; omega) a b ha hb).1
theorem half_is (c : BitVec 32) : half (c.toNat : Int) = ((H c).toNat : Int) := by
 unfold half
 have hc := c.isLt
 have h1 : Go.bits .and .u32 (c.toNat : Int) 1 = (c.toNat : Int) % 2 :=
  bits_mask .u32 32 (by decide) (fun n h0 h1 => by rw [IntKind.wrap_u32]; omega) 1 (by decide) _ (by omega) (by omega)
 rw [h1]
 have hd : ((c.toNat : Int) / (2 : Int)) = (((c >>> 1).toNat : Nat) : Int) := by rw [BitVec.toNat_ushiftRight, Nat.shiftRight_eq_div_pow]; omega
 rw [hd]
 have hb : c.getLsbD 0 = decide (c.toNat % 2 = 1) := by
  rw [BitVec.getLsbD, Nat.testBit_zero]
 rcases Nat.mod_two_eq_zero_or_one c.toNat with h | h
 ·
  have e : (c.toNat : Int) % 2 = 0 := by omega
  rw [e]
  have e2 : Go.bits .and .u32 3945912366 ((-(0 : Int)) % 4294967296) = (((0#32 : BitVec 32).toNat : Nat) : Int) := by decide +kernel
  rw [e2, xorB, BitVec.xor_zero]
  unfold H
  rw [hb, h]
  simp
 ·
  have e : (c.toNat : Int) % 2 = 1 := by omega
  rw [e]
  have e2 : Go.bits .and .u32 3945912366 ((-(1 : Int)) % 4294967296) = ((Crc.P.toNat : Nat) : Int) := by decide +kernel
  rw [e2, xorB]
  unfold H
  rw [hb, h]
  simp
theorem H_even {c : BitVec 32} (h : c.getLsbD 0 = false) : H c = c >>> 1 := by
 unfold H
 rw [h]
 simp
theorem H_two (c : BitVec 32) : H (H c) = (c >>> 2) ^^^ H (H (c &&& 3#32)) := by
 have e : c = (c &&& ~~~ 3#32) ^^^ (c &&& 3#32) := by
  apply BitVec.eq_of_getLsbD_eq
  intro i hi
  rw [BitVec.getLsbD_xor, BitVec.getLsbD_and, BitVec.getLsbD_and, BitVec.getLsbD_not]
  cases c.getLsbD i <;> cases (3#32).getLsbD i <;> simp [hi]
 have h1 : (c &&& ~~~ 3#32).getLsbD 0 = false := by
  rw [BitVec.getLsbD_and, BitVec.getLsbD_not]
  simp
 have h2 : ((c &&& ~~~ 3#32) >>> 1).getLsbD 0 = false := by
  rw [BitVec.getLsbD_ushiftRight, BitVec.getLsbD_and, BitVec.getLsbD_not]
  have : (3#32).getLsbD (1 + 0) = true := by decide
  rw [this]
  simp
 have h3 : ((c &&& ~~~ 3#32) >>> 1) >>> 1 = c >>> 2 := by
  apply BitVec.eq_of_getLsbD_eq
  intro i hi
  rw [BitVec.getLsbD_ushiftRight, BitVec.getLsbD_ushiftRight, BitVec.getLsbD_ushiftRight, BitVec.getLsbD_and, BitVec.getLsbD_not]
  have h4 : (3#32).getLsbD (1 + (1 + i)) = false := by
   rw [BitVec.getLsbD_ofNat]
   have : Nat.testBit 3 (1 + (1 + i)) = false := by
    rw [show 1 + (1 + i) = i + 1 + 1 by omega, Nat.testBit_succ, Nat.testBit_succ]
    simp
   rw [this]
   simp
  rw [h4, show 1 + (1 + i) = 2 + i by omega]
  by_cases h5 : 2 + i < 32
  ·
   simp [h5]
  ·
   rw [BitVec.getLsbD_of_ge _ _ (by omega)]
   simp
 conv => lhs; rw [e]
 rw [H_xor, H_xor, H_even h1, H_even h2, h3]
theorem four4_is (c : BitVec 32) : four4 (c.toNat : Int) = ((H (H c)).toNat : Int) := by
 unfold four4 quarter halfN
 have hc := c.isLt
 have h1 : Go.bits .and .u32 (c.toNat : Int) 3 = (((c &&& 3#32).toNat : Nat) : Int) := by
  rw [BitVec.toNat_and]
  exact and32 c.toNat 3 (by omega) (by decide)
 have hd : ((c.toNat : Int) / (4 : Int)) = (((c >>> 2).toNat : Nat) : Int) := by rw [BitVec.toNat_ushiftRight, Nat.shiftRight_eq_div_pow]; omega
 rw [h1, hd]
 unfold halfN halfN
 rw [half_is, half_is, xorB, ← H_two]
theorem fourN_is (n : Nat) (c : BitVec 32) : fourN n (c.toNat : Int) = ((HN (2 * n) c).toNat : Int) := by
 induction n with
 | zero => rfl
 | succ n ih =>
  show four4 (fourN n _) = _
  rw [ih, four4_is, Nat.mul_add, HN_add]
  rfl
theorem oct_is (c : BitVec 32) (x : Nat) (hx : x < 256) : oct (c.toNat : Int) (x : Int) = ((octB c x).toNat : Int) := by
 unfold oct octB
 have e : (x : Int) % 4294967296 = (((BitVec.ofNat 32 x).toNat : Nat) : Int) := by rw [BitVec.toNat_ofNat]; omega
 rw [e, xorB, fourN_is]
def toI (l : List Nat) : List Int := l.map Int.ofNat
theorem toI_length (a : List Nat) : (toI a).length = a.length := by simp [toI]
theorem toI_rd (a : List Nat) (i : Nat) : rd (toI a) (i : Int) = ((a.getD i 0 : Nat) : Int) := by
 unfold rd toI
 rw [Int.toNat_natCast]
 simp only [List.getD_eq_getElem?_getD, List.getElem?_map]
 cases a[i]? <;> rfl
theorem of_octs {l : List Int} (h : octs l) : ∃ a : List Nat, l = toI a ∧ ∀ x ∈ a, x < 256 := by
 refine ⟨l.map Int.toNat, ?_, ?_⟩
 ·
  unfold toI
  rw [List.map_map]
  conv => lhs; rw [← List.map_id l]
  apply List.map_congr_left
  intro x hx
  have := h x hx
  simp
  omega
 ·
  intro x hx
  obtain ⟨n, hn, rfl⟩ := List.mem_map.1 hx
  have := h n hn
  omega
theorem sumTo_is (l : List Nat) (h : ∀ x ∈ l, x < 256) : ∀ s : BitVec 32, (toI l).foldl oct (s.toNat : Int) = ((l.foldl octB s).toNat : Int) := by
 induction l with
 | nil => intro s; rfl
 | cons x l ih =>
  intro s
  show (toI l).foldl oct (oct (s.toNat : Int) (x : Int)) = _
  rw [oct_is s x (h x (by simp)), ih (fun y hy => h y (by simp [hy]))]
  rfl
theorem sumOf_is (l : List Nat) (h : ∀ x ∈ l, x < 256) : sumOf (toI l) = (((~~~ (l.foldl octB (BitVec.allOnes 32))).toNat : Nat) : Int) := by
 unfold sumOf sumTo
 have e : (4294967295 : Int) = (((BitVec.allOnes 32).toNat : Nat) : Int) := by decide
 rw [e, sumTo_is l h, xorB, BitVec.not_def]
end Go.Proofs.Ytgmkgobapeencaa.SealCrc
