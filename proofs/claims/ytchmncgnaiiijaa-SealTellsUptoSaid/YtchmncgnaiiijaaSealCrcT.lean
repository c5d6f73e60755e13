/- The program's checksum is the one of the field of two; a burst of turned bits is seen. -/
import Derived.Test.YtchmncgnaiiijaaCrc
import Derived.Test.YtchmncgnaiiijaaT13
import Derived.Test.YtchmncgnaiiijaaT11
import Derived.Test.YtchmncgnaiiijaaT12
namespace Go.Proofs.Ytchmncgnaiiijaa.SealCrcT
set_option linter.unusedVariables false
set_option linter.unusedSimpArgs false
open Go.RowKit Go.Proofs.Ytchmncgnaiiijaa.T Go.Proofs.YtchmncgnaiiijaaW.PrintWords Go.Proofs.YtchmncgnaiiijaaW.PrintLast Crc

theorem xor_nat (k : IntKind) (j : Nat) (hj : j = k.bits) (hk : ∀ n : Int, 0 ≤ n → n < 2 ^ j → k.wrap n = n) (a b : Nat) (ha : a < 2 ^ j) (hb : b < 2 ^ j) : Go.bits .xor k a b = ((a ^^^ b : Nat) : Int) := by
  subst hj
  simp only [Go.bits, BitVec.ofInt_natCast, BitVec.toNat_xor, BitVec.toNat_ofNat, Nat.mod_eq_of_lt ha, Nat.mod_eq_of_lt hb]
  exact hk _ (Int.natCast_nonneg _) (by exact_mod_cast Nat.xor_lt_two_pow ha hb)
theorem xor8 (a b : Nat) (ha : a < 256) (hb : b < 256) : Go.bits .xor .u8 a b = ((a ^^^ b : Nat) : Int) :=
  xor_nat .u8 8 rfl (fun n h0 h1 => by rw [IntKind.wrap_u8]; omega) a b ha hb
theorem xor32 (a b : Nat) (ha : a < 4294967296) (hb : b < 4294967296) : Go.bits .xor .u32 a b = ((a ^^^ b : Nat) : Int) :=
  xor_nat .u32 32 rfl (fun n h0 h1 => by rw [IntKind.wrap_u32]; omega) a b ha hb
theorem xorB (a b : BitVec 32) : Go.bits .xor .u32 (a.toNat : Int) (b.toNat : Int) = (((a ^^^ b).toNat : Nat) : Int) := by
  rw [xor32 _ _ a.isLt b.isLt, BitVec.toNat_xor]
theorem and32 (a b : Nat) (ha : a < 4294967296) (hb : b < 4294967296) : Go.bits .and .u32 a b = ((a &&& b : Nat) : Int) :=
  (bits_nat .u32 32 (Nat.le_refl _) (fun n h0 h1 => by rw [IntKind.wrap_u32]; omega) a b ha hb).1
theorem half_is (c : BitVec 32) : half (c.toNat : Int) = ((H c).toNat : Int) := by
  unfold half
  have hc := c.isLt
  have h1 : Go.bits .and .u32 (c.toNat : Int) 1 = (c.toNat : Int) % 2 :=
    bits_mask .u32 32 (by decide) (fun n h0 h1 => by rw [IntKind.wrap_u32]; omega) 1 (by decide) _ (by omega) (by omega)
  rw [h1]
  have hd : ((c.toNat : Int) / (2 : Int)) = (((c >>> 1).toNat : Nat) : Int) := by rw [BitVec.toNat_ushiftRight, Nat.shiftRight_eq_div_pow]; omega
  rw [hd]
  have hb : c.getLsbD 0 = decide (c.toNat % 2 = 1) := by
    rw [BitVec.getLsbD, Nat.testBit_zero]
  rcases Nat.mod_two_eq_zero_or_one c.toNat with h | h
  · have e : (c.toNat : Int) % 2 = 0 := by omega
    rw [e]
    have e2 : Go.bits .and .u32 3945912366 ((-(0 : Int)) % 4294967296) = (((0#32 : BitVec 32).toNat : Nat) : Int) := by decide +kernel
    rw [e2, xorB, BitVec.xor_zero]
    unfold H
    rw [hb, h]
    simp
  · have e : (c.toNat : Int) % 2 = 1 := by omega
    rw [e]
    have e2 : Go.bits .and .u32 3945912366 ((-(1 : Int)) % 4294967296) = ((Crc.P.toNat : Nat) : Int) := by decide +kernel
    rw [e2, xorB]
    unfold H
    rw [hb, h]
    simp
theorem H_even {c : BitVec 32} (h : c.getLsbD 0 = false) : H c = c >>> 1 := by
  unfold H
  rw [h]
  simp
theorem H_two (c : BitVec 32) : H (H c) = (c >>> 2) ^^^ H (H (c &&& 3#32)) := by
  have e : c = (c &&& ~~~ 3#32) ^^^ (c &&& 3#32) := by
    apply BitVec.eq_of_getLsbD_eq
    intro i hi
    rw [BitVec.getLsbD_xor, BitVec.getLsbD_and, BitVec.getLsbD_and, BitVec.getLsbD_not]
    cases c.getLsbD i <;> cases (3#32).getLsbD i <;> simp [hi]
  have h1 : (c &&& ~~~ 3#32).getLsbD 0 = false := by
    rw [BitVec.getLsbD_and, BitVec.getLsbD_not]
    simp
  have h2 : ((c &&& ~~~ 3#32) >>> 1).getLsbD 0 = false := by
    rw [BitVec.getLsbD_ushiftRight, BitVec.getLsbD_and, BitVec.getLsbD_not]
    have : (3#32).getLsbD (1 + 0) = true := by decide
    rw [this]
    simp
  have h3 : ((c &&& ~~~ 3#32) >>> 1) >>> 1 = c >>> 2 := by
    apply BitVec.eq_of_getLsbD_eq
    intro i hi
    rw [BitVec.getLsbD_ushiftRight, BitVec.getLsbD_ushiftRight, BitVec.getLsbD_ushiftRight, BitVec.getLsbD_and, BitVec.getLsbD_not]
    have h4 : (3#32).getLsbD (1 + (1 + i)) = false := by
      rw [BitVec.getLsbD_ofNat]
      have : Nat.testBit 3 (1 + (1 + i)) = false := by
        rw [show 1 + (1 + i) = i + 1 + 1 by omega, Nat.testBit_succ, Nat.testBit_succ]
        simp
      rw [this]
      simp
    rw [h4, show 1 + (1 + i) = 2 + i by omega]
    by_cases h5 : 2 + i < 32
    · simp [h5]
    · rw [BitVec.getLsbD_of_ge _ _ (by omega)]
      simp
  conv => lhs; rw [e]
  rw [H_xor, H_xor, H_even h1, H_even h2, h3]
theorem four4_is (c : BitVec 32) : four4 (c.toNat : Int) = ((H (H c)).toNat : Int) := by
  unfold four4 quarter halfN
  have hc := c.isLt
  have h1 : Go.bits .and .u32 (c.toNat : Int) 3 = (((c &&& 3#32).toNat : Nat) : Int) := by
    rw [BitVec.toNat_and]
    exact and32 c.toNat 3 (by omega) (by decide)
  have hd : ((c.toNat : Int) / (4 : Int)) = (((c >>> 2).toNat : Nat) : Int) := by rw [BitVec.toNat_ushiftRight, Nat.shiftRight_eq_div_pow]; omega
  rw [h1, hd]
  unfold halfN halfN
  rw [half_is, half_is, xorB, ← H_two]
theorem fourN_is (n : Nat) (c : BitVec 32) : fourN n (c.toNat : Int) = ((HN (2 * n) c).toNat : Int) := by
  induction n with
  | zero => rfl
  | succ n ih =>
    show four4 (fourN n _) = _
    rw [ih, four4_is, Nat.mul_add, HN_add]
    rfl
theorem oct_is (c : BitVec 32) (x : Nat) (hx : x < 256) : oct (c.toNat : Int) (x : Int) = ((octB c x).toNat : Int) := by
  unfold oct octB
  have e : (x : Int) % 4294967296 = (((BitVec.ofNat 32 x).toNat : Nat) : Int) := by rw [BitVec.toNat_ofNat]; omega
  rw [e, xorB, fourN_is]
def toI (l : List Nat) : List Int := l.map Int.ofNat
theorem toI_append (a b : List Nat) : toI (a ++ b) = toI a ++ toI b := List.map_append
theorem toI_length (a : List Nat) : (toI a).length = a.length := by simp [toI]
theorem toI_take (a : List Nat) (n : Nat) : (toI a).take n = toI (a.take n) := by simp [toI, List.map_take]
theorem toI_drop (a : List Nat) (n : Nat) : (toI a).drop n = toI (a.drop n) := by simp [toI, List.map_drop]
theorem toI_set (a : List Nat) (i n : Nat) : (toI a).set i (n : Int) = toI (a.set i n) := by simp [toI, List.map_set]
theorem toI_rd (a : List Nat) (i : Nat) : rd (toI a) (i : Int) = ((a.getD i 0 : Nat) : Int) := by
  unfold rd toI
  rw [Int.toNat_natCast]
  simp only [List.getD_eq_getElem?_getD, List.getElem?_map]
  cases a[i]? <;> rfl
theorem toI_octs {a : List Nat} (h : ∀ x ∈ a, x < 256) : octs (toI a) := by
  intro x hx
  obtain ⟨n, hn, rfl⟩ := List.mem_map.1 hx
  have := h n hn
  show 0 ≤ (n : Int) ∧ (n : Int) < 256
  omega
theorem of_octs {l : List Int} (h : octs l) : ∃ a : List Nat, l = toI a ∧ ∀ x ∈ a, x < 256 := by
  refine ⟨l.map Int.toNat, ?_, ?_⟩
  · unfold toI
    rw [List.map_map]
    conv => lhs; rw [← List.map_id l]
    apply List.map_congr_left
    intro x hx
    have := h x hx
    simp
    omega
  · intro x hx
    obtain ⟨n, hn, rfl⟩ := List.mem_map.1 hx
    have := h n hn
    omega
theorem toI_inj {a b : List Nat} (h : toI a = toI b) : a = b := by
  have := congrArg (List.map Int.toNat) h
  simpa [toI, List.map_map, Function.comp_def] using this
theorem sumTo_is (l : List Nat) (h : ∀ x ∈ l, x < 256) : ∀ s : BitVec 32, (toI l).foldl oct (s.toNat : Int) = ((l.foldl octB s).toNat : Int) := by
  induction l with
  | nil => intro s; rfl
  | cons x l ih =>
    intro s
    show (toI l).foldl oct (oct (s.toNat : Int) (x : Int)) = _
    rw [oct_is s x (h x (by simp)), ih (fun y hy => h y (by simp [hy]))]
    rfl
theorem sumOf_is (l : List Nat) (h : ∀ x ∈ l, x < 256) : sumOf (toI l) = (((~~~ (l.foldl octB (BitVec.allOnes 32))).toNat : Nat) : Int) := by
  unfold sumOf sumTo
  have e : (4294967295 : Int) = (((BitVec.allOnes 32).toNat : Nat) : Int) := by decide
  rw [e, sumTo_is l h, xorB, BitVec.not_def]
theorem byte_rest (v : Nat) : (v % 256) ^^^ ((v / 256) <<< 8) = v := by
  apply Nat.eq_of_testBit_eq
  intro i
  rw [Nat.testBit_xor, show (256 : Nat) = 2 ^ 8 from rfl, Nat.testBit_mod_two_pow, Nat.testBit_shiftLeft, Nat.testBit_div_two_pow]
  by_cases h : i < 8
  · have h2 : ¬ 8 ≤ i := by omega
    simp [h, h2]
  · have h2 : 8 ≤ i := by omega
    rw [show i - 8 + 8 = i by omega]
    simp [h, h2]
def laidN (v : Nat) : List Nat := [v % 256, v / 256 % 256, v / 65536 % 256, v / 16777216 % 256]
theorem laid_is (v : Nat) : laidL (v : Int) = toI (laidN v) := by
  have a0 : (v : Int) % 256 = Int.ofNat (v % 256) := by show _ = ((v % 256 : Nat) : Int); omega
  have a1 : (v : Int) / 256 % 256 = Int.ofNat (v / 256 % 256) := by show _ = ((v / 256 % 256 : Nat) : Int); omega
  have a2 : (v : Int) / 65536 % 256 = Int.ofNat (v / 65536 % 256) := by show _ = ((v / 65536 % 256 : Nat) : Int); omega
  have a3 : (v : Int) / 16777216 % 256 = Int.ofNat (v / 16777216 % 256) := by show _ = ((v / 16777216 % 256 : Nat) : Int); omega
  simp only [laidL, laidN, toI, List.map_cons, List.map_nil, a0, a1, a2, a3]
theorem laidN_val (v : Nat) (h : v < 4294967296) : val (laidN v) = v := by
  have e3 : v / 16777216 % 256 = v / 65536 / 256 := by omega
  have e2 : v / 65536 % 256 ^^^ ((v / 65536 / 256) <<< 8) = v / 65536 := byte_rest _
  have e1 : v / 256 % 256 ^^^ ((v / 256 / 256) <<< 8) = v / 256 := byte_rest _
  have e4 : v / 256 / 256 = v / 65536 := by omega
  simp only [laidN, val]
  rw [e3]
  simp only [Nat.zero_shiftLeft, Nat.xor_zero]
  rw [e2, ← e4, e1, byte_rest]
theorem laidN_octs (v : Nat) : ∀ x ∈ laidN v, x < 256 := by
  intro x hx
  simp only [laidN, List.mem_cons, List.mem_nil_iff, or_false] at hx
  omega
/-- One of the two does not fit its sum. -/
theorem sum_tells (M M' t' : List Nat) (T p : Nat) (hM : ∀ x ∈ M, x < 256) (hM' : ∀ x ∈ M', x < 256) (ht' : ∀ x ∈ t', x < 256) (h4' : t'.length = 4) (hl : M'.length = M.length) (h0 : 0 < T) (h1 : T < 2 ^ 32) (hp : p + 32 ≤ 8 * (M.length + 4))
    (hv : val (M' ++ t') = val (M ++ laidN (~~~ (M.foldl octB (BitVec.allOnes 32))).toNat) ^^^ (T <<< p)) : ¬ laidL (sumOf (toI M')) = toI t' := by
  intro he
  rw [sumOf_is M' hM', laid_is] at he
  have he := toI_inj he
  refine tells M (laidN (~~~ (M.foldl octB (BitVec.allOnes 32))).toNat) M' t' T p hM (laidN_octs _) hM' ht' rfl h4' hl h0 h1 hp hv (BitVec.allOnes 32) ?_ ?_
  · rw [laidN_val _ (BitVec.isLt _), BitVec.ofNat_toNat, BitVec.setWidth_eq]
  · rw [← he, laidN_val _ (BitVec.isLt _), BitVec.ofNat_toNat, BitVec.setWidth_eq]
theorem mod_succ (T i : Nat) : T % 2 ^ (i + 1) = T % 2 ^ i ^^^ ((T / 2 ^ i % 2) <<< i) := by
  apply Nat.eq_of_testBit_eq
  intro b
  rw [Nat.testBit_xor, Nat.testBit_mod_two_pow, Nat.testBit_mod_two_pow, Nat.testBit_shiftLeft]
  have h2 : ∀ c, (T / 2 ^ i % 2).testBit c = (decide (c = 0) && T.testBit i) := by
    intro c
    have := Nat.testBit_mod_two_pow (T / 2 ^ i) 1 c
    rw [Nat.pow_one] at this
    rw [this, Nat.testBit_div_two_pow]
    by_cases hc : c = 0
    · subst hc; simp
    · have : ¬ c < 1 := by omega
      simp [hc, this]
  rw [h2]
  rcases Nat.lt_trichotomy b i with h | h | h
  · have a1 : b < i + 1 := by omega
    have a2 : ¬ i ≤ b := by omega
    simp [h, a1, a2]
  · subst h; simp
  · have a1 : ¬ b < i + 1 := by omega
    have a2 : ¬ b < i := by omega
    have a3 : ¬ b - i = 0 := by omega
    simp [a1, a2, a3]
end Go.Proofs.Ytchmncgnaiiijaa.SealCrcT
