/- What the print's words and the walks are, as far as this claim names them. -/
import Derived.Test.YtgmkgobapeencaaYAid
import Derived.Test.YtgmkgobapeencaaYS1
import Derived.Test.YtgmkgobapeencaaYS6
import Derived.Test.YtgmkgobapeencaaYS12
import Derived.Test.YtgmkgobapeencaaYS18
import Derived.Test.YtgmkgobapeencaaYS21
import Derived.Lib.Bytes
set_option linter.unusedVariables false
set_option linter.unusedSimpArgs false
namespace Go.Proofs.Ytgmkgobapeencaa.SealCrc
open Go.RowKit Go.Proofs.Ytgmkgobapeencaa.S Go.Proofs.YtgmkgobapeencaaW.PrintWords Go.Proofs.YtgmkgobapeencaaW.PrintLast Crc
theorem xor_nat (k : IntKind) (j : Nat) (hj : j = k.bits) (hk : ∀ n : Int, 0 ≤ n → n < 2 ^ j → k.wrap n = n) (a b : Nat) (ha : a < 2 ^ j) (hb : b < 2 ^ j) : Go.bits .xor k a b = ((a ^^^ b : Nat) : Int) := by
 subst hj
 simp only [Go.bits, BitVec.ofInt_natCast, BitVec.toNat_xor, BitVec.toNat_ofNat, Nat.mod_eq_of_lt ha, Nat.mod_eq_of_lt hb]
 exact hk _ (Int.natCast_nonneg _) (by exact_mod_cast Nat.xor_lt_two_pow ha hb)
theorem xor32 (a b : Nat) (ha : a < 4294967296) (hb : b < 4294967296) : Go.bits .xor .u32 a b = ((a ^^^ b : Nat) : Int) :=
 xor_nat .u32 32 rfl (fun n h0 h1 => by rw [IntKind.wrap_u32]; omega) a b ha hb
theorem xorB (a b : BitVec 32) : Go.bits .xor .u32 (a.toNat : Int) (b.toNat : Int) = (((a ^^^ b).toNat : Nat) : Int) := by
 rw [xor32 _ _ a.isLt b.isLt, BitVec.toNat_xor]
theorem and32 (a b : Nat) (ha : a < 4294967296) (hb : b < 4294967296) : Go.bits .and .u32 a b = ((a &&& b : Nat) : Int) :=
 (bits_nat .u32 32 (Nat.le_refl _) (fun n h0 h1 => by rw [IntKind.wrap_u32]; omega) a b ha hb).1
theorem half_is (c : BitVec 32) : half (c.toNat : Int) = ((H c).toNat : Int) := by
 unfold half
 have hc := c.isLt
 have h1 : Go.bits .and .u32 (c.toNat : Int) 1 = (c.toNat : Int) % 2 :=
  bits_mask .u32 32 (by decide) (fun n h0 h1 => by rw [IntKind.wrap_u32]; omega) 1 (by decide) _ (by omega) (by omega)
 rw [h1]
 have hd : ((c.toNat : Int) / (2 : Int)) = (((c >>> 1).toNat : Nat) : Int) := by rw [BitVec.toNat_ushiftRight, Nat.shiftRight_eq_div_pow]; omega
 rw [hd]
 have hb : c.getLsbD 0 = decide (c.toNat % 2 = 1) := by
  rw [BitVec.getLsbD, Nat.testBit_zero]
 rcases Nat.mod_two_eq_zero_or_one c.toNat with h | h
 ·
  have e : (c.toNat : Int) % 2 = 0 := by omega
  rw [e]
  have e2 : Go.bits .and .u32 3945912366 ((-(0 : Int)) % 4294967296) = (((0#32 : BitVec 32).toNat : Nat) : Int) := by decide +kernel
  rw [e2, xorB, BitVec.xor_zero]
  unfold H
  rw [hb, h]
  simp
 ·
  have e : (c.toNat : Int) % 2 = 1 := by omega
  rw [e]
  have e2 : Go.bits .and .u32 3945912366 ((-(1 : Int)) % 4294967296) = ((Crc.P.toNat : Nat) : Int) := by decide +kernel
  rw [e2, xorB]
  unfold H
  rw [hb, h]
  simp
theorem H_even {c : BitVec 32} (h : c.getLsbD 0 = false) : H c = c >>> 1 := by
 unfold H
 rw [h]
 simp
theorem H_two (c : BitVec 32) : H (H c) = (c >>> 2) ^^^ H (H (c &&& 3#32)) := by
 have e : c = (c &&& ~~~ 3#32) ^^^ (c &&& 3#32) := by
  apply BitVec.eq_of_getLsbD_eq
  intro i hi
  rw [BitVec.getLsbD_xor, BitVec.getLsbD_and, BitVec.getLsbD_and, BitVec.getLsbD_not]
  cases c.getLsbD i <;> cases (3#32).getLsbD i <;> simp [hi]
 have h1 : (c &&& ~~~ 3#32).getLsbD 0 = false := by
  rw [BitVec.getLsbD_and, BitVec.getLsbD_not]
  simp
 have h2 : ((c &&& ~~~ 3#32) >>> 1).getLsbD 0 = false := by
  rw [BitVec.getLsbD_ushiftRight, BitVec.getLsbD_and, BitVec.getLsbD_not]
  have : (3#32).getLsbD (1 + 0) = true := by decide
  rw [this]
  simp
 have h3 : ((c &&& ~~~ 3#32) >>> 1) >>> 1 = c >>> 2 := by
  apply BitVec.eq_of_getLsbD_eq
  intro i hi
  rw [BitVec.getLsbD_ushiftRight, BitVec.getLsbD_ushiftRight, BitVec.getLsbD_ushiftRight, BitVec.getLsbD_and, BitVec.getLsbD_not]
  have h4 : (3#32).getLsbD (1 + (1 + i)) = false := by
   rw [BitVec.getLsbD_ofNat]
   have : Nat.testBit 3 (1 + (1 + i)) = false := by
    rw [show 1 + (1 + i) = i + 1 + 1 by omega, Nat.testBit_succ, Nat.testBit_succ]
    simp
   rw [this]
   simp
  rw [h4, show 1 + (1 + i) = 2 + i by omega]
  by_cases h5 : 2 + i < 32
  ·
   simp [h5]
  ·
   rw [BitVec.getLsbD_of_ge _ _ (by omega)]
   simp
 conv => lhs; rw [e]
 rw [H_xor, H_xor, H_even h1, H_even h2, h3]
theorem four4_is (c : BitVec 32) : four4 (c.toNat : Int) = ((H (H c)).toNat : Int) := by
 unfold four4 quarter halfN
 have hc := c.isLt
 have h1 : Go.bits .and .u32 (c.toNat : Int) 3 = (((c &&& 3#32).toNat : Nat) : Int) := by
  rw [BitVec.toNat_and]
  exact and32 c.toNat 3 (by omega) (by decide)
 have hd : ((c.toNat : Int) / (4 : Int)) = (((c >>> 2).toNat : Nat) : Int) := by rw [BitVec.toNat_ushiftRight, Nat.shiftRight_eq_div_pow]; omega
 rw [h1, hd]
 unfold halfN halfN
 rw [half_is, half_is, xorB, ← H_two]
theorem fourN_is (n : Nat) (c : BitVec 32) : fourN n (c.toNat : Int) = ((HN (2 * n) c).toNat : Int) := by
 induction n with
 | zero => rfl
 | succ n ih =>
  show four4 (fourN n _) = _
  rw [ih, four4_is, Nat.mul_add, HN_add]
  rfl
theorem oct_is (c : BitVec 32) (x : Nat) (hx : x < 256) : oct (c.toNat : Int) (x : Int) = ((octB c x).toNat : Int) := by
 unfold oct octB
 have e : (x : Int) % 4294967296 = (((BitVec.ofNat 32 x).toNat : Nat) : Int) := by rw [BitVec.toNat_ofNat]; omega
 rw [e, xorB, fourN_is]
def toI (l : List Nat) : List Int := l.map Int.ofNat
theorem toI_length (a : List Nat) : (toI a).length = a.length := by simp [toI]
theorem toI_rd (a : List Nat) (i : Nat) : rd (toI a) (i : Int) = ((a.getD i 0 : Nat) : Int) := by
 unfold rd toI
 rw [Int.toNat_natCast]
 simp only [List.getD_eq_getElem?_getD, List.getElem?_map]
 cases a[i]? <;> rfl
theorem of_octs {l : List Int} (h : octs l) : ∃ a : List Nat, l = toI a ∧ ∀ x ∈ a, x < 256 := by
 refine ⟨l.map Int.toNat, ?_, ?_⟩
 ·
  unfold toI
  rw [List.map_map]
  conv => lhs; rw [← List.map_id l]
  apply List.map_congr_left
  intro x hx
  have := h x hx
  simp
  omega
 ·
  intro x hx
  obtain ⟨n, hn, rfl⟩ := List.mem_map.1 hx
  have := h n hn
  omega
theorem sumTo_is (l : List Nat) (h : ∀ x ∈ l, x < 256) : ∀ s : BitVec 32, (toI l).foldl oct (s.toNat : Int) = ((l.foldl octB s).toNat : Int) := by
 induction l with
 | nil => intro s; rfl
 | cons x l ih =>
  intro s
  show (toI l).foldl oct (oct (s.toNat : Int) (x : Int)) = _
  rw [oct_is s x (h x (by simp)), ih (fun y hy => h y (by simp [hy]))]
  rfl
theorem sumOf_is (l : List Nat) (h : ∀ x ∈ l, x < 256) : sumOf (toI l) = (((~~~ (l.foldl octB (BitVec.allOnes 32))).toNat : Nat) : Int) := by
 unfold sumOf sumTo
 have e : (4294967295 : Int) = (((BitVec.allOnes 32).toNat : Nat) : Int) := by decide
 rw [e, sumTo_is l h, xorB, BitVec.not_def]
end Go.Proofs.Ytgmkgobapeencaa.SealCrc
namespace Go.Proofs.Ytgmkgobapeencaa.RefSeal
open Go.RowKit Go.Proofs.Ytgmkgobapeencaa.S Go.Proofs.YtgmkgobapeencaaW.PrintWords Go.Proofs.YtgmkgobapeencaaW.PrintLast Crc SealCrc
theorem wrapI {i : Int} (h0 : -9223372036854775808 ≤ i) (h1 : i ≤ 9223372036854775807) : wrap64 i = i := by unfold wrap64; omega
theorem ref_half (b : BitVec 32) : (if Int.tmod (b.toNat : Int) 2 = 1 then Go.bits .xor .u32 ((Int.tdiv (b.toNat : Int) 2) % 4294967296) 3945912366 else (Int.tdiv (b.toNat : Int) 2) % 4294967296) = ((H b).toNat : Int) := by
 have hc := b.isLt
 have e1 : Int.tmod (b.toNat : Int) 2 = ((b.toNat % 2 : Nat) : Int) := rfl
 have e2 : Int.tdiv (b.toNat : Int) 2 = ((b.toNat / 2 : Nat) : Int) := rfl
 have hd : ((b.toNat / 2 : Nat) : Int) % (4294967296 : Int) = (((b >>> 1).toNat : Nat) : Int) := by rw [BitVec.toNat_ushiftRight, Nat.shiftRight_eq_div_pow]; omega
 have hb : b.getLsbD 0 = decide (b.toNat % 2 = 1) := by rw [BitVec.getLsbD, Nat.testBit_zero]
 rw [e1, e2, hd]
 rcases Nat.mod_two_eq_zero_or_one b.toNat with h | h
 ·
  rw [h, if_neg (by decide)]
  unfold H
  rw [hb, h]
  simp
 ·
  rw [h, if_pos (show ((1 : Nat) : Int) = 1 from rfl), show (3945912366 : Int) = ((Crc.P.toNat : Nat) : Int) from by decide, xorB]
  unfold H
  rw [hb, h]
  simp
theorem sum_l1 (x0 : List Int) (i : Int) (r : Int) : ∀ (d : Nat) (j : Nat) (b : BitVec 32), 8 - j = d → j ≤ 8 → Ev (fun k => fanlightref04_Sum.l0 k x0 ((HN d b).toNat : Int) (wrap64 (i + 1))) r → Ev (fun k => fanlightref04_Sum.l1 k x0 (b.toNat : Int) i (j : Int)) r
 | 0, j, b, hd, hj, h => by
  refine Ev.step (fun k => rfl) ?_
  simp only [fanlightref04_Sum.l1, if_neg (show ¬ (j : Int) < 8 by omega)]
  exact h
 | d + 1, j, b, hd, hj, h => by
  refine Ev.step (fun k => rfl) ?_
  have n3 : wrap64 ((j : Int) + 1) = ((j + 1 : Nat) : Int) := by rw [wrapI] <;> omega
  have hh := ref_half b
  have ih := sum_l1 x0 i r d (j + 1) (H b) (by omega) (by omega) h
  rw [← hh] at ih
  simp only [fanlightref04_Sum.l1, if_pos (show (j : Int) < 8 by omega), n3]
  split
  ·
   rename_i hc
   rw [if_pos hc] at ih
   exact ih
  ·
   rename_i hc
   rw [if_neg hc] at ih
   exact ih
theorem sum_l0 (xs : List Nat) (hx : ∀ x ∈ xs, x < 256) (hn : xs.length ≤ 4611686018427387904) : ∀ (rest pre : List Nat) (b : BitVec 32), xs = pre ++ rest → Ev (fun k => fanlightref04_Sum.l0 k (toI xs) (b.toNat : Int) (pre.length : Int)) (Go.bits .xor .u32 4294967295 ((rest.foldl octB b).toNat : Int))
 | [], pre, b, h => by
  refine Ev.step (fun k => rfl) ?_
  have hl : xs.length = pre.length := by rw [h]; simp
  simp only [fanlightref04_Sum.l0, toI_length, if_neg (show ¬ (pre.length : Int) < (xs.length : Int) by omega)]
  exact Ev.now _
 | x :: rest, pre, b, h => by
  refine Ev.step (fun k => rfl) ?_
  have hl : xs.length = pre.length + 1 + rest.length := by rw [h]; simp; omega
  have hrd : rd (toI xs) (pre.length : Int) = (x : Int) := by
   rw [toI_rd, h]
   simp
  have hx0 : x < 256 := hx x (by rw [h]; simp)
  have e : (x : Int) % 4294967296 = (((BitVec.ofNat 32 x).toNat : Nat) : Int) := by rw [BitVec.toNat_ofNat]; omega
  simp only [fanlightref04_Sum.l0, toI_length, if_pos (show (pre.length : Int) < (xs.length : Int) by omega), if_pos (show (0 : Int) ≤ (pre.length : Int) by omega), hrd, e, xorB]
  refine sum_l1 (toI xs) _ _ 8 0 _ rfl (by omega) ?_
  have ih := sum_l0 xs hx hn rest (pre ++ [x]) (octB b x) (by rw [h]; simp)
  rw [List.length_append] at ih
  have n3 : wrap64 ((pre.length : Int) + 1) = ((pre.length + 1 : Nat) : Int) := by rw [wrapI] <;> omega
  rw [n3]
  exact ih
theorem sum_is {l : List Int} (ho : octs l) (hn : l.length ≤ 4611686018427387904) : Ev (fun k => fanlightref04_Sum.f k l) (sumOf l) := by
 obtain ⟨xs, rfl, hx⟩ := of_octs ho
 rw [toI_length] at hn
 have := sum_l0 xs hx hn xs [] (BitVec.allOnes 32) rfl
 have e : (4294967295 : Int) = (((BitVec.allOnes 32).toNat : Nat) : Int) := by decide
 rw [sumOf_is xs hx, BitVec.not_def, ← xorB, ← e]
 exact this
theorem or_oct64 (x y : Int) (hx : 0 ≤ x) (hx2 : x < 72057594037927936) (hy : 0 ≤ y) (hy2 : y < 256) : Go.bits .or .u64 (IntKind.u64.wrap (x * 256)) (IntKind.u64.wrap y) = x * 256 + y := by
 have w64 : ∀ n : Int, 0 ≤ n → n < 18446744073709551616 → IntKind.u64.wrap n = n := fun n h0 h1 => by
  simp [IntKind.wrap, IntKind.bits, IntKind.signed]
  omega
 rw [w64 (x * 256) (by omega) (by omega), w64 y (by omega) (by omega)]
 obtain ⟨a, rfl⟩ := Int.eq_ofNat_of_zero_le hx
 obtain ⟨b, rfl⟩ := Int.eq_ofNat_of_zero_le hy
 have e0 : ((a : Int) * 256) = ((a * 256 : Nat) : Int) := by omega
 have o64 : ∀ n : Nat, n < 18446744073709551616 → (BitVec.ofInt 64 (n : Int)).toNat = n := fun n h => by
  rw [BitVec.ofInt_natCast, BitVec.toNat_ofNat]; exact Nat.mod_eq_of_lt (by omega)
 rw [e0]
 show IntKind.u64.wrap ((BitVec.ofInt 64 ((a * 256 : Nat) : Int) ||| BitVec.ofInt 64 (b : Int)).toNat : Int) = _
 have e1 : a * 256 = a <<< 8 := by rw [Nat.shiftLeft_eq]
 rw [BitVec.toNat_or, o64 _ (by omega), o64 _ (by omega), e1, ← Nat.shiftLeft_add_eq_or_of_lt (i := 8) (by omega), Nat.shiftLeft_eq, w64 _ (by omega) (by omega)]
 omega
def numOf (l : List Int) : Int := l.foldl (fun n x => n * 256 + x) 0
theorem numOf_bound : ∀ (l : List Int) (a : Int), octs l → 0 ≤ a → 0 ≤ l.foldl (fun n x => n * 256 + x) a ∧ l.foldl (fun n x => n * 256 + x) a < (a + 1) * 256 ^ l.length
 | [], a, _, h0 => by simp; omega
 | x :: l, a, ho, h0 => by
  have hx := ho x (by simp)
  obtain ⟨h1, h2⟩ := numOf_bound l (a * 256 + x) (fun y hy => ho y (by simp [hy])) (by omega)
  refine ⟨h1, Int.lt_of_lt_of_le h2 ?_⟩
  rw [List.length_cons, Int.pow_succ, Int.mul_comm (256 ^ l.length) 256, ← Int.mul_assoc]
  exact Int.mul_le_mul_of_nonneg_right (by omega) (Int.pow_nonneg (by decide))
theorem number_l0 (l : List Int) (ho : octs l) (hl : l.length ≤ 8) : ∀ (rest pre : List Int), l = pre ++ rest → Ev (fun k => fanlightref03_Number.l0 k l (numOf pre) (pre.length : Int)) (numOf l)
 | [], pre, h => by
  refine Ev.step (fun k => rfl) ?_
  have e : l = pre := by simpa using h
  subst e
  simp only [fanlightref03_Number.l0, if_neg (show ¬ (l.length : Int) < (l.length : Int) by omega)]
  exact Ev.now _
 | x :: rest, pre, h => by
  refine Ev.step (fun k => rfl) ?_
  have hlen : l.length = pre.length + 1 + rest.length := by rw [h]; simp; omega
  have hrd : rd l (pre.length : Int) = x := by
   unfold rd
   rw [Int.toNat_natCast, h, List.getD_eq_getElem?_getD, List.getElem?_append_right (Nat.le_refl _), Nat.sub_self]
   rfl
  have hx := ho x (by rw [h]; simp)
  have hpo : octs pre := fun y hy => ho y (by rw [h]; simp [hy])
  obtain ⟨b0, b1⟩ := numOf_bound pre 0 hpo (Int.le_refl _)
  have hp7 : ((256 : Int) ^ pre.length) ≤ 72057594037927936 := by
   have : ((256 : Nat) ^ pre.length) ≤ 256 ^ 7 := Nat.pow_le_pow_right (by decide) (by omega)
   have e2 : ((256 : Nat) ^ 7) = 72057594037927936 := by decide
   rw [e2] at this
   rw [show ((256 : Int) ^ pre.length) = ((256 ^ pre.length : Nat) : Int) from (Int.natCast_pow 256 _).symm]
   exact Int.ofNat_le.2 this
  have n3 : wrap64 ((pre.length : Int) + 1) = ((pre.length + 1 : Nat) : Int) := by rw [wrapI] <;> omega
  simp only [fanlightref03_Number.l0, if_pos (show (pre.length : Int) < (l.length : Int) by omega), if_pos (show (0 : Int) ≤ (pre.length : Int) by omega), hrd, n3]
  rw [or_oct64 (numOf pre) x b0 (by rw [Int.zero_add, Int.one_mul] at b1; exact Int.lt_of_lt_of_le b1 hp7) hx.1 hx.2]
  have ih := number_l0 l ho hl rest (pre ++ [x]) (by rw [h]; simp)
  have e3 : numOf (pre ++ [x]) = numOf pre * 256 + x := by unfold numOf; rw [List.foldl_append]; rfl
  rw [e3, List.length_append] at ih
  exact ih
theorem number_is {l : List Int} (ho : octs l) (hl : l.length ≤ 8) : Ev (fun k => fanlightref03_Number.f k l) (numOf l) := number_l0 l ho hl l [] rfl
theorem str_inj {x y : List Int} (hx : octs x) (hy : octs y) (h : (strOfNums x).toList = (strOfNums y).toList) : x = y := by
 obtain ⟨a, rfl, ha⟩ := of_octs hx
 obtain ⟨b, rfl, hb⟩ := of_octs hy
 rw [Lib.strOfNums_toList, Lib.strOfNums_toList] at h
 congr 1
 unfold Lib.bytesOf toI at h
 rw [List.map_map, List.map_map] at h
 have h2 := congrArg (List.map UInt8.toNat) h
 rw [List.map_map, List.map_map] at h2
 have fix : ∀ l : List Nat, (∀ x ∈ l, x < 256) → List.map (UInt8.toNat ∘ ((fun x : Int => UInt8.ofNat x.toNat) ∘ Int.ofNat)) l = l := fun l hl => by
  conv => rhs; rw [← List.map_id l]
  apply List.map_congr_left
  intro x hx
  have := hl x hx
  simp
  omega
 rw [fix a ha, fix b hb] at h2
 exact h2
theorem num3_is {l : List Int} (h : 4 ≤ l.length) : numOf ((l.take 4).drop 1) = num3 l := by
 rw [drop_rd l h]
 unfold numOf num3
 simp only [List.foldl_cons, List.foldl_nil]
 omega
theorem octs_take {l : List Int} (h : octs l) (n : Nat) : octs (l.take n) := fun x hx => h x (List.mem_of_mem_take hx)
theorem octs_drop {l : List Int} (h : octs l) (n : Nat) : octs (l.drop n) := fun x hx => h x (List.mem_of_mem_drop hx)
theorem laidL_octs (c : Int) : octs (laidL c) := by
 intro x hx
 simp only [laidL, List.mem_cons, List.mem_nil_iff, or_false] at hx
 rcases hx with rfl | rfl | rfl | rfl <;> omega
theorem get_ref {l : List Int} (ho : octs l) (hl : l.length ≤ 140737488351232) : Ev (fun k => fanlightref04_Get.f k l) (getS l) := by
 unfold fanlightref04_Get.f
 by_cases h8 : (l.length : Int) < 8
 ·
  have : getS l = (0, [], 0, 8) := by unfold getS; rw [if_pos (by omega)]
  simp only [if_pos h8, this]
  exact Ev.now _
 have h0 : 0 < (l.length : Int) := by omega
 by_cases hz : rd l 0 = 0
 ·
  have : getS l = (0, [], 0, 22) := by unfold getS; rw [if_neg (by omega), if_pos hz]
  simp only [if_neg h8, if_pos h0, if_pos hz, this]
  exact Ev.now _
 have h4 : 4 ≤ (l.length : Int) := by omega
 simp only [if_neg h8, if_pos h0, if_neg hz, if_pos (show 1 ≤ 4 by decide), if_pos h4]
 have hnum := number_is (octs_drop (octs_take ho 4) 1) (by simp; omega)
 rw [num3_is (by omega)] at hnum
 refine Ev.bind hnum ?_
 have hb := num3_lo ho
 have hG : getS l = (if 65536 < num3 l then (0, [], 0, 5) else if (l.length : Int) < num3 l + 8 then (0, [], 0, 8) else if laidL (sumOf (l.take (num3 l + 4).toNat)) = (l.drop (num3 l + 4).toNat).take 4 then (rd l 0, (l.take (num3 l + 4).toNat).drop 4, num3 l + 8, 0) else (0, [], 0, 21)) := by
  unfold getS
  rw [if_neg (by omega), if_neg hz]
 obtain ⟨n, hn⟩ : ∃ n : Nat, num3 l = n := Int.eq_ofNat_of_zero_le hb.1
 rw [hn] at hG hb ⊢
 have w1 : wrap64 (n : Int) = (n : Int) := by rw [wrapI] <;> omega
 simp only [w1]
 by_cases k1 : (n : Int) > 65536
 ·
  have hR : getS l = (0, [], 0, 5) := by rw [hG, if_pos (show 65536 < (n : Int) by omega)]
  rw [hR]
  simp only [if_pos k1]
  exact Ev.now _
 have k1' : ¬ 65536 < (n : Int) := by omega
 have w2 : wrap64 ((n : Int) + 8) = (n : Int) + 8 := by rw [wrapI] <;> omega
 simp only [if_neg k1, w2]
 by_cases k2 : (l.length : Int) < (n : Int) + 8
 ·
  have hR : getS l = (0, [], 0, 8) := by rw [hG, if_neg k1', if_pos k2]
  rw [hR]
  simp only [if_pos k2]
  exact Ev.now _
 have w3 : wrap64 (4 + (n : Int)) = 4 + (n : Int) := by rw [wrapI] <;> omega
 have w4 : wrap64 (8 + (n : Int)) = 8 + (n : Int) := by rw [wrapI] <;> omega
 have c1 : 0 ≤ 4 + (n : Int) := by omega
 have c2 : 4 + (n : Int) ≤ 8 + (n : Int) := by omega
 have c3 : 8 + (n : Int) ≤ (l.length : Int) := by omega
 have c4 : 4 + (n : Int) ≤ (l.length : Int) := by omega
 have c5 : 4 ≤ 4 + (n : Int) := by omega
 have e4 : (4 + (n : Int)).toNat = n + 4 := by omega
 have e5 : ((n : Int) + 4).toNat = n + 4 := by omega
 have e8 : (8 + (n : Int)).toNat = n + 8 := by omega
 simp only [if_neg k2, w3, w4, if_pos c1, if_pos c2, if_pos c3, if_pos c4, if_pos c5, e4, e8]
 refine Ev.bind (sum_is (octs_take ho (n + 4)) (by rw [List.length_take]; omega)) ?_
 have hlaid : fanlightref04_laid.f (sumOf (l.take (n + 4))) = some (laidL (sumOf (l.take (n + 4)))) := rfl
 have hcut : (l.take (n + 8)).drop (n + 4) = (l.drop (n + 4)).take 4 := by
  rw [List.drop_take]
  congr 1
  omega
 have hcp : fanlightref04_Copied.f ((l.take (n + 4)).drop 4) = some ((l.take (n + 4)).drop 4) := by
  unfold fanlightref04_Copied.f
  rw [if_pos (by simp; omega), List.nil_append]
 have o0 := octs_rd ho 0
 have w0 : wrap64 (rd l 0) = rd l 0 := by rw [wrapI] <;> omega
 simp only [hlaid, Option.bind_some, hcut, hcp, w0]
 rw [if_neg k1', if_neg k2, e5] at hG
 by_cases he : laidL (sumOf (l.take (n + 4))) = (l.drop (n + 4)).take 4
 ·
  have hR := hG.trans (if_pos he)
  rw [hR]
  simp only [← he, if_true]
  exact Ev.now _
 ·
  have hne : ¬ (strOfNums ((l.drop (n + 4)).take 4)).toList = (strOfNums (laidL (sumOf (l.take (n + 4))))).toList := fun h => he (str_inj (octs_take (octs_drop ho _) _) (laidL_octs _) h).symm
  have hR := hG.trans (if_neg he)
  rw [hR]
  simp only [if_neg hne]
  exact Ev.now _
end Go.Proofs.Ytgmkgobapeencaa.RefSeal
