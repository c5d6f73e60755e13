/- The checksum over the field of two: linear, one to one, so that up to 32 turned bits in a row are seen. -/
import Derived.Test.YtchmncgnaiiijaaProg
namespace Go.Proofs.Ytchmncgnaiiijaa
namespace Crc
def P : BitVec 32 := 3945912366#32
def H (c : BitVec 32) : BitVec 32 := if c.getLsbD 0 then (c >>> 1) ^^^ P else c >>> 1
theorem H_xor (a b : BitVec 32) : H (a ^^^ b) = H a ^^^ H b := by
  unfold H
  rw [BitVec.ushiftRight_xor_distrib, BitVec.getLsbD_xor]
  cases a.getLsbD 0 <;> cases b.getLsbD 0 <;> simp
  · rw [BitVec.xor_assoc]
  · rw [BitVec.xor_assoc, BitVec.xor_assoc, BitVec.xor_comm P]
  · rw [BitVec.xor_assoc, BitVec.xor_comm P, BitVec.xor_assoc, BitVec.xor_self, BitVec.xor_zero]
theorem H_zero : H 0#32 = 0#32 := by decide
theorem H_one {a : BitVec 32} (h : H a = 0#32) : a = 0#32 := by
  unfold H at h
  split at h
  · have := congrArg (fun b : BitVec 32 => b.getLsbD 31) h
    simp [P] at this
  · rename_i h0
    apply BitVec.eq_of_getLsbD_eq
    intro i hi
    rcases Nat.eq_zero_or_pos i with rfl | hp
    · simpa using h0
    · have := congrArg (fun b : BitVec 32 => b.getLsbD (i - 1)) h
      simp only [BitVec.getLsbD_ushiftRight] at this
      rw [show 1 + (i - 1) = i by omega] at this
      simpa using this
def HN : Nat → BitVec 32 → BitVec 32
  | 0, c => c
  | n + 1, c => HN n (H c)
theorem HN_add (m n : Nat) (c : BitVec 32) : HN (m + n) c = HN n (HN m c) := by
  induction m generalizing c with
  | zero => rw [Nat.zero_add]; rfl
  | succ m ih => rw [Nat.add_right_comm]; exact ih _
theorem HN_xor (n : Nat) (a b : BitVec 32) : HN n (a ^^^ b) = HN n a ^^^ HN n b := by
  induction n generalizing a b with
  | zero => rfl
  | succ n ih => simp only [HN]; rw [H_xor, ih]
theorem HN_zero (n : Nat) : HN n 0#32 = 0#32 := by
  induction n with
  | zero => rfl
  | succ n ih => simp only [HN]; rw [H_zero, ih]
theorem HN_one {n : Nat} {a : BitVec 32} (h : HN n a = 0#32) : a = 0#32 := by
  induction n generalizing a with
  | zero => exact h
  | succ n ih => exact H_one (ih h)
def G (s : BitVec 32) (D : Nat) : Nat → BitVec 32
  | 0 => s
  | n + 1 => G (H (s ^^^ BitVec.ofNat 32 (D % 2))) (D / 2) n
theorem ofNat_xor (a b : Nat) : BitVec.ofNat 32 (a ^^^ b) = BitVec.ofNat 32 a ^^^ BitVec.ofNat 32 b := by
  apply BitVec.eq_of_toNat_eq
  simp [BitVec.toNat_ofNat, BitVec.toNat_xor]
theorem G_xor (s t : BitVec 32) (D E n : Nat) : G (s ^^^ t) (D ^^^ E) n = G s D n ^^^ G t E n := by
  induction n generalizing s t D E with
  | zero => rfl
  | succ n ih =>
    simp only [G]
    rw [← ih, ← H_xor, Nat.xor_div_two]
    have : (D ^^^ E) % 2 = D % 2 ^^^ E % 2 := Nat.xor_mod_two_pow (n := 1)
    rw [this, ofNat_xor]
    congr 2
    ac_rfl
theorem G_small (s : BitVec 32) (D n : Nat) (h : D < 2 ^ n) (h2 : D < 2 ^ 32) : G s D n = HN n (s ^^^ BitVec.ofNat 32 D) := by
  induction n generalizing s D with
  | zero =>
    obtain rfl : D = 0 := by omega
    simp [G, HN]
  | succ n ih =>
    simp only [G, HN]
    rw [ih _ _ (by rw [Nat.pow_succ] at h; omega) (by omega)]
    congr 1
    rw [H_xor, H_xor, BitVec.xor_assoc]
    congr 1
    have e1 : BitVec.ofNat 32 D = BitVec.ofNat 32 (D % 2) ^^^ BitVec.ofNat 32 (2 * (D / 2)) := by
      rw [← ofNat_xor]
      congr 1
      apply Nat.eq_of_testBit_eq
      intro i
      rw [Nat.testBit_xor]
      cases i with
      | zero => simp
      | succ i =>
        simp only [Nat.testBit_succ]
        rw [Nat.mul_div_cancel_left _ (by decide : 0 < 2)]
        rw [show D % 2 / 2 = 0 by omega]
        simp
    rw [e1, H_xor]
    congr 1
    unfold H
    have e2 : (BitVec.ofNat 32 (2 * (D / 2))).getLsbD 0 = false := by
      rw [BitVec.getLsbD_ofNat]
      simp
    rw [e2]
    simp only [Bool.false_eq_true, if_false]
    apply BitVec.eq_of_toNat_eq
    rw [BitVec.toNat_ushiftRight, BitVec.toNat_ofNat, BitVec.toNat_ofNat, Nat.shiftRight_eq_div_pow, Nat.mod_eq_of_lt (by omega), Nat.mod_eq_of_lt (by omega)]
    omega
theorem G_shift (T p n : Nat) : G 0#32 (T <<< p) (p + n) = G 0#32 T n := by
  induction p with
  | zero => simp
  | succ p ih =>
    rw [Nat.add_right_comm]
    simp only [G]
    have e : T <<< (p + 1) = 2 * (T <<< p) := by rw [Nat.shiftLeft_eq, Nat.shiftLeft_eq, Nat.pow_succ]; ac_rfl
    rw [e, Nat.mul_mod_right, Nat.mul_div_cancel_left _ (by decide : 0 < 2)]
    have : H (0#32 ^^^ BitVec.ofNat 32 0) = 0#32 := by decide
    rw [this, ih]
theorem burst (T p n : Nat) (h0 : 0 < T) (h1 : T < 2 ^ 32) (hn : p + 32 ≤ n) : G 0#32 (T <<< p) n ≠ 0#32 := by
  obtain ⟨m, rfl⟩ := Nat.exists_eq_add_of_le (show p ≤ n by omega)
  rw [G_shift, G_small _ _ _ (Nat.lt_of_lt_of_le h1 (Nat.pow_le_pow_right (by decide) (by omega))) h1]
  intro h
  have := HN_one h
  rw [BitVec.zero_xor] at this
  have := congrArg BitVec.toNat this
  rw [BitVec.toNat_ofNat, Nat.mod_eq_of_lt h1] at this
  simp at this
  omega
-- the octets of a list, the lowest first, as one number
def val : List Nat → Nat
  | [] => 0
  | x :: l => x ^^^ (val l <<< 8)
def octB (s : BitVec 32) (x : Nat) : BitVec 32 := HN 8 (s ^^^ BitVec.ofNat 32 x)
theorem G_zeros (s : BitVec 32) (n : Nat) : G s 0 n = HN n s := by
  rw [G_small _ _ _ (Nat.two_pow_pos n) (by decide)]; simp
theorem G_split (s : BitVec 32) (x v k n : Nat) (hx : x < 2 ^ k) (h2 : x < 2 ^ 32) : G s (x ^^^ (v <<< k)) (k + n) = G (HN k (s ^^^ BitVec.ofNat 32 x)) v n := by
  have e1 := G_xor s 0#32 x (v <<< k) (k + n)
  rw [BitVec.xor_zero] at e1
  rw [e1, G_shift, G_small _ _ _ (Nat.lt_of_lt_of_le hx (Nat.pow_le_pow_right (by decide) (by omega))) h2, HN_add]
  have e2 := G_xor (HN k (s ^^^ BitVec.ofNat 32 x)) 0#32 0 v n
  rw [BitVec.xor_zero, Nat.zero_xor, G_zeros] at e2
  rw [e2]
theorem fold_val (l : List Nat) (hl : ∀ x ∈ l, x < 256) (s : BitVec 32) : l.foldl octB s = G s (val l) (8 * l.length) := by
  induction l generalizing s with
  | nil => rfl
  | cons x l ih =>
    rw [List.foldl_cons, ih (fun y hy => hl y (List.mem_cons_of_mem _ hy))]
    have hx := hl x (by simp)
    rw [List.length_cons, Nat.mul_add, Nat.mul_one, Nat.add_comm _ 8]
    exact (G_split s x (val l) 8 _ (by omega) (by omega)).symm
theorem val_app (l m : List Nat) : val (l ++ m) = val l ^^^ (val m <<< (8 * l.length)) := by
  induction l with
  | nil => simp [val]
  | cons x l ih =>
    rw [List.cons_append, val, val, ih, Nat.shiftLeft_xor_distrib, List.length_cons, Nat.mul_add, Nat.shiftLeft_add]
    ac_rfl
theorem val_set (l : List Nat) (i j : Nat) (hi : i < l.length) : val (l.set i (l.getD i 0 ^^^ (1 <<< j))) = val l ^^^ (1 <<< (8 * i + j)) := by
  induction l generalizing i with
  | nil => simp at hi
  | cons x l ih =>
    cases i with
    | zero => simp only [List.set_cons_zero, List.getD_cons_zero, val]; rw [Nat.mul_zero, Nat.zero_add]; ac_rfl
    | succ i =>
      simp only [List.set_cons_succ, List.getD_cons_succ, val]
      rw [ih i (by simpa using hi), Nat.shiftLeft_xor_distrib, Nat.mul_add, ← Nat.shiftLeft_add, Nat.add_right_comm, Nat.mul_one]
      ac_rfl
theorem val_lt (l : List Nat) (hl : ∀ x ∈ l, x < 256) : val l < 2 ^ (8 * l.length) := by
  induction l with
  | nil => simp [val]
  | cons x l ih =>
    have hx := hl x (by simp)
    have := ih (fun y hy => hl y (List.mem_cons_of_mem _ hy))
    rw [val, List.length_cons]
    apply Nat.xor_lt_two_pow
    · exact Nat.lt_of_lt_of_le (show x < 2 ^ 8 by omega) (Nat.pow_le_pow_right (by decide) (by omega))
    · rw [Nat.mul_add, Nat.pow_add, Nat.shiftLeft_eq]
      exact Nat.mul_lt_mul_of_pos_right this (by decide)
-- a message M with its four octets t of the sum, and one with a burst
theorem tells (M t M' t' : List Nat) (T p : Nat) (hM : ∀ x ∈ M, x < 256) (ht : ∀ x ∈ t, x < 256) (hM' : ∀ x ∈ M', x < 256) (ht' : ∀ x ∈ t', x < 256)
    (h4 : t.length = 4) (h4' : t'.length = 4) (hl : M'.length = M.length) (h0 : 0 < T) (h1 : T < 2 ^ 32) (hp : p + 32 ≤ 8 * (M.length + 4))
    (hv : val (M' ++ t') = val (M ++ t) ^^^ (T <<< p)) (s : BitVec 32)
    (hs : BitVec.ofNat 32 (val t) = ~~~ (M.foldl octB s)) : BitVec.ofNat 32 (val t') ≠ ~~~ (M'.foldl octB s) := by
  intro hs'
  have key : ∀ (N u : List Nat), (∀ x ∈ N, x < 256) → (∀ x ∈ u, x < 256) → u.length = 4 → BitVec.ofNat 32 (val u) = ~~~ (N.foldl octB s) → G s (val (N ++ u)) (8 * (N.length + 4)) = HN 32 (BitVec.allOnes 32) := by
    intro N u hN hu h4 hs
    have e := fold_val (N ++ u) (by intro x hx; rcases List.mem_append.mp hx with h | h; exact hN x h; exact hu x h) s
    rw [List.length_append, h4] at e
    rw [← e, List.foldl_append, fold_val u hu, h4, G_small _ _ _ (by have := val_lt u hu; rw [h4] at this; exact this) (by have := val_lt u hu; rw [h4] at this; exact this), hs]
    congr 1
    rw [BitVec.not_def, BitVec.xor_comm (BitVec.allOnes 32), ← BitVec.xor_assoc, BitVec.xor_self, BitVec.zero_xor]
  have k1 := key M t hM ht h4 hs
  have k2 := key M' t' hM' ht' h4' hs'
  rw [hl, hv] at k2
  have e := G_xor s 0#32 (val (M ++ t)) (T <<< p) (8 * (M.length + 4))
  rw [BitVec.xor_zero, k2, k1] at e
  apply burst T p _ h0 h1 hp
  have e3 := congrArg (HN 32 (BitVec.allOnes 32) ^^^ ·) e
  rw [← BitVec.xor_assoc, BitVec.xor_self, BitVec.zero_xor] at e3
  exact e3.symm
end Crc
end Go.Proofs.Ytchmncgnaiiijaa
