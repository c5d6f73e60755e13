/- What the print's words and the walks are, as far as this claim names them. -/
import Derived.Test.YtgmkgobapeencaaYAid
import Derived.Test.YtgmkgobapeencaaYS4
import Derived.Test.YtgmkgobapeencaaYS6
import Derived.Test.YtgmkgobapeencaaYS12
import Derived.Test.YtgmkgobapeencaaYS18
import Derived.Test.YtgmkgobapeencaaYS21
import Derived.Lib.Bytes
namespace Go.Proofs.Ytgmkgobapeencaa.SealCrc
set_option linter.unusedVariables false
set_option linter.unusedSimpArgs false
open Go.RowKit Go.Proofs.Ytgmkgobapeencaa.S Go.Proofs.YtgmkgobapeencaaW.PrintWords Go.Proofs.YtgmkgobapeencaaW.PrintLast Crc
end Go.Proofs.Ytgmkgobapeencaa.SealCrc
namespace Go.Proofs.Ytgmkgobapeencaa.RefSeal
set_option linter.unusedVariables false
set_option linter.unusedSimpArgs false
open Go.RowKit Go.Proofs.Ytgmkgobapeencaa.S Go.Proofs.YtgmkgobapeencaaW.PrintWords Go.Proofs.YtgmkgobapeencaaW.PrintLast Crc SealCrc
theorem or_oct64 (x y : Int) (hx : 0 ≤ x) (hx2 : x < 72057594037927936) (hy : 0 ≤ y) (hy2 : y < 256) : Go.bits .or .u64 (IntKind.u64.wrap (x * 256)) (IntKind.u64.wrap y) = x * 256 + y := by
 have w64 : ∀ n : Int, 0 ≤ n → n < 18446744073709551616 → IntKind.u64.wrap n = n := fun n h0 h1 => by
  simp [IntKind.wrap, IntKind.bits, IntKind.signed]
  omega
 rw [w64 (x * 256) (by omega) (by omega), w64 y (by omega) (by omega)]
 obtain ⟨a, rfl⟩ := Int.eq_ofNat_of_zero_le hx
 obtain ⟨b, rfl⟩ := Int.eq_ofNat_of_zero_le hy
 have e0 : ((a : Int) * 256) = ((a * 256 : Nat) : Int) := by omega
 have o64 : ∀ n : Nat, n < 18446744073709551616 → (BitVec.ofInt 64 (n : Int)).toNat = n := fun n h => by
  rw [BitVec.ofInt_natCast, BitVec.toNat_ofNat]; exact Nat.mod_eq_of_lt (by omega)
 rw [e0]
 show IntKind.u64.wrap ((BitVec.ofInt 64 ((a * 256 : Nat) : Int) ||| BitVec.ofInt 64 (b : Int)).toNat : Int) = _
 have e1 : a * 256 = a <<< 8 := by rw [Nat.shiftLeft_eq]
 rw [BitVec.toNat_or, o64 _ (by omega), o64 _ (by omega), e1, ← Nat.shiftLeft_add_eq_or_of_lt (i := 8) (by omega), Nat.shiftLeft_eq, w64 _ (by omega) (by omega)]
 omega
def numOf (l : List Int) : Int := l.foldl (fun n x => n * 256 + x) 0
theorem numOf_bound : ∀ (l : List Int) (a : Int), octs l → 0 ≤ a → 0 ≤ l.foldl (fun n x => n * 256 + x) a ∧ l.foldl (fun n x => n * 256 + x) a < (a + 1) * 256 ^ l.length
 | [], a, _, h0 => by simp; omega
 | x :: l, a, ho, h0 => by
  have hx := ho x (by simp)
  obtain ⟨h1, h2⟩ := numOf_bound l (a * 256 + x) (fun y hy => ho y (by simp [hy])) (by omega)
  refine ⟨h1, Int.lt_of_lt_of_le h2 ?_⟩
  rw [List.length_cons, Int.pow_succ, Int.mul_comm (256 ^ l.length) 256, ← Int.mul_assoc]
  exact Int.mul_le_mul_of_nonneg_right (by omega) (Int.pow_nonneg (by decide))
theorem octs_take {l : List Int} (h : octs l) (n : Nat) : octs (l.take n) := fun x hx => h x (List.mem_of_mem_take hx)
theorem octs_drop {l : List Int} (h : octs l) (n : Nat) : octs (l.drop n) := fun x hx => h x (List.mem_of_mem_drop hx)
theorem laidL_octs (c : Int) : octs (laidL c) := by
 intro x hx
 simp only [laidL, List.mem_cons, List.mem_nil_iff, or_false] at hx
 rcases hx with rfl | rfl | rfl | rfl <;> omega
end Go.Proofs.Ytgmkgobapeencaa.RefSeal
namespace Go.Proofs.Ytgmkgobapeencaa.RefPut
set_option linter.unusedVariables false
set_option linter.unusedSimpArgs false
open Go.RowKit Go.Proofs.Ytgmkgobapeencaa.S Go.Proofs.YtgmkgobapeencaaW.PrintWords Go.Proofs.YtgmkgobapeencaaW.PrintLast RefSeal
def oc8 (n : Int) : List Int := [n / 72057594037927936 % 256, n / 281474976710656 % 256, n / 1099511627776 % 256, n / 4294967296 % 256, n / 16777216 % 256, n / 65536 % 256, n / 256 % 256, n % 256]
theorem oc8_octs (n : Int) : octs (oc8 n) := by
 intro x hx
 simp only [oc8, List.mem_cons, List.mem_nil_iff, or_false] at hx
 rcases hx with rfl | rfl | rfl | rfl | rfl | rfl | rfl | rfl <;> omega
end Go.Proofs.Ytgmkgobapeencaa.RefPut
