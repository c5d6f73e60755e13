/- What the print's words and the walks are, as far as this claim names them. -/
import Derived.Test.YtloocmeckpoflaaGreatYWQPut
import Derived.Test.YtloocmeckpoflaaGreatYWMore
import Derived.Test.YtloocmeckpoflaaGreatYAid
import Derived.WalkKit
namespace Go.Proofs.YtloocmeckpoflaaGreatW.PrintWords
open Go.RowKit
namespace Kd
section
variable {α : Type} {d : Kd α} {e base n : Nat} {ok : Nat → Prop} {w0 w W : World} {v : Value} {xs : List α} {A : Option Addr}
end
section
variable {α : Type} {d : Kd α} {e base N n cap g m : Nat} {W W1 : World} {v : Value} {xs : List α} {rows : List (List Value)}
end
end Kd
end Go.Proofs.YtloocmeckpoflaaGreatW.PrintWords
namespace Go
section
variable {P : Program} {ops : Array Oper} {Q : Exit → Act → World → Prop} {l n : Nat} {rest : List Oper} {o : Oper} {a : Act} {W : World}
end
end Go
namespace Go
theorem bytes_leq : ∀ (x y : List UInt8), (Op.bytesLess x y || x == y) = !Op.bytesLess y x
 | [], [] => by simp [Op.bytesLess]
 | _ :: _, [] => by simp [Op.bytesLess]
 | [], _ :: _ => by simp [Op.bytesLess]
 | a :: x, b :: y => by
  have ih := bytes_leq x y
  rw [Op.bytesLess, Op.bytesLess]
  have hlt : ∀ p q : UInt8, p < q ↔ p.toNat < q.toNat := fun p q => UInt8.lt_iff_toNat_lt
  have heq : ∀ p q : UInt8, p = q ↔ p.toNat = q.toNat := fun p q => UInt8.toNat_inj.symm
  rcases Nat.lt_trichotomy a.toNat b.toNat with h | h | h
  ·
   have h0 := (hlt a b).2 h
   have h1 : ¬ b < a := fun h2 => by have := (hlt b a).1 h2; omega
   have h2 : a ≠ b := fun e => by have := (heq a b).1 e; omega
   have h3 : b ≠ a := fun e => h2 e.symm
   simp [h0, h1, h3]
  ·
   have h0 := (heq a b).2 h
   subst h0
   have h1 : ¬ a < a := fun h2 => by have := (hlt a a).1 h2; omega
   simp only [h1]
   simpa using ih
  ·
   have h0 := (hlt b a).2 h
   have h1 : ¬ a < b := fun h2 => by have := (hlt a b).1 h2; omega
   have h2 : a ≠ b := fun e => by have := (heq a b).1 e; omega
   have h3 : b ≠ a := fun e => h2 e.symm
   simp [h0, h1, h2]
theorem leq_run (P : Program) (t : TypeId) (x y : ByteArray) (b : Bool) (h : Op.bytesLess y.toList x.toList = b) (W : World) : (binOp .leq t (.string x) (.string y)).run P W = .ok (.bool (!b)) W := by
 have := bytes_leq x.toList y.toList
 rw [h] at this
 rw [← this]
 simp [binOp, Op.stringOp]
end Go
