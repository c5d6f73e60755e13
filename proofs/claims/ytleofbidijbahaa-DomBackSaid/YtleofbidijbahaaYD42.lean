import Derived.Test.YtleofbidijbahaaYD0
import Derived.Test.YtleofbidijbahaaYD5
import Derived.Test.YtleofbidijbahaaYD7
import Derived.Test.YtleofbidijbahaaYD38
import Derived.Test.YtleofbidijbahaaYD39
namespace Go.Proofs.Ytleofbidijbahaa.D
open Go.RowKit Go.Proofs.YtleofbidijbahaaW.PrintWords Go.Proofs.YtleofbidijbahaaW.PrintLast Go.Proofs.YtleofbidijbahaaW.PrintMore
attribute [local go_sem] max2_int min2_int max_two min_two max_three min_three max_four min_four   -- for this text's walks alone
set_option linter.unusedVariables false
set_option linter.unusedSimpArgs false
theorem plain_ref (a0 a1 a2 : ByteArray) (l3 : List S68) : Ev (fun k => fanlightref09_Plain.f k a0 a1 a2 l3) (plainB a0 a1 a2 l3) := by
 unfold fanlightref09_Plain.f plainB
 by_cases h0 : a0.toList = []
 ·
  simp only [if_pos h0]
  by_cases h1 : a1.toList = []
  ·
   simp only [if_pos h1, decide_eq_true h1, Bool.true_and]
   by_cases h2 : a2.size ≤ 128
   ·
    simp only [if_pos (show (a2.size : Int) ≤ 128 by omega), decide_eq_true h2, Bool.true_and]
    have e : ((l3.length : Int) == 0) = decide (l3.length = 0) := by rw [Bool.eq_iff_iff, beq_iff_eq, decide_eq_true_eq]; omega
    rw [e]
    exact Ev.now _
   ·
    simp only [if_neg (show ¬ (a2.size : Int) ≤ 128 by omega), decide_eq_false h2, Bool.false_and]
    exact Ev.now _
  ·
   simp only [if_neg h1, decide_eq_false h1, Bool.false_and]
   exact Ev.now _
 ·
  simp only [if_neg h0]
  refine Ev.bind (letters_ref a0) ?_
  cases hl : lettersB a0 with
  | false => simp only [Bool.false_eq_true, if_false, Bool.false_and]; exact Ev.now _
  | true =>
   simp only [if_true, Bool.true_and]
   by_cases h1 : a1.size ≤ 16
   ·
    simp only [if_pos (show (a1.size : Int) ≤ 16 by omega), decide_eq_true h1, Bool.true_and]
    by_cases h2 : a2.toList = []
    ·
     simp only [if_pos h2, decide_eq_true h2, Bool.true_and]
     simp only [fanlightref09_Attrs.f, attrsB, Option.bind_some]
     exact Ev.now _
    ·
     simp only [if_neg h2, decide_eq_false h2, Bool.false_and]
     exact Ev.now _
   ·
    simp only [if_neg (show ¬ (a1.size : Int) ≤ 16 by omega), decide_eq_false h1, Bool.false_and]
    exact Ev.now _
theorem plain_call (a0 a1 a2 : ByteArray) (A : Option Addr) (c n : Nat) (l : List S68) (w : World) (hC : Kd.C k68 w A n l) (hn : l.length = n) (hc : n ≤ c) :
  Calls Try.prog 50 #[.string a0, .string a1, .string a2, .slice A n c] w fun e w' => e = .returned (.bool (plainB a0 a1 a2 l)) ∧ Below w.heap.size w w' := by
 subst hn
 obtain ⟨k, hk⟩ := (plain_ref a0 a1 a2 l).rounds
 exact fanlightref09_Plain.calls k a0 a1 a2 A c l _ w hC hc hk
end Go.Proofs.Ytleofbidijbahaa.D
