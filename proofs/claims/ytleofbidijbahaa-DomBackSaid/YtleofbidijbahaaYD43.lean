import Derived.Test.YtleofbidijbahaaYD0
import Derived.Test.YtleofbidijbahaaYD40
import Derived.Test.YtleofbidijbahaaYD41
namespace Go.Proofs.Ytleofbidijbahaa.D
open Go.RowKit Go.Proofs.YtleofbidijbahaaW.PrintWords Go.Proofs.YtleofbidijbahaaW.PrintLast Go.Proofs.YtleofbidijbahaaW.PrintMore
attribute [local go_sem] max2_int min2_int max_two min_two max_three min_three max_four min_four   -- for this text's walks alone
set_option linter.unusedVariables false
set_option linter.unusedSimpArgs false
def withinR (ms : List S64) (other : Int) : Nat → Int → Bool
 | 0, _ => false
 | k + 1, id => if id = 0 then false else if id = other then true else if placeR id ms 0 < 0 then false else withinR ms other k (rd_T64 ms (placeR id ms 0)).f1
theorem withinR_l0 (ms : List S64) (r nx other : Int) (hn : ms.length ≤ 9223372036854775806) : ∀ (n : Nat) (id : Int) (i : Nat), i + n = ms.length + 1 → Ev (fun k => fanlightref10_within.l0 k id other (i : Int) ms r nx) (withinR ms other n id)
 | 0, id, i, h => by
  refine Ev.step (fun k => rfl) ?_
  simp only [fanlightref10_within.l0, if_neg (show ¬ (i : Int) ≤ (ms.length : Int) by omega)]
  refine Ev.step (fun k => rfl) ?_
  simp only [fanlightref10_within.j1, Bool.false_eq_true, if_false, withinR]
  exact Ev.now _
 | n + 1, id, i, h => by
  refine Ev.step (fun k => rfl) ?_
  simp only [fanlightref10_within.l0, if_pos (show (i : Int) ≤ (ms.length : Int) by omega)]
  refine Ev.step (fun k => rfl) ?_
  by_cases h0 : id = 0
  ·
   simp only [fanlightref10_within.j1, bne_eq_false_iff_eq.2 h0, Bool.false_eq_true, if_false, withinR, if_pos h0]
   exact Ev.now _
  ·
   by_cases h1 : id = other
   ·
    simp only [fanlightref10_within.j1, bne_iff_ne.2 h0, if_true, withinR, if_neg h0, if_pos h1]
    exact Ev.now _
   ·
    simp only [fanlightref10_within.j1, bne_iff_ne.2 h0, if_true, withinR, if_neg h0, if_neg h1]
    refine Ev.bind (placeR_l0 ms r nx id (by omega) ms [] rfl) ?_
    simp only [List.length_nil, Int.natCast_zero]
    have hw : wrap64 ((i : Int) + 1) = ((i + 1 : Nat) : Int) := by unfold wrap64; omega
    rcases placeR_cases id ms with ⟨hp, -⟩ | ⟨t, ht, hp, -, -⟩
    ·
     simp only [hp, if_pos (show (-1 : Int) < 0 by decide)]
     exact Ev.now _
    ·
     simp only [hp, if_neg (show ¬ (t : Int) < 0 by omega), if_pos (show (0 : Int) ≤ (t : Int) by omega), if_pos (show (t : Int) < (ms.length : Int) by omega), hw]
     exact withinR_l0 ms r nx other hn n _ (i + 1) (by omega)
def loopsR (ms : List S64) (y : S64) : Bool := if y.f1 = 0 then false else withinR ms y.f0 (ms.length + 1) y.f1
theorem loops_call (B : Option Addr) (d m : Nat) (ms : List S64) (r nx : Int) (y : S64) (A5 : Option Addr) (e5 n5 : Nat) (A6 : Option Addr) (e6 n6 : Nat) (w : World) (hD : Kd.C k64 w B m ms) (hm : ms.length = m) (hc : m ≤ d) (hl : m ≤ 9223372036854775806)
  (hC5 : Kd.C k68 w A5 n5 y.f5) (h5 : y.f5.length = n5) (hc5 : n5 ≤ e5) (hC6 : Kd.C (Kd.int .i64) w A6 n6 y.f6) (h6 : y.f6.length = n6) (hc6 : n6 ≤ e6) :
  Calls Try.prog 53 #[.agg #[.slice B m d, .int .i64 r, .int .i64 nx], .agg #[.int .i64 y.f0, .int .i64 y.f1, .string y.f2, .string y.f3, .string y.f4, .slice A5 n5 e5, .slice A6 n6 e6]] w fun e w' => e = .returned (.bool (loopsR ms y)) ∧ Below w.heap.size w w' := by
 subst hm h5 h6
 have hk : Ev (fun k => fanlightref10_loops.f k ms r nx y.f0 y.f1 y.f2 y.f3 y.f4 y.f5 y.f6) (loopsR ms y) := by
  unfold fanlightref10_loops.f loopsR
  by_cases h1 : y.f1 = 0
  ·
   simp only [if_pos h1]; exact Ev.now _
  ·
   simp only [if_neg h1]
   exact Ev.bind (withinR_l0 ms r nx y.f0 hl (ms.length + 1) y.f1 0 (by omega)) (Ev.now _)
 obtain ⟨k, hk⟩ := hk.rounds
 exact fanlightref10_loops.calls k B d ms r nx y.f0 y.f1 y.f2 y.f3 y.f4 A5 e5 y.f5 A6 e6 y.f6 _ w hD hc hC5 hc5 hC6 hc6 hk
end Go.Proofs.Ytleofbidijbahaa.D
