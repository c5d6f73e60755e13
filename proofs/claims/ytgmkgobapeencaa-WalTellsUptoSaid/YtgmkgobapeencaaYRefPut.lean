/- What the print's words and the walks are, as far as this claim names them. -/
import Derived.Test.YtgmkgobapeencaaYRefSeal
import Derived.Test.YtgmkgobapeencaaYS4
import Derived.Test.YtgmkgobapeencaaYS6
import Derived.Test.YtgmkgobapeencaaYS12
import Derived.Test.YtgmkgobapeencaaYS18
import Derived.Test.YtgmkgobapeencaaYS21
namespace Go.Proofs.Ytgmkgobapeencaa.RefPut
set_option linter.unusedVariables false
set_option linter.unusedSimpArgs false
open Go.RowKit Go.Proofs.Ytgmkgobapeencaa.S Go.Proofs.YtgmkgobapeencaaW.PrintWords Go.Proofs.YtgmkgobapeencaaW.PrintLast RefSeal
theorem octets_is (n : Nat) (hn : n ≤ 65536) : Ev (fun k => fanlightref03_Octets.f k (n : Int) 3) [(n : Int) / 65536 % 256, (n : Int) / 256 % 256, (n : Int) % 256] := by
 have e0 : wrap64 (3 - 1) = 2 := by rw [wrapI] <;> omega
 have e1 : wrap64 (2 - 1) = 1 := by rw [wrapI] <;> omega
 have e2 : wrap64 (1 - 1) = 0 := by rw [wrapI] <;> omega
 have e3 : wrap64 (0 - 1) = -1 := by rw [wrapI] <;> omega
 have g2 : wrap64 (8 * 2) = 16 := by rw [wrapI] <;> omega
 have g1 : wrap64 (8 * 1) = 8 := by rw [wrapI] <;> omega
 have g0 : wrap64 (8 * 0) = 0 := by rw [wrapI] <;> omega
 have f2 : shr .u64 (n : Int) 16 = (n : Int) / 65536 := rfl
 have f1 : shr .u64 (n : Int) 8 = (n : Int) / 256 := rfl
 have f0 : shr .u64 (n : Int) 0 = (n : Int) := by
  show (n : Int) / 1 = n
  exact Int.ediv_one _
 unfold fanlightref03_Octets.f
 rw [e0]
 refine Ev.step (fun k => rfl) ?_
 simp only [fanlightref03_Octets.l0, if_pos (show (2 : Int) ≥ 0 by decide), g2, if_pos (show (0 : Int) ≤ 16 by decide), if_pos (show ([] : List Int).length < 140737488355328 by simp), e1, f2, List.nil_append]
 refine Ev.step (fun k => rfl) ?_
 simp only [fanlightref03_Octets.l0, if_pos (show (1 : Int) ≥ 0 by decide), g1, if_pos (show (0 : Int) ≤ 8 by decide), if_pos (show ([(n : Int) / 65536 % 256] : List Int).length < 140737488355328 by simp), e2, f1, List.cons_append, List.nil_append]
 refine Ev.step (fun k => rfl) ?_
 simp only [fanlightref03_Octets.l0, if_pos (show (0 : Int) ≥ 0 by decide), g0, if_pos (show (0 : Int) ≤ 0 by decide), if_pos (show ([(n : Int) / 65536 % 256, (n : Int) / 256 % 256] : List Int).length < 140737488355328 by simp), e3, f0, List.cons_append, List.nil_append]
 refine Ev.step (fun k => rfl) ?_
 simp only [fanlightref03_Octets.l0, if_neg (show ¬ (-1 : Int) ≥ 0 by decide)]
 exact Ev.now _
theorem put_ref (a : Int) {l : List Int} (ho : octs l) : ∃ X, seal_Put.f a l = some X ∧ Ev (fun k => fanlightref04_Put.f k a l) X := by
 by_cases h1 : a < 1
 ·
  refine ⟨([], 22), ?_, ?_⟩
  ·
   unfold seal_Put.f
   rw [if_pos (by omega)]
  ·
   simp only [fanlightref04_Put.f, if_pos h1]
   exact Ev.step (fun k => rfl) (Ev.now _)
 by_cases h2 : a > 255
 ·
  refine ⟨([], 22), ?_, ?_⟩
  ·
   unfold seal_Put.f
   rw [if_pos (by omega)]
  ·
   simp only [fanlightref04_Put.f, if_neg h1, decide_eq_true h2]
   exact Ev.step (fun k => rfl) (Ev.now _)
 by_cases h3 : (l.length : Int) > 65536
 ·
  refine ⟨([], 5), ?_, ?_⟩
  ·
   unfold seal_Put.f
   rw [if_neg (by omega), if_pos (by omega)]
  ·
   simp only [fanlightref04_Put.f, if_neg h1, decide_eq_false h2]
   refine Ev.step (fun k => rfl) ?_
   simp only [fanlightref04_Put.j0, if_neg (show ¬ false = true by decide), if_pos h3]
   exact Ev.now _
 ·
  refine ⟨(sealBody a l ++ laidL (sumOf (sealBody a l)), 0), ?_, ?_⟩
  ·
   unfold seal_Put.f
   rw [if_neg (by omega), if_neg (by omega)]
  ·
   simp only [fanlightref04_Put.f, if_neg h1, decide_eq_false h2]
   refine Ev.step (fun k => rfl) ?_
   have hw : IntKind.u64.wrap (l.length : Int) = (l.length : Int) := by
    simp [IntKind.wrap, IntKind.bits, IntKind.signed]
    omega
   have hb : [a % 256] ++ [(l.length : Int) / 65536 % 256, (l.length : Int) / 256 % 256, (l.length : Int) % 256] ++ l = sealBody a l := rfl
   have hbl : (sealBody a l).length = l.length + 4 := by simp [sealBody, sealHead]
   have hbo : octs (sealBody a l) := by
    intro x hx
    simp only [sealBody, sealHead, List.mem_append, List.mem_cons, List.mem_nil_iff, or_false] at hx
    rcases hx with (rfl | rfl | rfl | rfl) | h
    ·
     omega
    ·
     omega
    ·
     omega
    ·
     omega
    ·
     exact ho x h
   simp only [fanlightref04_Put.j0, if_neg (show ¬ false = true by decide), if_neg h3, hw, Option.bind_some]
   refine Ev.bind (octets_is l.length (by omega)) ?_
   have c1 : ([a % 256] : List Int).length + [(l.length : Int) / 65536 % 256, (l.length : Int) / 256 % 256, (l.length : Int) % 256].length < 140737488355328 := by simp
   have c2 : ([a % 256] ++ [(l.length : Int) / 65536 % 256, (l.length : Int) / 256 % 256, (l.length : Int) % 256] : List Int).length + l.length < 140737488355328 := by simp; omega
   simp only [if_pos c1, if_pos c2, hb, Option.bind_some]
   refine Ev.bind (sum_is hbo (by omega)) ?_
   have hl : fanlightref04_laid.f (sumOf (sealBody a l)) = some (laidL (sumOf (sealBody a l))) := rfl
   have c3 : (sealBody a l).length + (laidL (sumOf (sealBody a l))).length < 140737488355328 := by rw [hbl]; show l.length + 4 + 4 < _; omega
   simp only [hl, Option.bind_some, if_pos c3]
   exact Ev.now _
def oc8 (n : Int) : List Int := [n / 72057594037927936 % 256, n / 281474976710656 % 256, n / 1099511627776 % 256, n / 4294967296 % 256, n / 16777216 % 256, n / 65536 % 256, n / 256 % 256, n % 256]
theorem oc8_octs (n : Int) : octs (oc8 n) := by
 intro x hx
 simp only [oc8, List.mem_cons, List.mem_nil_iff, or_false] at hx
 rcases hx with rfl | rfl | rfl | rfl | rfl | rfl | rfl | rfl <;> omega
theorem octets8_is (n : Int) : Ev (fun k => fanlightref03_Octets.f k n 8) (oc8 n) := by
 have e0 : wrap64 (8 - 1) = 7 := by rw [wrapI] <;> omega
 have es : ∀ i : Int, 0 ≤ i → i ≤ 7 → wrap64 (i - 1) = i - 1 := fun i h0 h1 => by rw [wrapI] <;> omega
 have gs : ∀ i : Int, 0 ≤ i → i ≤ 7 → wrap64 (8 * i) = 8 * i := fun i h0 h1 => by rw [wrapI] <;> omega
 have f7 : shr .u64 n 56 = n / 72057594037927936 := rfl
 have f6 : shr .u64 n 48 = n / 281474976710656 := rfl
 have f5 : shr .u64 n 40 = n / 1099511627776 := rfl
 have f4 : shr .u64 n 32 = n / 4294967296 := rfl
 have f3 : shr .u64 n 24 = n / 16777216 := rfl
 have f2 : shr .u64 n 16 = n / 65536 := rfl
 have f1 : shr .u64 n 8 = n / 256 := rfl
 have f0 : shr .u64 n 0 = n := by
  show n / 1 = n
  exact Int.ediv_one _
 have step : ∀ (acc : List Int) (i : Int) (v : Int), 0 ≤ i → i ≤ 7 → acc.length ≤ 8 → shr .u64 n (8 * i) = v → Ev (fun k => fanlightref03_Octets.l0 k n (acc ++ [v % 256]) (i - 1)) (oc8 n) → Ev (fun k => fanlightref03_Octets.l0 k n acc i) (oc8 n) := by
  intro acc i v h0 h1 hl hv h
  refine Ev.step (fun k => rfl) ?_
  simp only [fanlightref03_Octets.l0, if_pos (show i ≥ 0 by omega), gs i h0 h1, if_pos (show (0 : Int) ≤ 8 * i by omega), if_pos (show acc.length < 140737488355328 by omega), es i h0 h1, hv]
  exact h
 unfold fanlightref03_Octets.f
 rw [e0]
 refine step [] 7 _ (by omega) (by omega) (by simp) f7 ?_
 refine step _ 6 _ (by omega) (by omega) (by simp) f6 ?_
 refine step _ 5 _ (by omega) (by omega) (by simp) f5 ?_
 refine step _ 4 _ (by omega) (by omega) (by simp) f4 ?_
 refine step _ 3 _ (by omega) (by omega) (by simp) f3 ?_
 refine step _ 2 _ (by omega) (by omega) (by simp) f2 ?_
 refine step _ 1 _ (by omega) (by omega) (by simp) f1 ?_
 refine step _ 0 _ (by omega) (by omega) (by simp) f0 ?_
 refine Ev.step (fun k => rfl) ?_
 simp only [fanlightref03_Octets.l0, if_neg (show ¬ (0 : Int) - 1 ≥ 0 by decide)]
 exact Ev.now _
end Go.Proofs.Ytgmkgobapeencaa.RefPut
