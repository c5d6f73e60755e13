/- What the print's words and the walks are, as far as this claim names them. -/
import Derived.Test.YtloocmeckpoflaaGreatYD0
namespace Go.Proofs.YtloocmeckpoflaaGreat.TreeWide
set_option linter.unusedVariables false
set_option linter.unusedSimpArgs false
open Go.RowKit Go.Proofs.YtloocmeckpoflaaGreat.D
mutual
def bigT : S25 → Bool
 | ⟨_, _, _, f3, f4⟩ => decide (f3.length * 32 ≤ 140737488351232) && (decide (f4.length * 96 ≤ 140737488351232) && bigL f4)
def bigL : List S25 → Bool
 | [] => true
 | t :: ts => bigT t && bigL ts
end
theorem big_parts {t : S25} (h : bigT t = true) : t.f3.length * 32 ≤ 140737488351232 ∧ t.f4.length * 96 ≤ 140737488351232 ∧ bigL t.f4 = true := by
 cases t
 rw [bigT, Bool.and_eq_true, Bool.and_eq_true, decide_eq_true_eq, decide_eq_true_eq] at h
 exact h
theorem bigL_mem : ∀ {l : List S25} {x : S25}, bigL l = true → x ∈ l → bigT x = true
 | y :: ys, x, h, hx => by
  rw [bigL, Bool.and_eq_true] at h
  rcases List.mem_cons.1 hx with rfl | hx
  ·
   exact h.1
  ·
   exact bigL_mem h.2 hx
theorem bigL_all : ∀ l : List S25, (∀ x ∈ l, bigT x = true) → bigL l = true
 | [], _ => by rw [bigL]
 | x :: xs, h => by rw [bigL, h x (by simp), bigL_all xs (fun y hy => h y (by simp [hy]))]; rfl
end Go.Proofs.YtloocmeckpoflaaGreat.TreeWide
