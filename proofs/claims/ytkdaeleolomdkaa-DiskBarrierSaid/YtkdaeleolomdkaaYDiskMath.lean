/- What the print's words and the walks are, as far as this claim names them. -/
import Derived.Test.YtkdaeleolomdkaaYD7
import Derived.Test.YtkdaeleolomdkaaYD8
import Derived.Test.YtkdaeleolomdkaaYD10
import Derived.Test.YtkdaeleolomdkaaYD11
namespace Go.Proofs.Ytkdaeleolomdkaa.DiskMath
set_option linter.unusedVariables false
set_option linter.unusedSimpArgs false
open Go.RowKit Go.Proofs.Ytkdaeleolomdkaa.D Go.Proofs.YtkdaeleolomdkaaW.PrintWords Go.Proofs.YtkdaeleolomdkaaW.PrintLast
theorem okSb_iff {secs : List (List Int)} {cache : List S57} : okSb secs cache = true ↔ secs.length ≠ 0 ∧ secs.length ≤ 4096 ∧ cache.length ≤ 4096 ∧ (∀ s ∈ secs, s.length = 48) ∧ (∀ x ∈ cache, x.f0 = false ∧ chkW secs.length x.f1 x.f2.length = 0) := by
 unfold okSb
 simp only [Bool.not_eq_true', Bool.or_eq_false_iff, decide_eq_false_iff_not, List.any_eq_false]
 constructor
 ·
  rintro ⟨⟨⟨⟨h1, h2⟩, h3⟩, h4⟩, h5⟩
  refine ⟨h1, by omega, by omega, fun s hs => ?_, fun x hx => ?_⟩
  ·
   have := h4 s hs
   simp at this
   omega
  ·
   have := h5 x hx
   simpa using this
 ·
  rintro ⟨h1, h2, h3, h4, h5⟩
  refine ⟨⟨⟨⟨h1, by omega⟩, by omega⟩, fun s hs => ?_⟩, fun x hx => ?_⟩
  ·
   have := h4 s hs
   simp [this]
  ·
   have := h5 x hx
   simp [this.1, this.2]
theorem okSb_settle {secs : List (List Int)} {cache : List S57} (kf : Nat → Int) (h : okSb secs cache = true) : okSb (settleL kf 0 cache secs) [] = true := by
 have hO := okS_of h
 obtain ⟨h1, h2, h3, h4, h5⟩ := okSb_iff.1 h
 have hl := settleL_len kf cache 0 secs
 exact okSb_iff.2 ⟨by rw [hl]; exact h1, by rw [hl]; exact h2, by simp, settleL_48 kf cache 0 secs h4 (fun x hx => (hO.cok x hx).2.2.1), fun x hx => by cases hx⟩
end Go.Proofs.Ytkdaeleolomdkaa.DiskMath
