/- What the print's words and the walks are, as far as this claim names them. -/
import Derived.Test.YtkdaeleolomdkaaYD7
import Derived.Test.YtkdaeleolomdkaaYD8
import Derived.Test.YtkdaeleolomdkaaYD10
import Derived.Test.YtkdaeleolomdkaaYD11
import Derived.Test.YtkdaeleolomdkaaYD0
namespace Go.Proofs.Ytkdaeleolomdkaa.DiskMath
set_option linter.unusedVariables false
set_option linter.unusedSimpArgs false
open Go.RowKit Go.Proofs.Ytkdaeleolomdkaa.D Go.Proofs.YtkdaeleolomdkaaW.PrintWords Go.Proofs.YtkdaeleolomdkaaW.PrintLast
theorem okSb_iff {secs : List (List Int)} {cache : List S57} : okSb secs cache = true ↔ secs.length ≠ 0 ∧ secs.length ≤ 4096 ∧ cache.length ≤ 4096 ∧ (∀ s ∈ secs, s.length = 48) ∧ (∀ x ∈ cache, x.f0 = false ∧ chkW secs.length x.f1 x.f2.length = 0) := by
 unfold okSb
 simp only [Bool.not_eq_true', Bool.or_eq_false_iff, decide_eq_false_iff_not, List.any_eq_false]
 constructor
 ·
  rintro ⟨⟨⟨⟨h1, h2⟩, h3⟩, h4⟩, h5⟩
  refine ⟨h1, by omega, by omega, fun s hs => ?_, fun x hx => ?_⟩
  ·
   have := h4 s hs
   simp at this
   omega
  ·
   have := h5 x hx
   simpa using this
 ·
  rintro ⟨h1, h2, h3, h4, h5⟩
  refine ⟨⟨⟨⟨h1, by omega⟩, by omega⟩, fun s hs => ?_⟩, fun x hx => ?_⟩
  ·
   have := h4 s hs
   simp [this]
  ·
   have := h5 x hx
   simp [this.1, this.2]
end Go.Proofs.Ytkdaeleolomdkaa.DiskMath
namespace Go.Proofs.Ytkdaeleolomdkaa.D
open Go.RowKit Go.Proofs.YtkdaeleolomdkaaW.PrintWords Go.Proofs.YtkdaeleolomdkaaW.PrintLast Go.Proofs.YtkdaeleolomdkaaW.PrintMore
attribute [local go_sem] max2_int min2_int max_two min_two max_three min_three max_four min_four   -- for this text's walks alone
set_option linter.unusedVariables false
set_option linter.unusedSimpArgs false
def fanlightplain_SameBytes.f (l0 : List Int) (l1 : List Int) : Option (Bool) := some ((strOfNums l0).toList == (strOfNums l1).toList)
set_option maxHeartbeats 8000000 in
set_option maxRecDepth 100000 in
theorem fanlightplain_SameBytes.calls (A0 : Option Addr) (c0 : Nat) (l0 : List Int) (A1 : Option Addr) (c1 : Nat) (l1 : List Int) (r : Bool) (w : World) (hr0 : Kd.C (Kd.int .u8) w A0 l0.length l0) (hc0 : l0.length ≤ c0) (hr1 : Kd.C (Kd.int .u8) w A1 l1.length l1) (hc1 : l1.length ≤ c1) (h : fanlightplain_SameBytes.f l0 l1 = some r) :
  Calls Try.prog 21 #[.slice A0 l0.length c0, .slice A1 l1.length c1] w fun e w' => e = .returned (.bool r) ∧ Drawn0 w w' := by
 have HR0 := Aside0.mk hr0
 have HC0 := Aside0.mk hc0
 clear hr0 hc0
 have HR1 := Aside0.mk hr1
 have HC1 := Aside0.mk hc1
 clear hr1 hc1
 have H : (some ((strOfNums l0).toList == (strOfNums l1).toList)) = some r := h
 clear h
 obtain rfl := Option.some.inj H
 have hcv3 := Kd.C_string (P := Try.prog) (A := A0) (c := c0) Try.underlying22 Try.underlying5 Try.underlying9 HR0.out
 have hcv4 := Kd.C_string (P := Try.prog) (A := A1) (c := c1) Try.underlying22 Try.underlying5 Try.underlying9 HR1.out
 go_enter Try.func21, Try.ntmps21
 go_wp2
 go_ret
 exact ⟨by first | rfl | (simp; done) | (simp [*]; done), by repeat (first | exact Drawn0.refl _ | apply Drawn0.step)⟩
end Go.Proofs.Ytkdaeleolomdkaa.D
namespace Go.Proofs.Ytkdaeleolomdkaa.D
open Go.RowKit Go.Proofs.YtkdaeleolomdkaaW.PrintWords Go.Proofs.YtkdaeleolomdkaaW.PrintLast Go.Proofs.YtkdaeleolomdkaaW.PrintMore
attribute [local go_sem] max2_int min2_int max_two min_two max_three min_three max_four min_four   -- for this text's walks alone
set_option linter.unusedVariables false
set_option linter.unusedSimpArgs false
def fanlightlaw05_num.f (a0 : Int) : Option (Int) := some a0
set_option maxHeartbeats 8000000 in
set_option maxRecDepth 100000 in
theorem fanlightlaw05_num.calls (a0 : Int) (r : Int) (w : World) (h : fanlightlaw05_num.f a0 = some r) :
  Calls Try.prog 32 #[.int .i64 a0] w fun e w' => e = .returned (.int .i64 r) ∧ Drawn0 w w' := by
 have H : (some a0) = some r := h
 clear h
 obtain rfl := Option.some.inj H
 go_enter Try.func32, Try.ntmps32
 go_wp2
 go_ret
 exact ⟨by first | rfl | (simp; done) | (simp [*]; done), by repeat (first | exact Drawn0.refl _ | apply Drawn0.step)⟩
end Go.Proofs.Ytkdaeleolomdkaa.D
