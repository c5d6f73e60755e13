/- What the print's words and the walks are, as far as this claim names them. -/
import Derived.Test.YtkdaeleolomdkaaYDiskRefDo
import Derived.Test.YtkdaeleolomdkaaYD41
import Derived.Test.YtkdaeleolomdkaaYD24
namespace Go.Proofs.Ytkdaeleolomdkaa.PureOwn
set_option linter.unusedVariables false
set_option linter.unusedSimpArgs false
open Go.RowKit Go.Proofs.Ytkdaeleolomdkaa.D Go.Proofs.YtkdaeleolomdkaaW.PrintWords Go.Proofs.YtkdaeleolomdkaaW.PrintLast DiskMath DiskEv DiskRefC DiskRefDo
theorem spoil_l0 : ∀ (d : Nat) (x0 : List Int) (i k : Nat), x0.length ≤ SpB → x0.length - i = d → d < k → ∃ q, q.length = x0.length ∧ fanlightplain_Spoil.l0 k x0 i = some q := by
 intro d
 induction d with
 | zero =>
  intro x0 i k hx hi hk
  obtain ⟨k, rfl⟩ : ∃ m, k = m + 1 := ⟨k - 1, by omega⟩
  refine ⟨x0, rfl, ?_⟩
  simp only [fanlightplain_Spoil.l0, if_neg (show ¬ (i : Int) < (x0.length : Int) by omega)]
 | succ d ih =>
  intro x0 i k hx hi hk
  obtain ⟨k, rfl⟩ : ∃ m, k = m + 1 := ⟨k - 1, by omega⟩
  have hx2 := hx
  unfold SpB at hx2
  have hw : wrap64 ((i : Int) + 1) = ((i + 1 : Nat) : Int) := (wI (by omega) (by omega)).trans (by omega)
  obtain ⟨q, hq, he⟩ := ih (x0.set i (Go.bits .xor .u8 255 (rd x0 (i : Int)))) (i + 1) k (by rw [List.length_set]; exact hx) (by rw [List.length_set]; omega) (by omega)
  refine ⟨q, by rw [hq, List.length_set], ?_⟩
  simp only [fanlightplain_Spoil.l0, if_pos (show (i : Int) < (x0.length : Int) by omega), if_pos (show (0 : Int) ≤ (i : Int) by omega), hw, Int.toNat_natCast]
  exact he
theorem doR_len (T : List (List Int)) (C : List S57) (x : S57) : (doR T C x).1.length ≤ 4096 ∧ (doR T C x).2.1.length ≤ 4096 := by
 unfold doR
 by_cases hok : okSb T C = true
 ·
  rw [if_pos hok]
  by_cases he : (doF T C x).2.2 = 0
  ·
   rw [if_pos he]
   have := okS_of (okSb_do hok he)
   exact ⟨this.sl, this.cl⟩
  ·
   rw [if_neg he]
   exact ⟨by simp, by simp⟩
 ·
  rw [if_neg hok]
  exact ⟨by simp, by simp⟩
theorem DiskOwn (secs : List (List Int)) (cache : List S57) (z0 : Bool) (z1 : Int) (l : List Int) (hf : Fit secs cache) (hl : l.length < 140737488355328) :
  ∃ k, true = true ∧ fanlightlaw05_DiskOwn.P k secs cache z0 z1 l := by
 obtain ⟨K1, h1⟩ := alive_is
 obtain ⟨K2, h2⟩ := of_is hf
 obtain ⟨K3, h3⟩ := refdo_is (T := secs) (C := cache) (x := ⟨z0, z1, l⟩) (by have := hf.n; omega) hf.d hl
 have hL := doR_len secs cache ⟨z0, z1, l⟩
 obtain ⟨K4, h4⟩ := alike_is (T := (doR secs cache ⟨z0, z1, l⟩).1) (C := (doR secs cache ⟨z0, z1, l⟩).2.1) (by omega) (by omega)
 refine ⟨K1 + K2 + K3 + K4 + 140737488355329, rfl, h1 _ (by omega), h2 _ (by omega), copyB hl, ⟨doR secs cache ⟨z0, z1, l⟩, ?_, h3 _ (by omega), h4 _ (by omega)⟩, fun l hl => ?_, hf.n, fun s hs => ?_, hf.m, fun y hy => ?_, ?_⟩
 ·
  unfold disk_Do.f
  rw [if_pos ⟨hf.d, hl⟩]
 ·
  exact spoil_l0 l.length l 0 _ hl rfl (by unfold SpB at hl; omega)
 ·
  have := hf.s s hs
  unfold SpB
  omega
 ·
  have := hf.d y hy
  unfold SpB
  omega
 ·
  unfold SpB
  omega
end Go.Proofs.Ytkdaeleolomdkaa.PureOwn
