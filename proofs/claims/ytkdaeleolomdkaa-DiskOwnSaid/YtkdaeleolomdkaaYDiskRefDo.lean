/- What the print's words and the walks are, as far as this claim names them. -/
import Derived.Test.YtkdaeleolomdkaaYDiskEv
import Derived.Test.YtkdaeleolomdkaaYDiskRefC
import Derived.Test.YtkdaeleolomdkaaYD12
import Derived.Test.YtkdaeleolomdkaaYD11
import Derived.Test.YtkdaeleolomdkaaYD21
import Derived.Test.YtkdaeleolomdkaaYD26
import Derived.Test.YtkdaeleolomdkaaYD27
import Derived.Test.YtkdaeleolomdkaaYD28
import Derived.Test.YtkdaeleolomdkaaYD29
namespace Go.Proofs.Ytkdaeleolomdkaa.DiskRefDo
set_option linter.unusedVariables false
set_option linter.unusedSimpArgs false
open Go.RowKit Go.Proofs.Ytkdaeleolomdkaa.D Go.Proofs.YtkdaeleolomdkaaW.PrintWords Go.Proofs.YtkdaeleolomdkaaW.PrintLast DiskMath DiskEv DiskRefC
theorem chk_of_fit (n : Nat) (x1 : Int) (m : Nat) : chkW n x1 m = (if fitB n x1 m = false then 4 else if m = 0 ∨ m % 48 ≠ 0 then 1 else 0) := by
 unfold chkW
 by_cases h : fitB n x1 m = true
 ·
  have h2 := h
  unfold fitB at h2
  have h3 := of_decide_eq_true h2
  rw [if_neg (show ¬ (x1 < 0 ∨ (n : Int) < x1 ∨ (n : Int) - x1 < ((m + 47) / 48 : Nat)) by omega), if_neg (show ¬ fitB n x1 m = false by rw [h]; decide)]
 ·
  have h2 : fitB n x1 m = false := by simpa using h
  have h4 := h2
  unfold fitB at h4
  have h3 := of_decide_eq_false h4
  rw [if_pos h2, if_pos (show x1 < 0 ∨ (n : Int) < x1 ∨ (n : Int) - x1 < ((m + 47) / 48 : Nat) by omega)]
theorem refdo_is {T : List (List Int)} {C : List S57} {x : S57} (hn : T.length ≤ 9223372036854775807) (hd : ∀ y ∈ C, y.f2.length < 140737488355328) (hx : x.f2.length < 140737488355328) : Ev (fun k => fanlightref05_Do.f k T C x.f0 x.f1 x.f2) (doR T C x) := by
 unfold fanlightref05_Do.f
 refine Ev.bind (refcheck_is hd) ?_
 have hf := @fits_is T C x.f0 x.f1 x.f2 hn hx
 simp only [hf, Option.bind_some]
 rw [if_pos ⟨trivial, chk_of_fit _ _ _, hx⟩]
 exact Ev.now _
theorem samew_l0 (l : List S57) (hm : l.length ≤ 9223372036854775806) : ∀ (rest pre : List S57), l = pre ++ rest → Ev (fun k => fanlightplain_SameWrites.l0 k l l (pre.length : Int)) true
 | [], pre, h => by
  refine Ev.step (fun k => rfl) ?_
  have e : l = pre := by simpa using h
  simp only [fanlightplain_SameWrites.l0, if_neg (show ¬ (pre.length : Int) < (l.length : Int) by rw [e]; omega)]
  exact Ev.now _
 | x :: xs, pre, h => by
  refine Ev.step (fun k => rfl) ?_
  have hlen : l.length = pre.length + 1 + xs.length := by rw [h]; simp; omega
  have w2 : wrap64 ((pre.length : Int) + 1) = (((pre ++ [x]).length : Nat) : Int) := by rw [List.length_append]; exact wI (by omega) (by omega)
  simp only [fanlightplain_SameWrites.l0, if_pos (show (pre.length : Int) < (l.length : Int) by omega), if_pos (show (0 : Int) ≤ (pre.length : Int) by omega), rdW_at h, bne_self_eq_false, if_neg (show ¬ (false = true) by decide), if_true, sameB, Option.bind_some, w2]
  exact samew_l0 l hm xs (pre ++ [x]) (by rw [h]; simp)
theorem alike_l0 (T : List (List Int)) (C C2 : List S57) (hm : T.length ≤ 9223372036854775806) : ∀ (rest pre : List (List Int)), T = pre ++ rest → Ev (fun k => fanlightlaw05_Alike.l0 k (pre.length : Int) T C T C2) 0
 | [], pre, h => by
  refine Ev.step (fun k => rfl) ?_
  have e : T = pre := by simpa using h
  simp only [fanlightlaw05_Alike.l0, if_neg (show ¬ (pre.length : Int) < (T.length : Int) by rw [e]; omega)]
  exact Ev.now _
 | x :: xs, pre, h => by
  refine Ev.step (fun k => rfl) ?_
  have hlen : T.length = pre.length + 1 + xs.length := by rw [h]; simp; omega
  have w2 : wrap64 ((pre.length : Int) + 1) = (((pre ++ [x]).length : Nat) : Int) := by rw [List.length_append]; exact wI (by omega) (by omega)
  simp only [fanlightlaw05_Alike.l0, if_pos (show (pre.length : Int) < (T.length : Int) by omega), if_pos (show (0 : Int) ≤ (pre.length : Int) by omega), rdL_at h, sameB, Option.bind_some, if_true, w2]
  exact alike_l0 T C C2 hm xs (pre ++ [x]) (by rw [h]; simp)
theorem alike_is {T : List (List Int)} {C : List S57} (hn : T.length ≤ 9223372036854775806) (hm : C.length ≤ 9223372036854775806) : Ev (fun k => fanlightlaw05_Alike.f k T C T C) 0 := by
 unfold fanlightlaw05_Alike.f
 simp only [if_true]
 have h1 : Ev (fun k => fanlightplain_SameWrites.f k C C) true := by
  unfold fanlightplain_SameWrites.f
  simp only [if_true]
  exact samew_l0 C hm C [] rfl
 refine Ev.bind h1 ?_
 refine Ev.step (fun k => rfl) ?_
 simp only [fanlightlaw05_Alike.j0, Bool.not_true, if_neg (show ¬ (false = true) by decide)]
 exact alike_l0 T C C hn T [] rfl
theorem okSb_do {T : List (List Int)} {C : List S57} {x : S57} (h : okSb T C = true) (he : (doF T C x).2.2 = 0) : okSb (doF T C x).1 (doF T C x).2.1 = true := by
 have h1 := okSb_iff.1 h
 have hO := doF_ok (okS_of h) he
 refine okSb_iff.2 ⟨by have := hO.s0; omega, hO.sl, hO.cl, hO.s48, ?_⟩
 unfold doF at he ⊢
 by_cases a1 : x.f0 = true
 ·
  rw [if_pos a1] at he ⊢
  by_cases a2 : x.f1 ≠ 0 ∨ 0 < x.f2.length
  ·
   rw [if_pos a2] at he; cases he
  ·
   rw [if_neg a2]
   intro y hy
   cases hy
 ·
  rw [if_neg a1] at he ⊢
  by_cases a2 : chkW T.length x.f1 x.f2.length ≠ 0
  ·
   rw [if_pos a2] at he; exact absurd he a2
  ·
   rw [if_neg a2] at he ⊢
   by_cases a3 : C.length = 4096
   ·
    rw [if_pos a3] at he; cases he
   ·
    rw [if_neg a3]
    intro y hy
    rcases List.mem_append.1 hy with hy | hy
    ·
     exact h1.2.2.2.2 y hy
    ·
     rw [List.mem_singleton.1 hy]
     exact ⟨by simpa using a1, Decidable.not_not.1 a2⟩
end Go.Proofs.Ytkdaeleolomdkaa.DiskRefDo
