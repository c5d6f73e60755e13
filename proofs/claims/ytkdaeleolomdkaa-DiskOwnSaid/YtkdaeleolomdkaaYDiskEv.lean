/- What the print's words and the walks are, as far as this claim names them. -/
import Derived.Test.YtkdaeleolomdkaaYD12
import Derived.Test.YtkdaeleolomdkaaYD18
import Derived.Test.YtkdaeleolomdkaaYD19
namespace Go.Proofs.Ytkdaeleolomdkaa.DiskEv
set_option linter.unusedVariables false
set_option linter.unusedSimpArgs false
open Go.RowKit Go.Proofs.Ytkdaeleolomdkaa.D Go.Proofs.YtkdaeleolomdkaaW.PrintWords Go.Proofs.YtkdaeleolomdkaaW.PrintLast DiskMath
theorem wI {i : Int} (h0 : -9223372036854775808 ≤ i) (h1 : i ≤ 9223372036854775807) : wrap64 i = i := by unfold wrap64; omega
theorem sameB (l : List Int) : fanlightplain_SameBytes.f l l = some true := by
 unfold fanlightplain_SameBytes.f
 simp
theorem copyB {l : List Int} (h : l.length < 140737488355328) : fanlightplain_CopyBytes.f l = some l := by
 unfold fanlightplain_CopyBytes.f
 rw [if_pos (by simpa using h), List.nil_append]
theorem rdL_at {l pre rest : List (List Int)} {x : List Int} (h : l = pre ++ x :: rest) : rd_L1 l (pre.length : Int) = x := by
 unfold rd_L1
 rw [Int.toNat_natCast, h, List.getD_eq_getElem?_getD, List.getElem?_append_right (Nat.le_refl _), Nat.sub_self]
 rfl
theorem rdW_at {l pre rest : List S57} {x : S57} (h : l = pre ++ x :: rest) : rd_T57 l (pre.length : Int) = x := by
 unfold rd_T57
 rw [Int.toNat_natCast, h, List.getD_eq_getElem?_getD, List.getElem?_append_right (Nat.le_refl _), Nat.sub_self]
 rfl
theorem alive_is : Ev (fun k => fanlightlaw05_alive.f k) true := Ev.of (fun k => fanlightlaw05_alive.mono k) (k := 10) (by decide +kernel)
structure Fit (secs : List (List Int)) (cache : List S57) : Prop where
 n : secs.length ≤ 5864062014800
 s : ∀ b ∈ secs, b.length < 140737488355328
 m : cache.length ≤ 3518437208880
 d : ∀ x ∈ cache, x.f2.length < 140737488355328
theorem copyw_l0 (l : List S57) (hm : l.length ≤ 3518437208880) (hd : ∀ x ∈ l, x.f2.length < 140737488355328) : ∀ (rest pre : List S57), l = pre ++ rest → Ev (fun k => fanlightplain_CopyWrites.l0 k l pre (pre.length : Int)) l
 | [], pre, h => by
  refine Ev.step (fun k => rfl) ?_
  have e : l = pre := by simpa using h
  simp only [fanlightplain_CopyWrites.l0, if_neg (show ¬ (pre.length : Int) < (l.length : Int) by rw [e]; omega)]
  rw [← e]
  exact Ev.now _
 | x :: xs, pre, h => by
  refine Ev.step (fun k => rfl) ?_
  have hlen : l.length = pre.length + 1 + xs.length := by rw [h]; simp; omega
  have hx := hd x (by rw [h]; simp)
  have w2 : wrap64 ((pre.length : Int) + 1) = (((pre ++ [x]).length : Nat) : Int) := by rw [List.length_append]; exact wI (by omega) (by omega)
  simp only [fanlightplain_CopyWrites.l0, if_pos (show (pre.length : Int) < (l.length : Int) by omega), if_pos (show (0 : Int) ≤ (pre.length : Int) by omega), rdW_at h, copyB hx, Option.bind_some, if_pos (show pre.length < 3518437208883 by omega), w2]
  exact copyw_l0 l hm hd xs (pre ++ [x]) (by rw [h]; simp)
theorem of_l0 (secs : List (List Int)) (cache c2 : List S57) (hn : secs.length ≤ 5864062014800) (hs : ∀ b ∈ secs, b.length < 140737488355328) : ∀ (rest pre : List (List Int)), secs = pre ++ rest → Ev (fun k => fanlightlaw05_Of.l0 k (pre.length : Int) secs cache pre c2) (secs, c2)
 | [], pre, h => by
  refine Ev.step (fun k => rfl) ?_
  have e : secs = pre := by simpa using h
  simp only [fanlightlaw05_Of.l0, if_neg (show ¬ (pre.length : Int) < (secs.length : Int) by rw [e]; omega)]
  rw [← e]
  exact Ev.now _
 | x :: xs, pre, h => by
  refine Ev.step (fun k => rfl) ?_
  have hlen : secs.length = pre.length + 1 + xs.length := by rw [h]; simp; omega
  have hx := hs x (by rw [h]; simp)
  have w2 : wrap64 ((pre.length : Int) + 1) = (((pre ++ [x]).length : Nat) : Int) := by rw [List.length_append]; exact wI (by omega) (by omega)
  simp only [fanlightlaw05_Of.l0, if_pos (show (pre.length : Int) < (secs.length : Int) by omega), if_pos (show (0 : Int) ≤ (pre.length : Int) by omega), rdL_at h, copyB hx, Option.bind_some, if_pos (show pre.length < 5864062014805 by omega), w2]
  exact of_l0 secs cache c2 hn hs xs (pre ++ [x]) (by rw [h]; simp)
theorem of_is {secs : List (List Int)} {cache : List S57} (h : Fit secs cache) : Ev (fun k => fanlightlaw05_Of.f k secs cache) (secs, cache) :=
 Ev.bind (copyw_l0 cache h.m h.d cache [] rfl) (of_l0 secs cache cache h.n h.s secs [] rfl)
end Go.Proofs.Ytkdaeleolomdkaa.DiskEv
