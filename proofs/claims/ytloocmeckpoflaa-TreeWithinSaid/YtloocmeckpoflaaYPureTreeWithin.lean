/- What the print's words and the walks are, as far as this claim names them. -/
import Derived.Test.YtloocmeckpoflaaYTreeEv
import Derived.Test.YtloocmeckpoflaaYD19
namespace Go.Proofs.Ytloocmeckpoflaa.PureWithin
set_option linter.unusedVariables false
set_option linter.unusedSimpArgs false
open Go.RowKit Go.Proofs.Ytloocmeckpoflaa.D Go.Proofs.YtloocmeckpoflaaW.PrintWords Go.Proofs.YtloocmeckpoflaaW.PrintLast Go.Proofs.YtloocmeckpoflaaW.PrintMore TreeMath TreeEv
theorem loop (t : Tr) (hm : May t) (hok : okL t.f4 = true) : ∀ (d j k : Nat), t.f4.length - j = d → j ≤ t.f4.length → d < k →
  fanlightlaw09_TreeWithin.l0 k (cntT t) (depT t) (1 + cntL (t.f4.take j)) (j : Int) t.f0 t.f1 t.f2 t.f3 t.f4 = some true := by
 have hc := may_cnt hm
 have hc4 := cntT_eq t
 have hd4 := depT_eq t
 intro d
 induction d with
 | zero =>
  intro j k hd hj hk
  obtain ⟨k, rfl⟩ : ∃ m, k = m + 1 := ⟨k - 1, by omega⟩
  simp only [fanlightlaw09_TreeWithin.l0]
  rw [if_neg (by omega), List.take_of_length_le (by omega), hc4]
  simp
 | succ d ih =>
  intro j k hd hj hk
  obtain ⟨k, rfl⟩ : ∃ m, k = m + 1 := ⟨k - 1, by omega⟩
  have hjl : j < t.f4.length := by omega
  have hlen := may_len hm
  have e1 : wrap64 ((j : Int) + 1) = ((j + 1 : Nat) : Int) := by unfold wrap64; omega
  have hnext := ih (j + 1) k (by omega) (by omega) (by omega)
  have c1 : (j : Int) < (t.f4.length : Int) := by omega
  have c2 : (0 : Int) ≤ (j : Int) := by omega
  have hx : rd_T25 t.f4 (j : Int) = t.f4[j] := by unfold rd_T25; rw [Int.toNat_natCast, List.getD_eq_getElem?_getD, List.getElem?_eq_getElem hjl, Option.getD_some]
  have hle := cntL_le hjl
  have htk := cntL_take hjl
  have hkid := may_kid hm hjl
  have hnn := cntL_nn (t.f4.take j)
  have hpos := cnt_pos t.f4[j]
  have hdm := depL_mem (List.getElem_mem hjl)
  have hok2 := (okL_get t.f4 j hjl hok).2
  simp only [fanlightlaw09_TreeWithin.l0]
  rw [if_pos c1, if_pos c2, hx, e1]
  clear e1 c1 c2 hx ih
  generalize t.f4[j] = x at hle htk hkid hpos hdm hok2 ⊢
  cases he : x.f0.toList.isEmpty with
  | true =>
   rw [if_pos (emp_iff.2 he)]
   have hx1 := text_cnt1 hkid he
   have e2 : wrap64 (1 + cntL (t.f4.take j) + 1) = 1 + cntL (t.f4.take (j + 1)) := by unfold wrap64; omega
   rw [e2]
   exact hnext
  | false =>
   rw [if_neg (by rw [emp_iff, he]; decide)]
   have hmx : May x := ⟨he, hkid⟩
   have hs : tree_Size.f x.f0 x.f1 x.f2 x.f3 x.f4 = some (cntT x, depT x, 0) := by
    unfold tree_Size.f
    rw [okT_eq] at hok2
    rw [if_pos hok2]
    have := sizeR_may hmx
    cases x
    exact congrArg some this
   rw [hs]
   simp only [Option.bind_some, fanlightlaw09_num.f, if_true]
   rw [if_neg (by omega), if_neg (by omega)]
   have e2 : wrap64 (1 + cntL (t.f4.take j) + cntT x) = 1 + cntL (t.f4.take (j + 1)) := by unfold wrap64; omega
   rw [e2]
   exact hnext
theorem TreeWithin (a0 a1 a2 : ByteArray) (l3 : List S53) (l4 : List S25) (hok : okL l4 = true) : ∃ k, fanlightlaw09_TreeWithin.f k a0 a1 a2 l3 l4 = some true := by
 refine ⟨l4.length + 1, ?_⟩
 unfold fanlightlaw09_TreeWithin.f
 rw [alive_is]
 simp only [Option.bind_some, if_true]
 unfold tree_Size.f
 rw [if_pos hok]
 simp only [Option.bind_some, fanlightlaw09_num.f]
 by_cases hm : May ⟨a0, a1, a2, l3, l4⟩
 ·
  rw [sizeR_may hm]
  simp only [if_true]
  have h := loop ⟨a0, a1, a2, l3, l4⟩ hm hok l4.length 0 (l4.length + 1) (by simp) (by simp) (by omega)
  rw [List.take_zero, cntL] at h
  exact h
 ·
  obtain ⟨h1, h2, h3⟩ := sizeR_not hm
  rw [if_neg h3, if_pos h1, h2]
  rfl
end Go.Proofs.Ytloocmeckpoflaa.PureWithin
