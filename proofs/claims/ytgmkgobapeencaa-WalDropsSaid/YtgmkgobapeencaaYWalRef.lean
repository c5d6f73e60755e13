/- What the print's words and the walks are, as far as this claim names them. -/
import Derived.Test.YtgmkgobapeencaaYWalMore
import Derived.Test.YtgmkgobapeencaaYS1
import Derived.Test.YtgmkgobapeencaaYS7
import Derived.Test.YtgmkgobapeencaaYS8
import Derived.Test.YtgmkgobapeencaaYS9
import Derived.Test.YtgmkgobapeencaaYS11
import Derived.Test.YtgmkgobapeencaaYS12
import Derived.Test.YtgmkgobapeencaaYS13
import Derived.Test.YtgmkgobapeencaaYS14
import Derived.Test.YtgmkgobapeencaaYS15
import Derived.Test.YtgmkgobapeencaaYS16
import Derived.Test.YtgmkgobapeencaaYS17
import Derived.Test.YtgmkgobapeencaaYS18
import Derived.Test.YtgmkgobapeencaaYS19
import Derived.Test.YtgmkgobapeencaaYS20
import Derived.Test.YtgmkgobapeencaaYS21
import Derived.Test.YtgmkgobapeencaaYS22
import Derived.Test.YtgmkgobapeencaaYS23
import Derived.Test.YtgmkgobapeencaaYS24
import Derived.Test.YtgmkgobapeencaaYS25
namespace Go.Proofs.Ytgmkgobapeencaa.WalRef
set_option linter.unusedVariables false
set_option linter.unusedSimpArgs false
open Go.RowKit Go.Proofs.Ytgmkgobapeencaa.S Go.Proofs.YtgmkgobapeencaaW.PrintWords Go.Proofs.YtgmkgobapeencaaW.PrintLast RefSeal RefPut WalMath WalEv WalLog WalMore
theorem sameB (l : List Int) : fanlightplain_SameBytes.f l l = some true := by
 unfold fanlightplain_SameBytes.f
 rw [beq_self_eq_true]
theorem same_l0 (rs : List (Int × List Int)) (hn : rs.length ≤ 4611686018427387904) : ∀ (rest pre : List (Int × List Int)), rs = pre ++ rest → Ev (fun k => fanlightlaw06_same.l0 k (rs.map rowP) (rs.map rowD) (pre.length : Int)) true
 | [], pre, h => by
  refine Ev.step (fun k => rfl) ?_
  have e : rs = pre := by simpa using h
  simp only [fanlightlaw06_same.l0, List.length_map, if_neg (show ¬ (pre.length : Int) < (rs.length : Int) by rw [e]; omega)]
  exact Ev.now _
 | s :: ss, pre, h => by
  refine Ev.step (fun k => rfl) ?_
  have hlen : rs.length = pre.length + 1 + ss.length := by rw [h]; simp; omega
  have hat : rs[pre.length]? = some s := by rw [h, List.getElem?_append_right (Nat.le_refl _), Nat.sub_self]; rfl
  have e1 : rd_T60 (rs.map rowP) (pre.length : Int) = rowP s := by
   unfold rd_T60
   rw [Int.toNat_natCast, List.getD_eq_getElem?_getD, List.getElem?_map, hat]
   rfl
  have e2 : rd_T57 (rs.map rowD) (pre.length : Int) = rowD s := by
   unfold rd_T57
   rw [Int.toNat_natCast, List.getD_eq_getElem?_getD, List.getElem?_map, hat]
   rfl
  have w2 : wrap64 ((pre.length : Int) + 1) = (((pre ++ [s]).length : Nat) : Int) := by rw [List.length_append]; exact wI (by omega) (by omega)
  have c1 : (rowP s).f0 = (rowD s).f0 := rfl
  have c2 : (rowP s).f1 = (rowD s).f1 := rfl
  simp only [fanlightlaw06_same.l0, List.length_map, if_pos (show (pre.length : Int) < (rs.length : Int) by omega), if_pos (show (0 : Int) ≤ (pre.length : Int) by omega), e1, e2, if_pos c1, c2, sameB, Option.bind_some, if_true, w2]
  exact same_l0 rs hn ss (pre ++ [s]) (by rw [h]; simp)
theorem same_is (rs : List (Int × List Int)) (hn : rs.length ≤ 4611686018427387904) : Ev (fun k => fanlightlaw06_same.f k (rs.map rowP) (rs.map rowD)) true := by
 unfold fanlightlaw06_same.f
 simp only [List.length_map, if_true]
 exact same_l0 rs hn rs [] rfl
theorem zeros_octs (n : Nat) : octs (List.replicate n (0 : Int)) := by
 intro x hx
 have := List.eq_of_mem_replicate hx
 omega
theorem alive_is : Ev (fun k => fanlightlaw06_alive.f k) true := by
 have hn : Okt [] := fun s hs => by simp at hs
 have hlog : logS [] 1 = some [] := rfl
 have hz := zeros_octs 300
 have hzl : (List.replicate 300 (0 : Int)).length = 300 := List.length_replicate ..
 obtain ⟨Z, hZ⟩ : ∃ Z, List.replicate 300 (0 : Int) = Z := ⟨_, rfl⟩
 rw [hZ] at hz hzl
 obtain ⟨a1, a2, a3, _⟩ := app_log hn hlog hz (by omega) (by omega) (by simp)
 have e1 : appA [] 1 Z = ([recF 1 Z], 2, 0, 0) := by
  unfold appA
  rw [hlog, Option.isSome_some, if_pos rfl, if_neg (by omega), if_neg (by omega), if_pos (.inl rfl), if_neg (by simp)]
  rfl
 rw [e1] at a3
 have ho1 : Okt [recF 1 Z] := fun s hs => by
  rw [List.mem_singleton.1 hs]
  exact ⟨recF_octs hz, by rw [recF_length]; omega⟩
 have hlog2 : logS [recF 1 Z] 2 = some [(1, Z)] := a3
 obtain ⟨b1, b2, b3, _⟩ := app_log ho1 hlog2 hz (by omega) (by omega) (by simp)
 have e2 : appA [recF 1 Z] 2 Z = ([recF 1 Z, recF 2 Z], 3, 1, 0) := by
  unfold appA
  rw [hlog2, Option.isSome_some, if_pos rfl, if_neg (by omega), if_neg (by omega), if_pos (.inr (by show 480 < (recF 1 Z).length + 16 + Z.length; rw [recF_length]; omega)), if_neg (by simp)]
  rfl
 rw [e2] at b3
 have ho2 : Okt [recF 1 Z, recF 2 Z] := fun s hs => by
  simp only [List.mem_cons, List.mem_nil_iff, or_false] at hs
  rcases hs with rfl | rfl
  ·
   exact ⟨recF_octs hz, by rw [recF_length]; omega⟩
  ·
   exact ⟨recF_octs hz, by rw [recF_length]; omega⟩
 have hlog3 : logS [recF 1 Z, recF 2 Z] 3 = some [(1, Z), (2, Z)] := b3
 have p1 := app_is hn 1 Z
 rw [e1] at p1
 have p2 := app_is ho1 2 Z
 rw [e2] at p2
 unfold fanlightlaw06_alive.f
 simp only [if_pos (show (300 : Int) ≤ 281474976710656 by decide), hZ]
 refine Ev.bind p1 ?_
 refine Ev.bind p2 ?_
 refine Ev.bind (records_ok ho2 hlog3) ?_
 have h1 : wrap64 (wrap64 (0 + 0) + 0) = 0 := by rw [wI (i := 0 + 0) (by omega) (by omega)]; exact wI (by omega) (by omega)
 have h2 : ((([(1, Z), (2, Z)] : List (Int × List Int)).map rowP).length : Int) = 2 := rfl
 have h3 : ((rd_T60 (([(1, Z), (2, Z)] : List (Int × List Int)).map rowP) 1).f0 == 2) = true := rfl
 simp only [fanlightlaw06_num.f, Option.bind_some, if_pos h1, if_true, h2, if_pos (show (1 : Int) < 2 by decide), h3]
 exact Ev.now _
theorem alive_det : ∀ (k : Nat) (r : Bool), fanlightlaw06_alive.f k = some r → r = true := by
 intro k r h
 obtain ⟨K, hK⟩ := alive_is
 have up : ∀ n, fanlightlaw06_alive.f (k + n) = some r := by
  intro n
  induction n with
  | zero => exact h
  | succ n ih => exact fanlightlaw06_alive.mono (k + n) r ih
 have h1 := up K
 have h2 : fanlightlaw06_alive.f (k + K) = some true := hK (k + K) (by omega)
 rw [h1] at h2
 exact Option.some.inj h2
end Go.Proofs.Ytgmkgobapeencaa.WalRef
