/- One number more makes the longest rising part at most one longer, and no shorter; a greatest one behind makes it just one longer: every list (its first 200 numbers), every number. -/
import Derived.Test.YtchmncgnaiiijaaP4
import Derived.Test.YtchmncgnaiiijaaLisEv
import Derived.Test.YtchmncgnaiiijaaLisMath2
namespace Go.Proofs.Ytchmncgnaiiijaa.Pure
set_option linter.unusedVariables false
set_option linter.unusedSimpArgs false
open Go.RowKit Go.Proofs.Ytchmncgnaiiijaa.P Go.Proofs.YtchmncgnaiiijaaW.PrintWords Go.Proofs.YtchmncgnaiiijaaW.PrintLast LisMath LisEv

theorem more_l0 (l : List Int) (hl : l.length ≤ 1000) (x n m : Int) (hn : 0 ≤ n ∧ n ≤ 1000) (hm : n ≤ m ∧ m ≤ n + 1 ∧ ((∀ y ∈ l, y < x) → m = n + 1)) : ∀ (d i : Nat) (top : Bool), l.length - i = d → i ≤ l.length →
    (top = true → ∀ y ∈ l.take i, y < x) →
    Ev (fun k => fanlightlaw11_LisMore.l0 k l x n 0 m 0 top i) true
  | 0, i, top, hd, hi, ht => by
    refine Ev.step (fun k => rfl) ?_
    simp only [fanlightlaw11_LisMore.l0]
    have hn' : ¬ (i : Int) < l.length := by omega
    have hz : wrap64 ((0 : Int) + 0) = 0 := by unfold wrap64; omega
    have hw : wrap64 (n + 1) = n + 1 := by rw [wrapI] <;> omega
    simp only [if_neg hn', fanlightlaw11_num.f, Option.bind_some, hz, if_true, hw]
    by_cases h1 : m = n + 1
    · simp only [if_pos h1]; exact Ev.now _
    · simp only [if_neg h1]
      have h2 : m = n := by omega
      simp only [if_pos h2]
      cases top with
      | false => exact Ev.now _
      | true =>
        exfalso; apply h1; apply hm.2.2
        have := ht rfl
        rwa [List.take_of_length_le (by omega)] at this
  | d + 1, i, top, hd, hi, ht => by
    refine Ev.step (fun k => rfl) ?_
    simp only [fanlightlaw11_LisMore.l0]
    have hlt : i < l.length := by omega
    have g1 : (i : Int) < l.length := by omega
    have g2 : 0 ≤ (i : Int) := by omega
    have g3 : wrap64 ((i : Int) + 1) = ((i + 1 : Nat) : Int) := by rw [wrapI] <;> omega
    simp only [if_pos g1, if_pos g2, g3, rd_nat]
    cases top with
    | false =>
      simp only [Bool.false_eq_true, if_false]
      exact more_l0 l hl x n m hn hm d (i + 1) false (by omega) (by omega) (by simp)
    | true =>
      simp only [if_true]
      refine more_l0 l hl x n m hn hm d (i + 1) _ (by omega) (by omega) (fun h y hy => ?_)
      rw [List.take_succ_eq_append_getElem hlt] at hy
      rcases List.mem_append.1 hy with hy | hy
      · exact ht rfl y hy
      · rw [List.mem_singleton.1 hy]
        simpa [hlt] using h
theorem mn_min' (a b : Int) : mn a b = min a b := by unfold mn; split <;> omega
theorem LisMore : fanlightlaw11_LisMore.Pure := by
  intro l0 x hl hb hw hw1
  refine Ev.rounds ?_
  unfold fanlightlaw11_LisMore.f
  refine Ev.bind alive_is ?_
  have e0 : 0 ≤ mn (l0.length : Int) 200 := by rw [mn_min']; omega
  have e1 : mn (l0.length : Int) 200 ≤ (l0.length : Int) := by rw [mn_min']; omega
  simp only [if_true, if_pos e0, if_pos e1, Option.bind_some]
  have hlen : (l0.take (mn (l0.length : Int) 200).toNat).length ≤ 200 := by rw [List.length_take, mn_min']; omega
  generalize l0.take (mn (l0.length : Int) 200).toNat = l at hlen ⊢
  refine Ev.bind (length_is (by omega)) ?_
  have e2 : fanlightplain_CopyInts.f l = some l := by
    unfold fanlightplain_CopyInts.f
    rw [if_pos (by simp; omega)]; simp
  have e3 : l.length < 17592186044416 := by omega
  simp only [e2, Option.bind_some, if_pos e3]
  refine Ev.bind (length_is (l := l ++ [x]) (by simp; omega)) ?_
  have hle := longN_le_length l
  have hge : 0 ≤ longN l := most_nonneg _
  exact more_l0 l (by omega) x _ _ ⟨hge, by omega⟩ (longN_snoc l x) l.length 0 true (by omega) (by omega) (by simp)

end Go.Proofs.Ytchmncgnaiiijaa.Pure
