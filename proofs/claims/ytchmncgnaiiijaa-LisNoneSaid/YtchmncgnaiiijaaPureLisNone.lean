/- No rising part that is made by choosing places of a list is longer than the length that the program tells: every list (its first 64 numbers), every choice. -/
import Derived.Test.YtchmncgnaiiijaaP4
import Derived.Test.YtchmncgnaiiijaaLisEv
namespace Go.Proofs.Ytchmncgnaiiijaa.Pure
set_option linter.unusedVariables false
set_option linter.unusedSimpArgs false
open Go.RowKit Go.Proofs.Ytchmncgnaiiijaa.P Go.Proofs.YtchmncgnaiiijaaW.PrintWords Go.Proofs.YtchmncgnaiiijaaW.PrintLast LisMath LisEv

theorem none_l0 (l : List Int) (hl : l.length ≤ 64) (a1 n : Int) (hn : n = longN l) : ∀ (d i : Nat) (c : List Int) (last : Int) (some_ : Bool), l.length - i = d → i ≤ l.length →
    Part c (l.take i) → Rises c → (some_ = true → c.getLast? = some last) → (some_ = false → c = []) → c.length ≤ i →
    Ev (fun k => fanlightlaw11_LisNone.l0 k l a1 n c.length last some_ i) true
  | 0, i, c, last, sm, hd, hi, hp, hr, h1, h2, hc => by
    refine Ev.step (fun k => rfl) ?_
    simp only [fanlightlaw11_LisNone.l0]
    have hn' : ¬ (i : Int) < l.length := by omega
    have hle : (c.length : Int) ≤ n := by
      rw [List.take_of_length_le (by omega)] at hp
      rw [hn]; exact part_le hp hr
    simp only [if_neg hn', if_pos hle]
    by_cases h0 : (l.length : Int) = 0
    · simp only [if_pos h0]; exact Ev.now _
    · simp only [if_neg h0]
      have : n > 0 := by rw [hn]; exact longN_pos (by omega)
      rw [decide_eq_true this]
      exact Ev.now _
  | d + 1, i, c, last, sm, hd, hi, hp, hr, h1, h2, hc => by
    refine Ev.step (fun k => rfl) ?_
    simp only [fanlightlaw11_LisNone.l0]
    have hlt : i < l.length := by omega
    have g1 : (i : Int) < l.length := by omega
    have g2 : 0 ≤ (i : Int) := by omega
    have g3 : wrap64 ((i : Int) + 1) = ((i + 1 : Nat) : Int) := by rw [wrapI] <;> omega
    have g4 : wrap64 ((c.length : Int) + 1) = ((c.length + 1 : Nat) : Int) := by rw [wrapI] <;> omega
    have et : l.take (i + 1) = l.take i ++ [l.getD i 0] := by
      rw [List.take_succ_eq_append_getElem hlt]; simp [hlt]
    simp only [if_pos g1, if_pos g2, g3, g4, rd_nat]
    have keep : Ev (fun k => fanlightlaw11_LisNone.l0 k l a1 n c.length last sm ((i + 1 : Nat) : Int)) true :=
      none_l0 l hl a1 n hn d (i + 1) c last sm (by omega) (by omega) (by rw [et]; exact part_snoc_skip hp _) hr h1 h2 (by omega)
    have take (hx : ∀ y, c.getLast? = some y → y < l.getD i 0) : Ev (fun k => fanlightlaw11_LisNone.l0 k l a1 n ((c.length + 1 : Nat) : Int) (l.getD i 0) true ((i + 1 : Nat) : Int)) true := by
      have := none_l0 l hl a1 n hn d (i + 1) (c ++ [l.getD i 0]) (l.getD i 0) true (by omega) (by omega) (by rw [et]; exact part_snoc_take hp _) (rises_snoc hr hx) (by simp) (by simp) (by simp; omega)
      rw [show (c ++ [l.getD i 0]).length = c.length + 1 by simp] at this
      exact this
    by_cases hb : Go.bits .and .u64 (shr .u64 a1 i) 1 = 1
    · simp only [if_pos hb]
      cases sm with
      | true =>
        simp only [if_true]
        by_cases hx : l.getD i 0 > last
        · simp only [if_pos hx]
          exact take (fun y hy => by rw [h1 rfl] at hy; injection hy with hy; omega)
        · simp only [if_neg hx]; exact keep
      | false =>
        simp only [Bool.false_eq_true, if_false]
        exact take (fun y hy => by rw [h2 rfl] at hy; simp at hy)
    · simp only [if_neg hb]; exact keep

theorem mn_min (a b : Int) : mn a b = min a b := by unfold mn; split <;> omega
theorem LisNone : fanlightlaw11_LisNone.Pure := by
  intro l0 a1 hl hb hw hw1
  refine Ev.rounds ?_
  unfold fanlightlaw11_LisNone.f
  refine Ev.bind alive_is ?_
  have e0 : 0 ≤ mn (l0.length : Int) 64 := by rw [mn_min]; omega
  have e1 : mn (l0.length : Int) 64 ≤ (l0.length : Int) := by rw [mn_min]; omega
  simp only [if_true, if_pos e0, if_pos e1, Option.bind_some]
  have hlen : (l0.take (mn (l0.length : Int) 64).toNat).length ≤ 64 := by rw [List.length_take, mn_min]; omega
  generalize l0.take (mn (l0.length : Int) 64).toNat = l at hlen ⊢
  refine Ev.bind (length_is (by omega)) ?_
  simp only [fanlightlaw11_num.f, Option.bind_some, if_true]
  exact none_l0 l hlen a1 _ rfl l.length 0 [] 0 false (by omega) (by omega) (by simpa using Part.nil) (by simp [Rises]) (by simp) (by simp) (by simp)

end Go.Proofs.Ytchmncgnaiiijaa.Pure
