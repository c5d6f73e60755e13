/- What is answered is its holder's: every frame. -/
import Derived.Test.YtchmncgnaiiijaaSealEv
namespace Go.Proofs.Ytchmncgnaiiijaa.Pure
set_option linter.unusedVariables false
set_option linter.unusedSimpArgs false
open Go.RowKit Go.Proofs.Ytchmncgnaiiijaa.S Go.Proofs.YtchmncgnaiiijaaW.PrintWords Go.Proofs.YtchmncgnaiiijaaW.PrintLast SealEv
theorem SealOwn (k : Int) (l : List Int) (ho : octs l) (hl : l.length ≤ 140737488351232) : ∃ n, fanlightlaw04_SealOwn.f n k l = some true := by
  apply Ev.rounds
  unfold fanlightlaw04_SealOwn.f
  have ha : fanlightlaw04_alive.f = some true := rfl
  simp only [ha, Option.bind_some, if_true, of_is (show l.length < 140737488355328 by omega)]
  by_cases hk : k < 1 ∨ 255 < k
  · simp only [put_bad hk, Option.bind_some, fanlightlaw04_num.f]
    exact Ev.now _
  · by_cases h : 65536 < l.length
    · simp only [put_long (show 1 ≤ k by omega) (by omega) h, Option.bind_some, fanlightlaw04_num.f]
      exact Ev.now _
    · simp only [put_good (show 1 ≤ k by omega) (by omega) (show l.length ≤ 65536 by omega), Option.bind_some, fanlightlaw04_num.f, if_true]
      have hf := framed_length k l
      obtain ⟨r, hr⟩ := spoil_is l (by omega)
      obtain ⟨r2, hr2⟩ := spoil_is (framed k l) (by omega)
      refine Ev.bind hr ?_
      have hg := getS_framed (k := k) (by omega) (by omega) (show l.length ≤ 65536 by omega) []
      rw [List.append_nil] at hg
      simp only [get_is (show (framed k l).length ≤ 140737488351232 by omega) (framed_octs ho), Option.bind_some, hg]
      refine Ev.bind hr2 ?_
      simp only [if_true, same_is, Option.bind_some]
      exact Ev.now _
end Go.Proofs.Ytchmncgnaiiijaa.Pure
