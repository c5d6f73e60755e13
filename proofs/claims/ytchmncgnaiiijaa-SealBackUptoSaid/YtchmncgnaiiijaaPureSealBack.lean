/- A frame comes back from its octets, whatever stands behind: every frame. -/
import Derived.Test.YtchmncgnaiiijaaSealEv
namespace Go.Proofs.Ytchmncgnaiiijaa.Pure
set_option linter.unusedVariables false
set_option linter.unusedSimpArgs false
open Go.RowKit Go.Proofs.Ytchmncgnaiiijaa.S Go.Proofs.YtchmncgnaiiijaaW.PrintWords Go.Proofs.YtchmncgnaiiijaaW.PrintLast SealEv
theorem SealBack (k : Int) (l more : List Int) (ho : octs l) (ho2 : octs more) (hl : l.length ≤ 1048576) (hm : more.length ≤ 1048576) : fanlightlaw04_SealBack.f k l more = some true := by
  unfold fanlightlaw04_SealBack.f
  have ha : fanlightlaw04_alive.f = some true := rfl
  rw [ha, Option.bind_some, if_pos rfl, of_is (by omega), Option.bind_some]
  dsimp only
  by_cases hk : k < 1 ∨ 255 < k
  · rw [put_bad hk]
    simp only [Option.bind_some, fanlightlaw04_num.f]
    rw [if_neg (by decide), if_pos (by simp)]
    rcases hk with h | h
    · rw [if_pos h]
    · rw [if_neg (by omega), if_pos (by omega)]
  · by_cases h : 65536 < l.length
    · rw [put_long (by omega) (by omega) h]
      simp only [Option.bind_some, fanlightlaw04_num.f]
      rw [if_neg (by decide), if_pos (by simp), if_neg (by omega), if_neg (by omega), decide_eq_true (by omega)]
    · rw [put_good (by omega) (by omega) (by omega)]
      simp only [Option.bind_some, fanlightlaw04_num.f, if_true]
      have hf := framed_length k l
      rw [copy_is (by omega)]
      simp only [Option.bind_some]
      rw [if_pos (by omega), get_is (by rw [List.length_append]; omega) (octs_append (framed_octs ho) ho2), Option.bind_some, getS_framed (by omega) (by omega) (by omega)]
      simp only [Option.bind_some, if_true, same_is]
      rw [hf]
      simp
end Go.Proofs.Ytchmncgnaiiijaa.Pure
