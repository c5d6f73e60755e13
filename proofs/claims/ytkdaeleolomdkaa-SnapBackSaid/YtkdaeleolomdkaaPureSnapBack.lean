/- A snapshot comes back from its slot; the slot is built again of it: every snapshot. -/
import Derived.Test.YtkdaeleolomdkaaSnapEv
namespace Go.Proofs.Ytkdaeleolomdkaa.Pure
set_option linter.unusedVariables false
set_option linter.unusedSimpArgs false
open Go.RowKit Go.Proofs.Ytkdaeleolomdkaa.S Go.Proofs.YtkdaeleolomdkaaW.PrintWords Go.Proofs.YtkdaeleolomdkaaW.PrintLast SnapEv
theorem SnapBack (e s : Int) (l : List Int) (ho : octs l) (hl : l.length ≤ 140737488351232) : ∃ n, fanlightlaw07_SnapBack.f n e s l = some true := by
  apply Ev.rounds
  unfold fanlightlaw07_SnapBack.f
  have ha : fanlightlaw07_alive.f = some true := rfl
  simp only [ha, Option.bind_some, if_true, of_is (show l.length < 140737488355328 by omega)]
  by_cases h : May e s l
  · simp only [enc_good h, Option.bind_some, fanlightlaw07_num.f, if_true]
    refine Ev.bind (dec_good h ho) ?_
    simp only [enc_good h, Option.bind_some, same_is, bytes_is, if_true, if_pos (show wrap64 (0 + 0) = 0 by unfold wrap64; omega)]
    exact Ev.now _
  · obtain ⟨z, hz, he⟩ := enc_bad h
    obtain ⟨y, hy, hc⟩ := ref_check e s l h
    simp only [he, Option.bind_some, fanlightlaw07_num.f, if_neg hz, List.length_nil]
    simp only [if_pos (show ((0 : Nat) : Int) = 0 from rfl)]
    refine Ev.bind hc ?_
    simp only [bne_iff_ne.mpr hy]
    exact Ev.now _
end Go.Proofs.Ytkdaeleolomdkaa.Pure
