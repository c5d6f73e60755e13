/- What is answered is its holder's: every snapshot. -/
import Derived.Test.YtkdaeleolomdkaaSnapEv
namespace Go.Proofs.Ytkdaeleolomdkaa.Pure
set_option linter.unusedVariables false
set_option linter.unusedSimpArgs false
open Go.RowKit Go.Proofs.Ytkdaeleolomdkaa.S Go.Proofs.YtkdaeleolomdkaaW.PrintWords Go.Proofs.YtkdaeleolomdkaaW.PrintLast SnapEv
theorem SnapOwn (e s : Int) (l : List Int) (ho : octs l) (hl : l.length ≤ 140737488351232) : ∃ n, fanlightlaw07_SnapOwn.f n e s l = some true := by
  apply Ev.rounds
  unfold fanlightlaw07_SnapOwn.f
  have ha : fanlightlaw07_alive.f = some true := rfl
  simp only [ha, Option.bind_some, if_true, of_is (show l.length < 140737488355328 by omega)]
  by_cases h : May e s l
  · simp only [enc_good h, Option.bind_some, fanlightlaw07_num.f, if_true]
    obtain ⟨r, hr⟩ := spoil_is l (by omega)
    obtain ⟨r2, hr2⟩ := spoil_is (slotOf e s l) (by rw [slot_length e s l h.2.2.2.2]; decide)
    refine Ev.bind hr ?_
    refine Ev.bind (dec_good h ho) ?_
    refine Ev.bind hr2 ?_
    simp only [same_is, Option.bind_some, if_true]
    exact Ev.now _
  · obtain ⟨z, hz, he⟩ := enc_bad h
    simp only [he, Option.bind_some, fanlightlaw07_num.f, if_neg hz, List.length_nil]
    exact Ev.now _
end Go.Proofs.Ytkdaeleolomdkaa.Pure
