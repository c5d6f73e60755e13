/- Of two whole slots the one with the greater epoch is told; of one epoch the first: every two snapshots. -/
import Derived.Test.YtkdaeleolomdkaaSnapEv
import Derived.Test.YtkdaeleolomdkaaS17
namespace Go.Proofs.Ytkdaeleolomdkaa.Pure
set_option linter.unusedVariables false
set_option linter.unusedSimpArgs false
open Go.RowKit Go.Proofs.Ytkdaeleolomdkaa.S Go.Proofs.YtkdaeleolomdkaaW.PrintWords Go.Proofs.YtkdaeleolomdkaaW.PrintLast SnapEv
theorem SnapNewest (e s : Int) (l : List Int) (e' s' : Int) (l' : List Int) (ho : octs l) (hl : l.length ≤ 140737488351232) (ho' : octs l') (hl' : l'.length ≤ 140737488351232) : ∃ n, fanlightlaw07_SnapNewest.f n e s l e' s' l' = some true := by
  apply Ev.rounds
  unfold fanlightlaw07_SnapNewest.f
  have ha : fanlightlaw07_alive.f = some true := rfl
  simp only [ha, Option.bind_some, if_true, of_is (show l.length < 140737488355328 by omega), of_is (show l'.length < 140737488355328 by omega)]
  by_cases h : May e s l
  · by_cases h' : May e' s' l'
    · simp only [enc_good h, enc_good h', Option.bind_some, fanlightlaw07_num.f, if_true]
      refine Ev.step (fun k => rfl) ?_
      have hb : ((0 : Int) != 0) = false := rfl
      simp only [fanlightlaw07_SnapNewest.j0, hb, Bool.false_eq_true, if_false]
      have hN : Ev (fun k => snap_Newest.f k (slotOf e s l) (slotOf e' s' l')) (newS (e, s, l, 0) (e', s', l', 0)) := by
        unfold snap_Newest.f
        refine Ev.bind (dec_good h ho) ?_
        refine Ev.bind (dec_good h' ho') ?_
        exact Ev.now _
      refine Ev.bind hN ?_
      by_cases hlt : e' > e
      · have hv : newS (e, s, l, 0) (e', s', l', 0) = (e', s', l', 1, 0) := by
          unfold newS nst2 nst1
          simp [hlt]
        simp only [hv, fanlightlaw07_num.f, Option.bind_some, if_true, if_pos hlt, same_is]
        exact Ev.now _
      · have hv : newS (e, s, l, 0) (e', s', l', 0) = (e, s, l, 0, 0) := by
          have hlt2 : ¬ e < e' := hlt
          unfold newS nst2 nst1
          simp [hlt2]
        simp only [hv, fanlightlaw07_num.f, Option.bind_some, if_true, if_neg hlt, same_is]
        exact Ev.now _
    · obtain ⟨z, hz, he⟩ := enc_bad h'
      have hb : (z != 0) = true := bne_iff_ne.mpr hz
      simp only [enc_good h, he, Option.bind_some, fanlightlaw07_num.f, if_true, hb]
      refine Ev.step (fun k => rfl) ?_
      have n1 : ¬ ((slotOf e s l).length : Int) = 0 := by rw [slot_length e s l h.2.2.2.2]; decide
      simp only [fanlightlaw07_SnapNewest.j0, if_true, if_neg n1, List.length_nil]
      exact Ev.now _
  · obtain ⟨z, hz, he⟩ := enc_bad h
    have fin : ∀ (y : List Int) (z2 : Int), Ev (fun k => fanlightlaw07_SnapNewest.j0 k [] y true e s l e' s' l') true := fun y z2 => by
      refine Ev.step (fun k => rfl) ?_
      simp only [fanlightlaw07_SnapNewest.j0, if_true, List.length_nil]
      simp only [if_pos (show ((0 : Nat) : Int) = 0 from rfl)]
      exact Ev.now _
    by_cases h' : May e' s' l'
    · simp only [enc_good h', he, Option.bind_some, fanlightlaw07_num.f, if_neg hz]
      exact fin _ 0
    · obtain ⟨z', hz', he'⟩ := enc_bad h'
      simp only [he', he, Option.bind_some, fanlightlaw07_num.f, if_neg hz]
      exact fin _ 0
end Go.Proofs.Ytkdaeleolomdkaa.Pure
