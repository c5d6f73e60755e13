/- What the print's words and the walks are, as far as this claim names them. -/
import Derived.Test.YtloocmeckpoflaaYTreeCmp
import Derived.Test.YtloocmeckpoflaaYTreeEv
import Derived.Test.YtloocmeckpoflaaYD22
namespace Go.Proofs.Ytloocmeckpoflaa.PurePrints
set_option linter.unusedVariables false
set_option linter.unusedSimpArgs false
open Go.RowKit Go.Proofs.Ytloocmeckpoflaa.D Go.Proofs.YtloocmeckpoflaaW.PrintWords Go.Proofs.YtloocmeckpoflaaW.PrintLast Go.Proofs.YtloocmeckpoflaaW.PrintMore TreeMath TreePr TreeFit TreeCmp TreeEv
open Classical in
theorem TreePrints (t u : Tr) (hok : okL t.f4 = true) (hou : okL u.f4 = true) : ∃ k, fanlightlaw09_TreePrints.f k t.f0 t.f1 t.f2 t.f3 t.f4 u.f0 u.f1 u.f2 u.f3 u.f4 = some true := by
 refine Ev.rounds ?_
 unfold fanlightlaw09_TreePrints.f
 rw [alive_is]
 simp only [Option.bind_some, if_true, fanlightlaw09_num.f]
 by_cases ht : May t
 ·
  rw [print_may ht hok]
  by_cases hu : May u
  ·
   rw [print_may hu hou]
   simp only [Option.bind_some, if_true, bne_self_eq_false]
   refine Ev.step (fun k => rfl) ?_
   simp only [fanlightlaw09_TreePrints.j0, Bool.false_eq_true, if_false]
   refine Ev.bind (loose_is t (may_fits ht).1) ?_
   cases h1 : looT t with
   | true => simp only [if_true]; exact Ev.now _
   | false =>
    simp only [Bool.false_eq_true, if_false]
    refine Ev.bind (loose_is u (may_fits hu).1) ?_
    cases h2 : looT u with
    | true => simp only [if_true]; exact Ev.now _
    | false =>
     simp only [Bool.false_eq_true, if_false]
     refine Ev.bind (named_is t (may_fits ht).1) ?_
     cases h3 : namT t with
     | true => simp only [if_true]; exact Ev.now _
     | false =>
      simp only [Bool.false_eq_true, if_false]
      refine Ev.bind (named_is u (may_fits hu).1) ?_
      cases h4 : namT u with
      | true => simp only [if_true]; exact Ev.now _
      | false =>
       simp only [Bool.false_eq_true, if_false]
       refine Ev.bind (same_is t u (may_fits ht).1) ?_
       have e : ((prS t).toList == (prS u).toList) = decide (t = u) := by
        rw [Bool.eq_iff_iff, beq_iff_eq, decide_eq_true_eq, toList_iff]
        refine ⟨fun h => ?_, fun h => by rw [h]⟩
        exact print_inj (good_of t ht.2 h1 h3 (fun h => by rw [show isT t = false from ht.1] at h; cases h)) (good_of u hu.2 h2 h4 (fun h => by rw [show isT u = false from hu.1] at h; cases h)) ht.1 hu.1 h
       rw [e]
       simp only [beq_self_eq_true]
       exact Ev.now _
  ·
   obtain ⟨e, he, hp⟩ := print_not hu hou
   rw [hp]
   simp only [Option.bind_some, if_true]
   rw [show (e != 0) = true from bne_iff_ne.2 he]
   refine Ev.step (fun k => rfl) ?_
   simp only [fanlightlaw09_TreePrints.j0, if_true]
   by_cases hz : (prS t).toList = ([] : List UInt8)
   ·
    simp only [if_pos hz]; exact Ev.now _
   ·
    simp only [if_neg hz]
    rw [show ((⟨#[]⟩ : ByteArray).toList == ([] : List UInt8)) = true from by rw [ByteArray.toList_eq]; rfl]
    exact Ev.now _
 ·
  obtain ⟨e, he, hp⟩ := print_not ht hok
  have hu : ∃ z, tree_Print.f u.f0 u.f1 u.f2 u.f3 u.f4 = some z := by
   by_cases hu : May u
   ·
    exact ⟨_, print_may hu hou⟩
   ·
    obtain ⟨e, _, h⟩ := print_not hu hou
    exact ⟨_, h⟩
  obtain ⟨z, hz⟩ := hu
  rw [hp, hz]
  simp only [Option.bind_some, if_neg he]
  refine Ev.step (fun k => rfl) ?_
  simp only [fanlightlaw09_TreePrints.j0, if_true]
  simp only [if_pos (show (⟨#[]⟩ : ByteArray).toList = ([] : List UInt8) from by rw [ByteArray.toList_eq])]
  exact Ev.now _
end Go.Proofs.Ytloocmeckpoflaa.PurePrints
