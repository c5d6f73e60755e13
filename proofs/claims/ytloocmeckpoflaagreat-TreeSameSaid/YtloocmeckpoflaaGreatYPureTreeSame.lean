/- What the print's words and the walks are, as far as this claim names them. -/
import Derived.Test.YtloocmeckpoflaaGreatYTreeBig
import Derived.Test.YtloocmeckpoflaaGreatYTreeAl
import Derived.Test.YtloocmeckpoflaaGreatYTreeEv
import Derived.Test.YtloocmeckpoflaaGreatYD27
namespace Go.Proofs.YtloocmeckpoflaaGreat.PureSame
set_option linter.unusedVariables false
set_option linter.unusedSimpArgs false
open Go.RowKit Go.Proofs.YtloocmeckpoflaaGreat.D Go.Proofs.YtloocmeckpoflaaGreatW.PrintWords Go.Proofs.YtloocmeckpoflaaGreatW.PrintLast Go.Proofs.YtloocmeckpoflaaGreatW.PrintMore TreeMath TreePr TreeFit TreeRef TreeAl TreeBig TreeWide TreeEv
theorem TreeSame (t u : Tr) (ht : okL t.f4 = true) (hu : okL u.f4 = true) (bt : bigT t = true) (bu : bigT u = true) : ∃ k, fanlightlaw09_TreeSame.f k t.f0 t.f1 t.f2 t.f3 t.f4 u.f0 u.f1 u.f2 u.f3 u.f4 = some true := by
 refine Ev.rounds ?_
 unfold fanlightlaw09_TreeSame.f
 refine Ev.bind (copy_is t bt) ?_
 refine Ev.bind (copy_is u bu) ?_
 refine Ev.bind (check_ref t) ?_
 simp only [same_prog ht hu, Option.bind_some]
 refine Ev.bind (same_ref t u) ?_
 simp only [beq_self_eq_true, if_true]
 refine Ev.bind (copy_is t bt) ?_
 simp only [same_prog ht ht, Option.bind_some]
 have e : (sameB t t == ((sizeR t).2.2 == 0)) = true := by
  unfold sameB
  rw [eqT_refl, Bool.and_true, Bool.and_self, beq_iff_eq, Bool.eq_iff_iff, decide_eq_true_eq, beq_iff_eq]
 simp only [e, if_true]
 refine Ev.bind (same_refl t bt) ?_
 simp only [if_true]
 refine Ev.bind (same_refl u bu) ?_
 simp only [if_true, alive_is, Option.bind_some]
 exact Ev.now _
end Go.Proofs.YtloocmeckpoflaaGreat.PureSame
