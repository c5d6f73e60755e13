/- What the print's words and the walks are, as far as this claim names them. -/
import Derived.Test.YtloocmeckpoflaaGreatYTreeBig
import Derived.Test.YtloocmeckpoflaaGreatYTreeShow
import Derived.Test.YtloocmeckpoflaaGreatYTreeEv
import Derived.Test.YtloocmeckpoflaaGreatYD33
namespace Go.Proofs.YtloocmeckpoflaaGreat.PureTells
set_option linter.unusedVariables false
set_option linter.unusedSimpArgs false
open Go.RowKit Go.Proofs.YtloocmeckpoflaaGreat.D Go.Proofs.YtloocmeckpoflaaGreatW.PrintWords Go.Proofs.YtloocmeckpoflaaGreatW.PrintLast Go.Proofs.YtloocmeckpoflaaGreatW.PrintMore TreeMath TreePr TreeFit TreeRef TreeShow TreeBig TreeWide TreeEv
theorem TreeTells (t : Tr) (ht : okL t.f4 = true) (bt : bigT t = true) : ∃ k, fanlightlaw09_TreeTells.f k t.f0 t.f1 t.f2 t.f3 t.f4 = some true := by
 refine Ev.rounds ?_
 unfold fanlightlaw09_TreeTells.f
 refine Ev.bind (copy_is t bt) ?_
 simp only [size_f ht, Option.bind_some]
 refine Ev.bind (size_ref t) ?_
 simp only [print_prog ht, Option.bind_some]
 refine Ev.bind (print_ref t) ?_
 simp only [texts_prog ht, Option.bind_some]
 refine Ev.bind (texts_ref t) ?_
 simp only [check_prog ht, Option.bind_some, fanlightlaw09_num.f]
 refine Ev.bind (check_ref t) ?_
 simp only [if_true]
 refine Ev.bind (same_refl t bt) ?_
 simp only [if_true, alive_is, Option.bind_some]
 exact Ev.now _
end Go.Proofs.YtloocmeckpoflaaGreat.PureTells
