/- What the print's words and the walks are, as far as this claim names them. -/
import Derived.Test.YtloocmeckpoflaaGreatYTreeFit
import Derived.Test.YtloocmeckpoflaaGreatYD31
namespace Go.Proofs.YtloocmeckpoflaaGreat.TreeTx
set_option linter.unusedVariables false
set_option linter.unusedSimpArgs false
open Go.RowKit Go.Proofs.YtloocmeckpoflaaGreat.D Go.Proofs.YtloocmeckpoflaaGreatW.PrintWords Go.Proofs.YtloocmeckpoflaaGreatW.PrintLast Go.Proofs.YtloocmeckpoflaaGreatW.PrintMore TreeMath TreePr TreeFit
theorem cat_bytes (l : List TX) : bytesOf (cat l) = l.flatMap fun x => bytesOf x.1 := by
 have : ∀ (l : List TX) (s : ByteArray), bytesOf (l.foldl (fun s x => s ++ x.1) s) = bytesOf s ++ l.flatMap fun x => bytesOf x.1 := by
  intro l
  induction l with
  | nil => intro s; simp
  | cons x l ih => intro s; rw [List.foldl_cons, ih, bytes_append, List.flatMap_cons, List.append_assoc]
 unfold cat
 rw [this]
 rfl
theorem cat_append (a b : List TX) : cat (a ++ b) = cat a ++ cat b := bytes_inj (by rw [bytes_append, cat_bytes, cat_bytes, cat_bytes, List.flatMap_append])
theorem texT_len (t : Tr) : ((texT t).length : Int) = cntT t := by
 refine treeInd (p := fun t => ((texT t).length : Int) = cntT t) ?_ t
 intro t ih
 have : ∀ l : List Tr, (∀ x ∈ l, x ∈ t.f4) → ((texL l).length : Int) = cntL l := by
  intro l
  induction l with
  | nil => intro _; rw [texL, cntL]; rfl
  | cons x xs ihl =>
   intro hx
   have h1 := ih x (hx x (by simp))
   have h2 := ihl (fun y hy => hx y (by simp [hy]))
   rw [texL, cntL, List.length_append]
   omega
 have h := this t.f4 (fun x hx => hx)
 rw [texT_eq, cntT_eq, List.length_cons]
 omega
theorem texts_may {t : Tr} (h : May t) (hok : okL t.f4 = true) : tree_Texts.f t.f0 t.f1 t.f2 t.f3 t.f4 = some (cat (texT t), 0) := by
 have h1 := (may_fits h).1
 have h2 := texT_len t
 have h3 := may_cnt h
 have h4 : (texT t).length ≤ 1000000 := by omega
 unfold tree_Texts.f tree_Check.f
 rw [size_f hok, sizeR_may h]
 simp only [Option.bind_some, if_true]
 cases t
 exact if_pos ⟨h1, h4⟩
theorem texts_not {t : Tr} (h : ¬ May t) (hok : okL t.f4 = true) : tree_Texts.f t.f0 t.f1 t.f2 t.f3 t.f4 = some (⟨#[]⟩, (sizeR t).2.2) := by
 obtain ⟨_, _, h3⟩ := sizeR_not h
 unfold tree_Texts.f tree_Check.f
 rw [size_f hok]
 simp only [Option.bind_some]
 rw [if_neg h3]
end Go.Proofs.YtloocmeckpoflaaGreat.TreeTx
