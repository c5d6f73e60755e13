/- What the print's words and the walks are, as far as this claim names them. -/
import Derived.Test.YtloocmeckpoflaaGreatYTreeMath
import Derived.Test.YtloocmeckpoflaaGreatYTreeWide
import Derived.Test.YtloocmeckpoflaaGreatYD2
import Derived.Test.YtloocmeckpoflaaGreatYD5
import Derived.Test.YtloocmeckpoflaaGreatYD6
namespace Go.Proofs.YtloocmeckpoflaaGreat.TreeBig
set_option linter.unusedVariables false
set_option linter.unusedSimpArgs false
open Go.RowKit Go.Proofs.YtloocmeckpoflaaGreat.D Go.Proofs.YtloocmeckpoflaaGreatW.PrintWords Go.Proofs.YtloocmeckpoflaaGreatW.PrintLast Go.Proofs.YtloocmeckpoflaaGreatW.PrintMore TreeMath TreeWide
theorem rdT_b {l pre ts : List Tr} {x : Tr} (h : l = pre ++ x :: ts) : rd_T25 l (pre.length : Int) = x := by
 unfold rd_T25
 rw [Int.toNat_natCast, h, List.getD_eq_getElem?_getD, List.getElem?_append_right (Nat.le_refl _), Nat.sub_self]
 rfl
theorem rdA_b {l pre ts : List S91} {x : S91} (h : l = pre ++ x :: ts) : rd_T91 l (pre.length : Int) = x := by
 unfold rd_T91
 rw [Int.toNat_natCast, h, List.getD_eq_getElem?_getD, List.getElem?_append_right (Nat.le_refl _), Nat.sub_self]
 rfl
theorem wB {n : Nat} (h : n ≤ 140737488355328) : wrap64 ((n : Int) + 1) = ((n + 1 : Nat) : Int) := by unfold wrap64; omega
theorem copy_is (t : Tr) : bigT t = true → Ev (fun k => fanlightplain_CopyTree.f k t.f0 t.f1 t.f2 t.f3 t.f4) (t.f0, t.f1, t.f2, t.f3, t.f4) := by
 refine treeInd (p := fun t => bigT t = true → Ev (fun k => fanlightplain_CopyTree.f k t.f0 t.f1 t.f2 t.f3 t.f4) (t.f0, t.f1, t.f2, t.f3, t.f4)) ?_ t
 intro t ih hb
 obtain ⟨b3, b4, bl⟩ := big_parts hb
 have hl : ∀ (rest pre : List Tr), t.f4 = pre ++ rest → Ev (fun k => fanlightplain_CopyTree.l0 k pre (pre.length : Int) t.f0 t.f1 t.f2 t.f3 t.f4) (t.f0, t.f1, t.f2, t.f3, t.f4) := by
  intro rest
  induction rest with
  | nil =>
   intro pre h
   rw [List.append_nil] at h
   refine Ev.step (fun k => rfl) ?_
   subst h
   have c1 : ¬ (t.f4.length : Int) < (t.f4.length : Int) := by omega
   have c2 : ([] : List S91).length + t.f3.length < 4398046511104 := by show 0 + t.f3.length < _; omega
   simp only [fanlightplain_CopyTree.l0, if_neg c1, if_pos c2, List.nil_append]
   exact Ev.now _
  | cons x rest ihr =>
   intro pre h
   have hlen : t.f4.length = pre.length + 1 + rest.length := by rw [h]; simp; omega
   have hx := rdT_b h
   have hxm : x ∈ t.f4 := by rw [h]; simp
   have c1 : (pre.length : Int) < (t.f4.length : Int) := by omega
   have c2 : (0 : Int) ≤ (pre.length : Int) := by omega
   have c3 : pre.length < 1466015503701 := by omega
   have hnext := ihr (pre ++ [x]) (by rw [h]; simp)
   rw [List.length_append, List.length_singleton] at hnext
   refine Ev.step (fun k => rfl) ?_
   have hw := wB (n := pre.length) (by omega)
   simp only [fanlightplain_CopyTree.l0, if_pos c1, if_pos c2, hx, hw]
   refine Ev.bind (ih x hxm (bigL_mem bl hxm)) ?_
   simp only [if_pos c3]
   cases x
   exact hnext
 refine Ev.step (fun k => rfl) ?_
 simp only [fanlightplain_CopyTree.f]
 exact hl t.f4 [] rfl
theorem sameA_refl (f : List S91) (hb : f.length * 32 ≤ 140737488351232) : Ev (fun k => fanlightplain_SameAttrs.f k f f) true := by
 have hl : ∀ (rest pre : List S91), f = pre ++ rest → Ev (fun k => fanlightplain_SameAttrs.l0 k f f (pre.length : Int)) true := by
  intro rest
  induction rest with
  | nil =>
   intro pre h
   rw [List.append_nil] at h
   refine Ev.step (fun k => rfl) ?_
   have c1 : ¬ (pre.length : Int) < (f.length : Int) := by rw [h]; omega
   simp only [fanlightplain_SameAttrs.l0, if_neg c1]
   exact Ev.now _
  | cons x rest ihr =>
   intro pre h
   have hlen : f.length = pre.length + 1 + rest.length := by rw [h]; simp; omega
   have hx := rdA_b h
   have c1 : (pre.length : Int) < (f.length : Int) := by omega
   have c2 : (0 : Int) ≤ (pre.length : Int) := by omega
   have hnext := ihr (pre ++ [x]) (by rw [h]; simp)
   rw [List.length_append, List.length_singleton] at hnext
   refine Ev.step (fun k => rfl) ?_
   have hw := wB (n := pre.length) (by omega)
   simp only [fanlightplain_SameAttrs.l0, if_pos c1, if_pos c2, hx, hw, beq_self_eq_true, Bool.not_true, Bool.or_false, Bool.false_eq_true, if_false]
   exact hnext
 unfold fanlightplain_SameAttrs.f
 simp only [if_true]
 exact hl f [] rfl
theorem same_refl (t : Tr) : bigT t = true → Ev (fun k => fanlightplain_SameTree.f k t.f0 t.f1 t.f2 t.f3 t.f4 t.f0 t.f1 t.f2 t.f3 t.f4) true := by
 refine treeInd (p := fun t => bigT t = true → Ev (fun k => fanlightplain_SameTree.f k t.f0 t.f1 t.f2 t.f3 t.f4 t.f0 t.f1 t.f2 t.f3 t.f4) true) ?_ t
 intro t ih hb
 obtain ⟨b3, b4, bl⟩ := big_parts hb
 have hl : ∀ (rest pre : List Tr), t.f4 = pre ++ rest → Ev (fun k => fanlightplain_SameTree.l0 k (pre.length : Int) t.f0 t.f1 t.f2 t.f3 t.f4 t.f0 t.f1 t.f2 t.f3 t.f4) true := by
  intro rest
  induction rest with
  | nil =>
   intro pre h
   rw [List.append_nil] at h
   refine Ev.step (fun k => rfl) ?_
   have c1 : ¬ (pre.length : Int) < (t.f4.length : Int) := by rw [h]; omega
   simp only [fanlightplain_SameTree.l0, if_neg c1]
   exact Ev.now _
  | cons x rest ihr =>
   intro pre h
   have hlen : t.f4.length = pre.length + 1 + rest.length := by rw [h]; simp; omega
   have hx := rdT_b h
   have hxm : x ∈ t.f4 := by rw [h]; simp
   have c1 : (pre.length : Int) < (t.f4.length : Int) := by omega
   have c2 : (0 : Int) ≤ (pre.length : Int) := by omega
   have hnext := ihr (pre ++ [x]) (by rw [h]; simp)
   rw [List.length_append, List.length_singleton] at hnext
   refine Ev.step (fun k => rfl) ?_
   have hw := wB (n := pre.length) (by omega)
   simp only [fanlightplain_SameTree.l0, if_pos c1, if_pos c2, hx, hw]
   refine Ev.bind (ih x hxm (bigL_mem bl hxm)) ?_
   simp only [if_true]
   exact hnext
 refine Ev.step (fun k => rfl) ?_
 simp only [fanlightplain_SameTree.f, if_true]
 refine Ev.bind (sameA_refl t.f3 b3) ?_
 simp only [if_true, bne_self_eq_false]
 refine Ev.step (fun k => rfl) ?_
 simp only [fanlightplain_SameTree.j0, Bool.false_eq_true, if_false]
 exact hl t.f4 [] rfl
end Go.Proofs.YtloocmeckpoflaaGreat.TreeBig
