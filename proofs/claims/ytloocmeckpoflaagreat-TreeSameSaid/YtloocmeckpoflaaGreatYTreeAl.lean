/- What the print's words and the walks are, as far as this claim names them. -/
import Derived.Test.YtloocmeckpoflaaGreatYTreeRef
import Derived.Test.YtloocmeckpoflaaGreatYD24
import Derived.Test.YtloocmeckpoflaaGreatYD25
import Derived.Test.YtloocmeckpoflaaGreatYD26
namespace Go.Proofs.YtloocmeckpoflaaGreat.TreeAl
set_option linter.unusedVariables false
set_option linter.unusedSimpArgs false
open Go.RowKit Go.Proofs.YtloocmeckpoflaaGreat.D Go.Proofs.YtloocmeckpoflaaGreatW.PrintWords Go.Proofs.YtloocmeckpoflaaGreatW.PrintLast Go.Proofs.YtloocmeckpoflaaGreatW.PrintMore TreeMath TreePr TreeFit TreeRef
theorem eqAs_refl : ∀ l : List S91, eqAs l l = true
 | [] => rfl
 | x :: xs => by rw [eqAs, eqA1, beq_self_eq_true, beq_self_eq_true, eqAs_refl xs]; rfl
theorem eqT_refl (t : Tr) : eqT t t = true := by
 refine treeInd (p := fun t => eqT t t = true) ?_ t
 intro t ih
 have : ∀ l : List Tr, (∀ x ∈ l, x ∈ t.f4) → eqL l l = true := by
  intro l
  induction l with
  | nil => intro _; rw [eqL]
  | cons x xs ihl => intro hx; rw [eqL, ih x (hx x (by simp)), ihl (fun y hy => hx y (by simp [hy]))]; rfl
 rw [eqT_eq, beq_self_eq_true, beq_self_eq_true, beq_self_eq_true, eqAs_refl, this t.f4 (fun _ h => h)]
 rfl
theorem nar_of_fit (t : Tr) : fitT t = true → narT t = true := by
 refine treeInd (p := fun t => fitT t = true → narT t = true) ?_ t
 intro t ih h
 have hp := fit_parts h
 have : ∀ l : List Tr, (∀ x ∈ l, x ∈ t.f4) → narL l = true := by
  intro l
  induction l with
  | nil => intro _; rw [narL]
  | cons x xs ihl =>
   intro hx
   rw [narL, ihl (fun y hy => hx y (by simp [hy])), Bool.and_true]
   refine ih x (hx x (by simp)) ?_
   obtain ⟨j, hj, e⟩ := List.mem_iff_getElem.1 (hx x (by simp))
   rw [← e]
   exact fitL_get t.f4 j hj hp.2.2.2.1
 have h4 := this t.f4 (fun _ h => h)
 obtain ⟨f0, f1, f2, f3, f4⟩ := t
 rw [narT, h4, decide_eq_true hp.2.2.2.2.1, decide_eq_true hp.2.2.2.2.2]
 rfl
theorem eqA_bool (x y : S91) : (!((x.f0.toList == y.f0.toList)) || (!((x.f1.toList == y.f1.toList)))) = !eqA1 x y := by
 unfold eqA1
 cases (x.f0.toList == y.f0.toList) <;> cases (x.f1.toList == y.f1.toList) <;> rfl
theorem sameA_ref (f g : List S91) (hf : f.length ≤ 1000) : Ev (fun k => fanlightref09_SameAttrs.f k f g) (eqAs f g) := by
 have hl : ∀ (a b pa pb : List S91), f = pa ++ a → g = pb ++ b → pa.length = pb.length → a.length = b.length → Ev (fun k => fanlightref09_SameAttrs.l0 k f g (pa.length : Int)) (eqAs a b) := by
  intro a
  induction a with
  | nil =>
   intro b pa pb h1 h2 h3 h4
   refine Ev.step (fun k => rfl) ?_
   have hlen : f.length = pa.length := by rw [h1]; simp
   have hb : b = [] := List.length_eq_zero_iff.1 h4.symm
   simp only [fanlightref09_SameAttrs.l0, if_neg (show ¬ (pa.length : Int) < (f.length : Int) by omega), hb, eqAs]
   exact Ev.now _
  | cons x a ih =>
   intro b pa pb h1 h2 h3 h4
   cases b with
   | nil => simp at h4
   | cons y b =>
    refine Ev.step (fun k => rfl) ?_
    have hlen : f.length = pa.length + 1 + a.length := by rw [h1]; simp; omega
    have hlen2 : g.length = pb.length + 1 + b.length := by rw [h2]; simp; omega
    have hx := rdA_at h1
    have hy := rdA_at h2
    rw [← h3] at hy
    have c1 : (pa.length : Int) < (f.length : Int) := by omega
    have c2 : (0 : Int) ≤ (pa.length : Int) := by omega
    have c3 : (pa.length : Int) < (g.length : Int) := by omega
    have hnext := ih b (pa ++ [x]) (pb ++ [y]) (by rw [h1]; simp) (by rw [h2]; simp) (by simp [h3]) (by simpa using h4)
    rw [List.length_append, List.length_singleton] at hnext
    have hw := wN (n := pa.length) (by omega)
    simp only [fanlightref09_SameAttrs.l0, if_pos c1, if_pos c2, if_pos c3, hx, hy, hw, eqA_bool, eqAs]
    cases eqA1 x y with
    | true => simp only [Bool.not_true, Bool.false_eq_true, if_false, Bool.true_and]; exact hnext
    | false => simp only [Bool.not_false, if_true, Bool.false_and]; exact Ev.now _
 unfold fanlightref09_SameAttrs.f
 by_cases h : f.length = g.length
 ·
  simp only [if_pos (show (f.length : Int) = (g.length : Int) by omega)]
  exact hl f g [] [] rfl rfl rfl h
 ·
  simp only [if_neg (show ¬ (f.length : Int) = (g.length : Int) by omega)]
  rw [eqAs_len f g h]
  exact Ev.now _
theorem alike_ref (t : Tr) : ∀ u : Tr, fitT t = true → Ev (fun k => fanlightref09_Alike.f k t.f0 t.f1 t.f2 t.f3 t.f4 u.f0 u.f1 u.f2 u.f3 u.f4) (eqT t u) := by
 refine treeInd (p := fun t => ∀ u : Tr, fitT t = true → Ev (fun k => fanlightref09_Alike.f k t.f0 t.f1 t.f2 t.f3 t.f4 u.f0 u.f1 u.f2 u.f3 u.f4) (eqT t u)) ?_ t
 intro t ih u hf
 have hp := fit_parts hf
 have hl : ∀ (a b pa pb : List Tr), t.f4 = pa ++ a → u.f4 = pb ++ b → pa.length = pb.length → a.length = b.length → Ev (fun k => fanlightref09_Alike.l0 k (pa.length : Int) t.f0 t.f1 t.f2 t.f3 t.f4 u.f0 u.f1 u.f2 u.f3 u.f4) (eqL a b) := by
  intro a
  induction a with
  | nil =>
   intro b pa pb h1 h2 h3 h4
   refine Ev.step (fun k => rfl) ?_
   have hlen : t.f4.length = pa.length := by rw [h1]; simp
   have hb : b = [] := List.length_eq_zero_iff.1 h4.symm
   rw [hb, eqL]
   simp only [fanlightref09_Alike.l0, if_neg (show ¬ (pa.length : Int) < (t.f4.length : Int) by omega)]
   exact Ev.now _
  | cons x a iha =>
   intro b pa pb h1 h2 h3 h4
   cases b with
   | nil => simp at h4
   | cons y b =>
    refine Ev.step (fun k => rfl) ?_
    have hlen : t.f4.length = pa.length + 1 + a.length := by rw [h1]; simp; omega
    have hlen2 : u.f4.length = pb.length + 1 + b.length := by rw [h2]; simp; omega
    have hl4 := hp.2.2.2.2.2
    have hx := rdT_at h1
    have hy := rdT_at h2
    have hxm : x ∈ t.f4 := by rw [h1]; simp
    have hfx : fitT x = true := by
     obtain ⟨j, hj, e⟩ := List.mem_iff_getElem.1 hxm
     rw [← e]
     exact fitL_get t.f4 j hj hp.2.2.2.1
    rw [← h3] at hy
    have c1 : (pa.length : Int) < (t.f4.length : Int) := by omega
    have c2 : (0 : Int) ≤ (pa.length : Int) := by omega
    have c3 : (pa.length : Int) < (u.f4.length : Int) := by omega
    have hnext := iha b (pa ++ [x]) (pb ++ [y]) (by rw [h1]; simp) (by rw [h2]; simp) (by simp [h3]) (by simpa using h4)
    rw [List.length_append, List.length_singleton] at hnext
    have hw := wN (n := pa.length) (by omega)
    rw [eqL]
    simp only [fanlightref09_Alike.l0, if_pos c1, if_pos c2, if_pos c3, hx, hy, hw]
    refine Ev.bind (ih x hxm y hfx) ?_
    cases eqT x y with
    | true => simp only [if_true, Bool.true_and]; exact hnext
    | false => simp only [Bool.false_eq_true, if_false, Bool.false_and]; exact Ev.now _
 have hj : Ev (fun k => fanlightref09_Alike.j0 k true t.f0 t.f1 t.f2 t.f3 t.f4 u.f0 u.f1 u.f2 u.f3 u.f4) false := by
  refine Ev.step (fun k => rfl) ?_
  simp only [fanlightref09_Alike.j0, if_true]
  exact Ev.now _
 rw [eqT_eq]
 refine Ev.step (fun k => rfl) ?_
 simp only [fanlightref09_Alike.f]
 by_cases c0 : t.f0.toList = u.f0.toList
 rotate_left
 ·
  rw [beq_eq_false_iff_ne.2 c0]
  simp only [if_neg c0, Bool.false_and]
  exact hj
 by_cases c1 : t.f1.toList = u.f1.toList
 rotate_left
 ·
  rw [beq_iff_eq.2 c0, beq_eq_false_iff_ne.2 c1]
  simp only [if_pos c0, if_neg c1, Bool.false_and, Bool.true_and]
  exact hj
 by_cases c2 : t.f2.toList = u.f2.toList
 rotate_left
 ·
  rw [beq_iff_eq.2 c0, beq_iff_eq.2 c1, beq_eq_false_iff_ne.2 c2]
  simp only [if_pos c0, if_pos c1, if_neg c2, Bool.false_and, Bool.true_and]
  exact hj
 rw [beq_iff_eq.2 c0, beq_iff_eq.2 c1, beq_iff_eq.2 c2]
 simp only [if_pos c0, if_pos c1, if_pos c2, Bool.true_and]
 refine Ev.bind (sameA_ref t.f3 u.f3 hp.2.2.2.2.1) ?_
 cases eqAs t.f3 u.f3 with
 | false => simp only [Bool.false_eq_true, if_false, Bool.false_and]; exact hj
 | true =>
  simp only [if_true, Bool.true_and]
  by_cases c4 : t.f4.length = u.f4.length
  ·
   have e : ((t.f4.length : Int) != (u.f4.length : Int)) = false := by rw [c4]; simp
   simp only [e]
   refine Ev.step (fun k => rfl) ?_
   simp only [fanlightref09_Alike.j0, Bool.false_eq_true, if_false]
   exact hl t.f4 u.f4 [] [] rfl rfl rfl c4
  ·
   have e : ((t.f4.length : Int) != (u.f4.length : Int)) = true := bne_iff_ne.2 (by omega)
   simp only [e, eqL_len t.f4 u.f4 c4]
   exact hj
theorem check_f {t : Tr} (hok : okL t.f4 = true) : tree_Check.f t.f0 t.f1 t.f2 t.f3 t.f4 = some (sizeR t).2.2 := by
 unfold tree_Check.f
 rw [size_f hok]
 rfl
def sameB (t u : Tr) : Bool := decide ((sizeR t).2.2 = 0) && (decide ((sizeR u).2.2 = 0) && eqT t u)
theorem may_of {t : Tr} (h : (sizeR t).2.2 = 0) : May t := by
 by_cases hm : May t
 ·
  exact hm
 ·
  exact absurd h (sizeR_not hm).2.2
theorem same_prog {t u : Tr} (ht : okL t.f4 = true) (hu : okL u.f4 = true) : tree_Same.f t.f0 t.f1 t.f2 t.f3 t.f4 u.f0 u.f1 u.f2 u.f3 u.f4 = some (sameB t u) := by
 unfold tree_Same.f sameB
 rw [check_f ht, check_f hu]
 simp only [Option.bind_some]
 by_cases h1 : (sizeR t).2.2 = 0
 ·
  rw [if_pos h1, decide_eq_true h1]
  by_cases h2 : (sizeR u).2.2 = 0
  ·
   rw [if_pos h2, decide_eq_true h2]
   have hn := nar_of_fit t (mayIn_fit t (may_of h1).2)
   have e : tree_Alike.f t.f0 t.f1 t.f2 t.f3 t.f4 u.f0 u.f1 u.f2 u.f3 u.f4 = some (eqT t u) := by
    unfold tree_Alike.f
    cases t
    cases u
    exact if_pos hn
   rw [e]
   rfl
  ·
   rw [if_neg h2, decide_eq_false h2]
   rfl
 ·
  rw [if_neg h1, decide_eq_false h1]
  rfl
theorem same_ref (t u : Tr) : Ev (fun k => fanlightref09_Same.f k t.f0 t.f1 t.f2 t.f3 t.f4 u.f0 u.f1 u.f2 u.f3 u.f4) (sameB t u) := by
 unfold fanlightref09_Same.f sameB
 refine Ev.bind (check_ref t) ?_
 by_cases h1 : (sizeR t).2.2 = 0
 ·
  simp only [if_pos h1, decide_eq_true h1, Bool.true_and]
  refine Ev.bind (check_ref u) ?_
  by_cases h2 : (sizeR u).2.2 = 0
  ·
   simp only [if_pos h2, decide_eq_true h2, Bool.true_and]
   exact Ev.bind (alike_ref t u (mayIn_fit t (may_of h1).2)) (Ev.now _)
  ·
   simp only [if_neg h2, decide_eq_false h2, Bool.false_and]
   exact Ev.now _
 ·
  simp only [if_neg h1, decide_eq_false h1, Bool.false_and]
  exact Ev.now _
end Go.Proofs.YtloocmeckpoflaaGreat.TreeAl
