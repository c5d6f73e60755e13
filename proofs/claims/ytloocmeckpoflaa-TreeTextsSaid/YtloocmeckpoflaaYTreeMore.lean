/- What the print's words and the walks are, as far as this claim names them. -/
import Derived.Test.YtloocmeckpoflaaYTreeRef
import Derived.Test.YtloocmeckpoflaaYD28
namespace Go.Proofs.Ytloocmeckpoflaa.TreeMore
set_option linter.unusedVariables false
set_option linter.unusedSimpArgs false
open Go.RowKit Go.Proofs.Ytloocmeckpoflaa.D Go.Proofs.YtloocmeckpoflaaW.PrintWords Go.Proofs.YtloocmeckpoflaaW.PrintLast Go.Proofs.YtloocmeckpoflaaW.PrintMore TreeMath TreePr TreeFit TreeRef
theorem walkT_room (t : Tr) : ∀ (level level' : Int) (st st' : Int × Int × Int), (walkT t level st).2.2 = 0 → st'.2.2 = 0 → 0 ≤ st.1 → 0 ≤ st'.1 → st'.1 + cntT t ≤ 256 → level' + depT t ≤ 9 → (walkT t level' st').2.2 = 0 := by
 refine treeInd (p := fun t => ∀ (level level' : Int) (st st' : Int × Int × Int), (walkT t level st).2.2 = 0 → st'.2.2 = 0 → 0 ≤ st.1 → 0 ≤ st'.1 → st'.1 + cntT t ≤ 256 → level' + depT t ≤ 9 → (walkT t level' st').2.2 = 0) ?_ t
 intro t ih level level' st st' h hz h0 h0' hc hd
 obtain ⟨hs0, hn, _⟩ := walkT_ok t level st h
 have hp := cnt_pos t
 have hdp := dep_pos t
 rw [cntT_eq] at hc
 rw [depT_eq] at hd
 have hnn := cntL_nn t.f4
 have hdn := depL_nn t.f4
 rw [walkT_eq, if_pos hs0, if_pos hn] at h
 have hn' : nodeE st'.1 t level' = 0 := by
  have hz := nodeE_zero hn
  unfold nodeE at hn ⊢
  rw [if_neg (by omega), if_neg hz.2.1] at hn
  rw [if_neg (by omega), if_neg (by omega)]
  exact hn
 rw [walkT_eq, if_pos hz, if_pos hn']
 have key : ∀ (l : List Tr), (∀ x ∈ l, x ∈ t.f4) → ∀ (st st' : Int × Int × Int), (walkL l (level + 1) st).2.2 = 0 → st'.2.2 = 0 → 0 ≤ st.1 → 0 ≤ st'.1 → st'.1 + cntL l ≤ 256 → level' + 1 + depL l ≤ 9 → (walkL l (level' + 1) st').2.2 = 0 := by
  intro l
  induction l with
  | nil => intro _ st st' _ hz _ _ _ _; rw [walkL]; exact hz
  | cons x xs ihl =>
   intro hm st st' h hz h0 h0' hc hd
   rw [walkL] at h ⊢
   rw [cntL] at hc
   rw [depL] at hd
   have hx : (walkT x (level + 1) st).2.2 = 0 := by
    by_cases hx : (walkT x (level + 1) st).2.2 = 0
    ·
     exact hx
    ·
     rw [walkL_stop xs _ _ hx] at h
     exact absurd h hx
   have e := (walkT_ok x _ _ hx).2.2
   have hnx := cntL_nn xs
   have hpx := cnt_pos x
   have hx' := ih x (hm x (by simp)) (level + 1) (level' + 1) st st' hx hz h0 h0' (by omega) (by omega)
   have e' := (walkT_ok x _ _ hx').2.2
   exact ihl (fun y hy => hm y (by simp [hy])) _ _ h (by rw [e']) (by rw [e]; simp only; omega) (by rw [e']; simp only; omega) (by rw [e']; simp only; omega) (by omega)
 exact key t.f4 (fun x hx => hx) _ _ h rfl (by simp only; omega) (by simp only; omega) (by simp only; omega) (by omega)
theorem walkT_deep (t : Tr) : ∀ (level : Int) (st : Int × Int × Int), (walkT t level st).2.2 = 0 → level + depT t ≤ 9 := by
 refine treeInd (p := fun t => ∀ (level : Int) (st : Int × Int × Int), (walkT t level st).2.2 = 0 → level + depT t ≤ 9) ?_ t
 intro t ih level st h
 obtain ⟨hs0, hn, _⟩ := walkT_ok t level st h
 have hz := nodeE_zero hn
 rw [walkT_eq, if_pos hs0, if_pos hn] at h
 have key : ∀ (l : List Tr), (∀ x ∈ l, x ∈ t.f4) → ∀ (st : Int × Int × Int), (walkL l (level + 1) st).2.2 = 0 → l = [] ∨ level + 1 + depL l ≤ 9 := by
  intro l
  induction l with
  | nil => intro _ st _; exact Or.inl rfl
  | cons x xs ihl =>
   intro hm st h
   right
   rw [walkL] at h
   have hx : (walkT x (level + 1) st).2.2 = 0 := by
    by_cases hx : (walkT x (level + 1) st).2.2 = 0
    ·
     exact hx
    ·
     rw [walkL_stop xs _ _ hx] at h
     exact absurd h hx
   have h1 := ih x (hm x (by simp)) (level + 1) st hx
   have hpx := dep_pos x
   rw [depL]
   rcases ihl (fun y hy => hm y (by simp [hy])) _ h with rfl | h2
   ·
    rw [depL]; omega
   ·
    omega
 rw [depT_eq]
 rcases key t.f4 (fun x hx => hx) _ h with h1 | h1
 ·
  rw [h1, depL]; omega
 ·
  omega
end Go.Proofs.Ytloocmeckpoflaa.TreeMore
