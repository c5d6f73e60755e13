/- What the print's words and the walks are, as far as this claim names them. -/
import Derived.Test.YtloocmeckpoflaaGreatYD12
namespace Go.Proofs.YtloocmeckpoflaaGreat.TreeMath
set_option linter.unusedVariables false
set_option linter.unusedSimpArgs false
open Go.RowKit Go.Proofs.YtloocmeckpoflaaGreat.D Go.Proofs.YtloocmeckpoflaaGreatW.PrintWords Go.Proofs.YtloocmeckpoflaaGreatW.PrintLast Go.Proofs.YtloocmeckpoflaaGreatW.PrintMore
abbrev Tr := S25
mutual
def cntT : Tr → Int
 | ⟨_, _, _, _, f4⟩ => 1 + cntL f4
def cntL : List Tr → Int
 | [] => 0
 | t :: ts => cntT t + cntL ts
end
mutual
def depT : Tr → Int
 | ⟨_, _, _, _, f4⟩ => 1 + depL f4
def depL : List Tr → Int
 | [] => 0
 | t :: ts => max (depT t) (depL ts)
end
theorem cntT_eq (t : Tr) : cntT t = 1 + cntL t.f4 := by cases t; rw [cntT]
theorem depT_eq (t : Tr) : depT t = 1 + depL t.f4 := by cases t; rw [depT]
theorem treeInd {p : Tr → Prop} (h : ∀ t : Tr, (∀ x ∈ t.f4, p x) → p t) (t : Tr) : p t := by
 have : ∀ m, ∀ t : Tr, SizeOf.sizeOf t < m → p t := by
  intro m
  induction m with
  | zero => intro t h; omega
  | succ m ih =>
   intro t ht
   refine h t fun x hx => ih x ?_
   obtain ⟨j, hj, rfl⟩ := List.mem_iff_getElem.1 hx
   have := kid_lt hj
   omega
 exact this _ t (Nat.lt_succ_self _)
theorem cnt_pos (t : Tr) : 1 ≤ cntT t := by
 refine treeInd (p := fun t => 1 ≤ cntT t) ?_ t
 intro t ih
 rw [cntT_eq]
 have : ∀ l : List Tr, (∀ x ∈ l, 1 ≤ cntT x) → 0 ≤ cntL l := by
  intro l
  induction l with
  | nil => intro _; rw [cntL]; omega
  | cons x xs ihl => intro h; rw [cntL]; have := ihl (fun y hy => h y (by simp [hy])); have := h x (by simp); omega
 have := this _ ih
 omega
theorem cntL_nn : ∀ l : List Tr, 0 ≤ cntL l
 | [] => by rw [cntL]; omega
 | x :: xs => by rw [cntL]; have := cnt_pos x; have := cntL_nn xs; omega
theorem depL_nn : ∀ l : List Tr, 0 ≤ depL l
 | [] => by rw [depL]; omega
 | x :: xs => by rw [depL]; have := depL_nn xs; omega
theorem dep_pos (t : Tr) : 1 ≤ depT t := by rw [depT_eq]; have := depL_nn t.f4; omega
def OkAt (t : Tr) : Prop := ∀ (level : Int) (st : Int × Int × Int), (walkT t level st).2.2 = 0 → st.2.2 = 0 ∧ nodeE st.1 t level = 0 ∧ walkT t level st = (st.1 + cntT t, max st.2.1 (level + depT t - 1), 0)
theorem walkL_ok : ∀ (l : List Tr), (∀ x ∈ l, OkAt x) → ∀ (level : Int) (st : Int × Int × Int), level - 1 ≤ st.2.1 → (walkL l level st).2.2 = 0 → st.2.2 = 0 ∧ walkL l level st = (st.1 + cntL l, max st.2.1 (level - 1 + depL l), 0)
 | [], _, level, st, hd, h => by
  obtain ⟨s0, s1, s2⟩ := st
  rw [walkL] at h ⊢
  rw [cntL, depL]
  simp only at h hd ⊢
  subst h
  refine ⟨rfl, ?_⟩
  rw [show max s1 (level - 1 + 0) = s1 by omega, Int.add_zero]
 | x :: xs, hx, level, st, hd, h => by
  rw [walkL] at h ⊢
  have hd2 : level - 1 ≤ (walkT x level st).2.1 ∨ (walkT x level st).2.2 ≠ 0 := by
   by_cases hz : (walkT x level st).2.2 = 0
   ·
    obtain ⟨_, _, e⟩ := hx x (by simp) level st hz
    rw [e]
    left
    simp only
    omega
   ·
    exact Or.inr hz
  by_cases hz : (walkT x level st).2.2 = 0
  ·
   obtain ⟨h1, _, e⟩ := hx x (by simp) level st hz
   have hd3 : level - 1 ≤ (walkT x level st).2.1 := by rcases hd2 with h | h; exact h; exact absurd hz h
   obtain ⟨_, h3⟩ := walkL_ok xs (fun y hy => hx y (by simp [hy])) level _ hd3 h
   refine ⟨h1, ?_⟩
   rw [h3, e, cntL, depL]
   simp only [Prod.mk.injEq, and_true]
   constructor <;> omega
  ·
   exfalso
   have : ∀ (l : List Tr) (st : Int × Int × Int), st.2.2 ≠ 0 → walkL l level st = st := by
    intro l
    induction l with
    | nil => intro st _; rw [walkL]
    | cons y ys ih => intro st hs; rw [walkL, walkT_eq, if_neg hs]; exact ih st hs
   rw [this xs _ hz] at h
   exact hz h
theorem walkT_ok (t : Tr) : OkAt t := by
 refine treeInd ?_ t
 intro t ih level st h
 rw [walkT_eq] at h ⊢
 by_cases h0 : st.2.2 = 0
 ·
  rw [if_pos h0] at h ⊢
  by_cases hn : nodeE st.1 t level = 0
  ·
   rw [if_pos hn] at h ⊢
   obtain ⟨_, e⟩ := walkL_ok t.f4 ih (level + 1) _ (by show level + 1 - 1 ≤ mx st.2.1 level; unfold mx; split <;> omega) h
   refine ⟨h0, hn, ?_⟩
   rw [e, cntT_eq, depT_eq]
   have := depL_nn t.f4
   simp only [Prod.mk.injEq, and_true]
   unfold mx
   split <;> constructor <;> omega
  ·
   rw [if_neg hn] at h
   exact absurd h hn
 ·
  rw [if_neg h0] at h
  exact absurd h h0
theorem nodeE_less {n n' level level' : Int} {t : Tr} (h : nodeE n t level = 0) (h1 : n' ≤ n) (h2 : level' ≤ level) (h3 : n ≤ 256) : nodeE n' t level' = 0 := by
 have hz := nodeE_zero h
 unfold nodeE at h ⊢
 rw [if_neg (by omega), if_neg hz.2.1] at h
 rw [if_neg (by omega), if_neg (by omega)]
 exact h
theorem walkT_less (t : Tr) : ∀ (level level' : Int) (st st' : Int × Int × Int), (walkT t level st).2.2 = 0 → level' ≤ level → st'.1 ≤ st.1 → st'.2.2 = 0 → 0 ≤ st.1 ∧ st.1 ≤ 256 → level' ≤ st'.2.1 + 1 → (walkT t level' st').2.2 = 0 := by
 refine treeInd (p := fun t => ∀ (level level' : Int) (st st' : Int × Int × Int), (walkT t level st).2.2 = 0 → level' ≤ level → st'.1 ≤ st.1 → st'.2.2 = 0 → 0 ≤ st.1 ∧ st.1 ≤ 256 → level' ≤ st'.2.1 + 1 → (walkT t level' st').2.2 = 0) ?_ t
 intro t ih level level' st st' h hl hs hz hr hd
 obtain ⟨h0, hn, _⟩ := walkT_ok t level st h
 rw [walkT_eq, if_pos h0, if_pos hn] at h
 rw [walkT_eq, if_pos hz, if_pos (nodeE_less hn hs hl hr.2)]
 have h256 := (nodeE_zero hn).2.1
 have : ∀ (l : List Tr), (∀ x ∈ l, x ∈ t.f4) → ∀ (st st' : Int × Int × Int), (walkL l (level + 1) st).2.2 = 0 → st'.1 ≤ st.1 → st'.2.2 = 0 → 0 ≤ st.1 ∧ st.1 ≤ 256 → level ≤ st.2.1 → level' ≤ st'.2.1 → (walkL l (level' + 1) st').2.2 = 0 := by
  intro l
  induction l with
  | nil => intro _ st st' _ _ hz _ _ _; rw [walkL]; exact hz
  | cons x xs ihl =>
   intro hm st st' h hs hz hr hd1 hd2
   rw [walkL] at h ⊢
   have hx : (walkT x (level + 1) st).2.2 = 0 := by
    by_cases hx : (walkT x (level + 1) st).2.2 = 0
    ·
     exact hx
    ·
     exfalso
     have : ∀ (l : List Tr) (st : Int × Int × Int), st.2.2 ≠ 0 → walkL l (level + 1) st = st := by
      intro l
      induction l with
      | nil => intro st _; rw [walkL]
      | cons y ys ih => intro st hs; rw [walkL, walkT_eq, if_neg hs]; exact ih st hs
     rw [this xs _ hx] at h
     exact hx h
   have hx' := ih x (hm x (by simp)) (level + 1) (level' + 1) st st' hx (by omega) hs hz hr (by omega)
   have e1 := (walkT_ok x _ _ hx).2.2
   have e2 := (walkT_ok x _ _ hx').2.2
   have hrg := walk_range _ x (Nat.lt_succ_self _) (level + 1) st hr
   have hp := dep_pos x
   refine ihl (fun y hy => hm y (by simp [hy])) _ _ h (by rw [e1, e2]; simp only; omega) hx' hrg (by rw [e1]; simp only; omega) (by rw [e2]; simp only; omega)
 refine this t.f4 (fun x hx => hx) _ _ h (by simp only; omega) rfl ⟨by simp only; omega, by simp only; omega⟩ ?_ ?_
 ·
  show level ≤ mx st.2.1 level
  unfold mx; split <;> omega
 ·
  show level' ≤ mx st'.2.1 level'
  unfold mx; split <;> omega
theorem walkL_each (level : Int) : ∀ (l : List Tr) (st : Int × Int × Int), (walkL l level st).2.2 = 0 → 0 ≤ st.1 ∧ st.1 ≤ 256 → level - 1 ≤ st.2.1 → ∀ (j : Nat) (h : j < l.length), ∃ st' : Int × Int × Int, (walkT l[j] level st').2.2 = 0 ∧ 0 ≤ st'.1 ∧ st'.1 ≤ 256
 | [], st, _, _, _, j, h => by simp at h
 | x :: xs, st, hw, hr, hd, j, h => by
  rw [walkL] at hw
  have hx : (walkT x level st).2.2 = 0 := by
   by_cases hx : (walkT x level st).2.2 = 0
   ·
    exact hx
   ·
    exfalso
    have : ∀ (l : List Tr) (st : Int × Int × Int), st.2.2 ≠ 0 → walkL l level st = st := by
     intro l
     induction l with
     | nil => intro st _; rw [walkL]
     | cons y ys ih => intro st hs; rw [walkL, walkT_eq, if_neg hs]; exact ih st hs
    rw [this xs _ hx] at hw
    exact hx hw
  cases j with
  | zero => exact ⟨st, hx, hr.1, hr.2⟩
  | succ j =>
   have e1 := (walkT_ok x _ _ hx).2.2
   have hp := dep_pos x
   have hrg := walk_range _ x (Nat.lt_succ_self _) level st hr
   exact walkL_each level xs _ hw hrg (by rw [e1]; simp only; omega) j (by simpa using h)
def May (t : Tr) : Prop := t.f0.toList.isEmpty = false ∧ (walkT t 1 (0, 0, 0)).2.2 = 0
theorem sizeR_may {t : Tr} (h : May t) : sizeR t = (cntT t, depT t, 0) := by
 have e := (walkT_ok t 1 (0, 0, 0) h.2).2.2
 have hp := dep_pos t
 unfold sizeR
 rw [if_neg (by rw [h.1]; decide), if_pos h.2, e]
 simp only [Prod.mk.injEq, and_true]
 constructor <;> omega
theorem sizeR_not {t : Tr} (h : ¬ May t) : (sizeR t).1 = 0 ∧ (sizeR t).2.1 = 0 ∧ (sizeR t).2.2 ≠ 0 := by
 unfold sizeR
 cases he : t.f0.toList.isEmpty with
 | true => rw [if_pos rfl]; exact ⟨rfl, rfl, by decide⟩
 | false =>
  rw [if_neg (by decide)]
  by_cases hw : (walkT t 1 (0, 0, 0)).2.2 = 0
  ·
   exact absurd ⟨he, hw⟩ h
  ·
   rw [if_neg hw]; exact ⟨rfl, rfl, hw⟩
theorem may_cnt {t : Tr} (h : May t) : cntT t ≤ 256 := by
 have e := (walkT_ok t 1 (0, 0, 0) h.2).2.2
 have := (walk_range _ t (Nat.lt_succ_self _) 1 (0, 0, 0) ⟨by decide, by decide⟩).2
 rw [e] at this
 simp only at this
 omega
def MayIn (t : Tr) : Prop := (walkT t 1 (0, 0, 0)).2.2 = 0
theorem emp_iff {s : ByteArray} : s.toList = ([] : List UInt8) ↔ s.toList.isEmpty = true := List.isEmpty_iff.symm
end Go.Proofs.YtloocmeckpoflaaGreat.TreeMath
