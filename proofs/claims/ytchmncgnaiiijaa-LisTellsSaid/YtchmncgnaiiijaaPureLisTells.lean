/- Of any list the places of its longest rising part, how long that is, and the other places, are the page's; the list stays. -/
import Derived.Test.YtchmncgnaiiijaaP10
import Derived.Test.YtchmncgnaiiijaaLisEv2
namespace Go.Proofs.Ytchmncgnaiiijaa.Pure
set_option linter.unusedVariables false
set_option linter.unusedSimpArgs false
open Go.RowKit Go.Proofs.Ytchmncgnaiiijaa.P Go.Proofs.YtchmncgnaiiijaaW.PrintWords Go.Proofs.YtchmncgnaiiijaaW.PrintLast LisMath LisEv

theorem wrapM (i : Nat) (h : i ≤ 1000000) : wrap64 ((i : Int) - 1) = (i : Int) - 1 := wrapI (by omega) (by omega)
/-! two lists that are one -/
theorem same_l0 (l : List Int) (hl : l.length ≤ 35184372088832) : ∀ (d i : Nat), l.length - i = d → i ≤ l.length → Ev (fun k => fanlightplain_SameInts.l0 k l l i) true
  | 0, i, hd, hi => by
    refine Ev.step (fun k => rfl) ?_
    have n1 : ¬ (i : Int) < l.length := by omega
    simp only [fanlightplain_SameInts.l0, if_neg n1]
    exact Ev.now _
  | d + 1, i, hd, hi => by
    refine Ev.step (fun k => rfl) ?_
    have g1 : (i : Int) < l.length := by omega
    have g2 : 0 ≤ (i : Int) := by omega
    have next := same_l0 l hl d (i + 1) (by omega) (by omega)
    have g3 : wrap64 ((i : Int) + 1) = ((i + 1 : Nat) : Int) := by rw [wrapI] <;> omega
    simp only [fanlightplain_SameInts.l0, if_pos g1, if_pos g2, if_true, g3]
    exact next
theorem same_is (l : List Int) (hl : l.length ≤ 35184372088832) : Ev (fun k => fanlightplain_SameInts.f k l l) true := by
  unfold fanlightplain_SameInts.f
  simp only [if_true]
  exact same_l0 l hl l.length 0 (by omega) (by omega)

/-! the reference's lengths -/
/-- Behind a place the greatest length of a number above x, the places up to j being looked at. -/
theorem above_step (l ns : List Int) (x m : Int) (j : Nat) (hj : j < l.length) (hn : ns.length = l.length) : max m (above (l.drop j) (ns.drop j) x + 1) = max (if x < l.getD j 0 then max m (ns.getD j 0 + 1) else m) (above (l.drop (j + 1)) (ns.drop (j + 1)) x + 1) := by
  rw [List.drop_eq_getElem_cons hj, List.drop_eq_getElem_cons (show j < ns.length by omega)]
  have e1 : l.getD j 0 = l[j] := by simp [hj]
  have e2 : ns.getD j 0 = ns[j] := by simp [show j < ns.length by omega]
  rw [e1, e2]
  simp only [above]
  split <;> omega
theorem drop_set_lt {α : Type} (xs : List α) (i k : Nat) (v : α) (h : i < k) : (xs.set i v).drop k = xs.drop k := by
  apply List.ext_getElem?
  intro j
  rw [List.getElem?_drop, List.getElem?_drop, List.getElem?_set_ne (by omega)]
theorem from_l1 (l : List Int) (hl : l.length ≤ 256) (i : Nat) (hi : i < l.length) (R : List Int)
    (hend : ∀ ns : List Int, ns.length = l.length → ns.drop i = (lens l).drop i → Ev (fun k => fanlightref11_from.l0 k l ns (wrap64 ((i : Int) - 1))) R) : ∀ (d j : Nat) (ns : List Int), l.length - j = d → i < j → j ≤ l.length → ns.length = l.length → ns.drop (i + 1) = (lens l).drop (i + 1) →
    (lens l).getD i 0 = max (ns.getD i 0) (above (l.drop j) ((lens l).drop j) (l.getD i 0) + 1) → 1 ≤ ns.getD i 0 →
    Ev (fun k => fanlightref11_from.l1 k l ns i j) R
  | 0, j, ns, hd, hij, hj, hn, hrest, hv, h1 => by
    refine Ev.step (fun k => rfl) ?_
    have n1 : ¬ (j : Int) < l.length := by omega
    simp only [fanlightref11_from.l1, if_neg n1]
    refine hend ns hn ?_
    have hll := lens_length l
    rw [List.drop_eq_getElem_cons (show i < ns.length by omega), List.drop_eq_getElem_cons (show i < (lens l).length by omega), hrest]
    congr 1
    have e : l.drop j = [] := List.drop_eq_nil_of_le (by omega)
    rw [e] at hv
    have e1 : ns.getD i 0 = ns[i]'(by omega) := by simp [show i < ns.length by omega]
    have e2 : (lens l).getD i 0 = (lens l)[i]'(by omega) := by simp [show i < (lens l).length by omega]
    have e3 : above [] ((lens l).drop j) (l.getD i 0) = 0 := rfl
    rw [e3] at hv
    omega
  | d + 1, j, ns, hd, hij, hj, hn, hrest, hv, h1 => by
    have hll := lens_length l
    have g1 : (j : Int) < l.length := by omega
    have g2 : 0 ≤ (j : Int) := by omega
    have g3 : 0 ≤ (i : Int) := by omega
    have g4 : (i : Int) < (l.length : Int) := by omega
    have g5 : (i : Int) < (ns.length : Int) := by omega
    have g6 : (j : Int) < (ns.length : Int) := by omega
    have bj : j ≤ 1000000 := by omega
    have hnj : ns.getD j 0 = (lens l).getD j 0 := by
      have := congrArg (fun z : List Int => z.getD (j - (i + 1)) 0) hrest
      simp only [List.getD_eq_getElem?_getD, List.getElem?_drop] at this ⊢
      rwa [show i + 1 + (j - (i + 1)) = j by omega] at this
    have hnle : (lens l).getD j 0 ≤ 256 := by
      have := lens_le l ((lens l).getD j 0) (by rw [List.getD_eq_getElem?_getD, List.getElem?_eq_getElem (show j < (lens l).length by omega)]; exact List.getElem_mem _)
      omega
    have hnge : 1 ≤ (lens l).getD j 0 := lens_pos l _ (by rw [List.getD_eq_getElem?_getD, List.getElem?_eq_getElem (show j < (lens l).length by omega)]; exact List.getElem_mem _)
    rw [above_step l (lens l) (l.getD i 0) (ns.getD i 0) j (by omega) hll] at hv
    refine Ev.step (fun k => rfl) ?_
    simp only [fanlightref11_from.l1, if_pos g1, if_pos g2, if_pos g3, if_pos g4, if_pos g5, if_pos g6, rd_nat, Int.toNat_natCast, wrapS j bj]
    by_cases hx : l.getD j 0 > l.getD i 0
    · have hx' : l.getD i 0 < l.getD j 0 := hx
      simp only [if_pos hx]
      rw [if_pos hx'] at hv
      have hw : wrap64 (ns.getD j 0 + 1) = (lens l).getD j 0 + 1 := by rw [hnj]; exact wrapI (by omega) (by omega)
      rw [hw, mx_max]
      have eset : (ns.set i (max (ns.getD i 0) ((lens l).getD j 0 + 1))).getD i 0 = max (ns.getD i 0) ((lens l).getD j 0 + 1) := by simp [show i < ns.length by omega]
      exact from_l1 l hl i hi R hend d (j + 1) _ (by omega) (by omega) (by omega) (by simp [hn]) (by rw [drop_set_lt _ _ _ _ (by omega)]; exact hrest) (by rw [eset]; exact hv) (by rw [eset]; omega)
    · have hx' : ¬ l.getD i 0 < l.getD j 0 := hx
      simp only [if_neg hx]
      rw [if_neg hx'] at hv
      exact from_l1 l hl i hi R hend d (j + 1) ns (by omega) (by omega) (by omega) hn hrest hv h1
theorem lens_at (l : List Int) : ∀ i, i < l.length → (lens l).getD i 0 = above (l.drop (i + 1)) ((lens l).drop (i + 1)) (l.getD i 0) + 1 := by
  induction l with
  | nil => intro i h; simp at h
  | cons x xs ih =>
    intro i h
    cases i with
    | zero => simp [lens]
    | succ i =>
      have := ih i (by simpa using h)
      simpa [lens] using this
theorem from_l0 (l : List Int) (hl : l.length ≤ 256) : ∀ (i : Nat) (ns : List Int), i ≤ l.length → ns.length = l.length → ns.drop i = (lens l).drop i →
    Ev (fun k => fanlightref11_from.l0 k l ns ((i : Int) - 1)) (lens l)
  | 0, ns, hi, hn, hd => by
    refine Ev.step (fun k => rfl) ?_
    have n1 : ¬ (((0 : Nat) : Int) - 1) ≥ 0 := by omega
    simp only [fanlightref11_from.l0, if_neg n1]
    have : ns = lens l := by simpa using hd
    rw [this]
    exact Ev.now _
  | i + 1, ns, hi, hn, hd => by
    refine Ev.step (fun k => rfl) ?_
    have e : ((i + 1 : Nat) : Int) - 1 = (i : Int) := by omega
    rw [e]
    have g0 : (i : Int) ≥ 0 := by omega
    have g1 : (i : Int) < (ns.length : Int) := by omega
    have bi : i ≤ 1000000 := by omega
    have hat := lens_at l i (by omega)
    have hpos : 0 ≤ above (l.drop (i + 1)) ((lens l).drop (i + 1)) (l.getD i 0) := above_nonneg _ _ _
    have eset : (ns.set i 1).getD i 0 = 1 := by simp [show i < ns.length by omega]
    simp only [fanlightref11_from.l0, if_pos g0, if_pos g1, Int.toNat_natCast, wrapS i bi]
    refine from_l1 l hl i (by omega) (lens l) (fun ns' h1 h2 => ?_) (l.length - (i + 1)) (i + 1) (ns.set i 1) rfl (by omega) hi (by simp [hn]) (by rw [drop_set_lt _ _ _ _ (by omega)]; exact hd) (by rw [eset]; omega) (by rw [eset]; omega)
    rw [wrapM i bi]
    exact from_l0 l hl i ns' (by omega) h1 h2
theorem from_is (l : List Int) (hl : l.length ≤ 256) : Ev (fun k => fanlightref11_from.f k l) (lens l) := by
  unfold fanlightref11_from.f
  have g1 : 0 ≤ (l.length : Int) := by omega
  have g2 : l.length ≤ 35184372088832 := by omega
  simp only [if_pos g1, Int.toNat_natCast, if_pos g2, wrapM l.length (by omega)]
  exact from_l0 l hl l.length (List.replicate l.length 0) (Nat.le_refl _) (by simp) (by rw [List.drop_eq_nil_of_le (by simp), List.drop_eq_nil_of_le (by rw [lens_length]; omega)])

/-! the reference's choice -/
theorem refL_l1 (l : List Int) (hl : l.length ≤ 256) : ∀ (d i : Nat) (left : Int) (acc : List Int) (last : Option Int), l.length - i = d → i ≤ l.length →
    ((acc = [] ∧ last = none) ∨ ∃ (pre : List Int) (j : Nat), acc = pre ++ [(j : Int)] ∧ j < l.length ∧ last = some (l.getD j 0)) → acc.length ≤ i → 0 ≤ left → left ≤ 1000 →
    Ev (fun k => fanlightref11_Longest.l1 k l (lens l) left acc i) (acc ++ pick (l.drop i) ((lens l).drop i) i left last, 0)
  | 0, i, left, acc, last, hd, hi, ha, hal, hb1, hb2 => by
    refine Ev.step (fun k => rfl) ?_
    have hn : ¬ (i : Int) < l.length := by omega
    simp only [fanlightref11_Longest.l1, if_neg hn]
    refine Ev.step (fun k => rfl) ?_
    simp only [fanlightref11_Longest.j2, Bool.false_eq_true, if_false]
    have : l.drop i = [] := List.drop_eq_nil_of_le (by omega)
    rw [this]
    simp only [pick, List.append_nil]
    exact Ev.now _
  | d + 1, i, left, acc, last, hd, hi, ha, hal, hb1, hb2 => by
    have hll := lens_length l
    have hlt : i < l.length := by omega
    have hlt' : i < (lens l).length := by omega
    have h1 : (i : Int) < l.length := by omega
    have h1' : (i : Int) < (lens l).length := by omega
    have h2 : 0 ≤ (i : Int) := by omega
    have bi : i ≤ 1000000 := by omega
    have h5 : acc.length < 17592186044416 := by omega
    have en : rd (lens l) (i : Int) = (lens l)[i] := by rw [rd_nat]; simp [hlt']
    have ex : rd l (i : Int) = l[i] := by rw [rd_nat]; simp [hlt]
    have npos : 1 ≤ (lens l)[i] := lens_pos l _ (List.getElem_mem _)
    refine Ev.step (fun k => rfl) ?_
    simp only [fanlightref11_Longest.l1, if_pos h1]
    refine Ev.step (fun k => rfl) ?_
    simp only [fanlightref11_Longest.j2]
    have next := fun left' acc' last' a b c e => refL_l1 l hl d (i + 1) left' acc' last' (by omega) (by omega) a b c e
    rcases Int.lt_or_le 0 left with hp | hp
    · have hd0 : decide (left > 0) = true := decide_eq_true hp
      have h4 : wrap64 (left - 1) = left - 1 := wrapI (by omega) (by omega)
      rw [List.drop_eq_getElem_cons hlt, List.drop_eq_getElem_cons hlt']
      simp only [hd0, if_true, if_pos h2, if_pos h1', en, ex, if_pos h1, if_pos h5, h4, wrapS i bi, pick]
      rw [show ((i : Int) + 1) = ((i + 1 : Nat) : Int) by omega]
      by_cases hc : (lens l)[i] = left
      · simp only [if_pos hc]
        rcases ha with ⟨rfl, rfl⟩ | ⟨pre, j, rfl, hj, rfl⟩
        · have e0 : (((([] : List Int).length : Nat) : Int) = 0) := rfl
          simp only [if_pos e0]
          rw [if_pos ⟨hc, rfl⟩]
          exact next (left - 1) [(i : Int)] (some l[i]) (.inr ⟨[], i, rfl, hlt, by simp [hlt]⟩) (by simp) (by omega) (by omega)
        · have hw : wrap64 (((pre ++ [(j : Int)]).length : Int) - 1) = (pre.length : Int) := by
            have hL : (((pre ++ [(j : Int)]).length : Nat) : Int) - 1 = (pre.length : Int) := by simp
            simp at hal
            exact (congrArg wrap64 hL).trans (wrapI (by omega) (by omega))
          have hne : ¬ (((pre ++ [(j : Int)]).length : Nat) : Int) = 0 := by simp; omega
          have hr : rd (pre ++ [(j : Int)]) (pre.length : Int) = j := by rw [rd_nat]; simp
          have g1 : 0 ≤ (pre.length : Int) := by omega
          have g2 : (pre.length : Int) < ((pre ++ [(j : Int)]).length : Nat) := by simp; omega
          have g3 : 0 ≤ (j : Int) := by omega
          have g4 : (j : Int) < (l.length : Int) := by omega
          simp only [if_neg hne, hw, if_pos g1, if_pos g2, hr, if_pos g3, if_pos g4, rd_nat]
          by_cases hx : l[i] > l.getD j 0
          · simp only [if_pos hx]
            rw [if_pos ⟨hc, by simpa [okAfter] using hx⟩]
            have := next (left - 1) ((pre ++ [(j : Int)]) ++ [(i : Int)]) (some l[i]) (.inr ⟨pre ++ [(j : Int)], i, rfl, hlt, by simp [hlt]⟩) (by simp at hal ⊢; omega) (by omega) (by omega)
            simpa using this
          · simp only [if_neg hx]
            rw [if_neg (by rintro ⟨_, h⟩; simp [okAfter] at h; simp at hx; omega)]
            exact next left _ _ (.inr ⟨pre, j, rfl, hj, rfl⟩) (by simp at hal ⊢; omega) (by omega) (by omega)
      · simp only [if_neg hc]
        rw [if_neg (fun h => hc h.1)]
        exact next left acc last ha (by omega) (by omega) (by omega)
    · have hd0 : decide (left > 0) = false := decide_eq_false (by omega)
      simp only [hd0, Bool.false_eq_true, if_false]
      have key : ∀ (xs ns : List Int) (i : Int) (last : Option Int), (∀ n ∈ ns, 1 ≤ n) → pick xs ns i left last = [] := by
        intro xs
        induction xs with
        | nil => intro ns i last _; cases ns <;> simp [pick]
        | cons x xs ih =>
          intro ns i last hns
          cases ns with
          | nil => simp [pick]
          | cons n ns =>
            have := hns n List.mem_cons_self
            simp only [pick]
            rw [if_neg (by omega)]
            exact ih ns _ _ (fun m hm => hns m (List.mem_cons_of_mem _ hm))
      rw [key _ _ _ _ (fun n hn => lens_pos l n (List.mem_of_mem_drop hn)), List.append_nil]
      exact Ev.now _
theorem refL_l0 (l : List Int) (hl : l.length ≤ 256) : ∀ (d i : Nat) (m : Int), (lens l).length - i = d → i ≤ (lens l).length → 0 ≤ m → max m (most ((lens l).drop i)) = longN l →
    Ev (fun k => fanlightref11_Longest.l0 k l (lens l) m i) (places l, 0)
  | 0, i, m, hd, hi, hm, he => by
    refine Ev.step (fun k => rfl) ?_
    have hn : ¬ (i : Int) < (lens l).length := by omega
    simp only [fanlightref11_Longest.l0, if_neg hn]
    have : (lens l).drop i = [] := List.drop_eq_nil_of_le (by omega)
    rw [this] at he
    have hm' : m = longN l := by simp only [most] at he; omega
    subst hm'
    have hle := longN_le_length l
    have := refL_l1 l hl l.length 0 (longN l) [] none (by omega) (by omega) (.inl ⟨rfl, rfl⟩) (by simp) hm (by omega)
    exact this
  | d + 1, i, m, hd, hi, hm, he => by
    have hll := lens_length l
    refine Ev.step (fun k => rfl) ?_
    have hlt : i < (lens l).length := by omega
    have h1 : (i : Int) < (lens l).length := by omega
    have h2 : 0 ≤ (i : Int) := by omega
    have bi : i ≤ 1000000 := by omega
    simp only [fanlightref11_Longest.l0, if_pos h1, if_pos h2, wrapS i bi, rd_nat, mx_max]
    refine refL_l0 l hl d (i + 1) _ (by omega) (by omega) (by omega) ?_
    rw [← he, List.drop_eq_getElem_cons hlt]
    have : (lens l).getD i 0 = (lens l)[i] := by simp [hlt]
    rw [this]
    simp only [most]; omega
theorem refL_is {l : List Int} (hl : l.length ≤ 256) : Ev (fun k => fanlightref11_Longest.f k l) (places l, 0) := by
  unfold fanlightref11_Longest.f
  have n1 : ¬ (l.length : Int) > 256 := by omega
  simp only [if_neg n1]
  refine Ev.bind (from_is l hl) ?_
  have := most_nonneg (lens l)
  exact refL_l0 l hl (lens l).length 0 0 (by omega) (by omega) (by omega) (by simp [longN]; omega)
theorem refL_no {l : List Int} (hl : 256 < l.length) : Ev (fun k => fanlightref11_Longest.f k l) ([], 3) := by
  unfold fanlightref11_Longest.f
  have n1 : (l.length : Int) > 256 := by omega
  simp only [if_pos n1]
  exact Ev.now _
theorem refM_l0 (l p : List Int) (hl : l.length ≤ 256) : ∀ (d i : Nat) (ps qs acc : List Int), l.length - i = d → i ≤ l.length → p = ps ++ qs → acc.length ≤ i → ps.length ≤ i →
    Ev (fun k => fanlightref11_Moves.l0 k l p acc (ps.length : Int) i) (acc ++ rest qs i d, 0)
  | 0, i, ps, qs, acc, hd, hi, he, ha, hp => by
    refine Ev.step (fun k => rfl) ?_
    have hn : ¬ (i : Int) < l.length := by omega
    simp only [fanlightref11_Moves.l0, if_neg hn, rest, List.append_nil]
    exact Ev.now _
  | d + 1, i, ps, qs, acc, hd, hi, he, ha, hp => by
    refine Ev.step (fun k => rfl) ?_
    have h1 : (i : Int) < l.length := by omega
    have h2 : 0 ≤ (ps.length : Int) := by omega
    have bi : i ≤ 1000000 := by omega
    have bp : ps.length ≤ 1000000 := by omega
    have h5 : acc.length < 17592186044416 := by omega
    simp only [fanlightref11_Moves.l0, if_pos h1, if_pos h2, wrapS i bi, wrapS _ bp, if_pos h5]
    cases qs with
    | nil =>
      have n1 : ¬ (ps.length : Int) < (p.length : Int) := by rw [he]; simp
      simp only [if_neg n1, rest]
      have := refM_l0 l p hl d (i + 1) ps [] (acc ++ [(i : Int)]) (by omega) (by omega) he (by simp; omega) (by omega)
      simpa using this
    | cons q qs =>
      have n1 : (ps.length : Int) < (p.length : Int) := by rw [he]; simp; omega
      have hrd : rd p (ps.length : Int) = q := by rw [rd_nat, he]; simp
      simp only [if_pos n1, hrd, rest]
      by_cases hq : q = (i : Int)
      · simp only [if_pos hq]
        have := refM_l0 l p hl d (i + 1) (ps ++ [q]) qs acc (by omega) (by omega) (by rw [he]; simp) (by omega) (by simp; omega)
        simpa using this
      · simp only [if_neg hq]
        have := refM_l0 l p hl d (i + 1) ps (q :: qs) (acc ++ [(i : Int)]) (by omega) (by omega) he (by simp; omega) (by omega)
        simpa using this
theorem refM_is {l : List Int} (hl : l.length ≤ 256) : Ev (fun k => fanlightref11_Moves.f k l) (others l, 0) := by
  unfold fanlightref11_Moves.f
  refine Ev.bind (refL_is hl) ?_
  simp only [if_true]
  have := refM_l0 l (places l) hl l.length 0 [] (places l) [] (by omega) (by omega) (by simp) (by simp) (by simp)
  exact this
theorem refM_no {l : List Int} (hl : 256 < l.length) : Ev (fun k => fanlightref11_Moves.f k l) ([], 3) := by
  unfold fanlightref11_Moves.f
  refine Ev.bind (refL_no hl) ?_
  have : ¬ (3 : Int) = 0 := by omega
  simp only [if_neg this]
  exact Ev.now _

/-- The whole law, where both sides come to the same. -/
theorem tells_end (l P M : List Int) (e : Int) (hl : l.length * 8 ≤ 140737488351232) (hP : P.length ≤ 1000) (hM : M.length ≤ 1000)
    (a1 : Ev (fun k => lis_Longest.f k l) (P, e)) (a2 : Ev (fun k => fanlightref11_Longest.f k l) (P, e))
    (a3 : Ev (fun k => lis_Moves.f k l) (M, e)) (a4 : Ev (fun k => fanlightref11_Moves.f k l) (M, e)) : Ev (fun k => fanlightlaw11_LisTells.f k l) true := by
  have b1 : Ev (fun k => lis_Length.f k l) ((P.length : Int), e) := by unfold lis_Length.f; exact Ev.bind a1 (Ev.now _)
  have b2 : Ev (fun k => fanlightref11_Length.f k l) ((P.length : Int), e) := by unfold fanlightref11_Length.f; exact Ev.bind a2 (Ev.now _)
  have e2 : fanlightplain_CopyInts.f l = some l := by
    unfold fanlightplain_CopyInts.f
    rw [if_pos (by simp; omega)]; simp
  unfold fanlightlaw11_LisTells.f
  simp only [e2, Option.bind_some]
  refine Ev.bind a1 (Ev.bind a2 (Ev.bind b1 (Ev.bind b2 (Ev.bind a3 (Ev.bind a4 (Ev.bind (same_is P (by omega)) ?_))))))
  simp only [fanlightlaw11_num.f, Option.bind_some, if_true]
  refine Ev.bind (same_is M (by omega)) ?_
  simp only [if_true]
  refine Ev.bind (same_is l (by omega)) ?_
  simp only [if_true]
  exact Ev.bind alive_is (Ev.now _)
theorem LisTells : fanlightlaw11_LisTells.Pure := by
  intro l hl hb hw
  refine Ev.rounds ?_
  rcases Nat.lt_or_ge 256 l.length with h | h
  · exact tells_end l [] [] 3 hb (by simp) (by simp) (longest_no h) (refL_no h) (moves_no h) (refM_no h)
  · have ho := others_length l
    exact tells_end l (places l) (others l) 0 hb (by omega) (by omega) (longest_is h) (refL_is h) (moves_is h) (refM_is h)
end Go.Proofs.Ytchmncgnaiiijaa.Pure
