/- What the program's functions of layer 11 come to, said by the plain words. -/
import Derived.Test.YtchmncgnaiiijaaLisMath
import Derived.Test.YtchmncgnaiiijaaP5
namespace Go.Proofs.Ytchmncgnaiiijaa.LisEv
set_option linter.unusedVariables false
set_option linter.unusedSimpArgs false
open Go.RowKit Go.Proofs.Ytchmncgnaiiijaa.P Go.Proofs.YtchmncgnaiiijaaW.PrintWords Go.Proofs.YtchmncgnaiiijaaW.PrintLast LisMath

theorem wrapI {i : Int} (h0 : -9223372036854775808 ≤ i) (h1 : i ≤ 9223372036854775807) : wrap64 i = i := by unfold wrap64; omega

theorem wrapS (i : Nat) (h : i ≤ 1000000) : wrap64 ((i : Int) + 1) = ((i + 1 : Nat) : Int) := by rw [wrapI] <;> omega
theorem wrapP (i : Nat) (h : i ≤ 1000000) : wrap64 (((i + 1 : Nat) : Int) - 1) = (i : Int) := by rw [wrapI] <;> omega

/-! the lengths -/
theorem above_bs : ∀ (xs : List Int), Falls (lensOf xs).2 → True := fun _ _ => trivial
/-- What the greatest first numbers say of the lengths. -/
structure Heads (xs ns hs : List Int) : Prop where
  falls : Falls hs
  le : ∀ i, i < xs.length → 1 ≤ ns.getD i 0 ∧ (ns.getD i 0).toNat ≤ hs.length ∧ xs.getD i 0 ≤ hs.getD ((ns.getD i 0).toNat - 1) 0
  at_ : ∀ j, j < hs.length → ∃ i, i < xs.length ∧ (ns.getD i 0).toNat = j + 1 ∧ xs.getD i 0 = hs.getD j 0
theorem heads_bs {xs ns hs : List Int} (h : Heads xs ns hs) (hl : ns.length = xs.length) (x : Int) : (bsAt hs x : Int) = above xs ns x := by
  have hb := bsAt_le hs x
  apply Int.le_antisymm
  · rcases Nat.eq_zero_or_pos (bsAt hs x) with h0 | h0
    · rw [h0]; exact above_nonneg _ _ _
    · obtain ⟨i, h1, h2, h3⟩ := h.at_ (bsAt hs x - 1) (by omega)
      have hx : x < hs.getD (bsAt hs x - 1) 0 := bsAt_lo (by omega)
      have := above_ge xs ns x hl i h1 (by rw [h3]; exact hx)
      have := (h.le i h1).1
      omega
  · rcases Int.lt_or_le 0 (above xs ns x) with hp | hp
    · obtain ⟨i, h1, h2, h3⟩ := above_at xs ns x hl hp
      obtain ⟨l1, l2, l3⟩ := h.le i h1
      rcases Nat.lt_or_ge ((ns.getD i 0).toNat - 1) (bsAt hs x) with hq | hq
      · omega
      · have := bsAt_hi h.falls hq (by omega)
        omega
    · have := above_nonneg xs ns x; omega
theorem heads_of : ∀ l : List Int, (lensOf l).1 = lens l ∧ Heads l (lens l) (lensOf l).2
  | [] => ⟨rfl, ⟨trivial, fun i h => by simp at h, fun j h => by simp [lensOf] at h⟩⟩
  | x :: xs => by
    obtain ⟨ih1, ih2⟩ := heads_of xs
    have hb := heads_bs ih2 (lens_length xs) x
    have hn : (lensOf (x :: xs)).1 = lens (x :: xs) := by simp only [lensOf, lens]; rw [hb, ih1]
    refine ⟨hn, ?_⟩
    have hle := bsAt_le (lensOf xs).2 x
    obtain ⟨m, hm⟩ : ∃ m, bsAt (lensOf xs).2 x = m := ⟨_, rfl⟩
    have hfall := (Falls_putHead (x := x) ih2.falls).1
    obtain ⟨hs, hhs⟩ : ∃ hs, (lensOf xs).2 = hs := ⟨_, rfl⟩
    have hlo : ∀ j, j < m → x < hs.getD j 0 := fun j hj => by rw [← hhs]; exact bsAt_lo (by rw [hm]; exact hj)
    have hhi : ∀ j, m ≤ j → j < hs.length → hs.getD j 0 ≤ x := fun j hj hl => by rw [← hhs]; exact bsAt_hi ih2.falls (by rw [hm]; exact hj) (by rw [hhs]; exact hl)
    have e2 : (lensOf (x :: xs)).2 = if m = hs.length then hs ++ [x] else hs.set m x := by
      show putHead (lensOf xs).2 x = _
      unfold putHead
      rw [hm, hhs]
    have ea : above xs (lens xs) x = m := by rw [← hb, hm]
    have e3 : (lens (x :: xs)) = ((m : Int) + 1) :: lens xs := by simp only [lens]; rw [ea]
    rw [hhs] at ih2
    rw [hm, hhs] at hle
    -- the new heads: at m it is x, elsewhere as before
    have hnew : ∀ j, j < (if m = hs.length then hs ++ [x] else hs.set m x).length → (if m = hs.length then hs ++ [x] else hs.set m x).getD j 0 = if j = m then x else hs.getD j 0 := by
      intro j hj
      split at hj
      · rename_i hc
        rw [if_pos hc]
        by_cases hjm : j = m
        · subst hjm; rw [if_pos rfl, hc]; simp
        · rw [if_neg hjm]
          have : j < hs.length := by simp at hj; omega
          simp [List.getElem?_append_left this]
      · rename_i hc
        rw [if_neg hc]
        by_cases hjm : j = m
        · subst hjm; rw [if_pos rfl]; simp at hj; simp [hj]
        · rw [if_neg hjm]; simp [List.getElem?_set, Ne.symm hjm]
    have hlen : (if m = hs.length then hs ++ [x] else hs.set m x).length = if m = hs.length then hs.length + 1 else hs.length := by split <;> simp
    refine ⟨by rw [show (lensOf (x :: xs)).2 = putHead (lensOf xs).2 x from rfl]; exact hfall, fun i hi => ?_, fun j hj => ?_⟩
    · rw [e2, e3]
      cases i with
      | zero =>
        have hml : m < (if m = hs.length then hs ++ [x] else hs.set m x).length := by rw [hlen]; split <;> omega
        refine ⟨by simp; omega, by simp only [List.getD_cons_zero]; omega, ?_⟩
        have e : ((((m : Int) + 1) :: lens xs).getD 0 0).toNat - 1 = m := by simp only [List.getD_cons_zero]; omega
        rw [e, hnew m hml, if_pos rfl]; simp
      | succ i =>
        obtain ⟨l1, l2, l3⟩ := ih2.le i (by simpa using hi)
        rw [List.getD_cons_succ, List.getD_cons_succ]
        have hlt : ((lens xs).getD i 0).toNat - 1 < (if m = hs.length then hs ++ [x] else hs.set m x).length := by rw [hlen]; split <;> omega
        refine ⟨l1, by omega, ?_⟩
        rw [hnew _ hlt]
        split
        · rename_i hc
          have := hhi _ (by omega : m ≤ ((lens xs).getD i 0).toNat - 1) (by omega)
          omega
        · exact l3
    · rw [e2] at hj ⊢
      rw [hnew j hj, e3]
      by_cases hjm : j = m
      · exact ⟨0, by simp, by simp only [List.getD_cons_zero]; omega, by rw [if_pos hjm]; simp⟩
      · rw [if_neg hjm]
        have : j < hs.length := by rw [hlen] at hj; split at hj <;> omega
        obtain ⟨i, h1, h2, h3⟩ := ih2.at_ j this
        exact ⟨i + 1, by simp; exact h1, by rw [List.getD_cons_succ]; exact h2, by rw [List.getD_cons_succ]; exact h3⟩
theorem lengths_is {l : List Int} (h : l.length ≤ 256) : lis_lengths.f l = some (lens l) := by
  unfold lis_lengths.f
  rw [if_pos h, (heads_of l).1]

/-! the greatest -/
theorem rd_nat (l : List Int) (i : Nat) : rd l (i : Int) = l.getD i 0 := by simp [rd]
theorem mx_max (a b : Int) : mx a b = max a b := by unfold mx; split <;> omega
theorem max_l0 (l : List Int) (hl : l.length ≤ 1000000) : ∀ (d i : Nat) (m : Int), l.length - i = d → i ≤ l.length → 0 ≤ m → Ev (fun k => slices_Max_int_int.l0 k l m i) (max m (most (l.drop i)))
  | 0, i, m, hd, hi, hm => by
    refine Ev.step (fun k => rfl) ?_
    simp only [slices_Max_int_int.l0]
    have hn : ¬ (i : Int) < l.length := by omega
    simp only [if_neg hn]
    have : l.drop i = [] := List.drop_eq_nil_of_le (by omega)
    rw [this]
    have : max m (most []) = m := by simp only [most]; omega
    rw [this]
    exact Ev.now _
  | d + 1, i, m, hd, hi, hm => by
    refine Ev.step (fun k => rfl) ?_
    simp only [slices_Max_int_int.l0]
    have h1 : (i : Int) < l.length := by omega
    have h2 : 0 ≤ (i : Int) := by omega
    have h3 : wrap64 ((i : Int) + 1) = ((i + 1 : Nat) : Int) := by rw [wrapI] <;> omega
    simp only [if_pos h1, if_pos h2, h3]
    have hlt : i < l.length := by omega
    have := max_l0 l hl d (i + 1) (mx m (rd l i)) (by omega) (by omega) (by rw [mx_max]; omega)
    have e : max m (most (l.drop i)) = max (mx m (rd l i)) (most (l.drop (i + 1))) := by
      rw [List.drop_eq_getElem_cons hlt, mx_max, rd_nat]
      simp only [most]
      have : l.getD i 0 = l[i] := by simp [hlt]
      rw [this]; omega
    rw [e]
    exact this
theorem max_is {l : List Int} (hl : l.length ≤ 1000000) (h0 : 0 < l.length) (hp : ∀ n ∈ l, 1 ≤ n) : Ev (fun k => slices_Max_int_int.f k l) (most l) := by
  unfold slices_Max_int_int.f
  have n1 : ¬ (l.length : Int) < 1 := by omega
  have n2 : 0 < (l.length : Int) := by omega
  simp only [if_neg n1, if_pos n2]
  have hr : 1 ≤ rd l 0 := by
    have := rd_nat l 0
    rw [show ((0 : Nat) : Int) = 0 from rfl] at this
    rw [this, List.getD_eq_getElem?_getD, List.getElem?_eq_getElem h0]
    exact hp _ (List.getElem_mem _)
  have := max_l0 l hl (l.length - 1) 1 (rd l 0) (by omega) (by omega) (by omega)
  have e : max (rd l 0) (most (l.drop 1)) = most l := by
    cases l with
    | nil => simp at h0
    | cons x xs => simp [rd, most]
  rw [e] at this
  exact this

/-! the longest rising part -/
theorem longest_l0 (l ns : List Int) (hns : ns.length = l.length) (hl : l.length ≤ 256) : ∀ (d i : Nat) (left : Int) (acc : List Int) (last : Option Int), l.length - i = d → i ≤ l.length →
    ((acc = [] ∧ last = none) ∨ ∃ (pre : List Int) (j : Nat), acc = pre ++ [(j : Int)] ∧ j < l.length ∧ last = some (l.getD j 0)) → acc.length ≤ i → -1000 ≤ left - d → left ≤ 1000 →
    Ev (fun k => lis_Longest.l0 k l left acc ns (ns.length : Int) i) (acc ++ pick (l.drop i) (ns.drop i) i left last, 0)
  | 0, i, left, acc, last, hd, hi, ha, hal, hb1, hb2 => by
    refine Ev.step (fun k => rfl) ?_
    simp only [lis_Longest.l0]
    have hn : ¬ (i : Int) < ns.length := by omega
    simp only [if_neg hn]
    have : l.drop i = [] := List.drop_eq_nil_of_le (by omega)
    rw [this]
    simp only [pick, List.append_nil]
    exact Ev.now _
  | d + 1, i, left, acc, last, hd, hi, ha, hal, hb1, hb2 => by
    refine Ev.step (fun k => rfl) ?_
    simp only [lis_Longest.l0]
    have hlt : i < l.length := by omega
    have hlt' : i < ns.length := by omega
    have h1 : (i : Int) < ns.length := by omega
    have h2 : 0 ≤ (i : Int) := by omega
    have h1' : (i : Int) < l.length := by omega
    have h3 : wrap64 ((i : Int) + 1) = ((i + 1 : Nat) : Int) := by rw [wrapI] <;> omega
    have h4 : wrap64 (left - 1) = left - 1 := by rw [wrapI] <;> omega
    have h5 : acc.length < 17592186044416 := by omega
    have en : rd ns (i : Int) = ns[i] := by rw [rd_nat]; simp [hlt']
    have ex : rd l (i : Int) = l[i] := by rw [rd_nat]; simp [hlt]
    rw [List.drop_eq_getElem_cons hlt, List.drop_eq_getElem_cons hlt']
    simp only [if_pos h1, if_pos h2, h3, h4, if_pos h5, en, ex, if_pos h1', pick]
    have next := fun left' acc' last' a b c e => longest_l0 l ns hns hl d (i + 1) left' acc' last' (by omega) (by omega) a b c e
    rw [show ((i : Int) + 1) = ((i + 1 : Nat) : Int) by omega]
    by_cases hc : ns[i] = left
    · simp only [if_pos hc]
      rcases ha with ⟨rfl, rfl⟩ | ⟨pre, j, rfl, hj, rfl⟩
      · simp only [List.length_nil, List.nil_append]
        rw [if_pos ⟨hc, rfl⟩]
        exact next (left - 1) [(i : Int)] (some l[i]) (.inr ⟨[], i, rfl, hlt, by simp [hlt]⟩) (by simp) (by omega) (by omega)
      · have hL : (((pre ++ [(j : Int)]).length : Nat) : Int) - 1 = (pre.length : Int) := by simp
        have hw : wrap64 (((pre ++ [(j : Int)]).length : Int) - 1) = (pre.length : Int) := by rw [hL, wrapI] <;> (simp at hal; omega)
        have hne : ¬ (((pre ++ [(j : Int)]).length : Nat) : Int) = 0 := by simp; omega
        have hr : rd (pre ++ [(j : Int)]) (pre.length : Int) = j := by rw [rd_nat]; simp
        have g1 : 0 ≤ (pre.length : Int) := by omega
        have g2 : (pre.length : Int) < ((pre ++ [(j : Int)]).length : Nat) := by simp; omega
        have g3 : 0 ≤ (j : Int) := by omega
        have g4 : (j : Int) < (l.length : Int) := by omega
        simp only [if_neg hne, hw, if_pos g1, if_pos g2, hr, if_pos g3, if_pos g4, rd_nat]
        by_cases hx : l.getD j 0 < l[i]
        · simp only [if_pos hx]
          rw [if_pos ⟨hc, by simpa [okAfter] using hx⟩]
          have := next (left - 1) ((pre ++ [(j : Int)]) ++ [(i : Int)]) (some l[i]) (.inr ⟨pre ++ [(j : Int)], i, rfl, hlt, by simp [hlt]⟩) (by simp at hal ⊢; omega) (by omega) (by omega)
          simpa using this
        · simp only [if_neg hx]
          rw [if_neg (by rintro ⟨_, h⟩; simp [okAfter] at h; simp at hx; omega)]
          exact next left _ _ (.inr ⟨pre, j, rfl, hj, rfl⟩) (by simp at hal ⊢; omega) (by omega) (by omega)
    · simp only [if_neg hc]
      rw [if_neg (fun h => hc h.1)]
      exact next left acc last ha (by omega) (by omega) (by omega)
theorem longest_is {l : List Int} (hl : l.length ≤ 256) : Ev (fun k => lis_Longest.f k l) (places l, 0) := by
  unfold lis_Longest.f
  have n1 : ¬ (l.length : Int) > 256 := by omega
  simp only [if_neg n1]
  by_cases h0 : l.length = 0
  · have h0' : (l.length : Int) = 0 := by omega
    simp only [if_pos h0']
    have : l = [] := List.length_eq_zero_iff.1 h0
    subst this
    exact Ev.now _
  · have h0' : ¬ (l.length : Int) = 0 := by omega
    simp only [if_neg h0', lengths_is hl, Option.bind_some]
    refine Ev.bind (max_is (by rw [lens_length]; omega) (by rw [lens_length]; omega) (lens_pos l)) ?_
    have hm : most (lens l) ≤ 256 := by
      rcases Int.lt_or_le 0 (most (lens l)) with h | h
      · have := lens_le l _ (most_mem _ h); omega
      · omega
    have := longest_l0 l (lens l) (lens_length l) hl l.length 0 (most (lens l)) [] none (by omega) (by omega) (.inl ⟨rfl, rfl⟩) (by simp) (by have := most_nonneg (lens l); omega) (by omega)
    exact this
theorem longest_no {l : List Int} (hl : 256 < l.length) : Ev (fun k => lis_Longest.f k l) ([], 3) := by
  unfold lis_Longest.f
  have n1 : (l.length : Int) > 256 := by omega
  simp only [if_pos n1]
  exact Ev.now _
theorem length_is {l : List Int} (hl : l.length ≤ 256) : Ev (fun k => lis_Length.f k l) (longN l, 0) := by
  unfold lis_Length.f
  refine Ev.bind (longest_is hl) ?_
  rw [← places_length l]
  exact Ev.now _
theorem alive_is : Ev (fun k => fanlightlaw11_alive.f k) true := Ev.of (fun k => fanlightlaw11_alive.mono k) (k := 12) (by decide +kernel)
end Go.Proofs.Ytchmncgnaiiijaa.LisEv
