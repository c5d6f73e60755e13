/- A rising list of which one number is put elsewhere has at most one place that moves, and none just if the number stays: every length up to 60, all places. -/
import Derived.Test.YtchmncgnaiiijaaP7
import Derived.Test.YtchmncgnaiiijaaLisEv2
namespace Go.Proofs.Ytchmncgnaiiijaa.Pure
set_option linter.unusedVariables false
set_option linter.unusedSimpArgs false
open Go.RowKit Go.Proofs.Ytchmncgnaiiijaa.P Go.Proofs.YtchmncgnaiiijaaW.PrintWords Go.Proofs.YtchmncgnaiiijaaW.PrintLast LisMath LisEv

/-- The numbers below i, but one. -/
def base (fr : Nat) : Nat → List Int
  | 0 => []
  | i + 1 => if i = fr then base fr i else base fr i ++ [(i : Int)]
theorem base_lt (fr : Nat) : ∀ i, ∀ y ∈ base fr i, 0 ≤ y ∧ y < (i : Int)
  | 0, y, h => by simp [base] at h
  | i + 1, y, h => by
    simp only [base] at h
    split at h
    · have := base_lt fr i y h; omega
    · rcases List.mem_append.1 h with h | h
      · have := base_lt fr i y h; omega
      · rw [List.mem_singleton.1 h]; omega
theorem base_rises (fr : Nat) : ∀ i, Rises (base fr i)
  | 0 => trivial
  | i + 1 => by
    simp only [base]
    split
    · exact base_rises fr i
    · exact rises_snoc (base_rises fr i) (fun y hy => (base_lt fr i y (List.mem_of_getLast? hy)).2)
theorem base_length (fr : Nat) : ∀ i, (base fr i).length = if i ≤ fr then i else i - 1
  | 0 => by simp [base]
  | i + 1 => by
    have ih := base_length fr i
    simp only [base]
    split
    · rename_i h; rw [ih]; subst h; simp
    · rename_i h
      rw [List.length_append, ih]
      simp
      split <;> split <;> omega
/-- One number put back at its own place. -/
theorem base_back (fr : Nat) : ∀ i, fr < i → Rises ((base fr i).take fr ++ ((fr : Int) :: (base fr i).drop fr)) ∧ ∀ y ∈ (base fr i).take fr ++ ((fr : Int) :: (base fr i).drop fr), y < (i : Int)
  | 0, h => by omega
  | i + 1, h => by
    have hl := base_length fr i
    by_cases hi : i = fr
    · subst hi
      have e : base i (i + 1) = base i i := by simp [base]
      rw [if_pos (Nat.le_refl _)] at hl
      rw [e, List.take_of_length_le (by omega), List.drop_eq_nil_of_le (by omega)]
      refine ⟨rises_snoc (base_rises i i) (fun y hy => (base_lt i i y (List.mem_of_getLast? hy)).2), fun y hy => ?_⟩
      rcases List.mem_append.1 hy with hy | hy
      · have := base_lt i i y hy; omega
      · rw [List.mem_singleton.1 hy]; omega
    · obtain ⟨h1, h2⟩ := base_back fr i (by omega)
      have e : base fr (i + 1) = base fr i ++ [(i : Int)] := by simp [base, hi]
      rw [if_neg (by omega)] at hl
      have et : (base fr i ++ [(i : Int)]).take fr = (base fr i).take fr := List.take_append_of_le_length (by omega)
      have ed : (base fr i ++ [(i : Int)]).drop fr = (base fr i).drop fr ++ [(i : Int)] := List.drop_append_of_le_length (by omega)
      rw [e, et, ed]
      have e3 : (base fr i).take fr ++ ((fr : Int) :: ((base fr i).drop fr ++ [(i : Int)])) = ((base fr i).take fr ++ ((fr : Int) :: (base fr i).drop fr)) ++ [(i : Int)] := by simp
      rw [e3]
      refine ⟨rises_snoc h1 (fun y hy => h2 y (List.mem_of_getLast? hy)), fun y hy => ?_⟩
      rcases List.mem_append.1 hy with hy | hy
      · have := h2 y hy; omega
      · rw [List.mem_singleton.1 hy]; omega
/-- What rises within 0 .. n - 1, and is n long, is just that. -/
theorem rises_ge {p : List Int} (h : Rises p) (h0 : ∀ y ∈ p, 0 ≤ y) : ∀ j, j < p.length → (j : Int) ≤ p.getD j 0
  | 0, hj => h0 _ (by rw [List.getD_eq_getElem?_getD, List.getElem?_eq_getElem hj]; exact List.getElem_mem _)
  | j + 1, hj => by
    have := rises_ge h h0 j (by omega)
    have := rises_get h hj
    omega
theorem rises_le {p : List Int} {n : Nat} (h : Rises p) (h1 : ∀ y ∈ p, y < (n : Int)) (hl : p.length = n) : ∀ k j, j + k + 1 = n → p.getD j 0 ≤ (j : Int)
  | 0, j, hj => by
    have hj' : j < p.length := by omega
    have := h1 (p.getD j 0) (by rw [List.getD_eq_getElem?_getD, List.getElem?_eq_getElem hj']; exact List.getElem_mem _)
    omega
  | k + 1, j, hj => by
    have := rises_le h h1 hl k (j + 1) (by omega)
    have := rises_get h (show j + 1 < p.length by omega)
    omega
theorem part_append_skip {a b : List Int} (x : Int) : Part (a ++ b) (a ++ (x :: b)) := by
  induction a with
  | nil => exact .skip (part_self b)
  | cons y a ih => exact .take ih

theorem moves_end {n fr tg : Nat} (hf : fr < n) (ht : tg < n) :
    let m := (base fr n).take tg ++ ((fr : Int) :: (base fr n).drop tg)
    m.length = n ∧ (others m).length ≤ 1 ∧ ((others m).length = 0 ↔ fr = tg) := by
  intro m
  have hl := base_length fr n
  rw [if_neg (by omega)] at hl
  have hlen : m.length = n := by simp only [m, List.length_append, List.length_cons, List.length_take, List.length_drop]; omega
  have h1 := others_length m
  have h2 := places_length m
  have h3 : ((base fr n).length : Int) ≤ longN m := by
    refine part_le ?_ (base_rises fr n)
    have := part_append_skip (a := (base fr n).take tg) (b := (base fr n).drop tg) (fr : Int)
    rwa [List.take_append_drop] at this
  refine ⟨hlen, by omega, ?_⟩
  constructor
  · intro h0
    have hr : Rises m := rises_of_longN (by omega)
    have hm : ∀ y ∈ m, 0 ≤ y ∧ y < (n : Int) := by
      intro y hy
      rcases List.mem_append.1 hy with hy | hy
      · exact base_lt fr n y (List.mem_of_mem_take hy)
      · rcases List.mem_cons.1 hy with rfl | hy
        · omega
        · exact base_lt fr n y (List.mem_of_mem_drop hy)
    have a := rises_ge hr (fun y hy => (hm y hy).1) tg (by omega)
    have b := rises_le hr (fun y hy => (hm y hy).2) hlen (n - 1 - tg) tg (by omega)
    have c : m.getD tg 0 = (fr : Int) := by
      simp only [m]
      have hl' : ((base fr n).take tg).length = tg := by rw [List.length_take]; omega
      rw [List.getD_eq_getElem?_getD, List.getElem?_append_right (by omega), hl', Nat.sub_self]
      rfl
    omega
  · intro e
    subst e
    have := (base_back fr n hf).1
    have h4 := longN_rises this
    have h5 : longN m = m.length := h4
    omega

theorem moves_loop (n fr tg : Nat) (hn : n ≤ 60) (hf : fr < n) (ht : tg < n) : ∀ (d i : Nat), n - i = d → i ≤ n →
    Ev (fun k => fanlightlaw11_LisMoves.l0 k n fr tg (base fr i) i) true
  | 0, i, hd, hi => by
    obtain rfl : i = n := by omega
    refine Ev.step (fun k => rfl) ?_
    simp only [fanlightlaw11_LisMoves.l0]
    have n1 : ¬ (i : Int) < (i : Int) := by omega
    have hl := base_length fr i
    rw [if_neg (by omega)] at hl
    have g1 : 0 ≤ (tg : Int) := by omega
    have g2 : (tg : Int) ≤ ((base fr i).length : Int) := by omega
    obtain ⟨h1, h2, h3⟩ := moves_end hf ht
    have a1 : ([] : List Int).length + ((base fr i).take tg).length < 17592186044416 := by simp; omega
    have a2 : (([] : List Int) ++ (base fr i).take tg).length < 17592186044416 := by simp; omega
    have a3 : (([] : List Int) ++ (base fr i).take tg ++ [(fr : Int)]).length + ((base fr i).drop tg).length < 17592186044416 := by simp; omega
    simp only [if_neg n1, if_pos g1, if_pos g2, Option.bind_some, Int.toNat_natCast, if_pos a1, if_pos a2, if_pos a3]
    have e : (([] : List Int) ++ (base fr i).take tg ++ [(fr : Int)]) ++ (base fr i).drop tg = (base fr i).take tg ++ ((fr : Int) :: (base fr i).drop tg) := by simp
    rw [e]
    generalize (base fr i).take tg ++ ((fr : Int) :: (base fr i).drop tg) = m at h1 h2 h3
    refine Ev.bind (moves_is (by omega)) ?_
    have g4 : ((others m).length : Int) ≤ 1 := by omega
    simp only [fanlightlaw11_num.f, Option.bind_some, if_true, if_pos g4]
    have : ((((others m).length : Int) == 0) == ((fr : Int) == (tg : Int))) = true := by
      rw [beq_iff_eq, Bool.eq_iff_iff, beq_iff_eq, beq_iff_eq]
      constructor
      · intro h; have := h3.1 (by omega); omega
      · intro h; have := h3.2 (by omega); omega
    rw [this]
    exact Ev.now _
  | d + 1, i, hd, hi => by
    refine Ev.step (fun k => rfl) ?_
    simp only [fanlightlaw11_LisMoves.l0]
    have g1 : (i : Int) < (n : Int) := by omega
    have bi : i ≤ 1000000 := by omega
    have hl := base_length fr i
    have g2 : (base fr i).length < 17592186044416 := by split at hl <;> omega
    have next := moves_loop n fr tg hn hf ht d (i + 1) (by omega) (by omega)
    simp only [if_pos g1, wrapS i bi, if_pos g2]
    by_cases h : i = fr
    · have h' : (i : Int) = (fr : Int) := by omega
      simp only [if_pos h']
      simp only [base, if_pos h] at next
      exact next
    · have h' : ¬ (i : Int) = (fr : Int) := by omega
      simp only [if_neg h']
      simp only [base, if_neg h] at next
      exact next

/-- Go's way tg bring a number into 0 .. n - 1. -/
theorem into (x : Int) (hx : -9223372036854775808 ≤ x ∧ x ≤ 9223372036854775807) (n : Int) (hn : 1 ≤ n ∧ n ≤ 60) : ∃ r : Nat, Int.tmod (wrap64 (Int.tmod x n + n)) n = (r : Int) ∧ (r : Int) < n := by
  have h1 : -n < Int.tmod x n ∧ Int.tmod x n < n := by
    have ha := Int.tmod_lt_of_pos x (show 0 < n by omega)
    have hb := Int.lt_tmod_of_pos x (show 0 < n by omega)
    omega
  have hw : wrap64 (Int.tmod x n + n) = Int.tmod x n + n := wrapI (by omega) (by omega)
  rw [hw]
  have h2 : 0 ≤ Int.tmod x n + n := by omega
  have h3 : Int.tmod (Int.tmod x n + n) n = (Int.tmod x n + n) % n := Int.tmod_eq_emod_of_nonneg h2
  rw [h3]
  have h4 := Int.emod_nonneg (Int.tmod x n + n) (show n ≠ 0 by omega)
  have h5 := Int.emod_lt_of_pos (Int.tmod x n + n) (show 0 < n by omega)
  exact ⟨((Int.tmod x n + n) % n).toNat, by omega, by omega⟩
theorem wf_i64 {x : Int} (h : (Lit.int .i64 x).wf = true) : -9223372036854775808 ≤ x ∧ x ≤ 9223372036854775807 := by
  simp [Lit.wf, IntKind.min, IntKind.max, IntKind.bits, IntKind.signed] at h
  omega
theorem LisMoves : fanlightlaw11_LisMoves.Pure := by
  intro a0 a1 a2 w0 w1 w2
  refine Ev.rounds ?_
  unfold fanlightlaw11_LisMoves.f
  refine Ev.bind alive_is ?_
  obtain ⟨r, e0, hr⟩ := into a0 (wf_i64 w0) 60 (by omega)
  have hn : wrap64 (1 + Int.tmod (wrap64 (Int.tmod a0 60 + 60)) 60) = ((r + 1 : Nat) : Int) := by
    rw [e0, wrapI (by omega) (by omega)]; omega
  obtain ⟨fr, e1, hf⟩ := into a1 (wf_i64 w1) ((r + 1 : Nat) : Int) (by omega)
  obtain ⟨tg, e2, ht⟩ := into a2 (wf_i64 w2) ((r + 1 : Nat) : Int) (by omega)
  have g : ¬ ((r + 1 : Nat) : Int) = 0 := by omega
  simp only [if_true, hn, if_neg g, e1, e2]
  exact moves_loop (r + 1) fr tg (by omega) (by omega) (by omega) (r + 1) 0 (by omega) (by omega)
end Go.Proofs.Ytchmncgnaiiijaa.Pure
