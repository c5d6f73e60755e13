/- What the program's Moves comes to, said by the plain words. -/
import Derived.Test.YtchmncgnaiiijaaLisMath2
import Derived.Test.YtchmncgnaiiijaaLisEv
import Derived.Test.YtchmncgnaiiijaaP5
namespace Go.Proofs.Ytchmncgnaiiijaa.LisEv
set_option linter.unusedVariables false
set_option linter.unusedSimpArgs false
open Go.RowKit Go.Proofs.Ytchmncgnaiiijaa.P Go.Proofs.YtchmncgnaiiijaaW.PrintWords Go.Proofs.YtchmncgnaiiijaaW.PrintLast LisMath

theorem half (a b : Nat) (h : a + b ≤ 1000000) : wrap64 ((IntKind.u64.wrap (wrap64 ((a : Int) + b))) / 2) = (((a + b) / 2 : Nat) : Int) := by
  have h1 : wrap64 ((a : Int) + b) = ((a + b : Nat) : Int) := by rw [wrapI] <;> omega
  have h2 : IntKind.u64.wrap (((a + b : Nat)) : Int) = ((a + b : Nat) : Int) := by
    simp [IntKind.wrap, IntKind.bits, IntKind.signed]; omega
  rw [h1, h2, wrapI] <;> omega
theorem cmpless (a b : Int) : cmp_Less_int.f a b = some (decide (a < b)) := by
  unfold cmp_Less_int.f cmp_isNaN_int.f
  have h : ¬ ((a != a) = true) := by simp
  simp only [Option.bind_some, if_neg h]
theorem bin_l0 (p : List Int) (hp : Rises p) (x : Int) (hl : p.length ≤ 1000) : ∀ (d a b : Nat), b - a ≤ d → a ≤ b → b ≤ p.length →
    (∀ j, j < a → p.getD j 0 < x) → (∀ j, b ≤ j → j < p.length → x ≤ p.getD j 0) →
    ∃ r, Ev (fun k => slices_BinarySearch_int_int.l0 k p x (p.length : Int) a b) (r, decide (x ∈ p))
  | 0, a, b, hd, hab, hb, h1, h2 => by
    obtain rfl : a = b := by omega
    refine ⟨a, ?_⟩
    refine Ev.step (fun k => rfl) ?_
    simp only [slices_BinarySearch_int_int.l0]
    have n1 : ¬ (a : Int) < a := by omega
    simp only [if_neg n1]
    by_cases hx : a < p.length
    · have g1 : (a : Int) < (p.length : Int) := by omega
      have g2 : 0 ≤ (a : Int) := by omega
      simp only [if_pos g1, if_pos g2, rd_nat]
      by_cases he : p.getD a 0 = x
      · simp only [if_pos he]
        have : x ∈ p := by rw [← he]; simp [hx]
        rw [decide_eq_true this]
        exact Ev.now _
      · simp only [if_neg he, slices_isNaN_int.f, Option.bind_some]
        have h3 : ¬ ((p.getD a 0 != p.getD a 0) = true) := by simp
        simp only [if_neg h3]
        have : ¬ x ∈ p := by
          intro hm
          obtain ⟨j, hj, e⟩ := List.getElem_of_mem hm
          have e' : p.getD j 0 = x := by simp [hj, e]
          rcases Nat.lt_trichotomy j a with h | h | h
          · have := h1 j h; omega
          · subst h; exact he e'
          · have := rises_lt hp h hj
            have := h2 a (by omega) hx
            omega
        rw [decide_eq_false this]
        exact Ev.now _
    · have g1 : ¬ (a : Int) < (p.length : Int) := by omega
      simp only [if_neg g1]
      have : ¬ x ∈ p := by
        intro hm
        obtain ⟨j, hj, e⟩ := List.getElem_of_mem hm
        have e' : p.getD j 0 = x := by simp [hj, e]
        have := h1 j (by omega)
        omega
      rw [decide_eq_false this]
      exact Ev.now _
  | d + 1, a, b, hd, hab, hb, h1, h2 => by
    by_cases hlt : a < b
    · have g1 : (a : Int) < b := by omega
      have g2 : 0 ≤ (((a + b) / 2 : Nat) : Int) := by omega
      have g3 : (((a + b) / 2 : Nat) : Int) < (p.length : Int) := by omega
      by_cases hx : p.getD ((a + b) / 2) 0 < x
      · have g4 : wrap64 ((((a + b) / 2 : Nat) : Int) + 1) = (((a + b) / 2 + 1 : Nat) : Int) := by rw [wrapI] <;> omega
        obtain ⟨r, hr⟩ := bin_l0 p hp x hl d ((a + b) / 2 + 1) b (by omega) (by omega) hb (fun j hj => by
          rcases Nat.lt_or_ge j ((a + b) / 2) with h | h
          · have := rises_lt hp h (by omega); omega
          · obtain rfl : j = (a + b) / 2 := by omega
            exact hx) h2
        refine ⟨r, ?_⟩
        refine Ev.step (fun k => rfl) ?_
        simp only [slices_BinarySearch_int_int.l0, half a b (by omega), if_pos g1, if_pos g2, if_pos g3, rd_nat, cmpless, Option.bind_some, decide_eq_true hx, if_true, g4]
        exact hr
      · obtain ⟨r, hr⟩ := bin_l0 p hp x hl d a ((a + b) / 2) (by omega) (by omega) (by omega) h1 (fun j hj hl => by
          rcases Nat.lt_or_ge ((a + b) / 2) j with h | h
          · have := rises_lt hp h hl; omega
          · obtain rfl : j = (a + b) / 2 := by omega
            omega)
        refine ⟨r, ?_⟩
        refine Ev.step (fun k => rfl) ?_
        simp only [slices_BinarySearch_int_int.l0, half a b (by omega), if_pos g1, if_pos g2, if_pos g3, rd_nat, cmpless, Option.bind_some, decide_eq_false hx, Bool.false_eq_true, if_false]
        exact hr
    · obtain rfl : a = b := by omega
      exact bin_l0 p hp x hl 0 a a (by omega) (by omega) hb h1 h2
theorem bin_is (p : List Int) (hp : Rises p) (x : Int) (hl : p.length ≤ 1000) : ∃ r, Ev (fun k => slices_BinarySearch_int_int.f k p x) (r, decide (x ∈ p)) :=
  bin_l0 p hp x hl p.length 0 p.length (by omega) (by omega) (Nat.le_refl _) (by simp) (fun j h1 h2 => by omega)

/-- A place among those that are told from it on: it is the first. -/
theorem mem_from {p : List Int} (hp : Rises p) {i : Int} (h : ∀ q ∈ p, i ≤ q) : i ∈ p ↔ p.head? = some i := by
  cases p with
  | nil => simp
  | cons q qs =>
    constructor
    · intro hm
      rcases List.mem_cons.1 hm with rfl | hm
      · rfl
      · have h1 := rises_all hp i hm
        have h2 := h q List.mem_cons_self
        omega
    · intro e
      simp at e; subst e; exact List.mem_cons_self
theorem moves_l0 (p : List Int) (hp : Rises p) (hl : p.length ≤ 300) (n : Nat) (hn : n ≤ 300) : ∀ (d i : Nat) (ps qs acc : List Int), n - i = d → i ≤ n → p = ps ++ qs → (∀ q ∈ ps, q < (i : Int)) → (∀ q ∈ qs, (i : Int) ≤ q) → acc.length ≤ i →
    Ev (fun k => lis_Moves.l0 k p acc (n : Int) i) (acc ++ rest qs i d, 0)
  | 0, i, ps, qs, acc, hd, hi, he, h1, h2, ha => by
    refine Ev.step (fun k => rfl) ?_
    simp only [lis_Moves.l0]
    have n1 : ¬ (i : Int) < n := by omega
    simp only [if_neg n1, rest, List.append_nil]
    exact Ev.now _
  | d + 1, i, ps, qs, acc, hd, hi, he, h1, h2, ha => by
    have hq : Rises qs := by
      rw [he] at hp
      clear he h1 h2
      induction ps with
      | nil => exact hp
      | cons a ps ih => exact ih hp.2
    have hm : (i : Int) ∈ p ↔ qs.head? = some (i : Int) := by
      rw [he, List.mem_append, ← mem_from hq h2]
      constructor
      · rintro (h | h)
        · have := h1 _ h; omega
        · exact h
      · exact .inr
    refine Ev.step (fun k => rfl) ?_
    simp only [lis_Moves.l0]
    have g1 : (i : Int) < n := by omega
    have g3 : wrap64 ((i : Int) + 1) = ((i + 1 : Nat) : Int) := by rw [wrapI] <;> omega
    have g4 : acc.length < 17592186044416 := by omega
    obtain ⟨r, hr⟩ := bin_is p hp i (by omega)
    simp only [if_pos g1, g3, if_pos g4]
    refine Ev.bind hr ?_
    cases qs with
    | nil =>
      have : ¬ (i : Int) ∈ p := by rw [hm]; simp
      simp only [decide_eq_false this, Bool.false_eq_true, if_false, rest]
      have := moves_l0 p hp hl n hn d (i + 1) ps [] (acc ++ [(i : Int)]) (by omega) (by omega) he (fun q hq => by have := h1 q hq; omega) (by simp) (by simp; omega)
      simpa using this
    | cons q qs =>
      by_cases hqi : q = (i : Int)
      · have : (i : Int) ∈ p := by rw [hm, hqi]; rfl
        simp only [decide_eq_true this, if_true, rest, if_pos hqi]
        refine moves_l0 p hp hl n hn d (i + 1) (ps ++ [q]) qs acc (by omega) (by omega) (by rw [he]; simp) (fun z hz => ?_) (fun z hz => ?_) (by omega)
        · rcases List.mem_append.1 hz with hz | hz
          · have := h1 z hz; omega
          · rw [List.mem_singleton.1 hz]; omega
        · have := rises_all hq z hz
          omega
      · have : ¬ (i : Int) ∈ p := by rw [hm]; simp; exact hqi
        simp only [decide_eq_false this, Bool.false_eq_true, if_false, rest, if_neg hqi]
        have := moves_l0 p hp hl n hn d (i + 1) ps (q :: qs) (acc ++ [(i : Int)]) (by omega) (by omega) he (fun q hq => by have := h1 q hq; omega) (fun z hz => by
          have h0 := h2 q List.mem_cons_self
          rcases List.mem_cons.1 hz with rfl | hz
          · omega
          · have := rises_all hq z hz; omega) (by simp; omega)
        simpa using this
theorem moves_is {l : List Int} (hl : l.length ≤ 256) : Ev (fun k => lis_Moves.f k l) (others l, 0) := by
  unfold lis_Moves.f
  refine Ev.bind (longest_is hl) ?_
  simp only [if_true]
  have h := others_length l
  have := moves_l0 (places l) (places_rises l) (by omega) l.length (by omega) l.length 0 [] (places l) [] (by omega) (by omega) (by simp) (by simp) (fun q hq => by have := places_range l q hq; omega) (by simp)
  exact this
theorem moves_no {l : List Int} (hl : 256 < l.length) : Ev (fun k => lis_Moves.f k l) ([], 3) := by
  unfold lis_Moves.f
  refine Ev.bind (longest_no hl) ?_
  have : ¬ (3 : Int) = 0 := by omega
  simp only [if_neg this]
  exact Ev.now _
end Go.Proofs.Ytchmncgnaiiijaa.LisEv
