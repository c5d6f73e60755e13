/- A list without its moved places rises; a list that rises has none: every list. -/
import Derived.Test.YtchmncgnaiiijaaP7
import Derived.Test.YtchmncgnaiiijaaLisEv2
namespace Go.Proofs.Ytchmncgnaiiijaa.Pure
set_option linter.unusedVariables false
set_option linter.unusedSimpArgs false
open Go.RowKit Go.Proofs.Ytchmncgnaiiijaa.P Go.Proofs.YtchmncgnaiiijaaW.PrintWords Go.Proofs.YtchmncgnaiiijaaW.PrintLast LisMath LisEv

/-- A list that rises has no place that moves. -/
theorem others_rises {l : List Int} (h : Rises l) : others l = [] := by
  have h1 := others_length l
  have h2 := places_length l
  rw [longN_rises h] at h2
  exact List.length_eq_zero_iff.1 (by omega)
theorem moved_end (p left : List Int) (hl : left.length ≤ 256) (hr : Rises left) : Ev (fun k => (lis_Moves.f k left).bind fun bt226 => ((fanlightlaw11_num.f bt226.2).bind fun t230 => (if t230 = 0 then (if (bt226.1.length : Int) = 0 then (some ((p.length : Int) == (p.length : Int))) else (some false)) else (some false)))) true := by
  refine Ev.bind (moves_is hl) ?_
  have : (((others left).length : Nat) : Int) = 0 := by rw [others_rises hr]; rfl
  simp only [fanlightlaw11_num.f, Option.bind_some, if_true, if_pos this, beq_self_eq_true]
  exact Ev.now _
theorem moved_l0 (l p m : List Int) (hl : l.length ≤ 256) (hp : Rises p) (hr : ∀ q ∈ p, 0 ≤ q ∧ q < (l.length : Int)) (hv : Rises (p.map fun q => l.getD q.toNat 0)) : ∀ (d i : Nat) (ps qs ms : List Int), l.length - i = d → i ≤ l.length →
    p = ps ++ qs → m = ms ++ rest qs i d → ms.length + ps.length = i → (∀ q ∈ qs, (i : Int) ≤ q) →
    Ev (fun k => fanlightlaw11_LisMoved.l0 k l m (ps.map fun q => l.getD q.toNat 0) (ms.length : Int) i) true
  | 0, i, ps, qs, ms, hd, hi, he, hm, ha, h2 => by
    have hqs : qs = [] := by
      cases qs with
      | nil => rfl
      | cons q qs => have := h2 q List.mem_cons_self; have := hr q (by rw [he]; simp); omega
    subst hqs
    have hmm : m = ms := by simpa [rest] using hm
    have hpp : p = ps := by simpa using he
    subst hmm
    subst hpp
    have hpl : p.length ≤ 256 := by omega
    refine Ev.step (fun k => rfl) ?_
    simp only [fanlightlaw11_LisMoved.l0]
    have n1 : ¬ (i : Int) < l.length := by omega
    simp only [if_neg n1]
    exact moved_end m _ (by simpa using hpl) hv
  | d + 1, i, ps, qs, ms, hd, hi, he, hm, ha, h2 => by
    have hq : Rises qs := by
      rw [he] at hp
      clear he h2 ha
      induction ps with
      | nil => exact hp
      | cons a ps ih => exact ih hp.2
    have g1 : (i : Int) < l.length := by omega
    have g2 : 0 ≤ (ms.length : Int) := by omega
    have g0 : 0 ≤ (i : Int) := by omega
    have bi : i ≤ 1000000 := by omega
    have bm : ms.length ≤ 1000000 := by omega
    have gl : (ps.map fun q => l.getD q.toNat 0).length < 17592186044416 := by rw [List.length_map]; omega
    refine Ev.step (fun k => rfl) ?_
    simp only [fanlightlaw11_LisMoved.l0, if_pos g1]
    have stay : ∀ qs', qs = (i : Int) :: qs' → Ev (fun k => fanlightlaw11_LisMoved.l0 k l m ((ps.map fun q => l.getD q.toNat 0) ++ [rd l (i : Int)]) (ms.length : Int) ((i + 1 : Nat) : Int)) true := by
      intro qs' e
      subst e
      have e2 : (ps.map fun q => l.getD q.toNat 0) ++ [rd l (i : Int)] = (ps ++ [(i : Int)]).map fun q => l.getD q.toNat 0 := by simp [rd_nat]
      rw [e2]
      exact moved_l0 l p m hl hp hr hv d (i + 1) (ps ++ [(i : Int)]) qs' ms (by omega) (by omega) (by rw [he]; simp) (by rw [hm]; simp [rest]) (by simp; omega) (fun z hz => by have := rises_all hq z hz; omega)
    have go : rest qs i (d + 1) = (i : Int) :: rest qs (i + 1) d → (∀ q ∈ qs, ((i + 1 : Nat) : Int) ≤ q) → (ms.length : Int) < (m.length : Int) ∧ rd m (ms.length : Int) = i ∧ Ev (fun k => fanlightlaw11_LisMoved.l0 k l m (ps.map fun q => l.getD q.toNat 0) ((ms.length + 1 : Nat) : Int) ((i + 1 : Nat) : Int)) true := by
      intro hrest h3
      rw [hrest] at hm
      refine ⟨by rw [hm]; simp; omega, by rw [rd_nat, hm]; simp, ?_⟩
      have := moved_l0 l p m hl hp hr hv d (i + 1) ps qs (ms ++ [(i : Int)]) (by omega) (by omega) he (by rw [hm]; simp) (by simp; omega) h3
      simpa using this
    -- is this place told, or moved?
    by_cases hqi : ∃ qs', qs = (i : Int) :: qs'
    · obtain ⟨qs', e⟩ := hqi
      have hst := stay qs' e
      have hne : (ms.length : Int) < (m.length : Int) → ¬ rd m (ms.length : Int) = i := by
        intro hlt hh
        have hmem : ∀ (d' i' : Nat) (z : List Int), ∀ y ∈ rest z i' d', (i' : Int) ≤ y := by
          intro d'
          induction d' with
          | zero => intro i' z y hy; cases z <;> simp [rest] at hy
          | succ d' ih =>
            intro i' z y hy
            cases z with
            | nil =>
              simp only [rest, List.mem_cons] at hy
              rcases hy with rfl | hy
              · omega
              · have := ih (i' + 1) [] y hy; omega
            | cons z zs =>
              simp only [rest] at hy
              split at hy
              · have := ih (i' + 1) zs y hy; omega
              · simp only [List.mem_cons] at hy
                rcases hy with rfl | hy
                · omega
                · have := ih (i' + 1) (z :: zs) y hy; omega
        rw [e] at hm
        simp only [rest, if_true] at hm
        rw [rd_nat, hm, List.getD_eq_getElem?_getD, List.getElem?_append_right (Nat.le_refl _), Nat.sub_self] at hh
        cases hc : rest qs' (i + 1) d with
        | nil => rw [hc] at hm; rw [hm] at hlt; simp at hlt
        | cons y ys =>
          have := hmem d (i + 1) qs' y (by rw [hc]; exact List.mem_cons_self)
          rw [hc] at hh
          simp at hh
          omega
      by_cases hlt : (ms.length : Int) < (m.length : Int)
      · simp only [if_pos hlt, if_pos g2, if_neg (hne hlt), if_pos g0, if_pos gl, wrapS i bi]
        exact hst
      · simp only [if_neg hlt, if_pos g0, if_pos gl, wrapS i bi]
        exact hst
    · have hrest : rest qs i (d + 1) = (i : Int) :: rest qs (i + 1) d := by
        cases qs with
        | nil => simp [rest]
        | cons q qs =>
          have : ¬ q = (i : Int) := fun e => hqi ⟨qs, by rw [e]⟩
          simp [rest, this]
      have h3 : ∀ q ∈ qs, ((i + 1 : Nat) : Int) ≤ q := by
        intro z hz
        cases qs with
        | nil => simp at hz
        | cons q qs =>
          have h0 := h2 q List.mem_cons_self
          have h1 : ¬ q = (i : Int) := fun e => hqi ⟨qs, by rw [e]⟩
          rcases List.mem_cons.1 hz with rfl | hz
          · omega
          · have := rises_all hq z hz; omega
      obtain ⟨k1, k2, k3⟩ := go hrest h3
      simp only [if_pos k1, if_pos g2, if_pos k2, wrapS i bi, wrapS _ bm]
      exact k3

theorem LisMoved : fanlightlaw11_LisMoved.Pure := by
  intro l hl hb hw
  refine Ev.rounds ?_
  unfold fanlightlaw11_LisMoved.f
  refine Ev.bind alive_is ?_
  simp only [if_true]
  rcases Nat.lt_or_ge 256 l.length with h | h
  · refine Ev.bind (moves_no h) ?_
    have n3 : ¬ (3 : Int) = 0 := by omega
    have n4 : (l.length : Int) > 256 := by omega
    simp only [fanlightlaw11_num.f, Option.bind_some, if_neg n3, decide_eq_true n4]
    exact Ev.now _
  · refine Ev.bind (moves_is h) ?_
    simp only [fanlightlaw11_num.f, Option.bind_some, if_true]
    exact moved_l0 l (places l) (others l) h (places_rises l) (places_range l) (places_vals l) l.length 0 [] (places l) [] (by omega) (by omega) (by simp) (by simp [others]) (by simp) (fun q hq => by have := places_range l q hq; omega)
end Go.Proofs.Ytchmncgnaiiijaa.Pure
