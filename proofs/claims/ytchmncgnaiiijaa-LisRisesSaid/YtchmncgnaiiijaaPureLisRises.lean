/- The places of the longest rising part rise, and so do the numbers there; with the other places they are all: every list. -/
import Derived.Test.YtchmncgnaiiijaaP6
import Derived.Test.YtchmncgnaiiijaaLisEv2
namespace Go.Proofs.Ytchmncgnaiiijaa.Pure
set_option linter.unusedVariables false
set_option linter.unusedSimpArgs false
open Go.RowKit Go.Proofs.Ytchmncgnaiiijaa.P Go.Proofs.YtchmncgnaiiijaaW.PrintWords Go.Proofs.YtchmncgnaiiijaaW.PrintLast LisMath LisEv

theorem rises_l1 (l p m : List Int) (hl : l.length ≤ 256) (hs : p.length + m.length = l.length) (hp : Rises p) (hr : ∀ q ∈ p, 0 ≤ q ∧ q < (l.length : Int)) : ∀ (d i : Nat) (ps qs ms : List Int), l.length - i = d → i ≤ l.length →
    p = ps ++ qs → m = ms ++ rest qs i d → ms.length + ps.length = i → (∀ q ∈ qs, (i : Int) ≤ q) →
    Ev (fun k => fanlightlaw11_LisRises.l1 k l p m (ps.length : Int) i) true
  | 0, i, ps, qs, ms, hd, hi, he, hm, ha, h2 => by
    refine Ev.step (fun k => rfl) ?_
    simp only [fanlightlaw11_LisRises.l1]
    have n1 : ¬ (i : Int) < l.length := by omega
    simp only [if_neg n1]
    have hw : wrap64 ((p.length : Int) + (m.length : Int)) = l.length := by rw [wrapI] <;> omega
    rw [hw, beq_self_eq_true]
    exact Ev.now _
  | d + 1, i, ps, qs, ms, hd, hi, he, hm, ha, h2 => by
    have hq : Rises qs := by
      rw [he] at hp
      clear he h2 ha
      induction ps with
      | nil => exact hp
      | cons a ps ih => exact ih hp.2
    have hpl : p.length = ps.length + qs.length := by rw [he]; simp
    have g1 : (i : Int) < l.length := by omega
    have g2 : 0 ≤ (ps.length : Int) := by omega
    have bi : i ≤ 1000000 := by omega
    have bp : ps.length ≤ 1000000 := by omega
    have g5 : Hid (wrap64 ((i : Int) - ps.length) = (ms.length : Int)) := Lib.hid ((congrArg wrap64 (show (i : Int) - ps.length = ms.length by omega)).trans (wrapI (by omega) (by omega)))
    have skip : rest qs i (d + 1) = (i : Int) :: rest qs (i + 1) d → (∀ q ∈ qs, (i + 1 : Int) ≤ q) → Ev (fun k => fanlightlaw11_LisRises.j3 k l p m (ps.length : Int) i false) true := by
      intro hrest h3
      rw [hrest] at hm
      have hml : m.length = ms.length + ((i : Int) :: rest qs (i + 1) d).length := by rw [hm]; simp
      have k1 : ¬ (ms.length : Int) ≥ (m.length : Int) := by rw [hml]; simp; omega
      have k2 : 0 ≤ (ms.length : Int) := by omega
      have k3 : (ms.length : Int) < (m.length : Int) := by omega
      have k4 : rd m (ms.length : Int) = i := by rw [rd_nat, hm]; simp
      refine Ev.step (fun k => rfl) ?_
      simp only [fanlightlaw11_LisRises.j3, Bool.false_eq_true, if_false, g5.out, if_neg k1, if_pos k2, if_pos k3, k4, if_true, wrapS i bi]
      exact rises_l1 l p m hl hs hp hr d (i + 1) ps qs (ms ++ [(i : Int)]) (by omega) (by omega) he (by rw [hm]; simp) (by simp; omega) (fun q hq => by have := h3 q hq; omega)
    refine Ev.step (fun k => rfl) ?_
    simp only [fanlightlaw11_LisRises.l1, if_pos g1]
    cases qs with
    | nil =>
      have n1 : ¬ (ps.length : Int) < (p.length : Int) := by rw [hpl]; simp
      simp only [if_neg n1]
      exact skip (by simp [rest]) (by simp)
    | cons q qs =>
      have n1 : (ps.length : Int) < (p.length : Int) := by rw [hpl]; simp; omega
      have hrd : rd p (ps.length : Int) = q := by rw [rd_nat, he]; simp
      simp only [if_pos n1, if_pos g2, hrd]
      by_cases hqi : q = (i : Int)
      · have hb : (q == (i : Int)) = true := by simp [hqi]
        rw [hb]
        refine Ev.step (fun k => rfl) ?_
        simp only [fanlightlaw11_LisRises.j3, if_true, wrapS i bi, wrapS _ bp]
        have := rises_l1 l p m hl hs hp hr d (i + 1) (ps ++ [q]) qs ms (by omega) (by omega) (by rw [he]; simp) (by rw [hm]; simp [rest, hqi]) (by simp; omega) (fun z hz => by have := rises_all hq z hz; omega)
        simpa using this
      · have hb : (q == (i : Int)) = false := by simp [hqi]
        rw [hb]
        exact skip (by simp [rest, hqi]) (fun z hz => by
          have h0 := h2 q List.mem_cons_self
          rcases List.mem_cons.1 hz with rfl | hz
          · omega
          · have := rises_all hq z hz; omega)
theorem getD_mem {p : List Int} {j : Nat} (h : j < p.length) : p.getD j 0 ∈ p := by
  rw [List.getD_eq_getElem?_getD, List.getElem?_eq_getElem h]; exact List.getElem_mem _
theorem rises_l0 (l p m : List Int) (hl : l.length ≤ 256) (hpl : p.length ≤ l.length) (hp : Rises p) (hr : ∀ q ∈ p, 0 ≤ q ∧ q < (l.length : Int)) (hv : Rises (p.map fun q => l.getD q.toNat 0))
    (hend : Ev (fun k => fanlightlaw11_LisRises.l1 k l p m 0 0) true) : ∀ (d i : Nat), p.length - i = d → i ≤ p.length → Ev (fun k => fanlightlaw11_LisRises.l0 k l p m i) true
  | 0, i, hd, hi => by
    refine Ev.step (fun k => rfl) ?_
    simp only [fanlightlaw11_LisRises.l0]
    have n1 : ¬ (i : Int) < p.length := by omega
    simp only [if_neg n1]
    exact hend
  | d + 1, i, hd, hi => by
    have g1 : (i : Int) < p.length := by omega
    have g2 : 0 ≤ (i : Int) := by omega
    have hi' : i < p.length := by omega
    obtain ⟨r1, r2⟩ := hr _ (getD_mem hi')
    have n1 : ¬ p.getD i 0 < 0 := by omega
    have n2 : ¬ p.getD i 0 ≥ (l.length : Int) := by omega
    have next := rises_l0 l p m hl hpl hp hr hv hend d (i + 1) (by omega) (by omega)
    refine Ev.step (fun k => rfl) ?_
    simp only [fanlightlaw11_LisRises.l0, if_pos g1, if_pos g2, rd_nat, if_neg n1, if_neg n2, wrapS i (by omega)]
    cases i with
    | zero =>
      have n3 : ¬ ((0 : Nat) : Int) > 0 := by omega
      simp only [if_neg n3]
      exact next
    | succ i =>
      have n3 : ((i + 1 : Nat) : Int) > 0 := by omega
      have g5 : 0 ≤ (i : Int) := by omega
      have g6 : (i : Int) < (p.length : Int) := by omega
      have h1 := rises_get hp hi'
      have h2 := rises_get hv (j := i) (by simpa using hi')
      obtain ⟨s1, s2⟩ := hr _ (getD_mem (show i < p.length by omega))
      have n4 : ¬ p.getD (i + 1) 0 ≤ p.getD i 0 := by omega
      have e1 : (p.map fun q => l.getD q.toNat 0).getD i 0 = l.getD (p.getD i 0).toNat 0 := by
        have : i < p.length := by omega
        simp [this]
      have e2 : (p.map fun q => l.getD q.toNat 0).getD (i + 1) 0 = l.getD (p.getD (i + 1) 0).toNat 0 := by simp [hi']
      rw [e1, e2] at h2
      have n5 : ¬ rd l (p.getD (i + 1) 0) ≤ rd l (p.getD i 0) := by simp only [rd]; omega
      simp only [if_pos n3, wrapP i (by omega), if_pos g5, if_pos g6, rd_nat, if_neg n4, if_pos r1, if_pos r2, if_pos s1, if_pos s2, if_neg n5]
      exact next

theorem LisRises : fanlightlaw11_LisRises.Pure := by
  intro l hl hb hw
  refine Ev.rounds ?_
  unfold fanlightlaw11_LisRises.f
  refine Ev.bind alive_is ?_
  simp only [if_true]
  rcases Nat.lt_or_ge 256 l.length with h | h
  · refine Ev.bind (longest_no h) ?_
    refine Ev.bind (moves_no h) ?_
    have n3 : ¬ (3 : Int) = 0 := by omega
    simp only [fanlightlaw11_num.f, Option.bind_some, if_neg n3]
    refine Ev.step (fun k => rfl) ?_
    have n4 : (l.length : Int) > 256 := by omega
    simp only [fanlightlaw11_LisRises.j0, if_true, if_pos n4]
    rw [show (wrap64 ((([] : List Int).length : Int) + (([] : List Int).length : Int)) == 0) = true by decide +kernel]
    exact Ev.now _
  · refine Ev.bind (longest_is h) ?_
    refine Ev.bind (moves_is h) ?_
    simp only [fanlightlaw11_num.f, Option.bind_some, if_true]
    refine Ev.step (fun k => rfl) ?_
    have n4 : ¬ ((((0 : Int) != 0)) = true) := by simp
    simp only [fanlightlaw11_LisRises.j0, if_neg n4]
    have ho := others_length l
    refine rises_l0 l (places l) (others l) h (by omega) (places_rises l) (places_range l) (places_vals l) ?_ (places l).length 0 (by omega) (by omega)
    exact rises_l1 l (places l) (others l) h (by omega) (places_rises l) (places_range l) l.length 0 [] (places l) [] (by omega) (by omega) (by simp) (by simp [others]) (by simp) (fun q hq => by have := places_range l q hq; omega)
end Go.Proofs.Ytchmncgnaiiijaa.Pure
