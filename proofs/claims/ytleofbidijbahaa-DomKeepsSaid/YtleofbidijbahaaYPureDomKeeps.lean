/- What the print's words and the walks are, as far as this claim names them. -/
import Derived.Test.YtleofbidijbahaaYDomEv
import Derived.Test.YtleofbidijbahaaYD57
namespace Go.Proofs.Ytleofbidijbahaa.PureKeeps
set_option linter.unusedVariables false
set_option linter.unusedSimpArgs false
open Go.RowKit Go.Proofs.Ytleofbidijbahaa.D Go.Proofs.YtleofbidijbahaaW.PrintWords Go.Proofs.YtleofbidijbahaaW.PrintLast DomEv
theorem rd63_at {l pre rest : List S63} {x : S63} (h : l = pre ++ x :: rest) : rd_T63 l (pre.length : Int) = x := by
 unfold rd_T63
 rw [Int.toNat_natCast, h, List.getD_eq_getElem?_getD, List.getElem?_append_right (Nat.le_refl _), Nat.sub_self]
 rfl
theorem loop_is (l : List S64) (r nx r2 n2 : Int) (t : List S63) (hn : l.length ≤ 1256584717421) (ht : t.length ≤ 1024) (hall : ∀ y ∈ t, (∃ z ∈ l, z.f0 = y.f0) ∨ y.f0 = nx) : ∀ (rest pre : List S63), t = pre ++ rest → Ev (fun k => fanlightlaw10_DomKeeps.l0 k (pre.length : Int) l r nx t r2 n2) true
 | [], pre, h => by
  refine Ev.step (fun k => rfl) ?_
  have e : t = pre := by simpa using h
  simp only [fanlightlaw10_DomKeeps.l0, if_neg (show ¬ (pre.length : Int) < (t.length : Int) by rw [e]; omega)]
  exact Ev.now _
 | x :: xs, pre, h => by
  refine Ev.step (fun k => rfl) ?_
  have hlen : t.length = pre.length + 1 + xs.length := by rw [h]; simp; omega
  have hm : x ∈ t := by rw [h]; simp
  have w2 : wrap64 ((pre.length : Int) + 1) = (((pre ++ [x]).length : Nat) : Int) := by rw [List.length_append]; exact wI (by omega) (by omega)
  simp only [fanlightlaw10_DomKeeps.l0, if_pos (show (pre.length : Int) < (t.length : Int) by omega), if_pos (show (0 : Int) ≤ (pre.length : Int) by omega), rd63_at h]
  refine Ev.bind (place_is l r nx x.f0 hn) ?_
  have ih := loop_is l r nx r2 n2 t hn ht hall xs (pre ++ [x]) (by rw [h]; simp)
  by_cases hp : placeI x.f0 l 0 < 0
  ·
   have hno := (placeI_none x.f0 l 0 (Int.le_refl _)).1 hp
   have hx := (hall x hm).resolve_left (fun ⟨z, hz, hz0⟩ => hno z hz hz0)
   simp only [if_pos hp, if_neg (show ¬ x.f0 < nx by omega), w2]
   exact ih
  ·
   simp only [if_neg hp, w2]
   exact ih
theorem DomKeeps (l : List S64) (r nx p0 p1 p2 p3 : Int) (p4 p5 p6 p7 p8 : ByteArray) (hf : FitD l) : ∃ k, fanlightlaw10_DomKeeps.f k l r nx p0 p1 p2 p3 p4 p5 p6 p7 p8 = some true := by
 refine Ev.rounds ?_
 unfold fanlightlaw10_DomKeeps.f
 simp only [alive_is, Option.bind_some, if_true]
 refine Ev.bind (of_is r nx hf) ?_
 have hki : ∀ x ∈ l.map toN, ∀ k ∈ x.f6, -9223372036854775808 ≤ k ∧ k ≤ 9223372036854775807 := fun x hx => by
  obtain ⟨z, hz, rfl⟩ := List.mem_map.1 hx
  exact hf.i z hz
 obtain ⟨s, hs⟩ : ∃ s : S28, (⟨l.map toN, r, nx⟩ : S28) = s := ⟨_, rfl⟩
 obtain ⟨p, hp⟩ : ∃ p : S45, (⟨p0, p1, p2, p3, p4, p5, p6, p7, p8⟩ : S45) = p := ⟨_, rfl⟩
 have hA : dom_Apply.f (l.map toN) r nx p0 p1 p2 p3 p4 p5 p6 p7 p8 = some ((applyE s p).2.f0, (applyE s p).2.f1, (applyE s p).2.f2, (applyE s p).1) := by
  unfold dom_Apply.f
  rw [if_pos hki, hs, hp]
 simp only [hA, Option.bind_some, fanlightlaw10_num.f]
 rcases applyE_cases (s := s) (p := p) with ⟨h1, h2⟩ | ⟨h1, hv, h3, h2⟩
 ·
  simp only [if_neg h1, h2]
  exact Ev.now _
 ·
  simp only [if_pos h1, h2]
  have hv2 := doE_valid hv h3
  obtain ⟨hi1, hi2⟩ := doE_ids hv h3
  have hs0 : s.f0 = l.map toN := by rw [← hs]
  have hs2 : s.f2 = nx := by rw [← hs]
  have hck : checkE (doE s p).2.f0 (doE s p).2.f1 (doE s p).2.f2 = 0 := valid_checkE hv2
  have hcf : dom_Check.f (doE s p).2.f0 (doE s p).2.f1 (doE s p).2.f2 = some 0 := by
   unfold dom_Check.f
   rw [if_pos, hck]
   intro x hx k hk
   obtain ⟨y, hy, hy0, _⟩ := hv2.kids x hx k hk
   have := hv2.ids y hy
   have := hv2.nx2
   omega
  simp only [hcf, Option.bind_some, if_true]
  refine Ev.step (fun k => rfl) ?_
  rw [hs2] at hi1
  simp only [fanlightlaw10_DomKeeps.j0, if_neg (show ¬ (decide ((doE s p).2.f2 < nx)) = true by simpa using hi1)]
  refine loop_is l r nx _ _ (doE s p).2.f0 hf.n hv2.len (fun y hy => ?_) (doE s p).2.f0 [] rfl
  rcases hi2 y hy with ⟨z, hz, hz0⟩ | h4
  ·
   rw [hs0] at hz
   obtain ⟨q, hq, rfl⟩ := List.mem_map.1 hz
   exact .inl ⟨q, hq, hz0⟩
  ·
   exact .inr (by rw [h4, hs2])
end Go.Proofs.Ytleofbidijbahaa.PureKeeps
