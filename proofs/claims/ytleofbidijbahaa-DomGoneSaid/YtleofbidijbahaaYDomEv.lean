/- What the print's words and the walks are, as far as this claim names them. -/
import Derived.Test.YtleofbidijbahaaYD37
import Derived.Test.YtleofbidijbahaaYD50
import Derived.Test.YtleofbidijbahaaYD51
import Derived.Test.YtleofbidijbahaaYD35
import Derived.Test.YtleofbidijbahaaYD2
namespace Go.Proofs.Ytleofbidijbahaa.DomEv
set_option linter.unusedVariables false
set_option linter.unusedSimpArgs false
open Go.RowKit Go.Proofs.Ytleofbidijbahaa.D Go.Proofs.YtleofbidijbahaaW.PrintWords Go.Proofs.YtleofbidijbahaaW.PrintLast
theorem wI {i : Int} (h0 : -9223372036854775808 ≤ i) (h1 : i ≤ 9223372036854775807) : wrap64 i = i := by unfold wrap64; omega
theorem alive_is : fanlightlaw10_alive.f = some true := by decide +kernel
theorem alive_det : ∀ (r : Bool), fanlightlaw10_alive.f = some r → r = true := fun r h => by rw [alive_is] at h; injection h with h; exact h.symm
def toN (z : S64) : S63 := ⟨z.f0, z.f1, z.f2, z.f3, z.f4, z.f5, z.f6⟩
structure FitD (l : List S64) : Prop where
 n : l.length ≤ 1256584717421
 a : ∀ x ∈ l, x.f5.length < 4398046511104
 k : ∀ x ∈ l, x.f6.length < 17592186044416
 i : ∀ x ∈ l, ∀ k ∈ x.f6, -9223372036854775808 ≤ k ∧ k ≤ 9223372036854775807
theorem rd64_at {l pre rest : List S64} {x : S64} (h : l = pre ++ x :: rest) : rd_T64 l (pre.length : Int) = x := by
 unfold rd_T64
 rw [Int.toNat_natCast, h, List.getD_eq_getElem?_getD, List.getElem?_append_right (Nat.le_refl _), Nat.sub_self]
 rfl
theorem of_l0 (l : List S64) (r nx : Int) (hf : FitD l) : ∀ (rest pre : List S64), l = pre ++ rest → Ev (fun k => fanlightlaw10_Of.l0 k (pre.length : Int) l r nx (pre.map toN) r nx) (l.map toN, r, nx)
 | [], pre, h => by
  refine Ev.step (fun k => rfl) ?_
  have e : l = pre := by simpa using h
  simp only [fanlightlaw10_Of.l0, if_neg (show ¬ (pre.length : Int) < (l.length : Int) by rw [e]; omega)]
  rw [← e]
  exact Ev.now _
 | x :: xs, pre, h => by
  refine Ev.step (fun k => rfl) ?_
  have hlen : l.length = pre.length + 1 + xs.length := by rw [h]; simp; omega
  have hm : x ∈ l := by rw [h]; simp
  have hx := hf.a x hm
  have hk := hf.k x hm
  have hn := hf.n
  have hc : fanlightplain_CopyInts.f x.f6 = some x.f6 := by
   unfold fanlightplain_CopyInts.f
   rw [if_pos (by simpa using hk), List.nil_append]
  have hl : (pre.map toN).length < 1256584717458 := by rw [List.length_map]; omega
  have h5 : ([] : List S68).length + x.f5.length < 4398046511104 := by simpa using hx
  have hp : pre.map toN ++ [(⟨x.f0, x.f1, x.f2, x.f3, x.f4, ([] : List S68) ++ x.f5, x.f6⟩ : S63)] = (pre ++ [x]).map toN := by rw [List.map_append]; rfl
  have w2 : wrap64 ((pre.length : Int) + 1) = (((pre ++ [x]).length : Nat) : Int) := by rw [List.length_append]; exact wI (by omega) (by omega)
  simp only [fanlightlaw10_Of.l0, if_pos (show (pre.length : Int) < (l.length : Int) by omega), if_pos (show (0 : Int) ≤ (pre.length : Int) by omega), rd64_at h, hc, Option.bind_some, if_pos hl, if_pos h5, hp, w2]
  exact of_l0 l r nx hf xs (pre ++ [x]) (by rw [h]; simp)
theorem of_is {l : List S64} (r nx : Int) (h : FitD l) : Ev (fun k => fanlightlaw10_Of.f k l r nx) (l.map toN, r, nx) := of_l0 l r nx h l [] rfl
def placeI (id : Int) : List S64 → Int → Int
 | [], _ => -1
 | z :: zs, i => if z.f0 = id then i else placeI id zs (i + 1)
theorem place_l0 (l : List S64) (r nx id : Int) (hn : l.length ≤ 1256584717421) : ∀ (rest pre : List S64), l = pre ++ rest → Ev (fun k => fanlightref10_Place.l0 k id (pre.length : Int) l r nx) (placeI id rest (pre.length : Int))
 | [], pre, h => by
  refine Ev.step (fun k => rfl) ?_
  have e : l = pre := by simpa using h
  simp only [fanlightref10_Place.l0, if_neg (show ¬ (pre.length : Int) < (l.length : Int) by rw [e]; omega)]
  exact Ev.now _
 | x :: xs, pre, h => by
  refine Ev.step (fun k => rfl) ?_
  have hlen : l.length = pre.length + 1 + xs.length := by rw [h]; simp; omega
  have w2 : wrap64 ((pre.length : Int) + 1) = (((pre ++ [x]).length : Nat) : Int) := by rw [List.length_append]; exact wI (by omega) (by omega)
  by_cases hx : x.f0 = id
  ·
   simp only [fanlightref10_Place.l0, if_pos (show (pre.length : Int) < (l.length : Int) by omega), if_pos (show (0 : Int) ≤ (pre.length : Int) by omega), rd64_at h, if_pos hx, placeI]
   exact Ev.now _
  ·
   simp only [fanlightref10_Place.l0, if_pos (show (pre.length : Int) < (l.length : Int) by omega), if_pos (show (0 : Int) ≤ (pre.length : Int) by omega), rd64_at h, if_neg hx, placeI, w2]
   have := place_l0 l r nx id hn xs (pre ++ [x]) (by rw [h]; simp)
   rw [show (((pre ++ [x]).length : Nat) : Int) = (pre.length : Int) + 1 by rw [List.length_append]; rfl] at this ⊢
   exact this
theorem place_is (l : List S64) (r nx id : Int) (hn : l.length ≤ 1256584717421) : Ev (fun k => fanlightref10_Place.f k l r nx id) (placeI id l 0) := place_l0 l r nx id hn l [] rfl
theorem applyE_cases {s : S28} {p : S45} : ((applyE s p).1 ≠ 0 ∧ (applyE s p).2 = ⟨[], 0, 0⟩) ∨ ((applyE s p).1 = 0 ∧ ValidD s.f0 s.f1 s.f2 ∧ (doE s p).1 = 0 ∧ (applyE s p).2 = (doE s p).2) := by
 unfold applyE
 split
 ·
  rename_i h; exact .inl ⟨h, rfl⟩
 ·
  rename_i h
  split
  ·
   rename_i h2; exact .inl ⟨h2, rfl⟩
  ·
   rename_i h2
   exact .inr ⟨rfl, checkE_valid (Decidable.not_not.1 h), Decidable.not_not.1 h2, rfl⟩
end Go.Proofs.Ytleofbidijbahaa.DomEv
