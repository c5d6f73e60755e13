/- What the print's words and the walks are, as far as this claim names them. -/
import Derived.Test.YtleofbidijbahaaYD37
import Derived.Test.YtleofbidijbahaaYD50
import Derived.Test.YtleofbidijbahaaYD51
import Derived.Test.YtleofbidijbahaaYD35
import Derived.Test.YtleofbidijbahaaYD2
namespace Go.Proofs.Ytleofbidijbahaa.DomEv
set_option linter.unusedVariables false
set_option linter.unusedSimpArgs false
open Go.RowKit Go.Proofs.Ytleofbidijbahaa.D Go.Proofs.YtleofbidijbahaaW.PrintWords Go.Proofs.YtleofbidijbahaaW.PrintLast
theorem wI {i : Int} (h0 : -9223372036854775808 ≤ i) (h1 : i ≤ 9223372036854775807) : wrap64 i = i := by unfold wrap64; omega
theorem alive_is : fanlightlaw10_alive.f = some true := by decide +kernel
theorem alive_det : ∀ (r : Bool), fanlightlaw10_alive.f = some r → r = true := fun r h => by rw [alive_is] at h; injection h with h; exact h.symm
def toN (z : S64) : S63 := ⟨z.f0, z.f1, z.f2, z.f3, z.f4, z.f5, z.f6⟩
structure FitD (l : List S64) : Prop where
 n : l.length ≤ 1256584717421
 a : ∀ x ∈ l, x.f5.length < 4398046511104
 k : ∀ x ∈ l, x.f6.length < 17592186044416
 i : ∀ x ∈ l, ∀ k ∈ x.f6, -9223372036854775808 ≤ k ∧ k ≤ 9223372036854775807
theorem rd64_at {l pre rest : List S64} {x : S64} (h : l = pre ++ x :: rest) : rd_T64 l (pre.length : Int) = x := by
 unfold rd_T64
 rw [Int.toNat_natCast, h, List.getD_eq_getElem?_getD, List.getElem?_append_right (Nat.le_refl _), Nat.sub_self]
 rfl
theorem of_l0 (l : List S64) (r nx : Int) (hf : FitD l) : ∀ (rest pre : List S64), l = pre ++ rest → Ev (fun k => fanlightlaw10_Of.l0 k (pre.length : Int) l r nx (pre.map toN) r nx) (l.map toN, r, nx)
 | [], pre, h => by
  refine Ev.step (fun k => rfl) ?_
  have e : l = pre := by simpa using h
  simp only [fanlightlaw10_Of.l0, if_neg (show ¬ (pre.length : Int) < (l.length : Int) by rw [e]; omega)]
  rw [← e]
  exact Ev.now _
 | x :: xs, pre, h => by
  refine Ev.step (fun k => rfl) ?_
  have hlen : l.length = pre.length + 1 + xs.length := by rw [h]; simp; omega
  have hm : x ∈ l := by rw [h]; simp
  have hx := hf.a x hm
  have hk := hf.k x hm
  have hn := hf.n
  have hc : fanlightplain_CopyInts.f x.f6 = some x.f6 := by
   unfold fanlightplain_CopyInts.f
   rw [if_pos (by simpa using hk), List.nil_append]
  have hl : (pre.map toN).length < 1256584717458 := by rw [List.length_map]; omega
  have h5 : ([] : List S68).length + x.f5.length < 4398046511104 := by simpa using hx
  have hp : pre.map toN ++ [(⟨x.f0, x.f1, x.f2, x.f3, x.f4, ([] : List S68) ++ x.f5, x.f6⟩ : S63)] = (pre ++ [x]).map toN := by rw [List.map_append]; rfl
  have w2 : wrap64 ((pre.length : Int) + 1) = (((pre ++ [x]).length : Nat) : Int) := by rw [List.length_append]; exact wI (by omega) (by omega)
  simp only [fanlightlaw10_Of.l0, if_pos (show (pre.length : Int) < (l.length : Int) by omega), if_pos (show (0 : Int) ≤ (pre.length : Int) by omega), rd64_at h, hc, Option.bind_some, if_pos hl, if_pos h5, hp, w2]
  exact of_l0 l r nx hf xs (pre ++ [x]) (by rw [h]; simp)
theorem of_is {l : List S64} (r nx : Int) (h : FitD l) : Ev (fun k => fanlightlaw10_Of.f k l r nx) (l.map toN, r, nx) := of_l0 l r nx h l [] rfl
def placeI (id : Int) : List S64 → Int → Int
 | [], _ => -1
 | z :: zs, i => if z.f0 = id then i else placeI id zs (i + 1)
theorem place_l0 (l : List S64) (r nx id : Int) (hn : l.length ≤ 1256584717421) : ∀ (rest pre : List S64), l = pre ++ rest → Ev (fun k => fanlightref10_Place.l0 k id (pre.length : Int) l r nx) (placeI id rest (pre.length : Int))
 | [], pre, h => by
  refine Ev.step (fun k => rfl) ?_
  have e : l = pre := by simpa using h
  simp only [fanlightref10_Place.l0, if_neg (show ¬ (pre.length : Int) < (l.length : Int) by rw [e]; omega)]
  exact Ev.now _
 | x :: xs, pre, h => by
  refine Ev.step (fun k => rfl) ?_
  have hlen : l.length = pre.length + 1 + xs.length := by rw [h]; simp; omega
  have w2 : wrap64 ((pre.length : Int) + 1) = (((pre ++ [x]).length : Nat) : Int) := by rw [List.length_append]; exact wI (by omega) (by omega)
  by_cases hx : x.f0 = id
  ·
   simp only [fanlightref10_Place.l0, if_pos (show (pre.length : Int) < (l.length : Int) by omega), if_pos (show (0 : Int) ≤ (pre.length : Int) by omega), rd64_at h, if_pos hx, placeI]
   exact Ev.now _
  ·
   simp only [fanlightref10_Place.l0, if_pos (show (pre.length : Int) < (l.length : Int) by omega), if_pos (show (0 : Int) ≤ (pre.length : Int) by omega), rd64_at h, if_neg hx, placeI, w2]
   have := place_l0 l r nx id hn xs (pre ++ [x]) (by rw [h]; simp)
   rw [show (((pre ++ [x]).length : Nat) : Int) = (pre.length : Int) + 1 by rw [List.length_append]; rfl] at this ⊢
   exact this
theorem place_is (l : List S64) (r nx id : Int) (hn : l.length ≤ 1256584717421) : Ev (fun k => fanlightref10_Place.f k l r nx id) (placeI id l 0) := place_l0 l r nx id hn l [] rfl
theorem placeI_none (id : Int) : ∀ (l : List S64) (i : Int), 0 ≤ i → (placeI id l i < 0 ↔ ∀ z ∈ l, z.f0 ≠ id)
 | [], i, h => by simp [placeI]
 | z :: zs, i, h => by
  unfold placeI
  by_cases hz : z.f0 = id
  ·
   rw [if_pos hz]
   constructor
   ·
    intro h2; omega
   ·
    intro h2; exact absurd hz (h2 z (List.mem_cons_self ..))
  ·
   rw [if_neg hz, placeI_none id zs (i + 1) (by omega)]
   constructor
   ·
    intro h2 y hy
    rcases List.mem_cons.1 hy with rfl | hy
    ·
     exact hz
    ·
     exact h2 y hy
   ·
    intro h2 y hy; exact h2 y (List.mem_cons_of_mem _ hy)
theorem doE_ids {s : S28} {p : S45} (h : ValidD s.f0 s.f1 s.f2) (he : (doE s p).1 = 0) : s.f2 ≤ (doE s p).2.f2 ∧ ∀ y ∈ (doE s p).2.f0, (∃ z ∈ s.f0, z.f0 = y.f0) ∨ y.f0 = s.f2 := by
 have hset : ∀ (i : Nat) (x x' : Nd), i < s.f0.length → rd_T63 s.f0 (i : Int) = x → x'.f0 = x.f0 → ∀ y ∈ s.f0.set i x', (∃ z ∈ s.f0, z.f0 = y.f0) ∨ y.f0 = s.f2 := by
  intro i x x' hi hx h0 y hy
  rw [rd_lt hi] at hx
  rcases List.mem_or_eq_of_mem_set hy with hy | rfl
  ·
   exact .inl ⟨y, hy, rfl⟩
  ·
   exact .inl ⟨x, by rw [← hx]; exact List.getElem_mem _, h0.symm⟩
 unfold doE at he ⊢
 split
 ·
  rename_i hc
  rw [if_pos hc] at he
  unfold createE at he ⊢
  split at he
  ·
   cases he
  rename_i g1
  split at he
  ·
   cases he
  rename_i g2
  split at he
  ·
   cases he
  rename_i g3
  rw [if_neg g1, if_neg g2, if_neg g3]
  refine ⟨by show s.f2 ≤ s.f2 + 1; omega, fun y hy => ?_⟩
  have hy2 : y ∈ s.f0 ++ [⟨p.f1, 0, p.f4, p.f5, p.f6, [], []⟩] := hy
  rcases List.mem_append.1 hy2 with hy2 | hy2
  ·
   exact .inl ⟨y, hy2, rfl⟩
  ·
   rw [List.mem_singleton.1 hy2]
   exact .inr (by simpa using g1)
 rename_i hc1
 rw [if_neg hc1] at he
 split
 ·
  rename_i hc
  rw [if_pos hc] at he
  unfold hangE at he ⊢
  cases hx : nodeOf s.f0 p.f1 with
  | none => rw [hx] at he; cases he
  | some x =>
   cases hy : nodeOf s.f0 p.f2 with
   | none => rw [hx, hy] at he; cases he
   | some y =>
    rw [hx, hy] at he
    simp only at he ⊢
    split at he
    ·
     cases he
    rename_i g1
    split at he
    ·
     cases he
    rename_i g2
    split at he
    ·
     cases he
    rename_i g3
    split at he
    ·
     cases he
    rename_i g4
    split at he
    ·
     cases he
    rename_i g5
    rw [if_neg g1, if_neg g2, if_neg g3, if_neg g4, if_neg g5]
    obtain ⟨hL1, hr1, hx0⟩ := nodeOf_some hx
    obtain ⟨hL2, hr2, hy0⟩ := nodeOf_some hy
    rw [rd_lt hL1] at hr1
    rw [rd_lt hL2] at hr2
    have hF := hungF_map h.rises hL1 hL2 p.f3
    simp only [hr1, hr2] at hF
    rw [hx0, hy0] at hF
    refine ⟨Int.le_refl _, fun v hv => ?_⟩
    have hv2 : v ∈ hungF s.f0 (lowP s.f0 p.f1) (lowP s.f0 p.f2) p.f3 p.f1 p.f2 := hv
    rw [hF] at hv2
    obtain ⟨q, hq, rfl⟩ := List.mem_map.1 hv2
    obtain ⟨z, hz, rfl⟩ := List.mem_map.1 hq
    exact .inl ⟨z, hz, rfl⟩
 rename_i hc2
 rw [if_neg hc2] at he
 split
 ·
  rename_i hc
  unfold rootE
  split
  ·
   exact ⟨Int.le_refl _, fun y hy => .inl ⟨y, hy, rfl⟩⟩
  cases hx : nodeOf s.f0 p.f1 with
  | none => exact ⟨Int.le_refl _, fun y hy => .inl ⟨y, hy, rfl⟩⟩
  | some y =>
   simp only
   split
   ·
    exact ⟨Int.le_refl _, fun y hy => .inl ⟨y, hy, rfl⟩⟩
   ·
    split
    ·
     exact ⟨Int.le_refl _, fun y hy => .inl ⟨y, hy, rfl⟩⟩
    ·
     exact ⟨Int.le_refl _, fun y hy => .inl ⟨y, hy, rfl⟩⟩
 rename_i hc3
 rw [if_neg hc3] at he
 split
 ·
  exact ⟨Int.le_refl _, fun y hy => .inl ⟨y, hy, rfl⟩⟩
 rename_i hc4
 rw [if_neg hc4] at he
 cases hx : nodeOf s.f0 p.f1 with
 | none => exact ⟨Int.le_refl _, fun y hy => .inl ⟨y, hy, rfl⟩⟩
 | some x =>
  rw [hx] at he
  simp only at he ⊢
  obtain ⟨hL, hr, hx0⟩ := nodeOf_some hx
  split
  ·
   refine ⟨Int.le_refl _, fun y hy => ?_⟩
   have hy2 : y ∈ (offF s.f0 (lowP s.f0 p.f1)).filter _ := hy
   have hy3 := (List.mem_filter.1 hy2).1
   rw [offF_map h.rises hL] at hy3
   obtain ⟨z, hz, rfl⟩ := List.mem_map.1 hy3
   exact .inl ⟨z, hz, rfl⟩
  ·
   split
   ·
    exact ⟨Int.le_refl _, fun y hy => .inl ⟨y, hy, rfl⟩⟩
   ·
    refine ⟨Int.le_refl _, hset _ x _ hL hr ?_⟩
    unfold nodeOp setE unsetE writeE
    repeat' split
    all_goals rfl
theorem applyE_cases {s : S28} {p : S45} : ((applyE s p).1 ≠ 0 ∧ (applyE s p).2 = ⟨[], 0, 0⟩) ∨ ((applyE s p).1 = 0 ∧ ValidD s.f0 s.f1 s.f2 ∧ (doE s p).1 = 0 ∧ (applyE s p).2 = (doE s p).2) := by
 unfold applyE
 split
 ·
  rename_i h; exact .inl ⟨h, rfl⟩
 ·
  rename_i h
  split
  ·
   rename_i h2; exact .inl ⟨h2, rfl⟩
  ·
   rename_i h2
   exact .inr ⟨rfl, checkE_valid (Decidable.not_not.1 h), Decidable.not_not.1 h2, rfl⟩
end Go.Proofs.Ytleofbidijbahaa.DomEv
