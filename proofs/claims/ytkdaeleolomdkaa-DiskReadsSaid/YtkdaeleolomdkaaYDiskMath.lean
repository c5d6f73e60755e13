/- What the print's words and the walks are, as far as this claim names them. -/
import Derived.Test.YtkdaeleolomdkaaYD7
import Derived.Test.YtkdaeleolomdkaaYD8
import Derived.Test.YtkdaeleolomdkaaYD10
import Derived.Test.YtkdaeleolomdkaaYD11
namespace Go.Proofs.Ytkdaeleolomdkaa.DiskMath
set_option linter.unusedVariables false
set_option linter.unusedSimpArgs false
open Go.RowKit Go.Proofs.Ytkdaeleolomdkaa.D Go.Proofs.YtkdaeleolomdkaaW.PrintWords Go.Proofs.YtkdaeleolomdkaaW.PrintLast
theorem land_eq : ∀ (cs T : List (List Int)) (i : Nat), i + cs.length ≤ T.length → landL T i cs = T.take i ++ cs ++ T.drop (i + cs.length)
 | [], T, i, h => by simp [landL]
 | c :: cs, T, i, h => by
  simp only [List.length_cons] at h
  rw [landL, land_eq cs (T.set i c) (i + 1) (by rw [List.length_set]; omega)]
  have e1 : (T.set i c).take (i + 1) = T.take i ++ [c] := by
   rw [List.take_succ_eq_append_getElem (by rw [List.length_set]; omega), List.getElem_set_self, List.take_set_of_le (Nat.le_refl _)]
  have e2 : (T.set i c).drop (i + 1 + cs.length) = T.drop (i + (c :: cs).length) := by
   rw [List.drop_set_of_lt (by omega)]
   simp only [List.length_cons]
   rw [show i + 1 + cs.length = i + (cs.length + 1) by omega]
  rw [e1, e2]
  simp
theorem land_take {cs T : List (List Int)} {i : Nat} (h : i + cs.length ≤ T.length) : (landL T i cs).take i = T.take i := by
 rw [land_eq cs T i h, List.append_assoc, List.take_append_of_le_length (by rw [List.length_take]; omega), List.take_take, Nat.min_self]
theorem land_mid {cs T : List (List Int)} {i : Nat} (h : i + cs.length ≤ T.length) : ((landL T i cs).drop i).take cs.length = cs := by
 have hl : (T.take i).length = i := by rw [List.length_take]; omega
 rw [land_eq cs T i h, List.append_assoc, List.drop_append_of_le_length (by omega)]
 rw [show (T.take i).drop i = [] from List.drop_of_length_le (by omega), List.nil_append, List.take_left]
theorem land_drop {cs T : List (List Int)} {i : Nat} (h : i + cs.length ≤ T.length) : (landL T i cs).drop (i + cs.length) = T.drop (i + cs.length) := by
 have hl : (T.take i ++ cs).length = i + cs.length := by rw [List.length_append, List.length_take]; omega
 rw [land_eq cs T i h]
 have h2 := List.drop_left (l₁ := T.take i ++ cs) (l₂ := T.drop (i + cs.length))
 rwa [hl] at h2
theorem chunks_flat : ∀ (cnt : Nat) (data : List Int), data.length = 48 * cnt → ((List.range cnt).map (chunkD data)).flatten = data
 | 0, data, h => by
  have : data = [] := List.length_eq_zero_iff.1 (by omega)
  subst this
  rfl
 | cnt + 1, data, h => by
  have ih := chunks_flat cnt (data.drop 48) (by rw [List.length_drop]; omega)
  rw [List.range_succ_eq_map, List.map_cons, List.flatten_cons, List.map_map]
  have e : (chunkD data ∘ Nat.succ) = chunkD (data.drop 48) := by
   funext j
   simp only [chunkD, Function.comp, List.drop_drop]
   congr 2
   omega
  rw [e, ih]
  show (data.drop (48 * 0)).take 48 ++ data.drop 48 = data
  rw [Nat.mul_zero, List.drop_zero, List.take_append_drop]
theorem chunks_len (cnt : Nat) (data : List Int) : ((List.range cnt).map (chunkD data)).length = cnt := by simp
theorem landW_all {T : List (List Int)} {x : S57} {nk : Int} (h : okW T.length x) (hn : ((x.f2.length / 48 : Nat) : Int) ≤ nk) : landW T x nk = landL T x.f1.toNat ((List.range (x.f2.length / 48)).map (chunkD x.f2)) := by
 unfold landW
 rw [List.take_of_length_le (by rw [List.length_range]; omega)]
theorem okW_fit {n : Nat} {x : S57} (h : okW n x) : x.f1.toNat + x.f2.length / 48 ≤ n ∧ x.f2.length = 48 * (x.f2.length / 48) ∧ 0 < x.f2.length / 48 := by
 obtain ⟨h1, h2, h3, h4⟩ := h
 refine ⟨by omega, by omega, by omega⟩
theorem cnt_le {n : Nat} {x : S57} (h : okW n x) (hn : n ≤ 4096) : ((x.f2.length / 48 : Nat) : Int) ≤ 4096 := by
 have := okW_fit h
 omega
theorem okSb_iff {secs : List (List Int)} {cache : List S57} : okSb secs cache = true ↔ secs.length ≠ 0 ∧ secs.length ≤ 4096 ∧ cache.length ≤ 4096 ∧ (∀ s ∈ secs, s.length = 48) ∧ (∀ x ∈ cache, x.f0 = false ∧ chkW secs.length x.f1 x.f2.length = 0) := by
 unfold okSb
 simp only [Bool.not_eq_true', Bool.or_eq_false_iff, decide_eq_false_iff_not, List.any_eq_false]
 constructor
 ·
  rintro ⟨⟨⟨⟨h1, h2⟩, h3⟩, h4⟩, h5⟩
  refine ⟨h1, by omega, by omega, fun s hs => ?_, fun x hx => ?_⟩
  ·
   have := h4 s hs
   simp at this
   omega
  ·
   have := h5 x hx
   simpa using this
 ·
  rintro ⟨h1, h2, h3, h4, h5⟩
  refine ⟨⟨⟨⟨h1, by omega⟩, by omega⟩, fun s hs => ?_⟩, fun x hx => ?_⟩
  ·
   have := h4 s hs
   simp [this]
  ·
   have := h5 x hx
   simp [this.1, this.2]
theorem okSb_app {secs : List (List Int)} {cache : List S57} {x : S57} (h : okSb secs cache = true) (hf : x.f0 = false) (hc : chkW secs.length x.f1 x.f2.length = 0) (hn : cache.length ≠ 4096) : okSb secs (cache ++ [x]) = true := by
 obtain ⟨h1, h2, h3, h4, h5⟩ := okSb_iff.1 h
 refine okSb_iff.2 ⟨h1, h2, by rw [List.length_append, List.length_singleton]; omega, h4, fun y hy => ?_⟩
 rcases List.mem_append.1 hy with hy | hy
 ·
  exact h5 y hy
 ·
  rw [List.mem_singleton.1 hy]
  exact ⟨hf, hc⟩
theorem settle_app (kf : Nat → Int) (secs : List (List Int)) (cache : List S57) (x : S57) : settleL kf 0 (cache ++ [x]) secs = landW (settleL kf 0 cache secs) x (kf cache.length) := by
 rw [settleL_snoc, Nat.zero_add]
end Go.Proofs.Ytkdaeleolomdkaa.DiskMath
