/- What the print's words and the walks are, as far as this claim names them. -/
import Derived.Test.YtkdaeleolomdkaaYDiskEv
import Derived.Test.YtkdaeleolomdkaaYDiskRefC
import Derived.Test.YtkdaeleolomdkaaYD40
namespace Go.Proofs.Ytkdaeleolomdkaa.PureOldNew
set_option linter.unusedVariables false
set_option linter.unusedSimpArgs false
open Go.RowKit Go.Proofs.Ytkdaeleolomdkaa.D Go.Proofs.YtkdaeleolomdkaaW.PrintWords Go.Proofs.YtkdaeleolomdkaaW.PrintLast DiskMath DiskEv DiskRefC
theorem land_get : ∀ (cs T : List (List Int)) (i j : Nat), (landL T i cs).getD j [] = T.getD j [] ∨ (i ≤ j ∧ j < i + cs.length ∧ (landL T i cs).getD j [] = cs.getD (j - i) [])
 | [], T, i, j => .inl rfl
 | c :: cs, T, i, j => by
  rw [landL]
  rcases land_get cs (T.set i c) (i + 1) j with h | ⟨h1, h2, h3⟩
  ·
   rw [h]
   by_cases hij : i = j
   ·
    subst hij
    by_cases hl : i < T.length
    ·
     refine .inr ⟨Nat.le_refl _, by simp, ?_⟩
     rw [Nat.sub_self, List.getD_eq_getElem?_getD, List.getElem?_set_self hl]
     rfl
    ·
     left
     rw [List.set_eq_of_length_le (by omega)]
   ·
    left
    rw [List.getD_eq_getElem?_getD, List.getElem?_set_ne hij, ← List.getD_eq_getElem?_getD]
  ·
   refine .inr ⟨by omega, by simp only [List.length_cons]; omega, ?_⟩
   rw [h3, show j - i = (j - (i + 1)) + 1 by omega]
   rfl
theorem sb_refl (a : List Int) : sbB a a = true := by unfold sbB; simp
theorem landW_get {T : List (List Int)} {x : S57} {nk : Int} (h0 : 0 ≤ x.f1) (j : Nat) : (landW T x nk).getD j [] = T.getD j [] ∨ newB ((landW T x nk).getD j []) j x = true := by
 unfold landW
 rcases land_get (((List.range (x.f2.length / 48)).take nk.toNat).map (chunkD x.f2)) T x.f1.toNat j with h | ⟨h1, h2, h3⟩
 ·
  exact .inl h
 ·
  right
  rw [h3]
  rw [List.length_map, List.length_take, List.length_range] at h2
  have hl : j - x.f1.toNat < ((List.range (x.f2.length / 48)).take nk.toNat).length := by rw [List.length_take, List.length_range]; omega
  have hg : (((List.range (x.f2.length / 48)).take nk.toNat).map (chunkD x.f2)).getD (j - x.f1.toNat) [] = chunkD x.f2 (j - x.f1.toNat) := by
   rw [List.getD_eq_getElem?_getD, List.getElem?_map, List.getElem?_eq_getElem hl]
   simp
  rw [hg]
  unfold newB
  rw [decide_eq_true (show 0 ≤ (j : Int) - x.f1 by omega), decide_eq_true (show (j : Int) - x.f1 < (x.f2.length : Int) / 48 by omega), show ((j : Int) - x.f1).toNat = j - x.f1.toNat by omega, sb_refl]
  rfl
theorem settle_get (kf : Nat → Int) (j : Nat) : ∀ (l : List S57) (i : Nat) (T : List (List Int)), (∀ x ∈ l, 0 ≤ x.f1) → (settleL kf i l T).getD j [] = T.getD j [] ∨ l.any (newB ((settleL kf i l T).getD j []) j) = true
 | [], i, T, _ => .inl rfl
 | x :: xs, i, T, h => by
  rw [settleL, List.any_cons]
  rcases settle_get kf j xs (i + 1) (landW T x (kf i)) (fun y hy => h y (by simp [hy])) with h1 | h1
  ·
   rw [h1]
   rcases landW_get (T := T) (nk := kf i) (h x (by simp)) j with h2 | h2
   ·
    exact .inl h2
   ·
    right
    rw [h2, Bool.true_or]
  ·
   right
   rw [h1, Bool.or_true]
theorem DiskOldOrNew (secs : List (List Int)) (cache : List S57) (keep : List Int) (hf : Fit secs cache) (hk : ∀ z ∈ keep, -9223372036854775808 ≤ z ∧ z ≤ 9223372036854775807) :
  ∃ k, true = true ∧ fanlightlaw05_DiskOldOrNew.P k secs cache keep := by
 obtain ⟨K1, h1⟩ := alive_is
 obtain ⟨K2, h2⟩ := of_is hf
 obtain ⟨K3, h3⟩ := refcheck_is (secs := secs) (cache := cache) hf.d
 refine ⟨K1 + K2 + K3, rfl, h1 _ (by omega), h2 _ (by omega), ⟨_, h3 _ (by omega), fun h => by rw [if_neg (by rw [h]; decide)]; decide⟩, hf.d, hk, fun hok i hi => ?_⟩
 have hO := okS_of hok
 unfold oldNewB
 rcases settle_get (keepF keep) i cache 0 secs (fun x hx => (hO.cok x hx).1) with h | h
 ·
  rw [h, sb_refl, Bool.true_or]
 ·
  rw [h, Bool.or_true]
end Go.Proofs.Ytkdaeleolomdkaa.PureOldNew
