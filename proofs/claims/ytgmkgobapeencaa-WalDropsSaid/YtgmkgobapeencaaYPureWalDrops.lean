/- What the print's words and the walks are, as far as this claim names them. -/
import Derived.Test.YtgmkgobapeencaaYWalFill
import Derived.Test.YtgmkgobapeencaaYS28
namespace Go.Proofs.Ytgmkgobapeencaa.PureDrops
set_option linter.unusedVariables false
set_option linter.unusedSimpArgs false
open Go.RowKit Go.Proofs.Ytgmkgobapeencaa.S Go.Proofs.YtgmkgobapeencaaW.PrintWords Go.Proofs.YtgmkgobapeencaaW.PrintLast RefSeal RefPut WalMath WalEv WalLog WalMore WalRef WalFill
theorem drops_l0 (seq : Int) (a b : List (Int × List Int)) (ha : ∀ r ∈ a, r.1 ≤ seq) (hn : (a ++ b).length ≤ 1000) : ∀ (rest pre : List (Int × List Int)), a = pre ++ rest → Ev (fun k => fanlightlaw06_WalDrops.l0 k seq ((a ++ b).map rowD) (b.map rowP) (a.map rowD) (pre.length : Int)) true
 | [], pre, h => by
  refine Ev.step (fun k => rfl) ?_
  have e : a = pre := by simpa using h
  have hd : ((a ++ b).map rowD).drop a.length = b.map rowD := by rw [List.map_append, List.drop_append_of_le_length (by simp), List.drop_of_length_le (by simp)]; rfl
  simp only [fanlightlaw06_WalDrops.l0, List.length_map, if_neg (show ¬ (pre.length : Int) < (a.length : Int) by rw [e]; omega), if_pos (show (0 : Int) ≤ (a.length : Int) by omega), if_pos (show (a.length : Int) ≤ ((a ++ b).length : Int) by rw [List.length_append]; omega), Int.toNat_natCast, hd]
  refine Ev.bind (same_is b (by rw [List.length_append] at hn; omega)) ?_
  exact Ev.now _
 | r :: rest, pre, h => by
  refine Ev.step (fun k => rfl) ?_
  have hlen : a.length = pre.length + 1 + rest.length := by rw [h]; simp; omega
  have hat : a[pre.length]? = some r := by rw [h, List.getElem?_append_right (Nat.le_refl _), Nat.sub_self]; rfl
  have e2 : rd_T57 (a.map rowD) (pre.length : Int) = rowD r := by
   unfold rd_T57
   rw [Int.toNat_natCast, List.getD_eq_getElem?_getD, List.getElem?_map, hat]
   rfl
  have hr : ¬ (rowD r).f0 > seq := by
   have := ha r (by rw [h]; simp)
   show ¬ r.1 > seq
   omega
  rw [List.length_append] at hn
  have w2 : wrap64 ((pre.length : Int) + 1) = (((pre ++ [r]).length : Nat) : Int) := by rw [List.length_append]; exact wI (by omega) (by omega)
  simp only [fanlightlaw06_WalDrops.l0, List.length_map, if_pos (show (pre.length : Int) < (a.length : Int) by omega), if_pos (show (0 : Int) ≤ (pre.length : Int) by omega), e2, if_neg hr, w2]
  exact drops_l0 seq a b ha (by rw [List.length_append]; omega) rest (pre ++ [r]) (by rw [h]; simp)
theorem WalDrops (a : Int) (l : List (List Int)) (seq : Int) (hl : ∀ d ∈ l, octs d) (hn : l.length ≤ 140737488351232) : ∃ k, fanlightlaw06_WalDrops.f k a l seq = some true := by
 suffices H : Ev (fun k => fanlightlaw06_WalDrops.f k a l seq) true by
  obtain ⟨K, h⟩ := H
  exact ⟨K, h K (Nat.le_refl _)⟩
 obtain ⟨segs, next, rs, hE, hF⟩ := fill_is a l hl (by omega)
 obtain ⟨h0, h1, h2⟩ := log_range hF.log
 obtain ⟨x, y, hxy, hlog, hx, hlen⟩ := drop_log segs next seq rs hF.ok hF.log
 have hdA : dropA segs next seq = (dropS segs next seq, next, 0) := by
  unfold dropA
  rw [hF.log, Option.isSome_some, if_pos rfl]
 have hdrop := drop_is hF.ok next seq
 rw [hdA] at hdrop
 have hfew := hF.few
 subst hxy
 rw [List.length_append] at hfew
 have hj1 : Ev (fun k => fanlightlaw06_WalDrops.j1 k seq ((x ++ y).map rowD) (y.map rowP) false) true := by
  refine Ev.step (fun k => rfl) ?_
  have w : wrap64 (((((x ++ y).map rowD).length : Nat) : Int) - (((y.map rowP).length : Nat) : Int)) = (x.length : Int) := by
   rw [List.length_map, List.length_map, List.length_append]
   exact (wI (by omega) (by omega)).trans (by omega)
  have ht : ((x ++ y).map rowD).take x.length = x.map rowD := by rw [List.map_append, List.take_append_of_le_length (by simp), List.take_of_length_le (by simp)]
  simp only [fanlightlaw06_WalDrops.j1, Bool.false_eq_true, if_false, w, if_pos (show (0 : Int) ≤ (x.length : Int) by omega), if_pos (show (x.length : Int) ≤ ((((x ++ y).map rowD).length : Nat) : Int) by rw [List.length_map, List.length_append]; omega), Int.toNat_natCast, ht]
  exact drops_l0 seq x y hx (by rw [List.length_append]; omega) x [] rfl
 unfold fanlightlaw06_WalDrops.f
 refine Ev.bind hE ?_
 refine Ev.bind alive_is ?_
 simp only [if_true, Bool.not_true]
 refine Ev.step (fun k => rfl) ?_
 simp only [fanlightlaw06_WalDrops.j0, Bool.false_eq_true, if_false]
 refine Ev.bind hdrop ?_
 refine Ev.bind (records_ok (drop_ok segs next seq hF.ok) hlog) ?_
 have hw : wrap64 (0 + 0) = 0 := wI (by omega) (by omega)
 have c1 : ¬ (((y.map rowP).length : Nat) : Int) > ((((x ++ y).map rowD).length : Nat) : Int) := by rw [List.length_map, List.length_map, List.length_append]; omega
 simp only [fanlightlaw06_num.f, Option.bind_some, hw, if_true, if_neg c1, decide_eq_false (show ¬ ((dropS segs next seq).length : Int) > (segs.length : Int) by omega)]
 exact hj1
end Go.Proofs.Ytgmkgobapeencaa.PureDrops
