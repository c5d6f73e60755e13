/- What the print's words and the walks are, as far as this claim names them. -/
import Derived.Test.YtkdaeleolomdkaaYRefPutV
import Derived.Test.YtkdaeleolomdkaaYSnapDecV
import Derived.Test.YtkdaeleolomdkaaYV18
import Derived.Test.YtkdaeleolomdkaaYV19
import Derived.Test.YtkdaeleolomdkaaYV20
import Derived.Test.YtkdaeleolomdkaaYV21
namespace Go.Proofs.Ytkdaeleolomdkaa.Pure
set_option linter.unusedVariables false
set_option linter.unusedSimpArgs false
open Go.RowKit Go.Proofs.Ytkdaeleolomdkaa.V Go.Proofs.YtkdaeleolomdkaaW.PrintWords Go.Proofs.YtkdaeleolomdkaaW.PrintLast RefSealV RefPutV SnapDecV
theorem copy_is {l : List Int} (h : l.length < 140737488355328) : fanlightplain_CopyBytes.f l = some l := by
  unfold fanlightplain_CopyBytes.f
  rw [if_pos (by simpa using h), List.nil_append]
theorem of_is {e s : Int} {l : List Int} (h : l.length < 140737488355328) : fanlightlaw07_of.f e s l = some (e, s, l) := by
  unfold fanlightlaw07_of.f
  rw [copy_is h, Option.bind_some]
theorem sameB (l : List Int) : fanlightplain_SameBytes.f l l = some true := by
  unfold fanlightplain_SameBytes.f
  rw [beq_self_eq_true]
theorem same_is (e s : Int) (l : List Int) : fanlightlaw07_same.f e s l e s l = some true := by
  unfold fanlightlaw07_same.f
  rw [if_pos rfl, if_pos rfl, sameB, Option.bind_some]
def slotB (l : List Int) : List Int := if 8160 ≤ l.length then l.take 8160 else l ++ List.replicate (8160 - l.length) 0
theorem slot_is {l : List Int} (h : l.length ≤ 140737488351232) : fanlightlaw07_slot.f l = some (slotB l) := by
  unfold fanlightlaw07_slot.f slotB
  by_cases h8 : 8160 ≤ l.length
  · rw [if_pos (show (l.length : Int) ≥ 8160 by omega), if_pos (show 8160 ≤ (l.length : Int) by omega), if_pos h8]
  · have hw : wrap64 (8160 - (l.length : Int)) = 8160 - (l.length : Int) := by rw [RefSealV.wrapI] <;> omega
    have hn : (8160 - (l.length : Int)).toNat = 8160 - l.length := by omega
    rw [if_neg (show ¬ (l.length : Int) ≥ 8160 by omega), if_neg h8, copy_is (by omega), Option.bind_some, hw, if_pos (show 0 ≤ 8160 - (l.length : Int) by omega), hn, if_pos (by omega)]
theorem slotB_octs {l : List Int} (h : octs l) : octs (slotB l) := by
  unfold slotB
  split
  · exact octs_take h _
  · intro x hx
    rcases List.mem_append.1 hx with hx | hx
    · exact h x hx
    · have := List.eq_of_mem_replicate hx
      omega
theorem dec_any {l : List Int} (ho : octs l) : ∃ r, Ev (fun k => fanlightref07_Decode.f k l) r ∧ Ev (fun k => snap_Decode.f k l) r := by
  by_cases hl : l.length = 8160
  · obtain ⟨r, h1, h2, _⟩ := dec_eq ho hl
    exact ⟨r, h1, h2⟩
  · refine ⟨(0, 0, [], 3), ?_, ?_⟩
    · simp only [fanlightref07_Decode.f, if_neg hl]
      exact Ev.now _
    · simp only [snap_Decode.f, if_neg (show ¬ (l.length : Int) = 8160 by omega)]
      exact Ev.now _
theorem refcheck_is (e s : Int) (l : List Int) : Ev (fun k => fanlightref07_Check.f k e s l) (checkOf e s l.length) := by
  have fin : ∀ b : Bool, (b = true ↔ (e < 0 ∨ s < 0 ∨ 1099511627776 < e ∨ 1099511627776 < s)) → Ev (fun k => fanlightref07_Check.j0 k b e s l) (checkOf e s l.length) := by
    intro b hb
    refine Ev.step (fun k => rfl) ?_
    unfold checkOf
    cases b with
    | true =>
      simp only [fanlightref07_Check.j0, if_true, if_pos (hb.1 rfl)]
      exact Ev.now _
    | false =>
      have : ¬ (e < 0 ∨ s < 0 ∨ 1099511627776 < e ∨ 1099511627776 < s) := fun h => by have := hb.2 h; cases this
      simp only [fanlightref07_Check.j0, Bool.false_eq_true, if_false, if_neg this]
      by_cases h8 : 8000 < l.length
      · simp only [if_pos (show (l.length : Int) > 8000 by omega), if_pos h8]
        exact Ev.now _
      · simp only [if_neg (show ¬ (l.length : Int) > 8000 by omega), if_neg h8]
        exact Ev.now _
  unfold fanlightref07_Check.f
  by_cases h1 : e < 0
  · simp only [if_pos h1]
    exact fin true (by simp [h1])
  · simp only [if_neg h1]
    by_cases h2 : e > 1099511627776
    · simp only [if_pos h2]
      exact fin true (by simp; omega)
    · simp only [if_neg h2]
      by_cases h3 : s < 0
      · simp only [if_pos h3]
        exact fin true (by simp [h3])
      · simp only [if_neg h3]
        exact fin _ (by rw [decide_eq_true_iff]; omega)
theorem refenc_is (e s : Int) (l : List Int) (ho : octs l) : ∃ X, snap_Encode.f e s l = some X ∧ Ev (fun k => fanlightref07_Encode.f k e s l) X := by
  unfold snap_Encode.f
  by_cases hc : checkOf e s l.length = 0
  · refine ⟨(slotOf e s l, 0), by rw [if_pos hc], ?_⟩
    have hm : 0 ≤ e ∧ e ≤ 1099511627776 ∧ 0 ≤ s ∧ s ≤ 1099511627776 ∧ l.length ≤ 8000 := by
      unfold checkOf at hc
      split at hc
      · cases hc
      · split at hc
        · cases hc
        · omega
    have we : IntKind.u64.wrap e = e := by
      simp [IntKind.wrap, IntKind.bits, IntKind.signed]
      omega
    have ws : IntKind.u64.wrap s = s := by
      simp [IntKind.wrap, IntKind.bits, IntKind.signed]
      omega
    unfold fanlightref07_Encode.f
    refine Ev.bind (refcheck_is e s l) ?_
    simp only [if_pos hc, we, ws]
    refine Ev.bind (octets8_is e) ?_
    refine Ev.bind (octets8_is s) ?_
    have l1 : (oc8 e).length = 8 := rfl
    have l2 : (oc8 s).length = 8 := rfl
    have hD : oc8 e ++ oc8 s ++ l = snapHead e s ++ l := rfl
    have hDl : (snapHead e s ++ l).length = l.length + 16 := by simp [snapHead, octs8]
    have hDo : octs (snapHead e s ++ l) := by
      intro x hx
      rcases List.mem_append.1 hx with hx | hx
      · rcases List.mem_append.1 hx with hx | hx
        · exact oc8_octs e x hx
        · exact oc8_octs s x hx
      · exact ho x hx
    simp only [if_pos (show (oc8 e).length + (oc8 s).length < 140737488355328 by rw [l1, l2]; omega), Option.bind_some, if_pos (show (oc8 e ++ oc8 s).length + l.length < 140737488355328 by rw [List.length_append, l1, l2]; omega), hD]
    obtain ⟨X, hX, hX2⟩ := put_ref 3 hDo
    have hX' : X = (sealBody 3 (snapHead e s ++ l) ++ laidL (sumOf (sealBody 3 (snapHead e s ++ l))), 0) := by
      unfold seal_Put.f at hX
      rw [if_neg (by omega), if_neg (by omega)] at hX
      exact (Option.some.inj hX).symm
    subst hX'
    refine Ev.bind hX2 ?_
    have hbl : (sealBody 3 (snapHead e s ++ l) ++ laidL (sumOf (sealBody 3 (snapHead e s ++ l)))).length = l.length + 24 := by
      simp only [List.length_append, sealBody, sealHead, List.length_cons, List.length_nil, laidL]
      rw [List.length_append] at hDl
      omega
    have hw : wrap64 (8160 - ((l.length + 24 : Nat) : Int)) = ((8136 - l.length : Nat) : Int) := by rw [RefSealV.wrapI] <;> omega
    simp only [hbl, hw, if_pos (show (0 : Int) ≤ ((8136 - l.length : Nat) : Int) by omega), Int.toNat_natCast, if_pos (show l.length + 24 + (8136 - l.length) < 140737488355328 by omega)]
    exact Ev.now _
  · refine ⟨([], checkOf e s l.length), by rw [if_neg hc], ?_⟩
    unfold fanlightref07_Encode.f
    refine Ev.bind (refcheck_is e s l) ?_
    simp only [if_neg hc]
    exact Ev.now _
theorem newest_is {p q : List Int} {rp rq : Int × Int × List Int × Int} (h1 : Ev (fun k => fanlightref07_Decode.f k p) rp) (h2 : Ev (fun k => fanlightref07_Decode.f k q) rq) : Ev (fun k => fanlightref07_Newest.f k p q) (newS rp rq) := by
  unfold fanlightref07_Newest.f
  refine Ev.bind h1 ?_
  refine Ev.bind h2 ?_
  obtain ⟨pe, ps, pd, px⟩ := rp
  obtain ⟨qe, qs, qd, qx⟩ := rq
  dsimp only
  by_cases hp : px = 0
  · simp only [if_pos hp]
    refine Ev.step (fun k => rfl) ?_
    simp only [fanlightref07_Newest.j0, Bool.false_eq_true, if_false, if_pos hp]
    by_cases hq : qx = 0
    · by_cases hlt : pe < qe
      · have hv : newS (pe, ps, pd, px) (qe, qs, qd, qx) = (qe, qs, qd, 1, 0) := by
          unfold newS nst2 nst1
          simp [hp, hq, hlt]
        simp only [if_pos hq, if_pos (show qe > pe from hlt), hv]
        exact Ev.now _
      · have hv : newS (pe, ps, pd, px) (qe, qs, qd, qx) = (pe, ps, pd, 0, 0) := by
          unfold newS nst2 nst1
          simp [hp, hq, hlt]
        simp only [if_pos hq, if_neg (show ¬ qe > pe from hlt), hv]
        exact Ev.now _
    · have hv : newS (pe, ps, pd, px) (qe, qs, qd, qx) = (pe, ps, pd, 0, 0) := by
        unfold newS nst2 nst1
        simp [hp, hq]
      simp only [if_neg hq, hv]
      exact Ev.now _
  · simp only [if_neg hp]
    refine Ev.step (fun k => rfl) ?_
    by_cases hq : qx = 0
    · have hb : (qx != 0) = false := bne_eq_false_iff_eq.2 hq
      have hv : newS (pe, ps, pd, px) (qe, qs, qd, qx) = (qe, qs, qd, 1, 0) := by
        unfold newS nst2 nst1
        simp [hp, hq]
      simp only [fanlightref07_Newest.j0, hb, Bool.false_eq_true, if_false, if_neg hp, hv]
      exact Ev.now _
    · have hb : (qx != 0) = true := bne_iff_ne.2 hq
      have hv : newS (pe, ps, pd, px) (qe, qs, qd, qx) = (0, 0, [], 0, 71) := by
        unfold newS nst2 nst1
        simp [hp, hq]
      simp only [fanlightref07_Newest.j0, hb, if_true, hv]
      exact Ev.now _
theorem SnapTells (e s : Int) (l a b : List Int) (ho : octs l) (hl : l.length ≤ 140737488351232) (hoa : octs a) (hla : a.length ≤ 140737488351232) (hob : octs b) (hlb : b.length ≤ 140737488351232) : ∃ k, fanlightlaw07_SnapTells.f k e s l a b = some true := by
  suffices H : Ev (fun k => fanlightlaw07_SnapTells.f k e s l a b) true by
    obtain ⟨K, h⟩ := H
    exact ⟨K, h K (Nat.le_refl _)⟩
  obtain ⟨X, hX, hX2⟩ := refenc_is e s l ho
  obtain ⟨rp, hp1, hp2⟩ := dec_any (slotB_octs hoa)
  obtain ⟨rq, hq1, hq2⟩ := dec_any (slotB_octs hob)
  obtain ⟨ra, ha1, ha2⟩ := dec_any hoa
  have hN : Ev (fun k => snap_Newest.f k (slotB a) (slotB b)) (newS rp rq) := by
    unfold snap_Newest.f
    refine Ev.bind hp2 ?_
    refine Ev.bind hq2 ?_
    exact Ev.now _
  have hck : Ev (fun k => snap_Check.f k e s l) (checkOf e s l.length) := Ev.of (k := 5) (fun k => snap_Check.mono e s l k) (check_is e s l)
  unfold fanlightlaw07_SnapTells.f
  simp only [of_is (e := e) (s := s) (l := l) (by omega), slot_is hla, slot_is hlb, hX, Option.bind_some]
  refine Ev.bind hX2 ?_
  refine Ev.bind hp2 ?_
  refine Ev.bind hp1 ?_
  refine Ev.bind hN ?_
  refine Ev.bind (newest_is hp1 hq1) ?_
  refine Ev.bind ha2 ?_
  refine Ev.bind ha1 ?_
  simp only [sameB, Option.bind_some, if_true, fanlightlaw07_num.f, same_is]
  refine Ev.bind hck ?_
  refine Ev.bind (refcheck_is e s l) ?_
  simp only [if_true, same_is, sameB, Option.bind_some, fanlightlaw07_alive.f]
  exact Ev.now _
end Go.Proofs.Ytkdaeleolomdkaa.Pure
