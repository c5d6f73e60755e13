/- Any frame as octets, sums, and any octets read and scanned, are as the page says: every frame, every octets. -/
import Derived.Test.YtchmncgnaiiijaaRefSealT
import Derived.Test.YtchmncgnaiiijaaT16
namespace Go.Proofs.Ytchmncgnaiiijaa.Pure
set_option linter.unusedVariables false
set_option linter.unusedSimpArgs false
open Go.RowKit Go.Proofs.Ytchmncgnaiiijaa.T Go.Proofs.YtchmncgnaiiijaaW.PrintWords Go.Proofs.YtchmncgnaiiijaaW.PrintLast RefSealT
theorem copy_is {l : List Int} (h : l.length < 140737488355328) : fanlightplain_CopyBytes.f l = some l := by
  unfold fanlightplain_CopyBytes.f
  rw [if_pos (by simpa using h), List.nil_append]
theorem of_is {k : Int} {l : List Int} (h : l.length < 140737488355328) : fanlightlaw04_of.f k l = some (k, l) := by
  unfold fanlightlaw04_of.f
  rw [copy_is h, Option.bind_some]
theorem sameB (l : List Int) : fanlightplain_SameBytes.f l l = some true := by
  unfold fanlightplain_SameBytes.f
  rw [beq_self_eq_true]
theorem same_is (k : Int) (l : List Int) : fanlightlaw04_same.f k l k l = some true := by
  unfold fanlightlaw04_same.f
  rw [if_pos rfl, sameB, Option.bind_some]
theorem get_is {l : List Int} (h : l.length ≤ 140737488351232) (ho : octs l) : seal_Get.f l = some (getS l) := by
  unfold seal_Get.f
  rw [if_pos ⟨h, ho⟩]
theorem scan_is {l : List Int} (h : l.length ≤ 1099511627776) (ho : octs l) : seal_Scan.f l = some ((scanRows l).map (fun t => ⟨t.2.1, t.2.2⟩), scanEnd l) := by
  unfold seal_Scan.f
  rw [if_pos ⟨h, ho⟩]
/-- a length as three octets -/
theorem octets_is (n : Nat) (hn : n ≤ 65536) : Ev (fun k => fanlightref03_Octets.f k (n : Int) 3) [(n : Int) / 65536 % 256, (n : Int) / 256 % 256, (n : Int) % 256] := by
  have e0 : wrap64 (3 - 1) = 2 := by rw [wrapI] <;> omega
  have e1 : wrap64 (2 - 1) = 1 := by rw [wrapI] <;> omega
  have e2 : wrap64 (1 - 1) = 0 := by rw [wrapI] <;> omega
  have e3 : wrap64 (0 - 1) = -1 := by rw [wrapI] <;> omega
  have g2 : wrap64 (8 * 2) = 16 := by rw [wrapI] <;> omega
  have g1 : wrap64 (8 * 1) = 8 := by rw [wrapI] <;> omega
  have g0 : wrap64 (8 * 0) = 0 := by rw [wrapI] <;> omega
  have f2 : shr .u64 (n : Int) 16 = (n : Int) / 65536 := rfl
  have f1 : shr .u64 (n : Int) 8 = (n : Int) / 256 := rfl
  have f0 : shr .u64 (n : Int) 0 = (n : Int) := by
    show (n : Int) / 1 = n
    exact Int.ediv_one _
  unfold fanlightref03_Octets.f
  rw [e0]
  refine Ev.step (fun k => rfl) ?_
  simp only [fanlightref03_Octets.l0, if_pos (show (2 : Int) ≥ 0 by decide), g2, if_pos (show (0 : Int) ≤ 16 by decide), if_pos (show ([] : List Int).length < 140737488355328 by simp), e1, f2, List.nil_append]
  refine Ev.step (fun k => rfl) ?_
  simp only [fanlightref03_Octets.l0, if_pos (show (1 : Int) ≥ 0 by decide), g1, if_pos (show (0 : Int) ≤ 8 by decide), if_pos (show ([(n : Int) / 65536 % 256] : List Int).length < 140737488355328 by simp), e2, f1, List.cons_append, List.nil_append]
  refine Ev.step (fun k => rfl) ?_
  simp only [fanlightref03_Octets.l0, if_pos (show (0 : Int) ≥ 0 by decide), g0, if_pos (show (0 : Int) ≤ 0 by decide), if_pos (show ([(n : Int) / 65536 % 256, (n : Int) / 256 % 256] : List Int).length < 140737488355328 by simp), e3, f0, List.cons_append, List.nil_append]
  refine Ev.step (fun k => rfl) ?_
  simp only [fanlightref03_Octets.l0, if_neg (show ¬ (-1 : Int) ≥ 0 by decide)]
  exact Ev.now _
theorem put_ref (a : Int) {l : List Int} (ho : octs l) : ∃ X, seal_Put.f a l = some X ∧ Ev (fun k => fanlightref04_Put.f k a l) X := by
  by_cases h1 : a < 1
  · refine ⟨([], 22), ?_, ?_⟩
    · unfold seal_Put.f
      rw [if_pos (by omega)]
    · simp only [fanlightref04_Put.f, if_pos h1]
      exact Ev.step (fun k => rfl) (Ev.now _)
  by_cases h2 : a > 255
  · refine ⟨([], 22), ?_, ?_⟩
    · unfold seal_Put.f
      rw [if_pos (by omega)]
    · simp only [fanlightref04_Put.f, if_neg h1, decide_eq_true h2]
      exact Ev.step (fun k => rfl) (Ev.now _)
  by_cases h3 : (l.length : Int) > 65536
  · refine ⟨([], 5), ?_, ?_⟩
    · unfold seal_Put.f
      rw [if_neg (by omega), if_pos (by omega)]
    · simp only [fanlightref04_Put.f, if_neg h1, decide_eq_false h2]
      refine Ev.step (fun k => rfl) ?_
      simp only [fanlightref04_Put.j0, if_neg (show ¬ false = true by decide), if_pos h3]
      exact Ev.now _
  · refine ⟨(sealBody a l ++ laidL (sumOf (sealBody a l)), 0), ?_, ?_⟩
    · unfold seal_Put.f
      rw [if_neg (by omega), if_neg (by omega)]
    · simp only [fanlightref04_Put.f, if_neg h1, decide_eq_false h2]
      refine Ev.step (fun k => rfl) ?_
      have hw : IntKind.u64.wrap (l.length : Int) = (l.length : Int) := by
        simp [IntKind.wrap, IntKind.bits, IntKind.signed]
        omega
      have hb : [a % 256] ++ [(l.length : Int) / 65536 % 256, (l.length : Int) / 256 % 256, (l.length : Int) % 256] ++ l = sealBody a l := rfl
      have hbl : (sealBody a l).length = l.length + 4 := by simp [sealBody, sealHead]
      have hbo : octs (sealBody a l) := by
        intro x hx
        simp only [sealBody, sealHead, List.mem_append, List.mem_cons, List.mem_nil_iff, or_false] at hx
        rcases hx with (rfl | rfl | rfl | rfl) | h
        · omega
        · omega
        · omega
        · omega
        · exact ho x h
      simp only [fanlightref04_Put.j0, if_neg (show ¬ false = true by decide), if_neg h3, hw, Option.bind_some]
      refine Ev.bind (octets_is l.length (by omega)) ?_
      have c1 : ([a % 256] : List Int).length + [(l.length : Int) / 65536 % 256, (l.length : Int) / 256 % 256, (l.length : Int) % 256].length < 140737488355328 := by simp
      have c2 : ([a % 256] ++ [(l.length : Int) / 65536 % 256, (l.length : Int) / 256 % 256, (l.length : Int) % 256] : List Int).length + l.length < 140737488355328 := by simp; omega
      simp only [if_pos c1, if_pos c2, hb, Option.bind_some]
      refine Ev.bind (sum_is hbo (by omega)) ?_
      have hl : fanlightref04_laid.f (sumOf (sealBody a l)) = some (laidL (sumOf (sealBody a l))) := rfl
      have c3 : (sealBody a l).length + (laidL (sumOf (sealBody a l))).length < 140737488355328 := by rw [hbl]; show l.length + 4 + 4 < _; omega
      simp only [hl, Option.bind_some, if_pos c3]
      exact Ev.now _
def row34 (t : Int × Int × List Int) : S34 := ⟨t.2.1, t.2.2⟩
theorem scan_l0 (l : List Int) (ho : octs l) (hl : l.length ≤ 1099511627776) : ∀ (n p : Nat) (acc : List S34), l.length < n + p → p ≤ l.length → 8 * acc.length ≤ p →
    Ev (fun k => fanlightref04_Scan.l0 k l acc (p : Int)) (acc ++ (scanN n l p).map row34, ((scanN n l p).getLast?.map (·.1)).getD (p : Int))
  | 0, p, acc, h1, h2, h3 => by omega
  | n + 1, p, acc, h1, h2, h3 => by
    refine Ev.step (fun k => rfl) ?_
    simp only [fanlightref04_Scan.l0, if_pos (show (0 : Int) ≤ (p : Int) by omega), if_pos (show (p : Int) ≤ (l.length : Int) by omega), Int.toNat_natCast]
    refine Ev.bind (get_ref (octs_drop ho p) (by simp; omega)) ?_
    have hok := getS_ok (octs_drop ho p)
    rw [scanN]
    generalize getS (l.drop p) = G at hok ⊢
    obtain ⟨gk, gd, gn, gx⟩ := G
    dsimp only at hok ⊢
    by_cases hx : gx = 0
    · obtain ⟨h8, hle⟩ := hok hx
      obtain ⟨m, rfl⟩ := Int.eq_ofNat_of_zero_le (show 0 ≤ gn by omega)
      have hlm : (l.drop p).length = l.length - p := by simp
      have hw : wrap64 ((p : Int) + (m : Int)) = ((p + m : Nat) : Int) := by rw [wrapI] <;> omega
      simp only [if_pos hx, if_pos (show acc.length < 4398046511104 by omega), hw, Int.toNat_natCast]
      have ih := scan_l0 l ho hl n (p + m) (acc ++ [⟨gk, gd⟩]) (by omega) (by omega) (by simp; omega)
      have e : (((((p : Int) + (m : Int), gk, gd) :: scanN n l (p + m)).getLast?.map (·.1)).getD (p : Int)) = (((scanN n l (p + m)).getLast?.map (·.1)).getD ((p + m : Nat) : Int)) := by
        cases hs : scanN n l (p + m) with
        | nil => rfl
        | cons b bs =>
          rw [List.getLast?_cons_cons]
          cases hg : (b :: bs).getLast? with
          | none => simp at hg
          | some z => rfl
      rw [e, List.map_cons]
      rw [List.append_assoc] at ih
      exact ih
    · simp only [if_neg hx, List.map_nil, List.append_nil]
      exact Ev.now _
theorem scan_ref {l : List Int} (ho : octs l) (hl : l.length ≤ 1099511627776) : Ev (fun k => fanlightref04_Scan.f k l) ((scanRows l).map row34, scanEnd l) :=
  scan_l0 l ho hl (l.length + 1) 0 [] (by omega) (by omega) (by simp)
theorem scanN_short (l : List Int) (ho : octs l) : ∀ (n p : Nat), p ≤ l.length → 8 * (scanN n l p).length + p ≤ l.length
  | 0, p, h => by simpa [scanN] using h
  | n + 1, p, h => by
    rw [scanN]
    have hok := getS_ok (octs_drop ho p)
    generalize getS (l.drop p) = G at hok ⊢
    obtain ⟨gk, gd, gn, gx⟩ := G
    dsimp only at hok ⊢
    by_cases hx : gx = 0
    · obtain ⟨h8, hle⟩ := hok hx
      obtain ⟨m, rfl⟩ := Int.eq_ofNat_of_zero_le (show 0 ≤ gn by omega)
      have hlm : (l.drop p).length = l.length - p := by simp
      have ih := scanN_short l ho n (p + m) (by omega)
      rw [if_pos hx, List.length_cons, Int.toNat_natCast]
      omega
    · rw [if_neg hx]
      simpa using h
theorem sameAll_l0 (rows : List (Int × Int × List Int)) (hl : rows.length ≤ 4611686018427387904) : ∀ (d i : Nat), rows.length - i = d → i ≤ rows.length →
    Ev (fun k => fanlightlaw04_sameAll.l0 k (rows.map (fun t => (⟨t.2.1, t.2.2⟩ : S38))) (rows.map row34) (i : Int)) true
  | 0, i, hd, hi => by
    refine Ev.step (fun k => rfl) ?_
    simp only [fanlightlaw04_sameAll.l0, if_neg (show ¬ (i : Int) < ((rows.map (fun t => (⟨t.2.1, t.2.2⟩ : S38))).length : Int) by simp; omega)]
    exact Ev.now _
  | d + 1, i, hd, hi => by
    refine Ev.step (fun k => rfl) ?_
    have hlt : i < rows.length := by omega
    have n3 : wrap64 ((i : Int) + 1) = ((i + 1 : Nat) : Int) := by rw [wrapI] <;> omega
    have e1 : rd_T38 (rows.map (fun t => (⟨t.2.1, t.2.2⟩ : S38))) (i : Int) = ⟨rows[i].2.1, rows[i].2.2⟩ := by
      simp [rd_T38, List.getD_eq_getElem?_getD, hlt]
    have e2 : rd_T34 (rows.map row34) (i : Int) = ⟨rows[i].2.1, rows[i].2.2⟩ := by
      simp [rd_T34, List.getD_eq_getElem?_getD, hlt, row34]
    simp only [fanlightlaw04_sameAll.l0, if_pos (show (i : Int) < ((rows.map (fun t => (⟨t.2.1, t.2.2⟩ : S38))).length : Int) by simp; omega), if_pos (show (0 : Int) ≤ (i : Int) by omega), if_pos (show (i : Int) < ((rows.map row34).length : Int) by simp; omega), e1, e2, same_is, Option.bind_some, if_true, n3]
    exact sameAll_l0 rows hl d (i + 1) (by omega) (by omega)
theorem sameAll_is (rows : List (Int × Int × List Int)) (hl : rows.length ≤ 4611686018427387904) : Ev (fun k => fanlightlaw04_sameAll.f k (rows.map (fun t => (⟨t.2.1, t.2.2⟩ : S38))) (rows.map row34)) true := by
  unfold fanlightlaw04_sameAll.f
  simp only [List.length_map, if_true]
  exact sameAll_l0 rows hl rows.length 0 rfl (by omega)
theorem SealTells (a : Int) (d b : List Int) (hd : octs d) (hb : octs b) (hld : d.length ≤ 1048576) (hlb : b.length ≤ 1048576) : ∃ k, fanlightlaw04_SealTells.f k a d b = some true := by
  suffices H : Ev (fun k => fanlightlaw04_SealTells.f k a d b) true by
    obtain ⟨K, h⟩ := H
    exact ⟨K, h K (Nat.le_refl _)⟩
  obtain ⟨X, hX, hX2⟩ := put_ref a hd
  have hs := scanN_short b hb (b.length + 1) 0 (by omega)
  have hsum : seal_Sum.f b = some (sumOf b) := by
    unfold seal_Sum.f sumOf
    rw [if_pos (by omega)]
  unfold fanlightlaw04_SealTells.f
  simp only [of_is (k := a) (l := d) (by omega), copy_is (l := b) (by omega), hX, Option.bind_some]
  refine Ev.bind hX2 ?_
  simp only [get_is (l := b) (by omega) hb, Option.bind_some]
  refine Ev.bind (get_ref hb (by omega)) ?_
  simp only [scan_is (l := b) (by omega) hb, Option.bind_some]
  refine Ev.bind (scan_ref hb (by omega)) ?_
  simp only [sameB, Option.bind_some, if_true, fanlightlaw04_num.f, same_is]
  refine Ev.bind (sameAll_is (scanRows b) (by unfold scanRows; omega)) ?_
  simp only [if_true, hsum, Option.bind_some]
  refine Ev.bind (sum_is hb (by omega)) ?_
  simp only [if_true, same_is, sameB, Option.bind_some, fanlightlaw04_alive.f]
  exact Ev.now _
end Go.Proofs.Ytchmncgnaiiijaa.Pure
