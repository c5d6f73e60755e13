/- What the print's words and the walks are, as far as this claim names them. -/
import Derived.Test.YtgmkgobapeencaaYWalEv
import Derived.Test.YtgmkgobapeencaaYS1
import Derived.Test.YtgmkgobapeencaaYS7
import Derived.Test.YtgmkgobapeencaaYS8
import Derived.Test.YtgmkgobapeencaaYS9
import Derived.Test.YtgmkgobapeencaaYS14
import Derived.Test.YtgmkgobapeencaaYS15
import Derived.Test.YtgmkgobapeencaaYS17
import Derived.Test.YtgmkgobapeencaaYS18
import Derived.Test.YtgmkgobapeencaaYS19
import Derived.Test.YtgmkgobapeencaaYS20
import Derived.Test.YtgmkgobapeencaaYS22
import Derived.Test.YtgmkgobapeencaaYS24
namespace Go.Proofs.Ytgmkgobapeencaa.WalLog
set_option linter.unusedVariables false
set_option linter.unusedSimpArgs false
open Go.RowKit Go.Proofs.Ytgmkgobapeencaa.S Go.Proofs.YtgmkgobapeencaaW.PrintWords Go.Proofs.YtgmkgobapeencaaW.PrintLast RefSeal RefPut WalMath WalEv
def segBad (s : List Int) (due : Int) : Prop := due = 0 ∨ (wscan s due).2 = 0 ∨ (wscan s due).2 ≠ s.length ∨ 480 < s.length
instance (s : List Int) (due : Int) : Decidable (segBad s due) := by unfold segBad; infer_instance
def walkS : List (List Int) → Int → Option (List (Int × List Int) × Int)
 | [], due => some ([], due)
 | s :: ss, due => if segBad s due then none else (walkS ss (due + ((wscan s due).1.length : Int))).map fun r => ((wscan s due).1 ++ r.1, r.2)
def dueS (segs : List (List Int)) (next : Int) : Int := match segs with
 | [] => next
 | s :: _ => firstS s
def logS (segs : List (List Int)) (next : Int) : Option (List (Int × List Int)) :=
 if next < 1 ∨ 1099511627776 < next ∨ 64 < segs.length then none
 else match walkS segs (dueS segs next) with
  | none => none
  | some (rs, d) => if d = next then some rs else none
def Okt (segs : List (List Int)) : Prop := ∀ s ∈ segs, octs s ∧ s.length ≤ 1099511627776
theorem scan_few {s : List Int} (ho : octs s) (hl : s.length ≤ 1099511627776) {due : Int} (h0 : 0 ≤ due) (h1 : due ≤ 2199023255552) (h480 : s.length ≤ 480) : (wscan s due).1.length ≤ 30 := by
 obtain ⟨ds, T, hs, hds, hoT, hr, hw⟩ := wscan_form (s.length + 1) s due ho (by omega) h0 (by omega)
 unfold wscan
 rw [hw]
 dsimp only
 rw [rowsR_length]
 have := congrArg List.length hs
 rw [List.length_append, flatR_length] at this
 omega
theorem scan_pos {s : List Int} (ho : octs s) (hl : s.length ≤ 1099511627776) {due : Int} (h0 : 0 ≤ due) (h1 : due ≤ 2199023255552) : (wscan s due).2 = 0 ↔ (wscan s due).1.length = 0 := by
 obtain ⟨ds, T, hs, hds, hoT, hr, hw⟩ := wscan_form (s.length + 1) s due ho (by omega) h0 (by omega)
 unfold wscan
 rw [hw]
 dsimp only
 rw [rowsR_length, flatR_length]
 constructor
 ·
  intro h; omega
 ·
  intro h
  have : ds = [] := List.eq_nil_of_length_eq_zero h
  subst this
  rfl
theorem walk_l0 (segs : List (List Int)) (hok : Okt segs) (h64 : segs.length ≤ 64) (next : Int) : ∀ (rest pre : List (List Int)) (acc : List S60) (due : Int), segs = pre ++ rest → acc.length ≤ 30 * pre.length → 0 ≤ due → due ≤ 1099511627776 + 30 * pre.length →
  Ev (fun k => wal_Log_walk.l0 k acc due segs (segs.length : Int) (pre.length : Int) segs next) (match walkS rest due with | none => ([], false) | some (rs, d) => (acc ++ rs.map rowP, d == next))
 | [], pre, acc, due, h, ha, h0, h1 => by
  refine Ev.step (fun k => rfl) ?_
  have e : segs = pre := by simpa using h
  simp only [wal_Log_walk.l0, if_neg (show ¬ (pre.length : Int) < (segs.length : Int) by rw [e]; omega), walkS, List.map_nil, List.append_nil]
  exact Ev.now _
 | s :: ss, pre, acc, due, h, ha, h0, h1 => by
  refine Ev.step (fun k => rfl) ?_
  have hlen : segs.length = pre.length + 1 + ss.length := by rw [h]; simp; omega
  obtain ⟨hos, hls⟩ := hok s (by rw [h]; simp)
  have hp : pre.length ≤ 63 := by omega
  simp only [wal_Log_walk.l0, if_pos (show (pre.length : Int) < (segs.length : Int) by omega), if_pos (show (0 : Int) ≤ (pre.length : Int) by omega), rd_L1_at h]
  refine Ev.bind (scan_is hos hls h0 (by omega)) ?_
  by_cases hd : due = 0
  ·
   simp only [if_pos hd, walkS, if_pos (show segBad s due from .inl hd)]
   exact Ev.now _
  ·
   simp only [if_neg hd]
   by_cases hz : (wscan s due).2 = 0
   ·
    simp only [if_pos (show ((wscan s due).2 : Int) = 0 by omega), walkS, if_pos (show segBad s due from .inr (.inl hz))]
    exact Ev.now _
   ·
    simp only [if_neg (show ¬ ((wscan s due).2 : Int) = 0 by omega)]
    by_cases hw : (wscan s due).2 = s.length
    ·
     simp only [if_pos (show ((wscan s due).2 : Int) = (s.length : Int) by omega)]
     by_cases h4 : 480 < s.length
     ·
      simp only [if_pos (show ((wscan s due).2 : Int) > 480 by omega), walkS, if_pos (show segBad s due from .inr (.inr (.inr h4)))]
      exact Ev.now _
     ·
      have hbad : ¬ segBad s due := by
       rintro (h | h | h | h)
       ·
        exact hd h
       ·
        exact hz h
       ·
        exact h hw
       ·
        exact h4 h
      have hfew := scan_few hos hls h0 (by omega) (show s.length ≤ 480 by omega)
      have ih := walk_l0 segs hok h64 next ss (pre ++ [s]) (acc ++ (wscan s due).1.map rowP) (due + ((wscan s due).1.length : Int)) (by rw [h]; simp) (by simp; omega) (by omega) (by simp; omega)
      have c1 : acc.length + ((wscan s due).1.map rowP).length < 4398046511104 := by rw [List.length_map]; omega
      have w1 : wrap64 (due + (((wscan s due).1.map rowP).length : Int)) = due + ((wscan s due).1.length : Int) := by rw [List.length_map]; exact wI (by omega) (by omega)
      have w2 : wrap64 ((pre.length : Int) + 1) = (((pre ++ [s]).length : Nat) : Int) := by rw [List.length_append]; exact wI (by omega) (by omega)
      simp only [if_neg (show ¬ ((wscan s due).2 : Int) > 480 by omega), if_pos c1, w1, w2]
      have e : (match walkS (s :: ss) due with | none => (([] : List S60), false) | some (rs, d) => (acc ++ rs.map rowP, d == next)) = (match walkS ss (due + ((wscan s due).1.length : Int)) with | none => ([], false) | some (rs, d) => (acc ++ (wscan s due).1.map rowP ++ rs.map rowP, d == next)) := by
       rw [walkS, if_neg hbad]
       cases walkS ss (due + ((wscan s due).1.length : Int)) with
       | none => rfl
       | some r => simp [List.append_assoc]
      rw [e]
      exact ih
    ·
     simp only [if_neg (show ¬ ((wscan s due).2 : Int) = (s.length : Int) by omega), walkS, if_pos (show segBad s due from .inr (.inr (.inl hw)))]
     exact Ev.now _
theorem walk_is {segs : List (List Int)} (hok : Okt segs) (next : Int) : ∃ out b, Ev (fun k => wal_Log_walk.f k segs next) (out, b) ∧ (b = true ↔ (logS segs next).isSome = true) ∧ ∀ rs, logS segs next = some rs → out = rs.map rowP := by
 by_cases hbad : next < 1 ∨ 1099511627776 < next ∨ 64 < segs.length
 ·
  refine ⟨[], false, ?_, by unfold logS; rw [if_pos hbad]; simp, by unfold logS; rw [if_pos hbad]; intro rs h; cases h⟩
  have fin : Ev (fun k => wal_Log_walk.j0 k ([] : List S60) true segs next) ([], false) := by
   refine Ev.step (fun k => rfl) ?_
   simp only [wal_Log_walk.j0, if_true]
   exact Ev.now _
  unfold wal_Log_walk.f
  by_cases h1 : next < 1
  ·
   simp only [if_pos h1]
   exact fin
  ·
   simp only [if_neg h1]
   by_cases h2 : next > 1099511627776
   ·
    simp only [if_pos h2]
    exact fin
   ·
    simp only [if_neg h2, decide_eq_true (show (segs.length : Int) > 64 by omega)]
    exact fin
 ·
  have hgood : ∀ due : Int, 0 ≤ due → due ≤ 1099511627776 → Ev (fun k => wal_Log_walk.j1 k ([] : List S60) due segs next) (match walkS segs due with | none => ([], false) | some (rs, d) => ([] ++ rs.map rowP, d == next)) := by
   intro due h0 h1
   refine Ev.step (fun k => rfl) ?_
   simp only [wal_Log_walk.j1]
   exact walk_l0 segs hok (by omega) next segs [] [] due rfl (by simp) h0 (by simp; omega)
  have hdue : Ev (fun k => wal_Log_walk.j0 k ([] : List S60) false segs next) (match walkS segs (dueS segs next) with | none => ([], false) | some (rs, d) => ([] ++ rs.map rowP, d == next)) := by
   refine Ev.step (fun k => rfl) ?_
   cases segs with
   | nil =>
    simp only [wal_Log_walk.j0, Bool.false_eq_true, if_false, List.length_nil, if_neg (show ¬ (((0 : Nat) : Int) > 0) by omega)]
    exact hgood next (by omega) (by omega)
   | cons s ss =>
    obtain ⟨hos, hls⟩ := hok s (by simp)
    have hr := firstS_range hos
    simp only [wal_Log_walk.j0, Bool.false_eq_true, if_false, if_pos (show (((s :: ss).length : Nat) : Int) > 0 by rw [List.length_cons]; omega), if_pos (show (0 : Int) < (((s :: ss).length : Nat) : Int) by rw [List.length_cons]; omega)]
    have h0 : rd_L1 (s :: ss) 0 = s := rfl
    rw [h0]
    refine Ev.bind (first_is hos (by omega)) ?_
    exact hgood (firstS s) hr.1 hr.2
  have hf : Ev (fun k => wal_Log_walk.f k segs next) (match walkS segs (dueS segs next) with | none => ([], false) | some (rs, d) => ([] ++ rs.map rowP, d == next)) := by
   unfold wal_Log_walk.f
   simp only [if_neg (show ¬ next < 1 by omega), if_neg (show ¬ next > 1099511627776 by omega), decide_eq_false (show ¬ (segs.length : Int) > 64 by omega)]
   exact hdue
  cases hw : walkS segs (dueS segs next) with
  | none =>
   rw [hw] at hf
   exact ⟨_, _, hf, by unfold logS; rw [if_neg hbad, hw]; simp, by unfold logS; rw [if_neg hbad, hw]; intro rs h; cases h⟩
  | some r =>
   obtain ⟨rs, d⟩ := r
   rw [hw] at hf
   refine ⟨_, _, hf, ?_, ?_⟩
   ·
    unfold logS
    rw [if_neg hbad, hw]
    dsimp only
    by_cases hd : d = next
    ·
     simp [hd]
    ·
     simp [hd]
   ·
    unfold logS
    rw [if_neg hbad, hw]
    dsimp only
    intro rs' h
    by_cases hd : d = next
    ·
     rw [if_pos hd] at h
     injection h with h
     rw [← h, List.nil_append]
    ·
     rw [if_neg hd] at h
     cases h
theorem check_ok {segs : List (List Int)} (hok : Okt segs) {next : Int} {rs : List (Int × List Int)} (h : logS segs next = some rs) : Ev (fun k => wal_Check.f k segs next) 0 := by
 obtain ⟨out, b, hw, hb, _⟩ := walk_is hok next
 have : b = true := hb.2 (by rw [h]; rfl)
 subst this
 unfold wal_Check.f
 refine Ev.bind hw ?_
 simp only [if_true]
 exact Ev.now _
theorem check_bad {segs : List (List Int)} (hok : Okt segs) {next : Int} (h : logS segs next = none) : Ev (fun k => wal_Check.f k segs next) 9 := by
 obtain ⟨out, b, hw, hb, _⟩ := walk_is hok next
 have : b = false := by
  cases b with
  | false => rfl
  | true => have := hb.1 rfl; rw [h] at this; cases this
 subst this
 unfold wal_Check.f
 refine Ev.bind hw ?_
 simp only [Bool.false_eq_true, if_false]
 exact Ev.now _
theorem records_ok {segs : List (List Int)} (hok : Okt segs) {next : Int} {rs : List (Int × List Int)} (h : logS segs next = some rs) : Ev (fun k => wal_Records.f k segs next) (rs.map rowP, 0) := by
 obtain ⟨out, b, hw, hb, ho⟩ := walk_is hok next
 have : b = true := hb.2 (by rw [h]; rfl)
 subst this
 rw [ho rs h] at hw
 unfold wal_Records.f
 refine Ev.bind hw ?_
 simp only [if_true]
 exact Ev.now _
theorem walk_app : ∀ (a b : List (List Int)) (due : Int), walkS (a ++ b) due = (walkS a due).bind fun r => (walkS b r.2).map fun q => (r.1 ++ q.1, q.2)
 | [], b, due => by
  simp only [List.nil_append, walkS, Option.bind_some]
  cases walkS b due with
  | none => rfl
  | some q => rfl
 | s :: a, b, due => by
  simp only [List.cons_append, walkS]
  by_cases h : segBad s due
  ·
   rw [if_pos h, if_pos h]
   rfl
  ·
   rw [if_neg h, if_neg h, walk_app a b]
   cases walkS a (due + ((wscan s due).1.length : Int)) with
   | none => rfl
   | some r =>
    simp only [Option.bind_some, Option.map_some]
    cases walkS b r.2 with
    | none => rfl
    | some q => simp [List.append_assoc]
theorem seg_form {s : List Int} (ho : octs s) {due : Int} (h0 : 0 ≤ due) (h1 : due ≤ 2199023255552) (h : ¬ segBad s due) :
  ∃ ds, s = flatR due ds ∧ ds ≠ [] ∧ (∀ d ∈ ds, d.length ≤ 400 ∧ octs d) ∧ due ≠ 0 ∧ s.length ≤ 480 ∧ wscan s due = (rowsR due ds, s.length) := by
 have hl : s.length ≤ 480 := Nat.le_of_not_lt fun h4 => h (.inr (.inr (.inr h4)))
 obtain ⟨ds, T, hs, hds, hoT, hr, hw⟩ := wscan_form (s.length + 1) s due ho (by omega) h0 (by omega)
 have hw2 : (wscan s due).2 = s.length := Decidable.byContradiction fun h4 => h (.inr (.inr (.inl h4)))
 have hw3 : wscan s due = (rowsR due ds, (flatR due ds).length) := hw
 have hT : T = [] := by
  have := congrArg List.length hs
  rw [List.length_append] at this
  rw [hw3] at hw2
  dsimp only at hw2
  exact List.eq_nil_of_length_eq_zero (by omega)
 subst hT
 rw [List.append_nil] at hs
 refine ⟨ds, hs, ?_, hds, fun e => h (.inl e), hl, by rw [hw3, ← hs]⟩
 rintro rfl
 refine h (.inr (.inl ?_))
 rw [hw3]
 rfl
theorem seg_good {due : Int} {ds : List (List Int)} (h0 : 1 ≤ due) (h1 : due + ds.length < 18446744073709551616) (hne : ds ≠ []) (hd : ∀ d ∈ ds, d.length ≤ 400) (hl : (flatR due ds).length ≤ 480) :
  ¬ segBad (flatR due ds) due ∧ wscan (flatR due ds) due = (rowsR due ds, (flatR due ds).length) := by
 have hfl := flatR_length due ds
 have hw : wscan (flatR due ds) due = (rowsR due ds, (flatR due ds).length) := by
  have := wscan_flat ds due [] ((flatR due ds).length + 1) hd (by omega) h1 (fun h => getS_none h.1) (by omega)
  rw [List.append_nil] at this
  exact this
 refine ⟨?_, hw⟩
 have hp : 0 < ds.length := List.length_pos_iff.2 hne
 rintro (h | h | h | h)
 ·
  omega
 ·
  rw [hw] at h
  dsimp only at h
  omega
 ·
  rw [hw] at h
  exact h rfl
 ·
  omega
theorem firstS_flat {due : Int} {ds : List (List Int)} (h0 : 0 ≤ due) (h1 : due ≤ 1099511627776) (hne : ds ≠ []) (hd : ∀ d ∈ ds, d.length ≤ 400) : firstS (flatR due ds) = due := by
 cases ds with
 | nil => exact absurd rfl hne
 | cons d ds =>
  have hg := rec_get (n := due) (hd d (by simp)) (flatR (due + 1) ds)
  have hr := rec_is h0 (show due < 18446744073709551616 by omega) (hd d (by simp)) (flatR (due + 1) ds)
  unfold firstS
  rw [flatR, if_pos hr.1, if_neg (by have := hr.2.2.1; omega), if_neg (by rw [hr.2.2.2.2]; omega), hr.2.2.2.2]
theorem walk_mono : ∀ (ss : List (List Int)) (due : Int) (rs : List (Int × List Int)) (d : Int), walkS ss due = some (rs, d) → due ≤ d ∧ d = due + rs.length
 | [], due, rs, d, h => by
  injection h with h
  injection h with h1 h2
  subst h1 h2
  simp
 | s :: ss, due, rs, d, h => by
  rw [walkS] at h
  split at h
  ·
   cases h
  ·
   obtain ⟨r, hr, he⟩ := Option.map_eq_some_iff.1 h
   obtain ⟨r1, r2⟩ := r
   injection he with e1 e2
   subst e1 e2
   have := walk_mono ss _ r1 r2 hr
   rw [List.length_append]
   dsimp only
   omega
end Go.Proofs.Ytgmkgobapeencaa.WalLog
