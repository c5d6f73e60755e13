/- What the print's words and the walks are, as far as this claim names them. -/
import Derived.Test.YtgmkgobapeencaaYWalMore
import Derived.Test.YtgmkgobapeencaaYS1
import Derived.Test.YtgmkgobapeencaaYS7
import Derived.Test.YtgmkgobapeencaaYS8
import Derived.Test.YtgmkgobapeencaaYS9
import Derived.Test.YtgmkgobapeencaaYS11
import Derived.Test.YtgmkgobapeencaaYS12
import Derived.Test.YtgmkgobapeencaaYS14
import Derived.Test.YtgmkgobapeencaaYS15
import Derived.Test.YtgmkgobapeencaaYS16
import Derived.Test.YtgmkgobapeencaaYS17
import Derived.Test.YtgmkgobapeencaaYS18
import Derived.Test.YtgmkgobapeencaaYS19
import Derived.Test.YtgmkgobapeencaaYS20
import Derived.Test.YtgmkgobapeencaaYS21
import Derived.Test.YtgmkgobapeencaaYS22
import Derived.Test.YtgmkgobapeencaaYS23
import Derived.Test.YtgmkgobapeencaaYS24
import Derived.Test.YtgmkgobapeencaaYS25
namespace Go.Proofs.Ytgmkgobapeencaa.WalRef
set_option linter.unusedVariables false
set_option linter.unusedSimpArgs false
open Go.RowKit Go.Proofs.Ytgmkgobapeencaa.S Go.Proofs.YtgmkgobapeencaaW.PrintWords Go.Proofs.YtgmkgobapeencaaW.PrintLast RefSeal RefPut WalMath WalEv WalLog WalMore
theorem refcheck_l0 (segs : List (List Int)) (hok : Okt segs) (h64 : segs.length ≤ 64) (next : Int) : ∀ (rest pre : List (List Int)) (due : Int), segs = pre ++ rest → 0 ≤ due → due ≤ 1099511627776 + 30 * pre.length →
  Ev (fun k => fanlightref06_Check.l0 k due (pre.length : Int) segs next) (match walkS rest due with | none => 9 | some (_, d) => if d = next then 0 else 9)
 | [], pre, due, h, h0, h1 => by
  refine Ev.step (fun k => rfl) ?_
  have e : segs = pre := by simpa using h
  simp only [fanlightref06_Check.l0, if_neg (show ¬ (pre.length : Int) < (segs.length : Int) by rw [e]; omega), walkS]
  by_cases hd : due = next
  ·
   simp only [if_pos hd]
   exact Ev.now _
  ·
   simp only [if_neg hd]
   exact Ev.now _
 | s :: ss, pre, due, h, h0, h1 => by
  refine Ev.step (fun k => rfl) ?_
  have hlen : segs.length = pre.length + 1 + ss.length := by rw [h]; simp; omega
  obtain ⟨hos, hls⟩ := hok s (by rw [h]; simp)
  have hp : pre.length ≤ 63 := by omega
  have hpos := scan_pos hos hls h0 (show due ≤ 2199023255552 by omega)
  simp only [fanlightref06_Check.l0, if_pos (show (pre.length : Int) < (segs.length : Int) by omega), if_pos (show (0 : Int) ≤ (pre.length : Int) by omega), rd_L1_at h]
  refine Ev.bind (refscan_is hos hls h0 (by omega)) ?_
  simp only [List.length_map]
  by_cases hd : due = 0
  ·
   simp only [if_pos (show due < 1 by omega), walkS, if_pos (show segBad s due from .inl hd)]
   exact Ev.now _
  ·
   simp only [if_neg (show ¬ due < 1 by omega)]
   by_cases hz : (wscan s due).2 = 0
   ·
    have := hpos.1 hz
    simp only [if_pos (show ((wscan s due).1.length : Int) = 0 by omega), walkS, if_pos (show segBad s due from .inr (.inl hz))]
    exact Ev.now _
   ·
    have hz' : ¬ (wscan s due).1.length = 0 := fun e => hz (hpos.2 e)
    simp only [if_neg (show ¬ ((wscan s due).1.length : Int) = 0 by omega)]
    by_cases hw : (wscan s due).2 = s.length
    ·
     simp only [if_pos (show ((wscan s due).2 : Int) = (s.length : Int) by omega)]
     by_cases h4 : 480 < s.length
     ·
      simp only [if_pos (show ((wscan s due).2 : Int) > 480 by omega), walkS, if_pos (show segBad s due from .inr (.inr (.inr h4)))]
      exact Ev.now _
     ·
      have hbad : ¬ segBad s due := by
       rintro (h | h | h | h)
       ·
        exact hd h
       ·
        exact hz h
       ·
        exact h hw
       ·
        exact h4 h
      have hfew := scan_few hos hls h0 (by omega) (show s.length ≤ 480 by omega)
      have ih := refcheck_l0 segs hok h64 next ss (pre ++ [s]) (due + ((wscan s due).1.length : Int)) (by rw [h]; simp) (by omega) (by simp; omega)
      have w1 : wrap64 (due + ((wscan s due).1.length : Int)) = due + ((wscan s due).1.length : Int) := wI (by omega) (by omega)
      have w2 : wrap64 ((pre.length : Int) + 1) = (((pre ++ [s]).length : Nat) : Int) := by rw [List.length_append]; exact wI (by omega) (by omega)
      simp only [if_neg (show ¬ ((wscan s due).2 : Int) > 480 by omega), w1, w2]
      have e : (match walkS (s :: ss) due with | none => (9 : Int) | some (_, d) => if d = next then 0 else 9) = (match walkS ss (due + ((wscan s due).1.length : Int)) with | none => 9 | some (_, d) => if d = next then 0 else 9) := by
       rw [walkS, if_neg hbad]
       cases walkS ss (due + ((wscan s due).1.length : Int)) with
       | none => rfl
       | some r => rfl
      rw [e]
      exact ih
    ·
     simp only [if_neg (show ¬ ((wscan s due).2 : Int) = (s.length : Int) by omega), walkS, if_pos (show segBad s due from .inr (.inr (.inl hw)))]
     exact Ev.now _
def codeS (segs : List (List Int)) (next : Int) : Int := if (logS segs next).isSome then 0 else 9
theorem refcheck_is {segs : List (List Int)} (hok : Okt segs) (next : Int) : Ev (fun k => fanlightref06_Check.f k segs next) (codeS segs next) := by
 unfold codeS
 by_cases hbad : next < 1 ∨ 1099511627776 < next ∨ 64 < segs.length
 ·
  have e : logS segs next = none := by unfold logS; rw [if_pos hbad]
  rw [e]
  have fin : Ev (fun k => fanlightref06_Check.j0 k true segs next) (9 : Int) := by
   refine Ev.step (fun k => rfl) ?_
   simp only [fanlightref06_Check.j0, if_true]
   exact Ev.now _
  unfold fanlightref06_Check.f
  by_cases h1 : next < 1
  ·
   simp only [if_pos h1]
   exact fin
  ·
   simp only [if_neg h1]
   by_cases h2 : next > 1099511627776
   ·
    simp only [if_pos h2]
    exact fin
   ·
    simp only [if_neg h2, decide_eq_true (show (segs.length : Int) > 64 by omega)]
    exact fin
 ·
  have e : (if (logS segs next).isSome then (0 : Int) else 9) = (match walkS segs (dueS segs next) with | none => 9 | some (_, d) => if d = next then 0 else 9) := by
   unfold logS
   rw [if_neg hbad]
   cases walkS segs (dueS segs next) with
   | none => rfl
   | some r =>
    obtain ⟨rs, d⟩ := r
    dsimp only
    by_cases hd : d = next
    ·
     simp [hd]
    ·
     simp [hd]
  rw [e]
  have hgood : ∀ due : Int, 0 ≤ due → due ≤ 1099511627776 → Ev (fun k => fanlightref06_Check.j1 k due segs next) (match walkS segs due with | none => 9 | some (_, d) => if d = next then 0 else 9) := by
   intro due h0 h1
   refine Ev.step (fun k => rfl) ?_
   simp only [fanlightref06_Check.j1]
   exact refcheck_l0 segs hok (by omega) next segs [] due rfl h0 (by simp; omega)
  unfold fanlightref06_Check.f
  simp only [if_neg (show ¬ next < 1 by omega), if_neg (show ¬ next > 1099511627776 by omega), decide_eq_false (show ¬ (segs.length : Int) > 64 by omega)]
  refine Ev.step (fun k => rfl) ?_
  cases segs with
  | nil =>
   simp only [fanlightref06_Check.j0, Bool.false_eq_true, if_false, List.length_nil, if_neg (show ¬ (((0 : Nat) : Int) > 0) by omega)]
   exact hgood next (by omega) (by omega)
  | cons s ss =>
   obtain ⟨hos, hls⟩ := hok s (by simp)
   have hr := firstS_range hos
   simp only [fanlightref06_Check.j0, Bool.false_eq_true, if_false, if_pos (show (((s :: ss).length : Nat) : Int) > 0 by rw [List.length_cons]; omega), if_pos (show (0 : Int) < (((s :: ss).length : Nat) : Int) by rw [List.length_cons]; omega)]
   have h0 : rd_L1 (s :: ss) 0 = s := rfl
   rw [h0]
   refine Ev.bind (reffirst_is hos (by omega)) ?_
   exact hgood (firstS s) hr.1 hr.2
theorem own_l0 (segs : List (List Int)) (hok : Okt segs) (hn : segs.length ≤ 5864062014800) (next nx : Int) : ∀ (rest pre : List (List Int)), segs = pre ++ rest → Ev (fun k => fanlightref06_Own.l0 k (pre.length : Int) segs next pre nx) (segs, nx)
 | [], pre, h => by
  refine Ev.step (fun k => rfl) ?_
  have e : segs = pre := by simpa using h
  simp only [fanlightref06_Own.l0, if_neg (show ¬ (pre.length : Int) < (segs.length : Int) by rw [e]; omega)]
  rw [← e]
  exact Ev.now _
 | s :: ss, pre, h => by
  refine Ev.step (fun k => rfl) ?_
  have hlen : segs.length = pre.length + 1 + ss.length := by rw [h]; simp; omega
  obtain ⟨hos, hls⟩ := hok s (by rw [h]; simp)
  have w2 : wrap64 ((pre.length : Int) + 1) = (((pre ++ [s]).length : Nat) : Int) := by rw [List.length_append]; exact wI (by omega) (by omega)
  simp only [fanlightref06_Own.l0, if_pos (show (pre.length : Int) < (segs.length : Int) by omega), if_pos (show (0 : Int) ≤ (pre.length : Int) by omega), rd_L1_at h, copied_is (show s.length < 140737488355328 by omega), Option.bind_some, if_pos (show pre.length < 5864062014805 by omega), w2]
  exact own_l0 segs hok hn next nx ss (pre ++ [s]) (by rw [h]; simp)
theorem own_is {segs : List (List Int)} (hok : Okt segs) (hn : segs.length ≤ 5864062014800) (next : Int) : Ev (fun k => fanlightref06_Own.f k segs next) (segs, next) := own_l0 segs hok hn next next segs [] rfl
theorem copyB_is {l : List Int} (h : l.length < 140737488355328) : fanlightplain_CopyBytes.f l = some l := by
 unfold fanlightplain_CopyBytes.f
 rw [if_pos (by simpa using h), List.nil_append]
theorem of_l0 (segs : List (List Int)) (hok : Okt segs) (hn : segs.length ≤ 5864062014800) (next nx : Int) : ∀ (rest pre : List (List Int)), segs = pre ++ rest → Ev (fun k => fanlightlaw06_Of.l0 k (pre.length : Int) segs next pre nx) (segs, nx)
 | [], pre, h => by
  refine Ev.step (fun k => rfl) ?_
  have e : segs = pre := by simpa using h
  simp only [fanlightlaw06_Of.l0, if_neg (show ¬ (pre.length : Int) < (segs.length : Int) by rw [e]; omega)]
  rw [← e]
  exact Ev.now _
 | s :: ss, pre, h => by
  refine Ev.step (fun k => rfl) ?_
  have hlen : segs.length = pre.length + 1 + ss.length := by rw [h]; simp; omega
  obtain ⟨hos, hls⟩ := hok s (by rw [h]; simp)
  have w2 : wrap64 ((pre.length : Int) + 1) = (((pre ++ [s]).length : Nat) : Int) := by rw [List.length_append]; exact wI (by omega) (by omega)
  simp only [fanlightlaw06_Of.l0, if_pos (show (pre.length : Int) < (segs.length : Int) by omega), if_pos (show (0 : Int) ≤ (pre.length : Int) by omega), rd_L1_at h, copyB_is (show s.length < 140737488355328 by omega), Option.bind_some, if_pos (show pre.length < 5864062014805 by omega), w2]
  exact of_l0 segs hok hn next nx ss (pre ++ [s]) (by rw [h]; simp)
theorem of_is {segs : List (List Int)} (hok : Okt segs) (hn : segs.length ≤ 5864062014800) (next : Int) : Ev (fun k => fanlightlaw06_Of.f k segs next) (segs, next) := of_l0 segs hok hn next next segs [] rfl
theorem sameB (l : List Int) : fanlightplain_SameBytes.f l l = some true := by
 unfold fanlightplain_SameBytes.f
 rw [beq_self_eq_true]
theorem alike_l0 (segs : List (List Int)) (hn : segs.length ≤ 4611686018427387904) (next : Int) : ∀ (rest pre : List (List Int)), segs = pre ++ rest → Ev (fun k => fanlightlaw06_Alike.l0 k (pre.length : Int) segs next segs next) 0
 | [], pre, h => by
  refine Ev.step (fun k => rfl) ?_
  have e : segs = pre := by simpa using h
  simp only [fanlightlaw06_Alike.l0, if_neg (show ¬ (pre.length : Int) < (segs.length : Int) by rw [e]; omega)]
  exact Ev.now _
 | s :: ss, pre, h => by
  refine Ev.step (fun k => rfl) ?_
  have hlen : segs.length = pre.length + 1 + ss.length := by rw [h]; simp; omega
  have w2 : wrap64 ((pre.length : Int) + 1) = (((pre ++ [s]).length : Nat) : Int) := by rw [List.length_append]; exact wI (by omega) (by omega)
  simp only [fanlightlaw06_Alike.l0, if_pos (show (pre.length : Int) < (segs.length : Int) by omega), if_pos (show (0 : Int) ≤ (pre.length : Int) by omega), sameB, Option.bind_some, if_true, w2]
  exact alike_l0 segs hn next ss (pre ++ [s]) (by rw [h]; simp)
theorem alike_is (segs : List (List Int)) (hn : segs.length ≤ 4611686018427387904) (next : Int) : Ev (fun k => fanlightlaw06_Alike.f k segs next segs next) 0 := by
 unfold fanlightlaw06_Alike.f
 simp only [if_true]
 refine Ev.step (fun k => rfl) ?_
 simp only [fanlightlaw06_Alike.j0, bne_self_eq_false, Bool.false_eq_true, if_false]
 exact alike_l0 segs hn next segs [] rfl
theorem framed_is (n : Int) (h0 : 0 ≤ n) (h1 : n < 18446744073709551616) {d : List Int} (hd : d.length ≤ 400) (ho : octs d) : Ev (fun k => fanlightref06_framed.f k n d) (recF n d) := by
 unfold fanlightref06_framed.f
 rw [u64I h0 h1]
 refine Ev.bind (octets8_is n) ?_
 have hl : (oc8 n).length + d.length < 140737488355328 := by rw [oc8_length]; omega
 simp only [if_pos hl]
 obtain ⟨X, hX, hX2⟩ := put_ref 2 (octs_app (oc8_octs n) ho)
 rw [put_rec n hd] at hX
 injection hX with hX
 subst hX
 refine Ev.bind hX2 ?_
 exact Ev.now _
theorem refapp_j0_new (segs : List (List Int)) (next : Int) (data : List Int) (h64 : segs.length ≤ 64) (hd : data.length ≤ 400) (hn0 : 1 ≤ next) (hn1 : next < 1099511627776) (j : Int) (hj : j = (segs.length : Int) - 1) :
  Ev (fun k => fanlightref06_Append.j0 k (recF next data) j true segs next) (if segs.length = 64 then ([], 0, 0, 51) else (segs ++ [recF next data], next + 1, (segs.length : Int), 0)) := by
 refine Ev.step (fun k => rfl) ?_
 have w1 : wrap64 (j + 1) = (segs.length : Int) := by rw [hj]; exact (wI (by omega) (by omega)).trans (by omega)
 by_cases h : segs.length = 64
 ·
  have h' : (segs.length : Int) ≥ 64 := by omega
  simp only [fanlightref06_Append.j0, if_true, if_pos h', if_pos h]
  exact Ev.now _
 ·
  have h' : ¬ (segs.length : Int) ≥ 64 := by omega
  have c1 : segs.length < 5864062014805 := by omega
  have c2 : (0 : Int) ≤ (segs.length : Int) := by omega
  have c3 : (segs.length : Int) < (((segs ++ [[]] : List (List Int)).length : Nat) : Int) := by simp; omega
  have c4 : ([] : List Int).length + (recF next data).length < 140737488355328 := by rw [recF_length]; simp; omega
  have w2 : wrap64 (next + 1) = next + 1 := wI (by omega) (by omega)
  simp only [fanlightref06_Append.j0, if_true, w1, if_neg h', if_neg h, if_pos c1, Option.bind_some, if_pos c2, if_pos c3, rd_snoc, if_pos c4, List.nil_append, Int.toNat_natCast, set_snoc, w2]
  exact Ev.now _
theorem refapp_j0_old (segs : List (List Int)) (next : Int) (data : List Int) (h64 : segs.length ≤ 64) (hne : segs ≠ []) (hl : (segs.getD (segs.length - 1) []).length ≤ 480) (hd : data.length ≤ 400) (hn0 : 1 ≤ next) (hn1 : next < 1099511627776) (j : Int) (hj : j = (segs.length : Int) - 1) :
  Ev (fun k => fanlightref06_Append.j0 k (recF next data) j false segs next) (segs.set (segs.length - 1) (segs.getD (segs.length - 1) [] ++ recF next data), next + 1, (segs.length : Int) - 1, 0) := by
 refine Ev.step (fun k => rfl) ?_
 have hp : 0 < segs.length := List.length_pos_iff.2 hne
 have c2 : (0 : Int) ≤ j := by omega
 have c3 : j < (segs.length : Int) := by omega
 have hjn : j.toNat = segs.length - 1 := by omega
 have hrd : rd_L1 segs j = segs.getD (segs.length - 1) [] := by unfold rd_L1; rw [hjn]
 have c4 : (segs.getD (segs.length - 1) []).length + (recF next data).length < 140737488355328 := by rw [recF_length]; omega
 have w2 : wrap64 (next + 1) = next + 1 := wI (by omega) (by omega)
 simp only [fanlightref06_Append.j0, Bool.false_eq_true, if_false, if_pos c2, if_pos c3, hrd, if_pos c4, hjn, w2]
 rw [← hj]
 exact Ev.now _
theorem refapp_is {segs : List (List Int)} (hok : Okt segs) (next : Int) {data : List Int} (ho : octs data) : Ev (fun k => fanlightref06_Append.f k segs next data) (appA segs next data) := by
 unfold fanlightref06_Append.f appA
 refine Ev.bind (refcheck_is hok next) ?_
 unfold codeS
 cases h : logS segs next with
 | none =>
  simp only [Option.isSome_none, Bool.false_eq_true, if_false, if_neg (show ¬ (9 : Int) = 0 by decide)]
  exact Ev.now _
 | some rs =>
  obtain ⟨h0, h1, h2⟩ := log_range h
  have hlast := last_len hok h
  simp only [if_true, Option.isSome_some]
  by_cases hd : 400 < data.length
  ·
   simp only [if_pos hd, if_pos (show (data.length : Int) > 400 by omega)]
   exact Ev.now _
  ·
   simp only [if_neg hd, if_neg (show ¬ (data.length : Int) > 400 by omega)]
   by_cases hn : next = 1099511627776
   ·
    simp only [if_pos hn, if_pos (show next ≥ 1099511627776 by omega)]
    exact Ev.now _
   ·
    simp only [if_neg hn, if_neg (show ¬ next ≥ 1099511627776 by omega)]
    refine Ev.bind (own_is hok (by omega) next) ?_
    refine Ev.bind (framed_is next (by omega) (by omega) (by omega) ho) ?_
    have w1 : wrap64 ((segs.length : Int) - 1) = (segs.length : Int) - 1 := wI (by omega) (by omega)
    simp only [w1]
    by_cases he : segs = []
    ·
     subst he
     simp only [List.length_nil, if_pos (show (((0 : Nat) : Int) - 1) < 0 by omega)]
     have := refapp_j0_new [] next data (by simp) (by omega) h0 (by omega) (((0 : Nat) : Int) - 1) rfl
     simpa using this
    ·
     have hp : 0 < segs.length := List.length_pos_iff.2 he
     have hjn : ((segs.length : Int) - 1).toNat = segs.length - 1 := by omega
     have hrd : rd_L1 segs ((segs.length : Int) - 1) = segs.getD (segs.length - 1) [] := by unfold rd_L1; rw [hjn]
     have w2 : wrap64 (((segs.getD (segs.length - 1) []).length : Int) + ((recF next data).length : Int)) = ((segs.getD (segs.length - 1) []).length : Int) + 16 + (data.length : Int) := by
      rw [recF_length]
      exact (wI (by omega) (by omega)).trans (by omega)
     simp only [if_neg (show ¬ ((segs.length : Int) - 1) < 0 by omega), if_pos (show (0 : Int) ≤ (segs.length : Int) - 1 by omega), if_pos (show (segs.length : Int) - 1 < (segs.length : Int) by omega), hrd, w2]
     by_cases hb : 480 < (segs.getD (segs.length - 1) []).length + 16 + data.length
     ·
      simp only [if_pos (show segs = [] ∨ 480 < (segs.getD (segs.length - 1) []).length + 16 + data.length from .inr hb)]
      rw [decide_eq_true (show ((segs.getD (segs.length - 1) []).length : Int) + 16 + (data.length : Int) > 480 by omega)]
      exact refapp_j0_new segs next data h2 (by omega) h0 (by omega) _ rfl
     ·
      have hno : ¬ (segs = [] ∨ 480 < (segs.getD (segs.length - 1) []).length + 16 + data.length) := by rintro (h | h); exact he h; exact hb h
      simp only [if_neg hno]
      rw [decide_eq_false (show ¬ ((segs.getD (segs.length - 1) []).length : Int) + 16 + (data.length : Int) > 480 by omega)]
      exact refapp_j0_old segs next data h2 he hlast (by omega) h0 (by omega) _ rfl
theorem zeros_octs (n : Nat) : octs (List.replicate n (0 : Int)) := by
 intro x hx
 have := List.eq_of_mem_replicate hx
 omega
theorem alive_is : Ev (fun k => fanlightlaw06_alive.f k) true := by
 have hn : Okt [] := fun s hs => by simp at hs
 have hlog : logS [] 1 = some [] := rfl
 have hz := zeros_octs 300
 have hzl : (List.replicate 300 (0 : Int)).length = 300 := List.length_replicate ..
 obtain ⟨Z, hZ⟩ : ∃ Z, List.replicate 300 (0 : Int) = Z := ⟨_, rfl⟩
 rw [hZ] at hz hzl
 obtain ⟨a1, a2, a3, _⟩ := app_log hn hlog hz (by omega) (by omega) (by simp)
 have e1 : appA [] 1 Z = ([recF 1 Z], 2, 0, 0) := by
  unfold appA
  rw [hlog, Option.isSome_some, if_pos rfl, if_neg (by omega), if_neg (by omega), if_pos (.inl rfl), if_neg (by simp)]
  rfl
 rw [e1] at a3
 have ho1 : Okt [recF 1 Z] := fun s hs => by
  rw [List.mem_singleton.1 hs]
  exact ⟨recF_octs hz, by rw [recF_length]; omega⟩
 have hlog2 : logS [recF 1 Z] 2 = some [(1, Z)] := a3
 obtain ⟨b1, b2, b3, _⟩ := app_log ho1 hlog2 hz (by omega) (by omega) (by simp)
 have e2 : appA [recF 1 Z] 2 Z = ([recF 1 Z, recF 2 Z], 3, 1, 0) := by
  unfold appA
  rw [hlog2, Option.isSome_some, if_pos rfl, if_neg (by omega), if_neg (by omega), if_pos (.inr (by show 480 < (recF 1 Z).length + 16 + Z.length; rw [recF_length]; omega)), if_neg (by simp)]
  rfl
 rw [e2] at b3
 have ho2 : Okt [recF 1 Z, recF 2 Z] := fun s hs => by
  simp only [List.mem_cons, List.mem_nil_iff, or_false] at hs
  rcases hs with rfl | rfl
  ·
   exact ⟨recF_octs hz, by rw [recF_length]; omega⟩
  ·
   exact ⟨recF_octs hz, by rw [recF_length]; omega⟩
 have hlog3 : logS [recF 1 Z, recF 2 Z] 3 = some [(1, Z), (2, Z)] := b3
 have p1 := app_is hn 1 Z
 rw [e1] at p1
 have p2 := app_is ho1 2 Z
 rw [e2] at p2
 unfold fanlightlaw06_alive.f
 simp only [if_pos (show (300 : Int) ≤ 281474976710656 by decide), hZ]
 refine Ev.bind p1 ?_
 refine Ev.bind p2 ?_
 refine Ev.bind (records_ok ho2 hlog3) ?_
 have h1 : wrap64 (wrap64 (0 + 0) + 0) = 0 := by rw [wI (i := 0 + 0) (by omega) (by omega)]; exact wI (by omega) (by omega)
 have h2 : ((([(1, Z), (2, Z)] : List (Int × List Int)).map rowP).length : Int) = 2 := rfl
 have h3 : ((rd_T60 (([(1, Z), (2, Z)] : List (Int × List Int)).map rowP) 1).f0 == 2) = true := rfl
 simp only [fanlightlaw06_num.f, Option.bind_some, if_pos h1, if_true, h2, if_pos (show (1 : Int) < 2 by decide), h3]
 exact Ev.now _
end Go.Proofs.Ytgmkgobapeencaa.WalRef
