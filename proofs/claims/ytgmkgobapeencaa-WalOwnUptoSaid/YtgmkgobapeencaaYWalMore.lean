/- What the print's words and the walks are, as far as this claim names them. -/
import Derived.Test.YtgmkgobapeencaaYWalLog
import Derived.Test.YtgmkgobapeencaaYS1
import Derived.Test.YtgmkgobapeencaaYS7
import Derived.Test.YtgmkgobapeencaaYS8
import Derived.Test.YtgmkgobapeencaaYS9
import Derived.Test.YtgmkgobapeencaaYS11
import Derived.Test.YtgmkgobapeencaaYS12
import Derived.Test.YtgmkgobapeencaaYS14
import Derived.Test.YtgmkgobapeencaaYS15
import Derived.Test.YtgmkgobapeencaaYS17
import Derived.Test.YtgmkgobapeencaaYS18
import Derived.Test.YtgmkgobapeencaaYS19
import Derived.Test.YtgmkgobapeencaaYS20
import Derived.Test.YtgmkgobapeencaaYS22
import Derived.Test.YtgmkgobapeencaaYS24
namespace Go.Proofs.Ytgmkgobapeencaa.WalMore
set_option linter.unusedVariables false
set_option linter.unusedSimpArgs false
open Go.RowKit Go.Proofs.Ytgmkgobapeencaa.S Go.Proofs.YtgmkgobapeencaaW.PrintWords Go.Proofs.YtgmkgobapeencaaW.PrintLast RefSeal RefPut WalMath WalEv WalLog
theorem log_range {segs : List (List Int)} {next : Int} {rs : List (Int × List Int)} (h : logS segs next = some rs) : 1 ≤ next ∧ next ≤ 1099511627776 ∧ segs.length ≤ 64 := by
 unfold logS at h
 split at h
 ·
  cases h
 ·
  omega
theorem log_walk {segs : List (List Int)} {next : Int} {rs : List (Int × List Int)} (h : logS segs next = some rs) : walkS segs (dueS segs next) = some (rs, next) := by
 unfold logS at h
 split at h
 ·
  cases h
 ·
  split at h
  ·
   cases h
  ·
   rename_i hw
   split at h
   ·
    rename_i hd
    injection h with h
    rw [hw, h, hd]
   ·
    cases h
theorem log_of {segs : List (List Int)} {next : Int} {rs : List (Int × List Int)} (h0 : 1 ≤ next) (h1 : next ≤ 1099511627776) (h2 : segs.length ≤ 64) (h : walkS segs (dueS segs next) = some (rs, next)) : logS segs next = some rs := by
 unfold logS
 rw [if_neg (by omega), h]
 dsimp only
 rw [if_pos rfl]
theorem due_range {segs : List (List Int)} (hok : Okt segs) {next : Int} (h0 : 1 ≤ next) (h1 : next ≤ 1099511627776) : 0 ≤ dueS segs next ∧ dueS segs next ≤ 1099511627776 := by
 cases segs with
 | nil => exact ⟨by show 0 ≤ next; omega, h1⟩
 | cons s ss => exact firstS_range (hok s (by simp)).1
theorem lclone_is {segs : List (List Int)} (hok : Okt segs) (next : Int) (h : segs.length ≤ 64) : wal_Log_clone.f segs next = some (segs, next) := by
 unfold wal_Log_clone.f
 rw [if_pos ⟨by omega, fun s hs => by have := (hok s hs).2; omega⟩]
def appA (segs : List (List Int)) (next : Int) (data : List Int) : List (List Int) × Int × Int × Int :=
 if (logS segs next).isSome then
  if 400 < data.length then ([], 0, 0, 5)
  else if next = 1099511627776 then ([], 0, 0, 51)
  else if segs = [] ∨ 480 < (segs.getD (segs.length - 1) []).length + 16 + data.length then
   if segs.length = 64 then ([], 0, 0, 51) else (segs ++ [recF next data], next + 1, (segs.length : Int), 0)
  else (segs.set (segs.length - 1) (segs.getD (segs.length - 1) [] ++ recF next data), next + 1, (segs.length : Int) - 1, 0)
 else ([], 0, 0, 9)
theorem put_rec (n : Int) {d : List Int} (hd : d.length ≤ 400) : seal_Put.f 2 (oc8 n ++ d) = some (recF n d, 0) := by
 have hl : (oc8 n ++ d).length = d.length + 8 := by rw [List.length_append, oc8_length]; omega
 unfold seal_Put.f
 rw [if_neg (by omega), if_neg (by omega)]
 rfl
theorem cat_rec (n : Int) {d : List Int} (hd : d.length ≤ 400) : slices_Concat_byte_byte.f [oc8 n, d] = some (oc8 n ++ d) := by
 have hl : ([oc8 n, d] : List (List Int)).flatten = oc8 n ++ d := by simp
 unfold slices_Concat_byte_byte.f
 rw [hl, if_pos ⟨by simp, by rw [List.length_append, oc8_length]; omega⟩]
theorem set_snoc (segs : List (List Int)) (x : List Int) : (segs ++ [[]]).set segs.length x = segs ++ [x] := by
 rw [List.set_append_right _ _ (Nat.le_refl _), Nat.sub_self]
 rfl
theorem rd_snoc (segs : List (List Int)) (x : List Int) : rd_L1 (segs ++ [x]) (segs.length : Int) = x := rd_L1_at (rest := []) rfl
theorem app_j0_new (segs : List (List Int)) (next : Int) (data : List Int) (h64 : segs.length ≤ 64) (hd : data.length ≤ 400) (hn0 : 1 ≤ next) (hn1 : next < 1099511627776) (j : Int) (hj : j = (segs.length : Int) - 1) :
  Ev (fun k => wal_Append.j0 k data j true segs next) (if segs.length = 64 then ([], 0, 0, 51) else (segs ++ [recF next data], next + 1, (segs.length : Int), 0)) := by
 refine Ev.step (fun k => rfl) ?_
 have w1 : wrap64 (j + 1) = (segs.length : Int) := by rw [hj]; exact (wI (by omega) (by omega)).trans (by omega)
 by_cases h : segs.length = 64
 ·
  have h' : (segs.length : Int) = 64 := by omega
  simp only [wal_Append.j0, if_true, w1, if_pos h', if_pos h]
  exact Ev.now _
 ·
  have h' : ¬ (segs.length : Int) = 64 := by omega
  have c1 : segs.length < 5864062014805 := by omega
  have c2 : (0 : Int) ≤ (segs.length : Int) := by omega
  have c3 : (segs.length : Int) < (((segs ++ [[]] : List (List Int)).length : Nat) : Int) := by simp; omega
  have c4 : ([] : List Int).length + (recF next data).length < 140737488355328 := by rw [recF_length]; simp; omega
  have w2 : wrap64 (next + 1) = next + 1 := wI (by omega) (by omega)
  simp only [wal_Append.j0, if_true, w1, if_neg h', if_neg h, if_pos c1, Option.bind_some]
  refine Ev.bind (put8 next) ?_
  simp only [cat_rec next hd, put_rec next hd, Option.bind_some, if_pos c2, if_pos c3, rd_snoc, if_pos c4, List.nil_append, Int.toNat_natCast, set_snoc, w2]
  exact Ev.now _
theorem app_j0_old (segs : List (List Int)) (next : Int) (data : List Int) (h64 : segs.length ≤ 64) (hne : segs ≠ []) (hl : (segs.getD (segs.length - 1) []).length ≤ 480) (hd : data.length ≤ 400) (hn0 : 1 ≤ next) (hn1 : next < 1099511627776) (j : Int) (hj : j = (segs.length : Int) - 1) :
  Ev (fun k => wal_Append.j0 k data j false segs next) (segs.set (segs.length - 1) (segs.getD (segs.length - 1) [] ++ recF next data), next + 1, (segs.length : Int) - 1, 0) := by
 refine Ev.step (fun k => rfl) ?_
 have hp : 0 < segs.length := List.length_pos_iff.2 hne
 have c2 : (0 : Int) ≤ j := by omega
 have c3 : j < (segs.length : Int) := by omega
 have hjn : j.toNat = segs.length - 1 := by omega
 have hrd : rd_L1 segs j = segs.getD (segs.length - 1) [] := by unfold rd_L1; rw [hjn]
 have c4 : (segs.getD (segs.length - 1) []).length + (recF next data).length < 140737488355328 := by rw [recF_length]; omega
 have w2 : wrap64 (next + 1) = next + 1 := wI (by omega) (by omega)
 simp only [wal_Append.j0, Bool.false_eq_true, if_false]
 refine Ev.bind (put8 next) ?_
 simp only [cat_rec next hd, put_rec next hd, Option.bind_some, if_pos c2, if_pos c3, hrd, if_pos c4, hjn, w2]
 rw [← hj]
 exact Ev.now _
theorem last_len {segs : List (List Int)} (hok : Okt segs) {next : Int} {rs : List (Int × List Int)} (h : logS segs next = some rs) : (segs.getD (segs.length - 1) []).length ≤ 480 := by
 have all : ∀ (ss : List (List Int)) (due : Int) (r : List (Int × List Int) × Int), walkS ss due = some r → ∀ s ∈ ss, s.length ≤ 480 := by
  intro ss
  induction ss with
  | nil => intro due r _ s hs; simp at hs
  | cons t ts ih =>
   intro due r hw s hs
   rw [walkS] at hw
   split at hw
   ·
    cases hw
   ·
    rename_i hb
    rcases List.mem_cons.1 hs with rfl | hs
    ·
     exact Nat.le_of_not_lt fun h4 => hb (.inr (.inr (.inr h4)))
    ·
     obtain ⟨q, hq, _⟩ := Option.map_eq_some_iff.1 hw
     exact ih _ q hq s hs
 cases hs : segs with
 | nil => simp
 | cons s ss =>
  rw [← hs]
  have hp : 0 < segs.length := by rw [hs]; simp
  refine all segs _ _ (log_walk h) _ ?_
  rw [List.getD_eq_getElem?_getD, List.getElem?_eq_getElem (by omega)]
  exact List.getElem_mem _
theorem app_is {segs : List (List Int)} (hok : Okt segs) (next : Int) (data : List Int) : Ev (fun k => wal_Append.f k segs next data) (appA segs next data) := by
 unfold wal_Append.f appA
 cases h : logS segs next with
 | none =>
  refine Ev.bind (check_bad hok h) ?_
  simp only [if_neg (show ¬ (9 : Int) = 0 by decide)]
  exact Ev.now _
 | some rs =>
  obtain ⟨h0, h1, h2⟩ := log_range h
  have hlast := last_len hok h
  refine Ev.bind (check_ok hok h) ?_
  simp only [if_true, Option.isSome_some]
  by_cases hd : 400 < data.length
  ·
   simp only [if_pos hd, if_pos (show (data.length : Int) > 400 by omega)]
   exact Ev.now _
  ·
   simp only [if_neg hd, if_neg (show ¬ (data.length : Int) > 400 by omega)]
   by_cases hn : next = 1099511627776
   ·
    simp only [if_pos hn]
    exact Ev.now _
   ·
    simp only [if_neg hn, lclone_is hok next h2, Option.bind_some]
    have w1 : wrap64 ((segs.length : Int) - 1) = (segs.length : Int) - 1 := wI (by omega) (by omega)
    rw [w1]
    by_cases he : segs = []
    ·
     subst he
     simp only [List.length_nil, if_pos (show (((0 : Nat) : Int) - 1) < 0 by omega)]
     have := app_j0_new [] next data (by simp) (by omega) h0 (by omega) (((0 : Nat) : Int) - 1) rfl
     simpa using this
    ·
     have hp : 0 < segs.length := List.length_pos_iff.2 he
     have hjn : ((segs.length : Int) - 1).toNat = segs.length - 1 := by omega
     have hrd : rd_L1 segs ((segs.length : Int) - 1) = segs.getD (segs.length - 1) [] := by unfold rd_L1; rw [hjn]
     have w2 : wrap64 ((wrap64 (((segs.getD (segs.length - 1) []).length : Int) + 16)) + (data.length : Int)) = ((segs.getD (segs.length - 1) []).length : Int) + 16 + (data.length : Int) := by
      rw [wI (i := ((segs.getD (segs.length - 1) []).length : Int) + 16) (by omega) (by omega)]
      exact wI (by omega) (by omega)
     simp only [if_neg (show ¬ ((segs.length : Int) - 1) < 0 by omega), if_pos (show (0 : Int) ≤ (segs.length : Int) - 1 by omega), if_pos (show (segs.length : Int) - 1 < (segs.length : Int) by omega), hrd, w2]
     by_cases hb : 480 < (segs.getD (segs.length - 1) []).length + 16 + data.length
     ·
      simp only [if_pos (show segs = [] ∨ 480 < (segs.getD (segs.length - 1) []).length + 16 + data.length from .inr hb)]
      rw [decide_eq_true (show ((segs.getD (segs.length - 1) []).length : Int) + 16 + (data.length : Int) > 480 by omega)]
      exact app_j0_new segs next data h2 (by omega) h0 (by omega) _ rfl
     ·
      have hno : ¬ (segs = [] ∨ 480 < (segs.getD (segs.length - 1) []).length + 16 + data.length) := by rintro (h | h); exact he h; exact hb h
      simp only [if_neg hno]
      rw [decide_eq_false (show ¬ ((segs.getD (segs.length - 1) []).length : Int) + 16 + (data.length : Int) > 480 by omega)]
      exact app_j0_old segs next data h2 he hlast (by omega) h0 (by omega) _ rfl
theorem app_log {segs : List (List Int)} (hok : Okt segs) {next : Int} {rs : List (Int × List Int)} (h : logS segs next = some rs) {data : List Int} (ho : octs data) (hd : data.length ≤ 400) (hn : next < 1099511627776) (h64 : segs.length < 64) :
  (appA segs next data).2.2.2 = 0 ∧ (appA segs next data).2.1 = next + 1 ∧ logS (appA segs next data).1 (next + 1) = some (rs ++ [(next, data)]) ∧ (appA segs next data).1.length ≤ segs.length + 1 := by
 obtain ⟨h0, h1, h2⟩ := log_range h
 have hw := log_walk h
 have hdr := due_range hok h0 h1
 unfold appA
 rw [h, Option.isSome_some, if_pos rfl, if_neg (by omega), if_neg (by omega)]
 have hnew : ¬ segBad (recF next data) next ∧ wscan (recF next data) next = ([(next, data)], (recF next data).length) := by
  have := seg_good (due := next) (ds := [data]) h0 (by simp; omega) (by simp) (by simpa using hd) (by simp [flatR, recF_length]; omega)
  simpa [flatR, rowsR] using this
 have hfst : firstS (recF next data) = next := by
  have := firstS_flat (due := next) (ds := [data]) (by omega) h1 (by simp) (by simpa using hd)
  simpa [flatR] using this
 by_cases hb : segs = [] ∨ 480 < (segs.getD (segs.length - 1) []).length + 16 + data.length
 ·
  rw [if_pos hb, if_neg (by omega)]
  refine ⟨rfl, rfl, log_of (by omega) (by omega) (by simp; omega) ?_, by simp⟩
  have hdue : dueS (segs ++ [recF next data]) (next + 1) = dueS segs next := by
   cases segs with
   | nil => exact hfst
   | cons s ss => rfl
  rw [hdue, walk_app, hw]
  simp only [Option.bind_some, walkS, if_neg hnew.1, hnew.2, Option.map_some, List.length_cons, List.length_nil, List.append_nil]
  rfl
 ·
  rw [if_neg hb]
  have hne : segs ≠ [] := fun e => hb (.inl e)
  have hp : 0 < segs.length := List.length_pos_iff.2 hne
  obtain ⟨a, s, rfl⟩ : ∃ a s, segs = a ++ [s] := ⟨segs.dropLast, segs.getLast hne, (List.dropLast_concat_getLast hne).symm⟩
  have hgl : (a ++ [s]).length - 1 = a.length := by simp
  have hget : (a ++ [s]).getD a.length [] = s := by
   rw [List.getD_eq_getElem?_getD, List.getElem?_append_right (Nat.le_refl _), Nat.sub_self]
   rfl
  rw [hgl, hget] at hb ⊢
  have hset : (a ++ [s]).set a.length (s ++ recF next data) = a ++ [s ++ recF next data] := by
   rw [List.set_append_right _ _ (Nat.le_refl _), Nat.sub_self]
   rfl
  rw [hset]
  refine ⟨rfl, rfl, log_of (by omega) (by omega) (by simp at h2 ⊢; omega) ?_, by simp⟩
  rw [walk_app] at hw
  obtain ⟨q, hq, hw2⟩ := Option.bind_eq_some_iff.1 hw
  obtain ⟨q1, q2⟩ := q
  dsimp only at hw2
  obtain ⟨p, hp2, he⟩ := Option.map_eq_some_iff.1 hw2
  obtain ⟨p1, p2⟩ := p
  injection he with e1 e2
  dsimp only at e1 e2
  subst e1 e2
  have hmq := walk_mono _ _ _ _ hq
  have hm2 := walk_mono _ _ _ _ hp2
  rw [walkS] at hp2
  split at hp2
  ·
   cases hp2
  ·
   rename_i hbs
   obtain ⟨ds, hs, hdne, hds, hd0, hsl, hsw⟩ := seg_form (hok s (by simp)).1 (show 0 ≤ q2 by omega) (by omega) hbs
   rw [hsw] at hp2
   simp only [walkS, Option.map_some, Option.some.injEq, Prod.mk.injEq, List.append_nil] at hp2
   obtain ⟨hp1, hp2⟩ := hp2
   rw [rowsR_length] at hp2
   have hflat : s ++ recF p2 data = flatR q2 (ds ++ [data]) := by
    rw [flatR_app, hp2, ← hs]
    simp [flatR]
   have hlen : (s ++ recF p2 data).length ≤ 480 := by
    rw [List.length_append, recF_length]
    have : ¬ 480 < s.length + 16 + data.length := fun h => hb (.inr h)
    omega
   have hall : ∀ d ∈ ds ++ [data], d.length ≤ 400 := fun d hd' => by
    rcases List.mem_append.1 hd' with hd' | hd'
    ·
     exact (hds d hd').1
    ·
     rw [List.mem_singleton.1 hd']; exact hd
   have hgood := seg_good (due := q2) (ds := ds ++ [data]) (by omega) (by simp; omega) (by simp) hall (by rw [← hflat]; exact hlen)
   rw [← hflat] at hgood
   have hdue : dueS (a ++ [s ++ recF p2 data]) (p2 + 1) = dueS (a ++ [s]) p2 := by
    cases a with
    | nil =>
     show firstS (s ++ recF p2 data) = firstS s
     injection hq with hq
     injection hq with _ hq
     have e1 : dueS ([] ++ [s]) p2 = firstS s := rfl
     rw [e1] at hq
     rw [hflat, firstS_flat (by omega) (by omega) (by simp) hall]
     exact hq.symm
    | cons t ts => rfl
   rw [hdue, walk_app, hq]
   simp only [Option.bind_some, walkS, if_neg hgood.1, hgood.2, Option.map_some, List.append_nil, rowsR_length]
   rw [rowsR_app, hp1, hp2]
   simp only [rowsR, List.length_append, List.length_cons, List.length_nil, List.append_assoc]
   rw [show q2 + ((ds.length + (0 + 1) : Nat) : Int) = p2 + 1 from by omega]
end Go.Proofs.Ytgmkgobapeencaa.WalMore
