/- What the print's words and the walks are, as far as this claim names them. -/
import Derived.Test.YtkdaeleolomdkaaYDiskRefDo
import Derived.Test.YtkdaeleolomdkaaYD30
import Derived.Test.YtkdaeleolomdkaaYD31
import Derived.Test.YtkdaeleolomdkaaYD29
namespace Go.Proofs.Ytkdaeleolomdkaa.PureRuns
set_option linter.unusedVariables false
set_option linter.unusedSimpArgs false
open Go.RowKit Go.Proofs.Ytkdaeleolomdkaa.D Go.Proofs.YtkdaeleolomdkaaW.PrintWords Go.Proofs.YtkdaeleolomdkaaW.PrintLast DiskMath DiskEv DiskRefC DiskRefDo
theorem okSb_do {T : List (List Int)} {C : List S57} {x : S57} (h : okSb T C = true) (he : (doF T C x).2.2 = 0) : okSb (doF T C x).1 (doF T C x).2.1 = true := by
 have h1 := okSb_iff.1 h
 have hO := doF_ok (okS_of h) he
 refine okSb_iff.2 ⟨by have := hO.s0; omega, hO.sl, hO.cl, hO.s48, ?_⟩
 unfold doF at he ⊢
 by_cases a1 : x.f0 = true
 ·
  rw [if_pos a1] at he ⊢
  by_cases a2 : x.f1 ≠ 0 ∨ 0 < x.f2.length
  ·
   rw [if_pos a2] at he; cases he
  ·
   rw [if_neg a2]
   intro y hy
   cases hy
 ·
  rw [if_neg a1] at he ⊢
  by_cases a2 : chkW T.length x.f1 x.f2.length ≠ 0
  ·
   rw [if_pos a2] at he; exact absurd he a2
  ·
   rw [if_neg a2] at he ⊢
   by_cases a3 : C.length = 4096
   ·
    rw [if_pos a3] at he; cases he
   ·
    rw [if_neg a3]
    intro y hy
    rcases List.mem_append.1 hy with hy | hy
    ·
     exact h1.2.2.2.2 y hy
    ·
     rw [List.mem_singleton.1 hy]
     exact ⟨by simpa using a1, Decidable.not_not.1 a2⟩
theorem cache_short {T : List (List Int)} {C : List S57} (h : okSb T C = true) : ∀ y ∈ C, y.f2.length < 140737488355328 := fun y hy => by
 have hO := okS_of h
 have := hO.cok y hy
 have := hO.sl
 unfold okW at *
 omega
theorem runL_ok : ∀ (l : List S57) (i : Nat) (T : List (List Int)) (C : List S57), okSb T C = true → okSb (runL T C i l).1 (runL T C i l).2.1 = true
 | [], i, T, C, h => h
 | x :: xs, i, T, C, h => by
  rw [runL]
  by_cases he : (doF T C x).2.2 ≠ 0
  ·
   rw [if_pos he]
   have hd : (doF T C x).1 = T ∧ (doF T C x).2.1 = C := by
    unfold doF at he ⊢
    by_cases a1 : x.f0 = true
    ·
     rw [if_pos a1] at he ⊢
     by_cases a2 : x.f1 ≠ 0 ∨ 0 < x.f2.length
     ·
      rw [if_pos a2]; exact ⟨rfl, rfl⟩
     ·
      rw [if_neg a2] at he; exact absurd rfl he
    ·
     rw [if_neg a1] at he ⊢
     by_cases a2 : chkW T.length x.f1 x.f2.length ≠ 0
     ·
      rw [if_pos a2]; exact ⟨rfl, rfl⟩
     ·
      rw [if_neg a2] at he ⊢
      by_cases a3 : C.length = 4096
      ·
       rw [if_pos a3]; exact ⟨rfl, rfl⟩
      ·
       rw [if_neg a3] at he; exact absurd rfl he
   rw [hd.1, hd.2]
   exact h
  ·
   rw [if_neg he]
   exact runL_ok xs (i + 1) _ _ (okSb_do h (Decidable.not_not.1 he))
theorem run_l0 (l : List S57) (hm : l.length ≤ 9223372036854775806) (hd : ∀ x ∈ l, x.f2.length < 140737488355328) : ∀ (rest pre : List S57) (T : List (List Int)) (C : List S57), okSb T C = true → l = pre ++ rest →
  Ev (fun k => fanlightref05_Run.l0 k l (pre.length : Int) T C) ((runL T C pre.length rest).1, (runL T C pre.length rest).2.1, ((runL T C pre.length rest).2.2.1 : Int), (runL T C pre.length rest).2.2.2)
 | [], pre, T, C, hok, h => by
  refine Ev.step (fun k => rfl) ?_
  have e : l = pre := by simpa using h
  simp only [fanlightref05_Run.l0, if_neg (show ¬ (pre.length : Int) < (l.length : Int) by rw [e]; omega), runL]
  rw [e]
  exact Ev.now _
 | x :: xs, pre, T, C, hok, h => by
  refine Ev.step (fun k => rfl) ?_
  have hlen : l.length = pre.length + 1 + xs.length := by rw [h]; simp; omega
  have hx := hd x (by rw [h]; simp)
  have w2 : wrap64 ((pre.length : Int) + 1) = (((pre ++ [x]).length : Nat) : Int) := by rw [List.length_append]; exact wI (by omega) (by omega)
  simp only [fanlightref05_Run.l0, if_pos (show (pre.length : Int) < (l.length : Int) by omega), if_pos (show (0 : Int) ≤ (pre.length : Int) by omega), rdW_at h, w2]
  refine Ev.bind (refdo_is (by have := (okS_of hok).sl; omega) (cache_short hok) hx) ?_
  have hR : doR T C x = if (doF T C x).2.2 = 0 then ((doF T C x).1, (doF T C x).2.1, 0) else ([], [], (doF T C x).2.2) := by unfold doR; rw [if_pos hok]
  rw [hR]
  by_cases he : (doF T C x).2.2 = 0
  ·
   rw [if_pos he, runL, if_neg (by rw [he]; decide)]
   simp only [if_true]
   have hp : pre.length + 1 = (pre ++ [x]).length := by simp
   rw [hp]
   exact run_l0 l hm hd xs (pre ++ [x]) _ _ (okSb_do hok he) (by rw [h]; simp)
  ·
   rw [if_neg he, runL, if_pos he]
   simp only [if_neg he]
   have hd : (doF T C x).1 = T ∧ (doF T C x).2.1 = C := by
    unfold doF at he ⊢
    by_cases a1 : x.f0 = true
    ·
     rw [if_pos a1] at he ⊢
     by_cases a2 : x.f1 ≠ 0 ∨ 0 < x.f2.length
     ·
      rw [if_pos a2]; exact ⟨rfl, rfl⟩
     ·
      rw [if_neg a2] at he; exact absurd rfl he
    ·
     rw [if_neg a1] at he ⊢
     by_cases a2 : chkW T.length x.f1 x.f2.length ≠ 0
     ·
      rw [if_pos a2]; exact ⟨rfl, rfl⟩
     ·
      rw [if_neg a2] at he ⊢
      by_cases a3 : C.length = 4096
      ·
       rw [if_pos a3]; exact ⟨rfl, rfl⟩
      ·
       rw [if_neg a3] at he; exact absurd rfl he
   rw [hd.1, hd.2]
   exact Ev.now _
theorem own_ev {T : List (List Int)} {C : List S57} (h : okSb T C = true) : Ev (fun k => fanlightref05_Own.f k T C) (T, C) := Ev.of (fun k => fanlightref05_Own.mono T C k) (own_is T C h)
theorem refrun_is {T : List (List Int)} {C : List S57} {l : List S57} (hdC : ∀ x ∈ C, x.f2.length < 140737488355328) (hm : l.length ≤ 9223372036854775806) (hd : ∀ x ∈ l, x.f2.length < 140737488355328) :
  Ev (fun k => fanlightref05_Run.f k T C l) ((runR T C l).1, (runR T C l).2.1, ((runR T C l).2.2.1 : Int), (runR T C l).2.2.2) := by
 unfold fanlightref05_Run.f
 refine Ev.bind (refcheck_is hdC) ?_
 unfold runR
 by_cases hok : okSb T C = true
 ·
  simp only [if_pos hok, if_true]
  refine Ev.bind (own_ev hok) ?_
  exact run_l0 l hm hd l [] T C hok rfl
 ·
  simp only [if_neg hok, if_neg (show ¬ (9 : Int) = 0 by decide)]
  exact Ev.now _
theorem DiskRuns (secs : List (List Int)) (cache : List S57) (l : List S57) (hf : Fit secs cache) (hm : l.length ≤ 9223372036854775806) (hd : ∀ x ∈ l, x.f2.length < 140737488355328) :
  ∃ k, fanlightlaw05_DiskRuns.f k secs cache l = some true := by
 refine Ev.rounds ?_
 unfold fanlightlaw05_DiskRuns.f
 refine Ev.bind (of_is hf) ?_
 have hr : disk_Run.f secs cache l = some ((runR secs cache l).1, (runR secs cache l).2.1, ((runR secs cache l).2.2.1 : Int), (runR secs cache l).2.2.2) := by
  unfold disk_Run.f
  rw [if_pos ⟨hf.d, hd⟩]
 simp only [hr, Option.bind_some]
 refine Ev.bind (refrun_is hf.d hm hd) ?_
 have hl : (runR secs cache l).1.length ≤ 4096 ∧ (runR secs cache l).2.1.length ≤ 4096 := by
  unfold runR
  by_cases hok : okSb secs cache = true
  ·
   rw [if_pos hok]
   have := okS_of (runL_ok l 0 secs cache hok)
   exact ⟨this.sl, this.cl⟩
  ·
   rw [if_neg hok]
   exact ⟨by simp, by simp⟩
 refine Ev.bind (alike_is (by omega) (by omega)) ?_
 simp only [if_true, fanlightlaw05_num.f, Option.bind_some]
 refine Ev.bind (alike_is (by have := hf.n; omega) (by have := hf.m; omega)) ?_
 simp only [if_true]
 refine Ev.bind alive_is ?_
 exact Ev.now _
end Go.Proofs.Ytkdaeleolomdkaa.PureRuns
