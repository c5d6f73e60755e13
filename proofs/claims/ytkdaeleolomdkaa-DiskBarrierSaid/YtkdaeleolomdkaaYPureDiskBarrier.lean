/- What the print's words and the walks are, as far as this claim names them. -/
import Derived.Test.YtkdaeleolomdkaaYDiskEv
import Derived.Test.YtkdaeleolomdkaaYDiskRefC
import Derived.Test.YtkdaeleolomdkaaYD22
namespace Go.Proofs.Ytkdaeleolomdkaa.PureBarrier
set_option linter.unusedVariables false
set_option linter.unusedSimpArgs false
open Go.RowKit Go.Proofs.Ytkdaeleolomdkaa.D Go.Proofs.YtkdaeleolomdkaaW.PrintWords Go.Proofs.YtkdaeleolomdkaaW.PrintLast DiskMath DiskEv DiskRefC
theorem read_all {secs : List (List Int)} {cache : List S57} (hd : ∀ x ∈ cache, x.f2.length < 140737488355328) (hok : okSb secs cache = true) :
  disk_Read.f secs cache 0 (secs.length : Int) = some ((settleL (fun _ => 4096) 0 cache secs).flatten, 0) := by
 have hb := (okS_of hok).sl
 have hl := settleL_len (fun _ => 4096) cache 0 secs
 unfold disk_Read.f readR
 rw [if_pos ⟨hd, ⟨by omega, by omega⟩, ⟨by omega, by omega⟩⟩, if_pos hok, if_neg (by omega), Int.toNat_zero, List.drop_zero, Int.toNat_natCast, List.take_of_length_le (by omega)]
theorem DiskBarrier (secs : List (List Int)) (cache : List S57) (keep : List Int) (hf : Fit secs cache) (hk : ∀ z ∈ keep, -9223372036854775808 ≤ z ∧ z ≤ 9223372036854775807) :
  ∃ k, fanlightlaw05_DiskBarrier.f k secs cache keep = some true := by
 refine Ev.rounds ?_
 unfold fanlightlaw05_DiskBarrier.f
 refine Ev.bind alive_is ?_
 simp only [if_true]
 refine Ev.bind (of_is hf) ?_
 have hdo : disk_Do.f secs cache true 0 [] = some (doR secs cache ⟨true, 0, []⟩) := by
  unfold disk_Do.f
  rw [if_pos ⟨hf.d, by simp⟩]
 simp only [hdo, Option.bind_some, fanlightlaw05_num.f]
 by_cases hok : okSb secs cache = true
 ·
  have hD : doF secs cache ⟨true, 0, []⟩ = (settleL (fun _ => 4096) 0 cache secs, [], 0) := by
   unfold doF
   rw [if_pos rfl, if_neg (by simp)]
  have hR : doR secs cache ⟨true, 0, []⟩ = (settleL (fun _ => 4096) 0 cache secs, [], 0) := by unfold doR; rw [if_pos hok, hD, if_pos rfl]
  have hl := settleL_len (fun _ => 4096) cache 0 secs
  have hok2 := okSb_settle (fun _ => 4096) hok
  have r1 := read_all hf.d hok
  obtain ⟨T, hT⟩ : ∃ T, settleL (fun _ => 4096) 0 cache secs = T := ⟨_, rfl⟩
  rw [hT] at hR hl hok2 r1
  have hc : disk_Crash.f T [] keep = some (T, [], 0) := by
   unfold disk_Crash.f crashR
   rw [if_pos ⟨(fun y hy => by cases hy), hk⟩, if_pos hok2]
   rfl
  have r2 := read_all (secs := T) (cache := []) (fun y hy => by cases hy) hok2
  rw [hl] at r2
  simp only [hR, if_true, hc, Option.bind_some]
  refine Ev.bind (of_is hf) ?_
  simp only [r1, r2, Option.bind_some]
  rw [if_pos (by decide +kernel), if_pos (by simp)]
  have e : settleL (fun _ => 4096) 0 [] T = T := rfl
  rw [e]
  simp only [sameB, Option.bind_some]
  exact Ev.now _
 ·
  have hR : doR secs cache ⟨true, 0, []⟩ = ([], [], 9) := by unfold doR; rw [if_neg hok]
  simp only [hR, if_neg (show ¬ (9 : Int) = 0 by decide)]
  have h := refcheck_is (secs := secs) (cache := cache) hf.d
  rw [if_neg hok] at h
  refine Ev.bind h ?_
  exact Ev.now _
end Go.Proofs.Ytkdaeleolomdkaa.PureBarrier
