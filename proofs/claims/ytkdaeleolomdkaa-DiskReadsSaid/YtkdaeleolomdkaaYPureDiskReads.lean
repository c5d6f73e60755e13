/- What the print's words and the walks are, as far as this claim names them. -/
import Derived.Test.YtkdaeleolomdkaaYDiskEv
import Derived.Test.YtkdaeleolomdkaaYD20
namespace Go.Proofs.Ytkdaeleolomdkaa.PureReads
set_option linter.unusedVariables false
set_option linter.unusedSimpArgs false
open Go.RowKit Go.Proofs.Ytkdaeleolomdkaa.D Go.Proofs.YtkdaeleolomdkaaW.PrintWords Go.Proofs.YtkdaeleolomdkaaW.PrintLast DiskMath DiskEv
theorem read_is {secs : List (List Int)} {cache : List S57} {a n : Int} (hd : ∀ x ∈ cache, x.f2.length < 140737488355328) (hok : okSb secs cache = true) (h0 : 0 ≤ a) (h1 : 0 ≤ n) (h2 : a + n ≤ secs.length) :
  disk_Read.f secs cache a n = some ((((settleL (fun _ => 4096) 0 cache secs).drop a.toNat).take n.toNat).flatten, 0) := by
 have hb := (okS_of hok).sl
 unfold disk_Read.f readR
 rw [if_pos ⟨hd, ⟨by omega, by omega⟩, ⟨by omega, by omega⟩⟩, if_pos hok, if_neg (by omega)]
theorem DiskReads (secs : List (List Int)) (cache : List S57) (f0 : Bool) (x1 : Int) (data : List Int) (hf : Fit secs cache) (hl : data.length < 140737488355328) (hx : -9223372036854775808 ≤ x1 ∧ x1 ≤ 9223372036854775807) :
  ∃ k, fanlightlaw05_DiskReads.f k secs cache f0 x1 data = some true := by
 refine Ev.rounds ?_
 unfold fanlightlaw05_DiskReads.f
 refine Ev.bind alive_is ?_
 simp only [if_true]
 refine Ev.bind (of_is hf) ?_
 have hdo : disk_Do.f secs cache f0 x1 data = some (doR secs cache ⟨f0, x1, data⟩) := by
  unfold disk_Do.f
  rw [if_pos ⟨hf.d, hl⟩]
 simp only [hdo, Option.bind_some, fanlightlaw05_num.f]
 by_cases hok : okSb secs cache = true
 rotate_left
 ·
  have hR : doR secs cache ⟨f0, x1, data⟩ = ([], [], 9) := by unfold doR; rw [if_neg hok]
  simp only [hR, if_neg (show ¬ (9 : Int) = 0 by decide)]
  refine Ev.step (fun k => rfl) ?_
  simp only [fanlightlaw05_DiskReads.j0, fanlightlaw05_num.f, if_true, Option.bind_some, if_neg (show ¬ (9 : Int) = 0 by decide)]
  exact Ev.now _
 by_cases he : (doF secs cache ⟨f0, x1, data⟩).2.2 = 0
 rotate_left
 ·
  have hR : doR secs cache ⟨f0, x1, data⟩ = ([], [], (doF secs cache ⟨f0, x1, data⟩).2.2) := by unfold doR; rw [if_pos hok, if_neg he]
  simp only [hR, if_neg he]
  refine Ev.step (fun k => rfl) ?_
  simp only [fanlightlaw05_DiskReads.j0, fanlightlaw05_num.f, if_true, Option.bind_some, if_neg he]
  exact Ev.now _
 have hR : doR secs cache ⟨f0, x1, data⟩ = ((doF secs cache ⟨f0, x1, data⟩).1, (doF secs cache ⟨f0, x1, data⟩).2.1, 0) := by unfold doR; rw [if_pos hok, if_pos he]
 simp only [hR, if_true]
 cases f0 with
 | true =>
  refine Ev.step (fun k => rfl) ?_
  simp only [fanlightlaw05_DiskReads.j0, fanlightlaw05_num.f, if_true, Option.bind_some]
  exact Ev.now _
 | false =>
  obtain ⟨X, hX⟩ : ∃ X : S57, (⟨false, x1, data⟩ : S57) = X := ⟨_, rfl⟩
  have hX0 : X.f0 = false := by rw [← hX]
  have hX1 : X.f1 = x1 := by rw [← hX]
  have hX2 : X.f2 = data := by rw [← hX]
  rw [hX] at he ⊢
  have hch : chkW secs.length X.f1 X.f2.length = 0 ∧ cache.length ≠ 4096 ∧ doF secs cache X = (secs, cache ++ [X], 0) := by
   unfold doF at he ⊢
   rw [if_neg (by rw [hX0]; decide)] at he ⊢
   by_cases h1 : chkW secs.length X.f1 X.f2.length ≠ 0
   ·
    rw [if_pos h1] at he; exact absurd he h1
   ·
    rw [if_neg h1] at he ⊢
    by_cases h2 : cache.length = 4096
    ·
     rw [if_pos h2] at he; cases he
    ·
     rw [if_neg h2]
     exact ⟨Decidable.not_not.1 h1, h2, rfl⟩
  obtain ⟨hc, hn, hD⟩ := hch
  rw [hD]
  have hw : okW secs.length X := okW_of hc
  obtain ⟨w1, w2, w3⟩ := okW_fit hw
  rw [hX1, hX2] at w1
  rw [hX2] at w2 w3
  have hO := okS_of hok
  have hsl := hO.sl
  have hx0 : 0 ≤ x1 := by have := hw.1; rwa [hX1] at this
  obtain ⟨a, rfl⟩ := Int.eq_ofNat_of_zero_le hx0
  rw [Int.toNat_natCast] at w1
  obtain ⟨c, hc'⟩ : ∃ c, data.length / 48 = c := ⟨_, rfl⟩
  rw [hc'] at w1 w2 w3
  have hq : Aside0 (wrap64 ((data.length : Int) / 48) = (c : Int)) := ⟨by rw [wI] <;> omega⟩
  have hok2 : okSb secs (cache ++ [X]) = true := okSb_app hok hX0 hc hn
  have hd2 : ∀ y ∈ cache ++ [X], y.f2.length < 140737488355328 := fun y hy => by
   rcases List.mem_append.1 hy with hy | hy
   ·
    exact hf.d y hy
   ·
    rw [List.mem_singleton.1 hy, hX2]; exact hl
  have hT := settleL_len (fun _ => 4096) cache 0 secs
  obtain ⟨T, hTe⟩ : ∃ T, settleL (fun _ => 4096) 0 cache secs = T := ⟨_, rfl⟩
  have hS2 : settleL (fun _ => 4096) 0 (cache ++ [X]) secs = landL T a ((List.range c).map (chunkD data)) := by
   rw [settle_app, hTe, landW_all (by rw [hTe] at hT; rw [hT]; exact hw) (cnt_le hw hsl), hX1, hX2, hc', Int.toNat_natCast]
  rw [hTe] at hT
  have hfit : a + ((List.range c).map (chunkD data)).length ≤ T.length := by rw [chunks_len]; omega
  have hm := land_mid hfit
  have ht := land_take hfit
  have hdr := land_drop hfit
  rw [chunks_len] at hm hdr
  have e1 : Aside0 (wrap64 ((a : Int) + (c : Int)) = ((a + c : Nat) : Int)) := ⟨by rw [wI] <;> omega⟩
  have e2 : Aside0 (wrap64 ((secs.length : Int) - (a : Int)) = (secs.length : Int) - (a : Int)) := ⟨wI (by omega) (by omega)⟩
  have e3 : Aside0 (wrap64 ((secs.length : Int) - (a : Int) - (c : Int)) = ((secs.length - a - c : Nat) : Int)) := ⟨by rw [wI] <;> omega⟩
  have r1 := read_is (a := (a : Int)) (n := (c : Int)) hd2 hok2 (by omega) (by omega) (by omega)
  have r2 := read_is (a := 0) (n := (a : Int)) hf.d hok (by omega) (by omega) (by omega)
  have r3 := read_is (a := 0) (n := (a : Int)) hd2 hok2 (by omega) (by omega) (by omega)
  have r4 := read_is (a := ((a + c : Nat) : Int)) (n := ((secs.length - a - c : Nat) : Int)) hf.d hok (by omega) (by omega) (by omega)
  have r5 := read_is (a := ((a + c : Nat) : Int)) (n := ((secs.length - a - c : Nat) : Int)) hd2 hok2 (by omega) (by omega) (by omega)
  rw [hS2, Int.toNat_natCast, Int.toNat_natCast, hm, chunks_flat c data w2] at r1
  rw [hTe, Int.toNat_zero, Int.toNat_natCast, List.drop_zero] at r2
  rw [hS2, Int.toNat_zero, Int.toNat_natCast, List.drop_zero, ht] at r3
  rw [hTe, Int.toNat_natCast, Int.toNat_natCast] at r4
  rw [hS2, Int.toNat_natCast, Int.toNat_natCast, hdr] at r5
  refine Ev.step (fun k => rfl) ?_
  simp only [fanlightlaw05_DiskReads.j0, fanlightlaw05_num.f, if_neg (show ¬ (false = true) by decide), hq.out, e1.out, e2.out, e3.out, r1, r3, r5, Option.bind_some]
  refine Ev.bind (of_is hf) ?_
  simp only [r2, Option.bind_some]
  refine Ev.bind (of_is hf) ?_
  simp only [r4, Option.bind_some, sameB, if_true]
  rw [if_pos (by decide +kernel)]
  exact Ev.now _
end Go.Proofs.Ytkdaeleolomdkaa.PureReads
