/- What the print's words and the walks are, as far as this claim names them. -/
import Derived.Test.YtgmkgobapeencaaYWalRef
import Derived.Test.YtgmkgobapeencaaYS26
namespace Go.Proofs.Ytgmkgobapeencaa.PureTells
set_option linter.unusedVariables false
set_option linter.unusedSimpArgs false
open Go.RowKit Go.Proofs.Ytgmkgobapeencaa.S Go.Proofs.YtgmkgobapeencaaW.PrintWords Go.Proofs.YtgmkgobapeencaaW.PrintLast RefSeal RefPut WalMath WalEv WalLog WalMore WalRef
theorem app_len (segs : List (List Int)) (next : Int) (data : List Int) : (appA segs next data).1.length ≤ segs.length + 1 := by
 unfold appA
 split
 ·
  split
  ·
   simp
  ·
   split
   ·
    simp
   ·
    split
    ·
     split
     ·
      simp
     ·
      simp
    ·
     simp
 ·
  simp
theorem dropS_len : ∀ (segs : List (List Int)) (next seq : Int), (dropS segs next seq).length ≤ segs.length
 | [], next, seq => by simp [dropS]
 | s :: ss, next, seq => by
  rw [dropS]
  split
  ·
   exact Nat.le_refl _
  ·
   have := dropS_len ss next seq
   simp only [List.length_cons]
   omega
theorem dropA_len (segs : List (List Int)) (next seq : Int) : (dropA segs next seq).1.length ≤ segs.length := by
 unfold dropA
 split
 ·
  exact dropS_len segs next seq
 ·
  simp
theorem recA_len {segs : List (List Int)} (hok : Okt segs) (next : Int) : (recA segs next).1.length ≤ 4611686018427387904 := by
 unfold recA
 cases h : logS segs next with
 | none => simp
 | some rs =>
  obtain ⟨h0, h1, h2⟩ := log_range h
  have := (walk_mono _ _ _ _ (log_walk h)).2
  have hd := due_range hok h0 h1
  dsimp only
  omega
theorem WalTells (segs : List (List Int)) (next : Int) (data : List Int) (seq : Int) (hok : ∀ s ∈ segs, octs s ∧ s.length ≤ 1048576) (hn : segs.length ≤ 1048576) (ho : octs data) (hl : data.length ≤ 1048576) : ∃ k, fanlightlaw06_WalTells.f k segs next data seq = some true := by
 suffices H : Ev (fun k => fanlightlaw06_WalTells.f k segs next data seq) true by
  obtain ⟨K, h⟩ := H
  exact ⟨K, h K (Nat.le_refl _)⟩
 have hok : Okt segs := fun s hs => ⟨(hok s hs).1, by have := (hok s hs).2; omega⟩
 have l1 := app_len segs next data
 have l2 := dropA_len segs next seq
 unfold fanlightlaw06_WalTells.f
 refine Ev.bind (of_is hok (by omega) next) ?_
 simp only [copyB_is (show data.length < 140737488355328 by omega), Option.bind_some]
 refine Ev.bind (app_is hok next data) ?_
 refine Ev.bind (refapp_is hok next ho) ?_
 refine Ev.bind (records_is hok next) ?_
 refine Ev.bind (refrecords_is hok next) ?_
 refine Ev.bind (drop_is hok next seq) ?_
 refine Ev.bind (refdrop_is hok next seq) ?_
 refine Ev.bind (alike_is (appA segs next data).1 (by omega) (appA segs next data).2.1) ?_
 simp only [if_true, fanlightlaw06_num.f, Option.bind_some]
 refine Ev.bind (same_is (recA segs next).1 (recA_len hok next)) ?_
 simp only [if_true]
 refine Ev.bind (alike_is (dropA segs next seq).1 (by omega) (dropA segs next seq).2.1) ?_
 simp only [if_true, bne_self_eq_false]
 refine Ev.step (fun k => rfl) ?_
 simp only [fanlightlaw06_WalTells.j0, Bool.false_eq_true, if_false, fanlightlaw06_num.f]
 refine Ev.bind (check_is hok next) ?_
 simp only [Option.bind_some]
 refine Ev.bind (refcheck_is hok next) ?_
 simp only [if_true]
 refine Ev.bind (alike_is segs (by omega) next) ?_
 simp only [if_true, sameB, Option.bind_some]
 refine Ev.bind alive_is ?_
 exact Ev.now _
end Go.Proofs.Ytgmkgobapeencaa.PureTells
