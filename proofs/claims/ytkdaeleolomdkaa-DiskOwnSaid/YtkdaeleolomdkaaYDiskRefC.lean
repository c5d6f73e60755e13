/- What the print's words and the walks are, as far as this claim names them. -/
import Derived.Test.YtkdaeleolomdkaaYDiskEv
import Derived.Test.YtkdaeleolomdkaaYD21
namespace Go.Proofs.Ytkdaeleolomdkaa.DiskRefC
set_option linter.unusedVariables false
set_option linter.unusedSimpArgs false
open Go.RowKit Go.Proofs.Ytkdaeleolomdkaa.D Go.Proofs.YtkdaeleolomdkaaW.PrintWords Go.Proofs.YtkdaeleolomdkaaW.PrintLast DiskMath DiskEv
def fitB (n : Nat) (x1 : Int) (m : Nat) : Bool := decide (0 ≤ x1 ∧ x1 ≤ n ∧ (((m + 47) / 48 : Nat) : Int) ≤ n - x1)
theorem chk_fit {n : Nat} {x1 : Int} {m : Nat} : chkW n x1 m = 0 ↔ fitB n x1 m = true ∧ m ≠ 0 ∧ m % 48 = 0 := by
 unfold chkW fitB
 rw [decide_eq_true_eq]
 split
 ·
  constructor
  ·
   intro h; cases h
  ·
   intro h; omega
 ·
  split
  ·
   constructor
   ·
    intro h; cases h
   ·
    intro h; omega
  ·
   constructor
   ·
    intro _; omega
   ·
    intro _; rfl
theorem fits_is {secs : List (List Int)} {cache : List S57} {f0 : Bool} {x1 : Int} {d : List Int} (hn : secs.length ≤ 9223372036854775807) (hd : d.length < 140737488355328) : fanlightref05_fits.f secs cache f0 x1 d = some (fitB secs.length x1 d.length) := by
 unfold fanlightref05_fits.f fitB
 obtain ⟨m, hm⟩ : ∃ m, d.length = m := ⟨_, rfl⟩
 obtain ⟨n, hn'⟩ : ∃ n, secs.length = n := ⟨_, rfl⟩
 rw [hm] at hd
 rw [hn'] at hn
 rw [hm, hn']
 by_cases h1 : x1 ≥ 0
 ·
  rw [if_pos h1]
  by_cases h2 : x1 ≤ (n : Int)
  ·
   rw [if_pos h2]
   have e1 : wrap64 ((m : Int) + 48) = (m : Int) + 48 := wI (by omega) (by omega)
   have e2 : wrap64 ((m : Int) + 48 - 1) = ((m + 47 : Nat) : Int) := by rw [wI] <;> omega
   have e3 : Int.tdiv ((m + 47 : Nat) : Int) 48 = (((m + 47) / 48 : Nat) : Int) := (Int.ofNat_tdiv (m + 47) 48).symm
   have e4 : wrap64 (((m + 47) / 48 : Nat) : Int) = (((m + 47) / 48 : Nat) : Int) := wI (by omega) (by omega)
   have e5 : wrap64 ((n : Int) - x1) = (n : Int) - x1 := wI (by omega) (by omega)
   rw [e1, e2, e3, e4, e5]
   congr 1
   apply decide_eq_decide.2
   constructor
   ·
    intro h; exact ⟨h1, h2, h⟩
   ·
    intro h; exact h.2.2
  ·
   rw [if_neg h2]
   congr 1
   exact (decide_eq_false (fun h => h2 h.2.1)).symm
 ·
  rw [if_neg h1]
  congr 1
  exact (decide_eq_false (fun h => h1 h.1)).symm
theorem check_l1 (secs : List (List Int)) (cache : List S57) (hn : secs.length ≤ 4096) (hm : cache.length ≤ 4096) (hd : ∀ x ∈ cache, x.f2.length < 140737488355328) : ∀ (rest pre : List S57), cache = pre ++ rest → Ev (fun k => fanlightref05_Check.l1 k (pre.length : Int) secs cache) (if (rest.any fun x => x.f0 || chkW secs.length x.f1 x.f2.length != 0) = true then 9 else 0)
 | [], pre, h => by
  refine Ev.step (fun k => rfl) ?_
  have e : cache = pre := by simpa using h
  simp only [fanlightref05_Check.l1, if_neg (show ¬ (pre.length : Int) < (cache.length : Int) by rw [e]; omega), List.any_nil, if_neg (show ¬ (false = true) by decide)]
  exact Ev.now _
 | x :: xs, pre, h => by
  refine Ev.step (fun k => rfl) ?_
  have hlen : cache.length = pre.length + 1 + xs.length := by rw [h]; simp; omega
  have hx := hd x (by rw [h]; simp)
  have w2 : wrap64 ((pre.length : Int) + 1) = (((pre ++ [x]).length : Nat) : Int) := by rw [List.length_append]; exact wI (by omega) (by omega)
  simp only [fanlightref05_Check.l1, if_pos (show (pre.length : Int) < (cache.length : Int) by omega), if_pos (show (0 : Int) ≤ (pre.length : Int) by omega), rdW_at h]
  have hch := @chk_fit secs.length x.f1 x.f2.length
  rw [List.any_cons]
  by_cases c0 : x.f0 = true
  ·
   simp only [if_pos c0, c0, Bool.true_or, if_pos]
   exact Ev.now _
  ·
   simp only [if_neg c0]
   have c0' : x.f0 = false := by simpa using c0
   by_cases c1 : (x.f2.length : Int) = 0
   ·
    have : chkW secs.length x.f1 x.f2.length ≠ 0 := fun h => (hch.1 h).2.1 (by omega)
    simp only [if_pos c1, c0', Bool.false_or, bne_iff_ne.2 this, Bool.true_or, if_pos]
    exact Ev.now _
   ·
    simp only [if_neg c1]
    by_cases c2 : (x.f2.length : Int) % 48 = 0
    ·
     simp only [if_pos c2, fits_is (show secs.length ≤ 9223372036854775807 by omega) hx, Option.bind_some]
     by_cases c3 : fitB secs.length x.f1 x.f2.length = true
     ·
      have h0 : chkW secs.length x.f1 x.f2.length = 0 := hch.2 ⟨c3, by omega, by omega⟩
      simp only [if_pos c3, w2, c0', h0, Bool.false_or, bne_self_eq_false]
      exact check_l1 secs cache hn hm hd xs (pre ++ [x]) (by rw [h]; simp)
     ·
      have : chkW secs.length x.f1 x.f2.length ≠ 0 := fun h => c3 (hch.1 h).1
      simp only [if_neg c3, c0', Bool.false_or, bne_iff_ne.2 this, Bool.true_or, if_pos]
      exact Ev.now _
    ·
     have : chkW secs.length x.f1 x.f2.length ≠ 0 := fun h => by have := (hch.1 h).2.2; omega
     simp only [if_neg c2, c0', Bool.false_or, bne_iff_ne.2 this, Bool.true_or, if_pos]
     exact Ev.now _
theorem check_l0 (secs : List (List Int)) (cache : List S57) (hn : secs.length ≤ 4096) (hm : cache.length ≤ 4096) (hd : ∀ x ∈ cache, x.f2.length < 140737488355328) : ∀ (rest pre : List (List Int)), secs = pre ++ rest → Ev (fun k => fanlightref05_Check.l0 k (pre.length : Int) secs cache) (if (rest.any fun b => (b.length : Int) != 48) = true ∨ (cache.any fun x => x.f0 || chkW secs.length x.f1 x.f2.length != 0) = true then 9 else 0)
 | [], pre, h => by
  refine Ev.step (fun k => rfl) ?_
  have e : secs = pre := by simpa using h
  simp only [fanlightref05_Check.l0, if_neg (show ¬ (pre.length : Int) < (secs.length : Int) by rw [e]; omega), List.any_nil, show (false = true) = False by simp, false_or]
  exact check_l1 secs cache hn hm hd cache [] rfl
 | b :: bs, pre, h => by
  refine Ev.step (fun k => rfl) ?_
  have hlen : secs.length = pre.length + 1 + bs.length := by rw [h]; simp; omega
  have w2 : wrap64 ((pre.length : Int) + 1) = (((pre ++ [b]).length : Nat) : Int) := by rw [List.length_append]; exact wI (by omega) (by omega)
  simp only [fanlightref05_Check.l0, if_pos (show (pre.length : Int) < (secs.length : Int) by omega), if_pos (show (0 : Int) ≤ (pre.length : Int) by omega), rdL_at h, w2]
  rw [List.any_cons]
  by_cases c1 : (b.length : Int) = 48
  ·
   simp only [if_pos c1, c1, bne_self_eq_false, Bool.false_or]
   exact check_l0 secs cache hn hm hd bs (pre ++ [b]) (by rw [h]; simp)
  ·
   have : ((b.length : Int) != 48) = true := bne_iff_ne.2 c1
   simp only [if_neg c1, this, Bool.true_or, true_or, if_true]
   exact Ev.now _
theorem refcheck_is {secs : List (List Int)} {cache : List S57} (hd : ∀ x ∈ cache, x.f2.length < 140737488355328) : Ev (fun k => fanlightref05_Check.f k secs cache) (if okSb secs cache = true then 0 else 9) := by
 unfold fanlightref05_Check.f okSb
 by_cases c1 : (secs.length : Int) < 1
 ·
  simp only [if_pos c1]
  refine Ev.step (fun k => rfl) ?_
  simp only [fanlightref05_Check.j0, if_true, decide_eq_true (show secs.length = 0 by omega), Bool.true_or, Bool.not_true, if_neg (show ¬ (false = true) by decide)]
  exact Ev.now _
 ·
  simp only [if_neg c1]
  by_cases c2 : (secs.length : Int) > 4096
  ·
   simp only [if_pos c2]
   refine Ev.step (fun k => rfl) ?_
   simp only [fanlightref05_Check.j0, if_true, decide_eq_true (show 4096 < secs.length by omega), Bool.true_or, Bool.or_true, Bool.not_true, if_neg (show ¬ (false = true) by decide)]
   exact Ev.now _
  ·
   simp only [if_neg c2]
   refine Ev.step (fun k => rfl) ?_
   by_cases c3 : (cache.length : Int) > 4096
   ·
    simp only [fanlightref05_Check.j0, decide_eq_true c3, if_true, decide_eq_true (show 4096 < cache.length by omega), Bool.true_or, Bool.or_true, Bool.not_true, if_neg (show ¬ (false = true) by decide)]
    exact Ev.now _
   ·
    have h := check_l0 secs cache (by omega) (by omega) hd secs [] rfl
    simp only [fanlightref05_Check.j0, decide_eq_false c3, if_neg (show ¬ (false = true) by decide)]
    have e : (if (secs.any fun b => (b.length : Int) != 48) = true ∨ (cache.any fun x => x.f0 || chkW secs.length x.f1 x.f2.length != 0) = true then (9 : Int) else 0) = (if (!(decide (secs.length = 0) || decide (4096 < secs.length) || decide (4096 < cache.length) || (secs.any fun b => (b.length : Int) != 48) || (cache.any fun x => x.f0 || chkW secs.length x.f1 x.f2.length != 0))) = true then 0 else 9) := by
     rw [decide_eq_false (show ¬ secs.length = 0 by omega), decide_eq_false (show ¬ 4096 < secs.length by omega), decide_eq_false (show ¬ 4096 < cache.length by omega)]
     cases (secs.any fun b => (b.length : Int) != 48) <;> cases (cache.any fun x => x.f0 || chkW secs.length x.f1 x.f2.length != 0) <;> simp
    rw [← e]
    exact h
end Go.Proofs.Ytkdaeleolomdkaa.DiskRefC
