/- What the print's words and the walks are, as far as this claim names them. -/
import Derived.Test.YtgmkgobapeencaaYRefSeal
import Derived.Test.YtgmkgobapeencaaYS1
import Derived.Test.YtgmkgobapeencaaYS6
import Derived.Test.YtgmkgobapeencaaYS12
import Derived.Test.YtgmkgobapeencaaYS18
import Derived.Test.YtgmkgobapeencaaYS21
set_option linter.unusedVariables false
set_option linter.unusedSimpArgs false
namespace Go.Proofs.Ytgmkgobapeencaa.RefPut
open Go.RowKit Go.Proofs.Ytgmkgobapeencaa.S Go.Proofs.YtgmkgobapeencaaW.PrintWords Go.Proofs.YtgmkgobapeencaaW.PrintLast RefSeal
theorem octets_is (n : Nat) (hn : n ≤ 65536) : Ev (fun k => fanlightref03_Octets.f k (n : Int) 3) [(n : Int) / 65536 % 256, (n : Int) / 256 % 256, (n : Int) % 256] := by
 have e0 : wrap64 (3 - 1) = 2 := by rw [wrapI] <;> omega
 have e1 : wrap64 (2 - 1) = 1 := by rw [wrapI] <;> omega
 have e2 : wrap64 (1 - 1) = 0 := by rw [wrapI] <;> omega
 have e3 : wrap64 (0 - 1) = -1 := by rw [wrapI] <;> omega
 have g2 : wrap64 (8 * 2) = 16 := by rw [wrapI] <;> omega
 have g1 : wrap64 (8 * 1) = 8 := by rw [wrapI] <;> omega
 have g0 : wrap64 (8 * 0) = 0 := by rw [wrapI] <;> omega
 have f2 : shr .u64 (n : Int) 16 = (n : Int) / 65536 := rfl
 have f1 : shr .u64 (n : Int) 8 = (n : Int) / 256 := rfl
 have f0 : shr .u64 (n : Int) 0 = (n : Int) := by
  show (n : Int) / 1 = n
  exact Int.ediv_one _
 unfold fanlightref03_Octets.f
 rw [e0]
 refine Ev.step (fun k => rfl) ?_
 simp only [fanlightref03_Octets.l0, if_pos (show (2 : Int) ≥ 0 by decide), g2, if_pos (show (0 : Int) ≤ 16 by decide), if_pos (show ([] : List Int).length < 140737488355328 by simp), e1, f2, List.nil_append]
 refine Ev.step (fun k => rfl) ?_
 simp only [fanlightref03_Octets.l0, if_pos (show (1 : Int) ≥ 0 by decide), g1, if_pos (show (0 : Int) ≤ 8 by decide), if_pos (show ([(n : Int) / 65536 % 256] : List Int).length < 140737488355328 by simp), e2, f1, List.cons_append, List.nil_append]
 refine Ev.step (fun k => rfl) ?_
 simp only [fanlightref03_Octets.l0, if_pos (show (0 : Int) ≥ 0 by decide), g0, if_pos (show (0 : Int) ≤ 0 by decide), if_pos (show ([(n : Int) / 65536 % 256, (n : Int) / 256 % 256] : List Int).length < 140737488355328 by simp), e3, f0, List.cons_append, List.nil_append]
 refine Ev.step (fun k => rfl) ?_
 simp only [fanlightref03_Octets.l0, if_neg (show ¬ (-1 : Int) ≥ 0 by decide)]
 exact Ev.now _
theorem put_ref (a : Int) {l : List Int} (ho : octs l) : ∃ X, seal_Put.f a l = some X ∧ Ev (fun k => fanlightref04_Put.f k a l) X := by
 by_cases h1 : a < 1
 ·
  refine ⟨([], 22), ?_, ?_⟩
  ·
   unfold seal_Put.f
   rw [if_pos (by omega)]
  ·
   simp only [fanlightref04_Put.f, if_pos h1]
   exact Ev.step (fun k => rfl) (Ev.now _)
 by_cases h2 : a > 255
 ·
  refine ⟨([], 22), ?_, ?_⟩
  ·
   unfold seal_Put.f
   rw [if_pos (by omega)]
  ·
   simp only [fanlightref04_Put.f, if_neg h1, decide_eq_true h2]
   exact Ev.step (fun k => rfl) (Ev.now _)
 by_cases h3 : (l.length : Int) > 65536
 ·
  refine ⟨([], 5), ?_, ?_⟩
  ·
   unfold seal_Put.f
   rw [if_neg (by omega), if_pos (by omega)]
  ·
   simp only [fanlightref04_Put.f, if_neg h1, decide_eq_false h2]
   refine Ev.step (fun k => rfl) ?_
   simp only [fanlightref04_Put.j0, if_neg (show ¬ false = true by decide), if_pos h3]
   exact Ev.now _
 ·
  refine ⟨(sealBody a l ++ laidL (sumOf (sealBody a l)), 0), ?_, ?_⟩
  ·
   unfold seal_Put.f
   rw [if_neg (by omega), if_neg (by omega)]
  ·
   simp only [fanlightref04_Put.f, if_neg h1, decide_eq_false h2]
   refine Ev.step (fun k => rfl) ?_
   have hw : IntKind.u64.wrap (l.length : Int) = (l.length : Int) := by
    simp [IntKind.wrap, IntKind.bits, IntKind.signed]
    omega
   have hb : [a % 256] ++ [(l.length : Int) / 65536 % 256, (l.length : Int) / 256 % 256, (l.length : Int) % 256] ++ l = sealBody a l := rfl
   have hbl : (sealBody a l).length = l.length + 4 := by simp [sealBody, sealHead]
   have hbo : octs (sealBody a l) := by
    intro x hx
    simp only [sealBody, sealHead, List.mem_append, List.mem_cons, List.mem_nil_iff, or_false] at hx
    rcases hx with (rfl | rfl | rfl | rfl) | h
    ·
     omega
    ·
     omega
    ·
     omega
    ·
     omega
    ·
     exact ho x h
   simp only [fanlightref04_Put.j0, if_neg (show ¬ false = true by decide), if_neg h3, hw, Option.bind_some]
   refine Ev.bind (octets_is l.length (by omega)) ?_
   have c1 : ([a % 256] : List Int).length + [(l.length : Int) / 65536 % 256, (l.length : Int) / 256 % 256, (l.length : Int) % 256].length < 140737488355328 := by simp
   have c2 : ([a % 256] ++ [(l.length : Int) / 65536 % 256, (l.length : Int) / 256 % 256, (l.length : Int) % 256] : List Int).length + l.length < 140737488355328 := by simp; omega
   simp only [if_pos c1, if_pos c2, hb, Option.bind_some]
   refine Ev.bind (sum_is hbo (by omega)) ?_
   have hl : fanlightref04_laid.f (sumOf (sealBody a l)) = some (laidL (sumOf (sealBody a l))) := rfl
   have c3 : (sealBody a l).length + (laidL (sumOf (sealBody a l))).length < 140737488355328 := by rw [hbl]; show l.length + 4 + 4 < _; omega
   simp only [hl, Option.bind_some, if_pos c3]
   exact Ev.now _
def oc8 (n : Int) : List Int := [n / 72057594037927936 % 256, n / 281474976710656 % 256, n / 1099511627776 % 256, n / 4294967296 % 256, n / 16777216 % 256, n / 65536 % 256, n / 256 % 256, n % 256]
theorem oc8_octs (n : Int) : octs (oc8 n) := by
 intro x hx
 simp only [oc8, List.mem_cons, List.mem_nil_iff, or_false] at hx
 rcases hx with rfl | rfl | rfl | rfl | rfl | rfl | rfl | rfl <;> omega
theorem octets8_is (n : Int) : Ev (fun k => fanlightref03_Octets.f k n 8) (oc8 n) := by
 have e0 : wrap64 (8 - 1) = 7 := by rw [wrapI] <;> omega
 have es : ∀ i : Int, 0 ≤ i → i ≤ 7 → wrap64 (i - 1) = i - 1 := fun i h0 h1 => by rw [wrapI] <;> omega
 have gs : ∀ i : Int, 0 ≤ i → i ≤ 7 → wrap64 (8 * i) = 8 * i := fun i h0 h1 => by rw [wrapI] <;> omega
 have f7 : shr .u64 n 56 = n / 72057594037927936 := rfl
 have f6 : shr .u64 n 48 = n / 281474976710656 := rfl
 have f5 : shr .u64 n 40 = n / 1099511627776 := rfl
 have f4 : shr .u64 n 32 = n / 4294967296 := rfl
 have f3 : shr .u64 n 24 = n / 16777216 := rfl
 have f2 : shr .u64 n 16 = n / 65536 := rfl
 have f1 : shr .u64 n 8 = n / 256 := rfl
 have f0 : shr .u64 n 0 = n := by
  show n / 1 = n
  exact Int.ediv_one _
 have step : ∀ (acc : List Int) (i : Int) (v : Int), 0 ≤ i → i ≤ 7 → acc.length ≤ 8 → shr .u64 n (8 * i) = v → Ev (fun k => fanlightref03_Octets.l0 k n (acc ++ [v % 256]) (i - 1)) (oc8 n) → Ev (fun k => fanlightref03_Octets.l0 k n acc i) (oc8 n) := by
  intro acc i v h0 h1 hl hv h
  refine Ev.step (fun k => rfl) ?_
  simp only [fanlightref03_Octets.l0, if_pos (show i ≥ 0 by omega), gs i h0 h1, if_pos (show (0 : Int) ≤ 8 * i by omega), if_pos (show acc.length < 140737488355328 by omega), es i h0 h1, hv]
  exact h
 unfold fanlightref03_Octets.f
 rw [e0]
 refine step [] 7 _ (by omega) (by omega) (by simp) f7 ?_
 refine step _ 6 _ (by omega) (by omega) (by simp) f6 ?_
 refine step _ 5 _ (by omega) (by omega) (by simp) f5 ?_
 refine step _ 4 _ (by omega) (by omega) (by simp) f4 ?_
 refine step _ 3 _ (by omega) (by omega) (by simp) f3 ?_
 refine step _ 2 _ (by omega) (by omega) (by simp) f2 ?_
 refine step _ 1 _ (by omega) (by omega) (by simp) f1 ?_
 refine step _ 0 _ (by omega) (by omega) (by simp) f0 ?_
 refine Ev.step (fun k => rfl) ?_
 simp only [fanlightref03_Octets.l0, if_neg (show ¬ (0 : Int) - 1 ≥ 0 by decide)]
 exact Ev.now _
end Go.Proofs.Ytgmkgobapeencaa.RefPut
namespace Go.Proofs.Ytgmkgobapeencaa.WalMath
open Go.RowKit Go.Proofs.Ytgmkgobapeencaa.S Go.Proofs.YtgmkgobapeencaaW.PrintWords Go.Proofs.YtgmkgobapeencaaW.PrintLast RefSeal RefPut
theorem octs_app {a b : List Int} (ha : octs a) (hb : octs b) : octs (a ++ b) := fun x hx => by
 rcases List.mem_append.1 hx with h | h
 ·
  exact ha x h
 ·
  exact hb x h
theorem numOf_oc8 {n : Int} (h0 : 0 ≤ n) (h1 : n < 18446744073709551616) : numOf (oc8 n) = n := by
 unfold numOf oc8
 simp only [List.foldl_cons, List.foldl_nil]
 omega
theorem oc8_numOf {l : List Int} (ho : octs l) (hl : l.length = 8) : oc8 (numOf l) = l := by
 match l, hl with
 | [a, b, c, d, e, f, g, h], _ =>
  have ha := ho a (by simp)
  have hb := ho b (by simp)
  have hc := ho c (by simp)
  have hd := ho d (by simp)
  have he := ho e (by simp)
  have hf := ho f (by simp)
  have hg := ho g (by simp)
  have hh := ho h (by simp)
  unfold numOf oc8
  simp only [List.foldl_cons, List.foldl_nil, List.cons.injEq, and_true]
  refine ⟨by omega, by omega, by omega, by omega, by omega, by omega, by omega, by omega⟩
theorem oc8_length (n : Int) : (oc8 n).length = 8 := rfl
def fr (k : Int) (l : List Int) : List Int := sealBody k l ++ laidL (sumOf (sealBody k l))
theorem fr_length (k : Int) (l : List Int) : (fr k l).length = l.length + 8 := by simp [fr, sealBody, sealHead, laidL]
theorem fr_octs {k : Int} {l : List Int} (ho : octs l) : octs (fr k l) := by
 refine octs_app (octs_app ?_ ho) (RefSeal.laidL_octs _)
 intro x hx
 simp only [sealHead, List.mem_cons, List.mem_nil_iff, or_false] at hx
 rcases hx with rfl | rfl | rfl | rfl <;> omega
theorem getS_fr {k : Int} {l : List Int} (h0 : 1 ≤ k) (h1 : k ≤ 255) (h : l.length ≤ 65536) (more : List Int) : getS (fr k l ++ more) = (k, l, (l.length : Int) + 8, 0) := by
 have hbl : (sealBody k l).length = l.length + 4 := by simp [sealBody, sealHead]
 have e : fr k l ++ more = sealBody k l ++ (laidL (sumOf (sealBody k l)) ++ more) := by unfold fr; rw [List.append_assoc]
 have r0 : rd (sealBody k l ++ (laidL (sumOf (sealBody k l)) ++ more)) 0 = k % 256 := rfl
 have hn : num3 (sealBody k l ++ (laidL (sumOf (sealBody k l)) ++ more)) = (l.length : Int) := by
  show ((l.length : Int) / 65536 % 256) * 65536 + ((l.length : Int) / 256 % 256) * 256 + (l.length : Int) % 256 = _
  omega
 have hlen : (sealBody k l ++ (laidL (sumOf (sealBody k l)) ++ more)).length = l.length + 8 + more.length := by
  simp [hbl, laidL]
  omega
 have ht : ((l.length : Int) + 4).toNat = (sealBody k l).length := by omega
 rw [e]
 unfold getS
 rw [hn, r0, hlen, if_neg (by omega), if_neg (by omega), if_neg (by omega), if_neg (by omega), ht, List.take_left, List.drop_left, if_pos (by rfl)]
 have hk : k % 256 = k := by omega
 rw [hk]
 rfl
theorem getS_form {l : List Int} (ho : octs l) (h : (getS l).2.2.2 = 0) : ∃ k d rest, l = fr k d ++ rest ∧ 1 ≤ k ∧ k ≤ 255 ∧ d.length ≤ 65536 := by
 have hb := num3_lo ho
 unfold getS at h
 split at h
 ·
  cases h
 ·
  split at h
  ·
   cases h
  ·
   split at h
   ·
    cases h
   ·
    split at h
    ·
     cases h
    ·
     split at h
     ·
      rename_i h1 h2 h3 h4 h5
      have q0 := octs_rd ho 0
      have q1 := octs_rd ho 1
      have q2 := octs_rd ho 2
      have q3 := octs_rd ho 3
      obtain ⟨m, hm⟩ : ∃ m : Nat, num3 l = m := ⟨(num3 l).toNat, by omega⟩
      have ht : (num3 l + 4).toNat = m + 4 := by omega
      rw [ht] at h5
      have hdl : ((l.take (m + 4)).drop 4).length = m := by simp; omega
      have hT : sealBody (rd l 0) ((l.take (m + 4)).drop 4) = l.take (m + 4) := by
       unfold sealBody sealHead
       rw [hdl]
       conv => rhs; rw [← List.take_append_drop 4 (l.take (m + 4))]
       congr 1
       rw [List.take_take, Nat.min_eq_left (by omega), take4_rd l (by omega)]
       unfold num3 at hm
       simp only [List.cons.injEq, and_true]
       refine ⟨by omega, by omega, by omega, by omega⟩
      refine ⟨rd l 0, (l.take (m + 4)).drop 4, l.drop (m + 8), ?_, by omega, by omega, by omega⟩
      unfold fr
      rw [hT, h5]
      have e2 : (l.drop (m + 4)).take 4 ++ l.drop (m + 8) = l.drop (m + 4) := by
       have := List.take_append_drop 4 (l.drop (m + 4))
       rwa [List.drop_drop] at this
      rw [List.append_assoc, e2, List.take_append_drop]
     ·
      cases h
theorem getS_none : (getS []).2.2.2 ≠ 0 := by
 unfold getS
 rw [if_pos (by simp)]
 decide
def isRec (l : List Int) (next : Int) : Prop := (getS l).2.2.2 = 0 ∧ (getS l).1 = 2 ∧ 8 ≤ (getS l).2.1.length ∧ (getS l).2.1.length ≤ 408 ∧ numOf ((getS l).2.1.take 8) = next
instance (l : List Int) (next : Int) : Decidable (isRec l next) := by unfold isRec; infer_instance
def recF (n : Int) (d : List Int) : List Int := fr 2 (oc8 n ++ d)
theorem recF_length (n : Int) (d : List Int) : (recF n d).length = d.length + 16 := by
 unfold recF
 rw [fr_length, List.length_append, oc8_length]
 omega
theorem recF_octs {n : Int} {d : List Int} (ho : octs d) : octs (recF n d) := fr_octs (octs_app (oc8_octs n) ho)
theorem rec_get {n : Int} {d : List Int} (hd : d.length ≤ 400) (T : List Int) : getS (recF n d ++ T) = (2, oc8 n ++ d, (d.length : Int) + 16, 0) := by
 have hl : (oc8 n ++ d).length = d.length + 8 := by rw [List.length_append, oc8_length]; omega
 unfold recF
 rw [getS_fr (by omega) (by omega) (by omega), hl]
 congr 3
theorem rec_is {n : Int} (h0 : 0 ≤ n) (h1 : n < 18446744073709551616) {d : List Int} (hd : d.length ≤ 400) (T : List Int) : isRec (recF n d ++ T) n := by
 have hl : (oc8 n ++ d).length = d.length + 8 := by rw [List.length_append, oc8_length]; omega
 unfold isRec
 rw [rec_get hd T]
 refine ⟨rfl, rfl, by dsimp only; omega, by dsimp only; omega, ?_⟩
 show numOf ((oc8 n ++ d).take 8) = n
 rw [show (oc8 n ++ d).take 8 = oc8 n from by rw [List.take_append_of_le_length (by rw [oc8_length]; omega), List.take_of_length_le (by rw [oc8_length]; omega)]]
 exact numOf_oc8 h0 h1
theorem rec_form {l : List Int} (ho : octs l) {n : Int} (h : isRec l n) : ∃ d T, l = recF n d ++ T ∧ d.length ≤ 400 ∧ octs d ∧ octs T ∧ 0 ≤ n ∧ n < 18446744073709551616 := by
 obtain ⟨h0, h1, h2, h3, h4⟩ := h
 obtain ⟨k, d, rest, hl, k0, k1, k2⟩ := getS_form ho h0
 have hg := getS_fr k0 k1 k2 rest
 rw [← hl] at hg
 rw [hg] at h1 h2 h3 h4
 dsimp only at h1 h2 h3 h4
 subst h1
 have hod : octs d := by
  intro x hx
  refine ho x ?_
  rw [hl]
  refine List.mem_append_left _ ?_
  unfold fr sealBody
  exact List.mem_append_left _ (List.mem_append_right _ hx)
 have hor : octs rest := fun x hx => ho x (by rw [hl]; exact List.mem_append_right _ hx)
 have h8 : (d.take 8).length = 8 := by simp; omega
 have ho8 := octs_take hod 8
 have hbn := numOf_bound (d.take 8) 0 ho8 (Int.le_refl _)
 have e1 : oc8 n = d.take 8 := by rw [← h4]; exact oc8_numOf ho8 h8
 refine ⟨d.drop 8, rest, ?_, by rw [List.length_drop]; omega, octs_drop hod 8, hor, by rw [← h4]; exact hbn.1, ?_⟩
 ·
  unfold recF
  rw [e1, List.take_append_drop]
  exact hl
 ·
  rw [← h4]
  have := hbn.2
  rw [h8] at this
  exact this
def wscanN : Nat → List Int → Int → List (Int × List Int) × Nat
 | 0, _, _ => ([], 0)
 | n + 1, l, next => if isRec l next then ((next, (getS l).2.1.drop 8) :: (wscanN n (l.drop (getS l).2.2.1.toNat) (next + 1)).1, (getS l).2.2.1.toNat + (wscanN n (l.drop (getS l).2.2.1.toNat) (next + 1)).2) else ([], 0)
def wscan (l : List Int) (next : Int) : List (Int × List Int) × Nat := wscanN (l.length + 1) l next
def flatR : Int → List (List Int) → List Int
 | _, [] => []
 | n, d :: ds => recF n d ++ flatR (n + 1) ds
def rowsR : Int → List (List Int) → List (Int × List Int)
 | _, [] => []
 | n, d :: ds => (n, d) :: rowsR (n + 1) ds
theorem rowsR_length : ∀ (n : Int) (ds : List (List Int)), (rowsR n ds).length = ds.length
 | _, [] => rfl
 | n, d :: ds => by simp [rowsR, rowsR_length (n + 1) ds]
theorem rowsR_app : ∀ (n : Int) (a b : List (List Int)), rowsR n (a ++ b) = rowsR n a ++ rowsR (n + a.length) b
 | n, [], b => by simp [rowsR]
 | n, d :: a, b => by
  simp only [List.cons_append, rowsR, rowsR_app (n + 1) a b, List.length_cons]
  rw [show n + 1 + (a.length : Int) = n + ((a.length + 1 : Nat) : Int) from by omega]
theorem flatR_app : ∀ (n : Int) (a b : List (List Int)), flatR n (a ++ b) = flatR n a ++ flatR (n + a.length) b
 | n, [], b => by simp [flatR]
 | n, d :: a, b => by
  simp only [List.cons_append, flatR, flatR_app (n + 1) a b, List.length_cons, List.append_assoc]
  rw [show n + 1 + (a.length : Int) = n + ((a.length + 1 : Nat) : Int) from by omega]
theorem flatR_length : ∀ (n : Int) (ds : List (List Int)), (flatR n ds).length = 16 * ds.length + (ds.map List.length).sum
 | _, [] => rfl
 | n, d :: ds => by
  simp only [flatR, List.length_append, recF_length, flatR_length (n + 1) ds, List.length_cons, List.map_cons, List.sum_cons]
  omega
theorem wscan_flat : ∀ (ds : List (List Int)) (next : Int) (T : List Int) (n : Nat), (∀ d ∈ ds, d.length ≤ 400) → 0 ≤ next → next + ds.length < 18446744073709551616 → ¬ isRec T (next + ds.length) → ds.length < n →
  wscanN n (flatR next ds ++ T) next = (rowsR next ds, (flatR next ds).length)
 | [], next, T, n, hd, h0, h1, hT, hn => by
  obtain ⟨n, rfl⟩ : ∃ m, n = m + 1 := ⟨n - 1, by simp at hn; omega⟩
  rw [show flatR next [] ++ T = T from rfl, wscanN, if_neg (by simpa using hT)]
  rfl
 | d :: ds, next, T, n, hd, h0, h1, hT, hn => by
  obtain ⟨n, rfl⟩ : ∃ m, n = m + 1 := ⟨n - 1, by simp at hn; omega⟩
  have hdl := hd d (by simp)
  simp only [List.length_cons] at h1 hT hn
  have ih := wscan_flat ds (next + 1) T n (fun e he => hd e (by simp [he])) (by omega) (by omega) (by rw [show next + 1 + (ds.length : Int) = next + ((ds.length + 1 : Nat) : Int) from by omega]; exact hT) (by omega)
  have ht : ((d.length : Int) + 16).toNat = (recF next d).length := by rw [recF_length]; omega
  rw [show flatR next (d :: ds) ++ T = recF next d ++ (flatR (next + 1) ds ++ T) from by simp [flatR], wscanN, if_pos (rec_is h0 (by omega) hdl _), rec_get hdl]
  simp only [ht, List.drop_left, ih]
  rw [show (flatR next (d :: ds)).length = (recF next d).length + (flatR (next + 1) ds).length from by rw [flatR, List.length_append]]
  rfl
theorem wscan_form : ∀ (n : Nat) (l : List Int) (next : Int), octs l → l.length < n → 0 ≤ next → next + l.length < 18446744073709551616 →
  ∃ ds T, l = flatR next ds ++ T ∧ (∀ d ∈ ds, d.length ≤ 400 ∧ octs d) ∧ octs T ∧ ¬ isRec T (next + ds.length) ∧ wscanN n l next = (rowsR next ds, (flatR next ds).length)
 | 0, l, next, ho, hn, h0, h1 => by omega
 | n + 1, l, next, ho, hn, h0, h1 => by
  by_cases h : isRec l next
  ·
   obtain ⟨d, T, hl, hdl, hod, hoT, hn0, hn1⟩ := rec_form ho h
   have hlen : l.length = d.length + 16 + T.length := by rw [hl, List.length_append, recF_length]
   obtain ⟨ds, U, hU, hds, hoU, hUr, hw⟩ := wscan_form n T (next + 1) hoT (by omega) (by omega) (by omega)
   refine ⟨d :: ds, U, by rw [hl, hU]; simp [flatR], fun e he => ?_, hoU, ?_, ?_⟩
   ·
    rcases List.mem_cons.1 he with rfl | he
    ·
     exact ⟨hdl, hod⟩
    ·
     exact hds e he
   ·
    rw [show next + (((d :: ds).length : Nat) : Int) = next + 1 + (ds.length : Int) from by simp only [List.length_cons]; omega]
    exact hUr
   ·
    rw [wscanN, if_pos h]
    have hg := rec_get hdl T (n := next)
    rw [← hl] at hg
    have ht : ((d.length : Int) + 16).toNat = (recF next d).length := by rw [recF_length]; omega
    have hdr : l.drop (recF next d).length = T := by rw [hl, List.drop_left]
    rw [hg]
    simp only [ht, hdr, hw]
    rw [show (flatR next (d :: ds)).length = (recF next d).length + (flatR (next + 1) ds).length from by rw [flatR, List.length_append]]
    rfl
  ·
   refine ⟨[], l, rfl, by simp, ho, by simpa using h, ?_⟩
   rw [wscanN, if_neg h]
   rfl
end Go.Proofs.Ytgmkgobapeencaa.WalMath
