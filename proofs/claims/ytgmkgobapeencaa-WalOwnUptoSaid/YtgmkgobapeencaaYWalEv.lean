/- What the print's words and the walks are, as far as this claim names them. -/
import Derived.Test.YtgmkgobapeencaaYWalMath
import Derived.Test.YtgmkgobapeencaaYS1
import Derived.Test.YtgmkgobapeencaaYS7
import Derived.Test.YtgmkgobapeencaaYS8
import Derived.Test.YtgmkgobapeencaaYS9
import Derived.Test.YtgmkgobapeencaaYS14
import Derived.Test.YtgmkgobapeencaaYS15
import Derived.Test.YtgmkgobapeencaaYS17
import Derived.Test.YtgmkgobapeencaaYS18
import Derived.Test.YtgmkgobapeencaaYS19
import Derived.Test.YtgmkgobapeencaaYS20
import Derived.Test.YtgmkgobapeencaaYS22
import Derived.Test.YtgmkgobapeencaaYS24
namespace Go.Proofs.Ytgmkgobapeencaa.WalEv
set_option linter.unusedVariables false
set_option linter.unusedSimpArgs false
open Go.RowKit Go.Proofs.Ytgmkgobapeencaa.S Go.Proofs.YtgmkgobapeencaaW.PrintWords Go.Proofs.YtgmkgobapeencaaW.PrintLast RefSeal RefPut WalMath
theorem wI {i : Int} (h0 : -9223372036854775808 ≤ i) (h1 : i ≤ 9223372036854775807) : wrap64 i = i := by unfold wrap64; omega
theorem step_w {p n : Nat} (h : p + (n + 16) ≤ 1099511627776) : wrap64 ((p : Int) + ((n : Int) + 16)) = ((p + (n + 16) : Nat) : Int) := by rw [wI] <;> omega
theorem u64I {n : Int} (h0 : 0 ≤ n) (h1 : n < 18446744073709551616) : IntKind.u64.wrap n = n := by
 simp [IntKind.wrap, IntKind.bits, IntKind.signed]
 omega
theorem rd_at {l pre rest : List Int} {x : Int} (h : l = pre ++ x :: rest) : rd l (pre.length : Int) = x := by
 unfold rd
 rw [Int.toNat_natCast, h, List.getD_eq_getElem?_getD, List.getElem?_append_right (Nat.le_refl _), Nat.sub_self]
 rfl
theorem rd_L1_at {l pre rest : List (List Int)} {x : List Int} (h : l = pre ++ x :: rest) : rd_L1 l (pre.length : Int) = x := by
 unfold rd_L1
 rw [Int.toNat_natCast, h, List.getD_eq_getElem?_getD, List.getElem?_append_right (Nat.le_refl _), Nat.sub_self]
 rfl
theorem get_is {l : List Int} (h : l.length ≤ 140737488351232) (ho : octs l) : seal_Get.f l = some (getS l) := by
 unfold seal_Get.f
 rw [if_pos ⟨h, ho⟩]
theorem clone_is {l : List Int} (h : l.length < 140737488355328) : bytes_Clone.f l = some l := by
 unfold bytes_Clone.f
 rw [if_pos h]
theorem copied_is {l : List Int} (h : l.length < 140737488355328) : fanlightref04_Copied.f l = some l := by
 unfold fanlightref04_Copied.f
 rw [if_pos (by simpa using h), List.nil_append]
theorem getn_l0 (l : List Int) (ho : octs l) (hl : l.length = 8) : ∀ (rest pre : List Int), l = pre ++ rest → Ev (fun k => wal_get.l0 k (numOf pre) l (l.length : Int) (pre.length : Int)) (numOf l)
 | [], pre, h => by
  refine Ev.step (fun k => rfl) ?_
  have e : l = pre := by simpa using h
  subst e
  simp only [wal_get.l0, if_neg (show ¬ (l.length : Int) < (l.length : Int) by omega)]
  exact Ev.now _
 | x :: rest, pre, h => by
  refine Ev.step (fun k => rfl) ?_
  have hlen : l.length = pre.length + 1 + rest.length := by rw [h]; simp; omega
  have hx := ho x (by rw [h]; simp)
  have hpo : octs pre := fun y hy => ho y (by rw [h]; simp [hy])
  obtain ⟨b0, b1⟩ := numOf_bound pre 0 hpo (Int.le_refl _)
  have hp7 : ((256 : Int) ^ pre.length) ≤ 72057594037927936 := by
   have : ((256 : Nat) ^ pre.length) ≤ 256 ^ 7 := Nat.pow_le_pow_right (by decide) (by omega)
   have e2 : ((256 : Nat) ^ 7) = 72057594037927936 := by decide
   rw [e2] at this
   rw [show ((256 : Int) ^ pre.length) = ((256 ^ pre.length : Nat) : Int) from (Int.natCast_pow 256 _).symm]
   exact Int.ofNat_le.2 this
  have n3 : wrap64 ((pre.length : Int) + 1) = ((pre.length + 1 : Nat) : Int) := by rw [wI] <;> omega
  simp only [wal_get.l0, if_pos (show (pre.length : Int) < (l.length : Int) by omega), if_pos (show (0 : Int) ≤ (pre.length : Int) by omega), rd_at h, n3]
  rw [RefSeal.or_oct64 (numOf pre) x b0 (by rw [Int.zero_add, Int.one_mul] at b1; exact Int.lt_of_lt_of_le b1 hp7) hx.1 hx.2]
  have ih := getn_l0 l ho hl rest (pre ++ [x]) (by rw [h]; simp)
  have e3 : numOf (pre ++ [x]) = numOf pre * 256 + x := by unfold numOf; rw [List.foldl_append]; rfl
  rw [e3, List.length_append] at ih
  exact ih
theorem getn_is {l : List Int} (ho : octs l) (hl : 8 ≤ l.length) : Ev (fun k => wal_get.f k l) (numOf (l.take 8)) := by
 have h8 : (l.take 8).length = 8 := by simp; omega
 have := getn_l0 (l.take 8) (octs_take ho 8) h8 (l.take 8) [] rfl
 unfold wal_get.f
 simp only [if_pos (show 8 ≤ (l.length : Int) by omega), Option.bind_some]
 exact this
theorem put8 (n : Int) : Ev (fun k => wal_put.f k n) (oc8 n) := by
 have gs : ∀ i : Int, 0 ≤ i → i ≤ 7 → wrap64 (8 * (wrap64 (7 - i))) = 8 * (7 - i) := fun i h0 h1 => by rw [wI (i := 7 - i) (by omega) (by omega), wI] <;> omega
 have es : ∀ i : Int, 0 ≤ i → i ≤ 7 → wrap64 (i + 1) = i + 1 := fun i h0 h1 => by rw [wI] <;> omega
 have f0 : shr .i64 n 0 = n := by
  show n / 1 = n
  exact Int.ediv_one _
 have step : ∀ (x : List Int) (i v : Int), 0 ≤ i → i ≤ 7 → x.length = 8 → shr .i64 n (8 * (7 - i)) = v → Ev (fun k => wal_put.l0 k n (x.set i.toNat (v % 256)) 8 (i + 1)) (oc8 n) → Ev (fun k => wal_put.l0 k n x 8 i) (oc8 n) := by
  intro x i v h0 h1 hl hv h
  refine Ev.step (fun k => rfl) ?_
  simp only [wal_put.l0, if_pos (show i < 8 by omega), gs i h0 h1, if_pos (show (0 : Int) ≤ 8 * (7 - i) by omega), if_pos h0, if_pos (show i < (x.length : Int) by omega), es i h0 h1, hv]
  exact h
 unfold wal_put.f
 simp only [if_pos (show (8 : Int) ≤ 281474976710656 by decide), Option.bind_some]
 refine step (List.replicate 8 0) 0 (n / 72057594037927936) (by omega) (by omega) rfl rfl ?_
 refine step _ 1 (n / 281474976710656) (by omega) (by omega) (by simp) rfl ?_
 refine step _ 2 (n / 1099511627776) (by omega) (by omega) (by simp) rfl ?_
 refine step _ 3 (n / 4294967296) (by omega) (by omega) (by simp) rfl ?_
 refine step _ 4 (n / 16777216) (by omega) (by omega) (by simp) rfl ?_
 refine step _ 5 (n / 65536) (by omega) (by omega) (by simp) rfl ?_
 refine step _ 6 (n / 256) (by omega) (by omega) (by simp) rfl ?_
 refine step _ 7 n (by omega) (by omega) (by simp) f0 ?_
 refine Ev.step (fun k => rfl) ?_
 simp only [wal_put.l0, if_neg (show ¬ (7 : Int) + 1 < 8 by decide)]
 exact Ev.now _
def rowP (r : Int × List Int) : S60 := ⟨r.1, r.2⟩
def rowD (r : Int × List Int) : S57 := ⟨r.1, r.2⟩
theorem norec {l : List Int} {next : Int} (h : ¬ isRec l next) (h0 : (getS l).2.2.2 = 0) (h1 : (getS l).1 = 2) (h2 : ¬ ((getS l).2.1.length : Int) < 8) (h3 : ¬ ((getS l).2.1.length : Int) > 408) : ¬ numOf ((getS l).2.1.take 8) = next := fun h4 => h ⟨h0, h1, by omega, by omega, h4⟩
theorem getS_data {l : List Int} (ho : octs l) (h : (getS l).2.2.2 = 0) : octs (getS l).2.1 := by
 obtain ⟨k, d, rest, hl, h0, h1, h2⟩ := getS_form ho h
 have := getS_fr h0 h1 h2 rest
 rw [← hl] at this
 rw [this]
 intro x hx
 refine ho x ?_
 rw [hl]
 refine List.mem_append_left _ ?_
 unfold fr sealBody
 exact List.mem_append_left _ (List.mem_append_right _ hx)
theorem scan_l0 (l : List Int) (ho : octs l) (hl : l.length ≤ 1099511627776) : ∀ (n p : Nat) (acc : List S60) (next : Int), l.length < n + p → p ≤ l.length → 16 * acc.length ≤ p → 0 ≤ next → next ≤ 2199023255552 + p →
  Ev (fun k => wal_Scan.l0 k l next acc (p : Int)) (acc ++ (wscanN n (l.drop p) next).1.map rowP, ((p + (wscanN n (l.drop p) next).2 : Nat) : Int))
 | 0, p, acc, next, h1, h2, h3, h4, h5 => by omega
 | n + 1, p, acc, next, h1, h2, h3, h4, h5 => by
  refine Ev.step (fun k => rfl) ?_
  have hod := octs_drop ho p
  have hld : (l.drop p).length = l.length - p := by simp
  simp only [wal_Scan.l0, if_pos (show (0 : Int) ≤ (p : Int) by omega), if_pos (show (p : Int) ≤ (l.length : Int) by omega), Int.toNat_natCast, get_is (show (l.drop p).length ≤ 140737488351232 by omega) hod, Option.bind_some]
  by_cases h : isRec (l.drop p) next
  ·
   obtain ⟨d, T, hT, hdl, hd, hoT, hn0, hn1⟩ := rec_form hod h
   have hg := rec_get hdl T (n := next)
   rw [← hT] at hg
   have hdr : (l.drop p).length = d.length + 16 + T.length := by rw [hT, List.length_append, recF_length]
   have ht : ((d.length : Int) + 16).toNat = d.length + 16 := by omega
   have hdp : (l.drop p).drop (d.length + 16) = l.drop (p + (d.length + 16)) := by rw [List.drop_drop]
   have hlen : (oc8 next ++ d).length = d.length + 8 := by rw [List.length_append, oc8_length]; omega
   have h8 : (oc8 next ++ d).drop 8 = d := rfl
   have hgn := getn_is (l := oc8 next ++ d) (octs_app (oc8_octs next) hd) (by omega)
   have e8 : numOf ((oc8 next ++ d).take 8) = next := by
    rw [show (oc8 next ++ d).take 8 = oc8 next from by rw [List.take_append_of_le_length (by rw [oc8_length]; omega), List.take_of_length_le (by rw [oc8_length]; omega)]]
    exact numOf_oc8 hn0 hn1
   rw [e8] at hgn
   have ih := scan_l0 l ho hl n (p + (d.length + 16)) (acc ++ [⟨next, d⟩]) (next + 1) (by omega) (by omega) (by simp; omega) (by omega) (by omega)
   have c1 : ¬ ((oc8 next ++ d).length : Int) < 8 := by omega
   have c2 : ¬ ((oc8 next ++ d).length : Int) > 408 := by omega
   have c3 : ¬ next < 0 := by omega
   have c4 : (8 : Int) ≤ ((oc8 next ++ d).length : Int) := by omega
   have c5 : d.length < 140737488355328 := by omega
   have c6 : acc.length < 4398046511104 := by omega
   have c7 : p + (d.length + 16 + (wscanN n (l.drop (p + (d.length + 16))) (next + 1)).2) = p + (d.length + 16) + (wscanN n (l.drop (p + (d.length + 16))) (next + 1)).2 := by omega
   have w1 : wrap64 (next + 1) = next + 1 := wI (by omega) (by omega)
   have w2 : wrap64 ((p : Int) + ((d.length : Int) + 16)) = ((p + (d.length + 16) : Nat) : Int) := step_w (by omega)
   rw [wscanN, if_pos h]
   simp only [hg, if_true, if_neg c1, if_neg c2, if_neg c3]
   refine Ev.bind hgn ?_
   simp only [if_pos (u64I hn0 hn1).symm, if_pos c4, h8, clone_is c5, Option.bind_some, if_pos c6, w1, w2, ht, hdp]
   rw [List.append_assoc] at ih
   rw [List.map_cons, c7]
   exact ih
  ·
   rw [wscanN, if_neg h]
   simp only [List.map_nil, List.append_nil, Nat.add_zero]
   by_cases e0 : (getS (l.drop p)).2.2.2 = 0
   ·
    simp only [if_pos e0]
    by_cases e1 : (getS (l.drop p)).1 = 2
    ·
     simp only [if_pos e1]
     by_cases e2 : ((getS (l.drop p)).2.1.length : Int) < 8
     ·
      simp only [if_pos e2]
      exact Ev.now _
     ·
      simp only [if_neg e2]
      by_cases e3 : ((getS (l.drop p)).2.1.length : Int) > 408
      ·
       simp only [if_pos e3]
       exact Ev.now _
      ·
       simp only [if_neg e3, if_neg (show ¬ next < 0 by omega)]
       refine Ev.bind (getn_is (getS_data hod e0) (by omega)) ?_
       simp only [u64I h4 (show next < 18446744073709551616 by omega), if_neg (norec h e0 e1 e2 e3)]
       exact Ev.now _
    ·
     simp only [if_neg e1]
     exact Ev.now _
   ·
    simp only [if_neg e0]
    exact Ev.now _
theorem scan_is {l : List Int} (ho : octs l) (hl : l.length ≤ 1099511627776) {next : Int} (h0 : 0 ≤ next) (h1 : next ≤ 2199023255552) : Ev (fun k => wal_Scan.f k l next) ((wscan l next).1.map rowP, ((wscan l next).2 : Int)) := by
 have := scan_l0 l ho hl (l.length + 1) 0 [] next (by omega) (by omega) (by simp) h0 (by omega)
 simp only [List.nil_append, Nat.zero_add, List.drop_zero] at this
 exact this
theorem refscan_l0 (l : List Int) (ho : octs l) (hl : l.length ≤ 1099511627776) : ∀ (n p : Nat) (acc : List S57) (next : Int), l.length < n + p → p ≤ l.length → 16 * acc.length ≤ p → 0 ≤ next → next ≤ 2199023255552 + p →
  Ev (fun k => fanlightref06_Scan.l0 k l next acc (p : Int)) (acc ++ (wscanN n (l.drop p) next).1.map rowD, ((p + (wscanN n (l.drop p) next).2 : Nat) : Int))
 | 0, p, acc, next, h1, h2, h3, h4, h5 => by omega
 | n + 1, p, acc, next, h1, h2, h3, h4, h5 => by
  refine Ev.step (fun k => rfl) ?_
  have hod := octs_drop ho p
  have hld : (l.drop p).length = l.length - p := by simp
  simp only [fanlightref06_Scan.l0, if_pos (show (0 : Int) ≤ (p : Int) by omega), if_pos (show (p : Int) ≤ (l.length : Int) by omega), Int.toNat_natCast]
  refine Ev.bind (get_ref hod (by omega)) ?_
  by_cases h : isRec (l.drop p) next
  ·
   obtain ⟨d, T, hT, hdl, hd, hoT, hn0, hn1⟩ := rec_form hod h
   have hg := rec_get hdl T (n := next)
   rw [← hT] at hg
   have hdr : (l.drop p).length = d.length + 16 + T.length := by rw [hT, List.length_append, recF_length]
   have ht : ((d.length : Int) + 16).toNat = d.length + 16 := by omega
   have hdp : (l.drop p).drop (d.length + 16) = l.drop (p + (d.length + 16)) := by rw [List.drop_drop]
   have hlen : (oc8 next ++ d).length = d.length + 8 := by rw [List.length_append, oc8_length]; omega
   have h8 : (oc8 next ++ d).drop 8 = d := rfl
   have t8 : (oc8 next ++ d).take 8 = oc8 next := by rw [List.take_append_of_le_length (by rw [oc8_length]; omega), List.take_of_length_le (by rw [oc8_length]; omega)]
   have hgn := number_is (l := oc8 next) (oc8_octs next) (by rw [oc8_length]; omega)
   rw [numOf_oc8 hn0 hn1] at hgn
   have ih := refscan_l0 l ho hl n (p + (d.length + 16)) (acc ++ [⟨next, d⟩]) (next + 1) (by omega) (by omega) (by simp; omega) (by omega) (by omega)
   have c1 : ¬ ((oc8 next ++ d).length : Int) < 8 := by omega
   have c2 : ¬ ((oc8 next ++ d).length : Int) > 408 := by omega
   have c3 : ¬ next < 0 := by omega
   have c4 : (8 : Int) ≤ ((oc8 next ++ d).length : Int) := by omega
   have c5 : d.length < 140737488355328 := by omega
   have c6 : acc.length < 4398046511104 := by omega
   have c7 : p + (d.length + 16 + (wscanN n (l.drop (p + (d.length + 16))) (next + 1)).2) = p + (d.length + 16) + (wscanN n (l.drop (p + (d.length + 16))) (next + 1)).2 := by omega
   have w1 : wrap64 (next + 1) = next + 1 := wI (by omega) (by omega)
   have w2 : wrap64 ((p : Int) + ((d.length : Int) + 16)) = ((p + (d.length + 16) : Nat) : Int) := step_w (by omega)
   rw [wscanN, if_pos h]
   simp only [hg, if_true, if_neg c1, if_neg c2, if_neg c3, if_pos c4, t8]
   refine Ev.bind hgn ?_
   simp only [if_pos (u64I hn0 hn1).symm, h8, copied_is c5, Option.bind_some, if_pos c6, w1, w2, ht, hdp]
   rw [List.append_assoc] at ih
   rw [List.map_cons, c7]
   exact ih
  ·
   rw [wscanN, if_neg h]
   simp only [List.map_nil, List.append_nil, Nat.add_zero]
   by_cases e0 : (getS (l.drop p)).2.2.2 = 0
   ·
    simp only [if_pos e0]
    by_cases e1 : (getS (l.drop p)).1 = 2
    ·
     simp only [if_pos e1]
     by_cases e2 : ((getS (l.drop p)).2.1.length : Int) < 8
     ·
      simp only [if_pos e2]
      exact Ev.now _
     ·
      simp only [if_neg e2]
      by_cases e3 : ((getS (l.drop p)).2.1.length : Int) > 408
      ·
       simp only [if_pos e3]
       exact Ev.now _
      ·
       simp only [if_neg e3, if_neg (show ¬ next < 0 by omega), if_pos (show (8 : Int) ≤ ((getS (l.drop p)).2.1.length : Int) by omega)]
       refine Ev.bind (number_is (octs_take (getS_data hod e0) 8) (by simp; omega)) ?_
       simp only [u64I h4 (show next < 18446744073709551616 by omega), if_neg (norec h e0 e1 e2 e3)]
       exact Ev.now _
    ·
     simp only [if_neg e1]
     exact Ev.now _
   ·
    simp only [if_neg e0]
    exact Ev.now _
theorem refscan_is {l : List Int} (ho : octs l) (hl : l.length ≤ 1099511627776) {next : Int} (h0 : 0 ≤ next) (h1 : next ≤ 2199023255552) : Ev (fun k => fanlightref06_Scan.f k l next) ((wscan l next).1.map rowD, ((wscan l next).2 : Int)) := by
 have := refscan_l0 l ho hl (l.length + 1) 0 [] next (by omega) (by omega) (by simp) h0 (by omega)
 simp only [List.nil_append, Nat.zero_add, List.drop_zero] at this
 exact this
def firstS (l : List Int) : Int := if (getS l).2.2.2 = 0 then (if (getS l).2.1.length < 8 then 0 else if numOf ((getS l).2.1.take 8) > 1099511627776 then 0 else numOf ((getS l).2.1.take 8)) else 0
theorem firstS_range {l : List Int} (ho : octs l) : 0 ≤ firstS l ∧ firstS l ≤ 1099511627776 := by
 unfold firstS
 split
 ·
  rename_i h
  have := numOf_bound ((getS l).2.1.take 8) 0 (octs_take (getS_data ho h) 8) (Int.le_refl _)
  have h0 : 0 ≤ numOf ((getS l).2.1.take 8) := this.1
  split
  ·
   omega
  ·
   split
   ·
    omega
   ·
    omega
 ·
  omega
theorem first_is {l : List Int} (ho : octs l) (hl : l.length ≤ 140737488351232) : Ev (fun k => wal_first.f k l) (firstS l) := by
 unfold wal_first.f firstS
 simp only [get_is hl ho, Option.bind_some]
 by_cases h : (getS l).2.2.2 = 0
 ·
  simp only [if_pos h]
  by_cases h8 : (getS l).2.1.length < 8
  ·
   simp only [if_pos h8, if_pos (show ((getS l).2.1.length : Int) < 8 by omega)]
   exact Ev.now _
  ·
   simp only [if_neg h8, if_neg (show ¬ ((getS l).2.1.length : Int) < 8 by omega)]
   have hg := getn_is (getS_data ho h) (show 8 ≤ (getS l).2.1.length by omega)
   have hb := numOf_bound ((getS l).2.1.take 8) 0 (octs_take (getS_data ho h) 8) (Int.le_refl _)
   have h0 : 0 ≤ numOf ((getS l).2.1.take 8) := hb.1
   refine Ev.bind hg ?_
   by_cases hm : numOf ((getS l).2.1.take 8) > 1099511627776
   ·
    simp only [if_pos hm]
    exact Ev.now _
   ·
    simp only [if_neg hm]
    refine Ev.bind hg ?_
    rw [wI (by omega) (by omega)]
    exact Ev.now _
 ·
  simp only [if_neg h]
  exact Ev.now _
theorem reffirst_is {l : List Int} (ho : octs l) (hl : l.length ≤ 140737488351232) : Ev (fun k => fanlightref06_first.f k l) (firstS l) := by
 unfold fanlightref06_first.f firstS
 refine Ev.bind (get_ref ho hl) ?_
 by_cases h : (getS l).2.2.2 = 0
 ·
  simp only [if_pos h]
  by_cases h8 : (getS l).2.1.length < 8
  ·
   simp only [if_pos h8, if_pos (show ((getS l).2.1.length : Int) < 8 by omega)]
   exact Ev.now _
  ·
   simp only [if_neg h8, if_neg (show ¬ ((getS l).2.1.length : Int) < 8 by omega), if_pos (show (8 : Int) ≤ ((getS l).2.1.length : Int) by omega)]
   have hg := number_is (octs_take (getS_data ho h) 8) (show ((getS l).2.1.take 8).length ≤ 8 by simp; omega)
   have hb := numOf_bound ((getS l).2.1.take 8) 0 (octs_take (getS_data ho h) 8) (Int.le_refl _)
   have h0 : 0 ≤ numOf ((getS l).2.1.take 8) := hb.1
   refine Ev.bind hg ?_
   by_cases hm : numOf ((getS l).2.1.take 8) > 1099511627776
   ·
    simp only [if_pos hm]
    exact Ev.now _
   ·
    simp only [if_neg hm]
    refine Ev.bind hg ?_
    rw [wI (by omega) (by omega)]
    exact Ev.now _
 ·
  simp only [if_neg h]
  exact Ev.now _
end Go.Proofs.Ytgmkgobapeencaa.WalEv
