/- What the print's words and the walks are, as far as this claim names them. -/
import Derived.Test.YtgmkgobapeencaaYWalMath
import Derived.Test.YtgmkgobapeencaaYS2
import Derived.Test.YtgmkgobapeencaaYS7
import Derived.Test.YtgmkgobapeencaaYS8
import Derived.Test.YtgmkgobapeencaaYS9
import Derived.Test.YtgmkgobapeencaaYS14
import Derived.Test.YtgmkgobapeencaaYS15
import Derived.Test.YtgmkgobapeencaaYS17
import Derived.Test.YtgmkgobapeencaaYS18
import Derived.Test.YtgmkgobapeencaaYS19
import Derived.Test.YtgmkgobapeencaaYS20
import Derived.Test.YtgmkgobapeencaaYS22
import Derived.Test.YtgmkgobapeencaaYS24
import Derived.Test.YtgmkgobapeencaaYS12
set_option linter.unusedVariables false
set_option linter.unusedSimpArgs false
namespace Go.Proofs.Ytgmkgobapeencaa.WalEv
open Go.RowKit Go.Proofs.Ytgmkgobapeencaa.S Go.Proofs.YtgmkgobapeencaaW.PrintWords Go.Proofs.YtgmkgobapeencaaW.PrintLast RefSeal RefPut WalMath
theorem wI {i : Int} (h0 : -9223372036854775808 ≤ i) (h1 : i ≤ 9223372036854775807) : wrap64 i = i := by unfold wrap64; omega
theorem step_w {p n : Nat} (h : p + (n + 16) ≤ 1099511627776) : wrap64 ((p : Int) + ((n : Int) + 16)) = ((p + (n + 16) : Nat) : Int) := by rw [wI] <;> omega
theorem u64I {n : Int} (h0 : 0 ≤ n) (h1 : n < 18446744073709551616) : IntKind.u64.wrap n = n := by
 simp [IntKind.wrap, IntKind.bits, IntKind.signed]
 omega
theorem rd_at {l pre rest : List Int} {x : Int} (h : l = pre ++ x :: rest) : rd l (pre.length : Int) = x := by
 unfold rd
 rw [Int.toNat_natCast, h, List.getD_eq_getElem?_getD, List.getElem?_append_right (Nat.le_refl _), Nat.sub_self]
 rfl
theorem rd_L1_at {l pre rest : List (List Int)} {x : List Int} (h : l = pre ++ x :: rest) : rd_L1 l (pre.length : Int) = x := by
 unfold rd_L1
 rw [Int.toNat_natCast, h, List.getD_eq_getElem?_getD, List.getElem?_append_right (Nat.le_refl _), Nat.sub_self]
 rfl
theorem get_is {l : List Int} (h : l.length ≤ 140737488351232) (ho : octs l) : seal_Get.f l = some (getS l) := by
 unfold seal_Get.f
 rw [if_pos ⟨h, ho⟩]
theorem clone_is {l : List Int} (h : l.length < 140737488355328) : bytes_Clone.f l = some l := by
 unfold bytes_Clone.f
 rw [if_pos h]
theorem getn_l0 (l : List Int) (ho : octs l) (hl : l.length = 8) : ∀ (rest pre : List Int), l = pre ++ rest → Ev (fun k => wal_get.l0 k (numOf pre) l (l.length : Int) (pre.length : Int)) (numOf l)
 | [], pre, h => by
  refine Ev.step (fun k => rfl) ?_
  have e : l = pre := by simpa using h
  subst e
  simp only [wal_get.l0, if_neg (show ¬ (l.length : Int) < (l.length : Int) by omega)]
  exact Ev.now _
 | x :: rest, pre, h => by
  refine Ev.step (fun k => rfl) ?_
  have hlen : l.length = pre.length + 1 + rest.length := by rw [h]; simp; omega
  have hx := ho x (by rw [h]; simp)
  have hpo : octs pre := fun y hy => ho y (by rw [h]; simp [hy])
  obtain ⟨b0, b1⟩ := numOf_bound pre 0 hpo (Int.le_refl _)
  have hp7 : ((256 : Int) ^ pre.length) ≤ 72057594037927936 := by
   have : ((256 : Nat) ^ pre.length) ≤ 256 ^ 7 := Nat.pow_le_pow_right (by decide) (by omega)
   have e2 : ((256 : Nat) ^ 7) = 72057594037927936 := by decide
   rw [e2] at this
   rw [show ((256 : Int) ^ pre.length) = ((256 ^ pre.length : Nat) : Int) from (Int.natCast_pow 256 _).symm]
   exact Int.ofNat_le.2 this
  have n3 : wrap64 ((pre.length : Int) + 1) = ((pre.length + 1 : Nat) : Int) := by rw [wI] <;> omega
  simp only [wal_get.l0, if_pos (show (pre.length : Int) < (l.length : Int) by omega), if_pos (show (0 : Int) ≤ (pre.length : Int) by omega), rd_at h, n3]
  rw [RefSeal.or_oct64 (numOf pre) x b0 (by rw [Int.zero_add, Int.one_mul] at b1; exact Int.lt_of_lt_of_le b1 hp7) hx.1 hx.2]
  have ih := getn_l0 l ho hl rest (pre ++ [x]) (by rw [h]; simp)
  have e3 : numOf (pre ++ [x]) = numOf pre * 256 + x := by unfold numOf; rw [List.foldl_append]; rfl
  rw [e3, List.length_append] at ih
  exact ih
theorem getn_is {l : List Int} (ho : octs l) (hl : 8 ≤ l.length) : Ev (fun k => wal_get.f k l) (numOf (l.take 8)) := by
 have h8 : (l.take 8).length = 8 := by simp; omega
 have := getn_l0 (l.take 8) (octs_take ho 8) h8 (l.take 8) [] rfl
 unfold wal_get.f
 simp only [if_pos (show 8 ≤ (l.length : Int) by omega), Option.bind_some]
 exact this
theorem put8 (n : Int) : Ev (fun k => wal_put.f k n) (oc8 n) := by
 have gs : ∀ i : Int, 0 ≤ i → i ≤ 7 → wrap64 (8 * (wrap64 (7 - i))) = 8 * (7 - i) := fun i h0 h1 => by rw [wI (i := 7 - i) (by omega) (by omega), wI] <;> omega
 have es : ∀ i : Int, 0 ≤ i → i ≤ 7 → wrap64 (i + 1) = i + 1 := fun i h0 h1 => by rw [wI] <;> omega
 have f0 : shr .i64 n 0 = n := by
  show n / 1 = n
  exact Int.ediv_one _
 have step : ∀ (x : List Int) (i v : Int), 0 ≤ i → i ≤ 7 → x.length = 8 → shr .i64 n (8 * (7 - i)) = v → Ev (fun k => wal_put.l0 k n (x.set i.toNat (v % 256)) 8 (i + 1)) (oc8 n) → Ev (fun k => wal_put.l0 k n x 8 i) (oc8 n) := by
  intro x i v h0 h1 hl hv h
  refine Ev.step (fun k => rfl) ?_
  simp only [wal_put.l0, if_pos (show i < 8 by omega), gs i h0 h1, if_pos (show (0 : Int) ≤ 8 * (7 - i) by omega), if_pos h0, if_pos (show i < (x.length : Int) by omega), es i h0 h1, hv]
  exact h
 unfold wal_put.f
 simp only [if_pos (show (8 : Int) ≤ 281474976710656 by decide), Option.bind_some]
 refine step (List.replicate 8 0) 0 (n / 72057594037927936) (by omega) (by omega) rfl rfl ?_
 refine step _ 1 (n / 281474976710656) (by omega) (by omega) (by simp) rfl ?_
 refine step _ 2 (n / 1099511627776) (by omega) (by omega) (by simp) rfl ?_
 refine step _ 3 (n / 4294967296) (by omega) (by omega) (by simp) rfl ?_
 refine step _ 4 (n / 16777216) (by omega) (by omega) (by simp) rfl ?_
 refine step _ 5 (n / 65536) (by omega) (by omega) (by simp) rfl ?_
 refine step _ 6 (n / 256) (by omega) (by omega) (by simp) rfl ?_
 refine step _ 7 n (by omega) (by omega) (by simp) f0 ?_
 refine Ev.step (fun k => rfl) ?_
 simp only [wal_put.l0, if_neg (show ¬ (7 : Int) + 1 < 8 by decide)]
 exact Ev.now _
def rowP (r : Int × List Int) : S60 := ⟨r.1, r.2⟩
def rowD (r : Int × List Int) : S57 := ⟨r.1, r.2⟩
theorem norec {l : List Int} {next : Int} (h : ¬ isRec l next) (h0 : (getS l).2.2.2 = 0) (h1 : (getS l).1 = 2) (h2 : ¬ ((getS l).2.1.length : Int) < 8) (h3 : ¬ ((getS l).2.1.length : Int) > 408) : ¬ numOf ((getS l).2.1.take 8) = next := fun h4 => h ⟨h0, h1, by omega, by omega, h4⟩
theorem getS_data {l : List Int} (ho : octs l) (h : (getS l).2.2.2 = 0) : octs (getS l).2.1 := by
 obtain ⟨k, d, rest, hl, h0, h1, h2⟩ := getS_form ho h
 have := getS_fr h0 h1 h2 rest
 rw [← hl] at this
 rw [this]
 intro x hx
 refine ho x ?_
 rw [hl]
 refine List.mem_append_left _ ?_
 unfold fr sealBody
 exact List.mem_append_left _ (List.mem_append_right _ hx)
theorem scan_l0 (l : List Int) (ho : octs l) (hl : l.length ≤ 1099511627776) : ∀ (n p : Nat) (acc : List S60) (next : Int), l.length < n + p → p ≤ l.length → 16 * acc.length ≤ p → 0 ≤ next → next ≤ 2199023255552 + p →
  Ev (fun k => wal_Scan.l0 k l next acc (p : Int)) (acc ++ (wscanN n (l.drop p) next).1.map rowP, ((p + (wscanN n (l.drop p) next).2 : Nat) : Int))
 | 0, p, acc, next, h1, h2, h3, h4, h5 => by omega
 | n + 1, p, acc, next, h1, h2, h3, h4, h5 => by
  refine Ev.step (fun k => rfl) ?_
  have hod := octs_drop ho p
  have hld : (l.drop p).length = l.length - p := by simp
  simp only [wal_Scan.l0, if_pos (show (0 : Int) ≤ (p : Int) by omega), if_pos (show (p : Int) ≤ (l.length : Int) by omega), Int.toNat_natCast, get_is (show (l.drop p).length ≤ 140737488351232 by omega) hod, Option.bind_some]
  by_cases h : isRec (l.drop p) next
  ·
   obtain ⟨d, T, hT, hdl, hd, hoT, hn0, hn1⟩ := rec_form hod h
   have hg := rec_get hdl T (n := next)
   rw [← hT] at hg
   have hdr : (l.drop p).length = d.length + 16 + T.length := by rw [hT, List.length_append, recF_length]
   have ht : ((d.length : Int) + 16).toNat = d.length + 16 := by omega
   have hdp : (l.drop p).drop (d.length + 16) = l.drop (p + (d.length + 16)) := by rw [List.drop_drop]
   have hlen : (oc8 next ++ d).length = d.length + 8 := by rw [List.length_append, oc8_length]; omega
   have h8 : (oc8 next ++ d).drop 8 = d := rfl
   have hgn := getn_is (l := oc8 next ++ d) (octs_app (oc8_octs next) hd) (by omega)
   have e8 : numOf ((oc8 next ++ d).take 8) = next := by
    rw [show (oc8 next ++ d).take 8 = oc8 next from by rw [List.take_append_of_le_length (by rw [oc8_length]; omega), List.take_of_length_le (by rw [oc8_length]; omega)]]
    exact numOf_oc8 hn0 hn1
   rw [e8] at hgn
   have ih := scan_l0 l ho hl n (p + (d.length + 16)) (acc ++ [⟨next, d⟩]) (next + 1) (by omega) (by omega) (by simp; omega) (by omega) (by omega)
   have c1 : ¬ ((oc8 next ++ d).length : Int) < 8 := by omega
   have c2 : ¬ ((oc8 next ++ d).length : Int) > 408 := by omega
   have c3 : ¬ next < 0 := by omega
   have c4 : (8 : Int) ≤ ((oc8 next ++ d).length : Int) := by omega
   have c5 : d.length < 140737488355328 := by omega
   have c6 : acc.length < 4398046511104 := by omega
   have c7 : p + (d.length + 16 + (wscanN n (l.drop (p + (d.length + 16))) (next + 1)).2) = p + (d.length + 16) + (wscanN n (l.drop (p + (d.length + 16))) (next + 1)).2 := by omega
   have w1 : wrap64 (next + 1) = next + 1 := wI (by omega) (by omega)
   have w2 : wrap64 ((p : Int) + ((d.length : Int) + 16)) = ((p + (d.length + 16) : Nat) : Int) := step_w (by omega)
   rw [wscanN, if_pos h]
   simp only [hg, if_true, if_neg c1, if_neg c2, if_neg c3]
   refine Ev.bind hgn ?_
   simp only [if_pos (u64I hn0 hn1).symm, if_pos c4, h8, clone_is c5, Option.bind_some, if_pos c6, w1, w2, ht, hdp]
   rw [List.append_assoc] at ih
   rw [List.map_cons, c7]
   exact ih
  ·
   rw [wscanN, if_neg h]
   simp only [List.map_nil, List.append_nil, Nat.add_zero]
   by_cases e0 : (getS (l.drop p)).2.2.2 = 0
   ·
    simp only [if_pos e0]
    by_cases e1 : (getS (l.drop p)).1 = 2
    ·
     simp only [if_pos e1]
     by_cases e2 : ((getS (l.drop p)).2.1.length : Int) < 8
     ·
      simp only [if_pos e2]
      exact Ev.now _
     ·
      simp only [if_neg e2]
      by_cases e3 : ((getS (l.drop p)).2.1.length : Int) > 408
      ·
       simp only [if_pos e3]
       exact Ev.now _
      ·
       simp only [if_neg e3, if_neg (show ¬ next < 0 by omega)]
       refine Ev.bind (getn_is (getS_data hod e0) (by omega)) ?_
       simp only [u64I h4 (show next < 18446744073709551616 by omega), if_neg (norec h e0 e1 e2 e3)]
       exact Ev.now _
    ·
     simp only [if_neg e1]
     exact Ev.now _
   ·
    simp only [if_neg e0]
    exact Ev.now _
theorem scan_is {l : List Int} (ho : octs l) (hl : l.length ≤ 1099511627776) {next : Int} (h0 : 0 ≤ next) (h1 : next ≤ 2199023255552) : Ev (fun k => wal_Scan.f k l next) ((wscan l next).1.map rowP, ((wscan l next).2 : Int)) := by
 have := scan_l0 l ho hl (l.length + 1) 0 [] next (by omega) (by omega) (by simp) h0 (by omega)
 simp only [List.nil_append, Nat.zero_add, List.drop_zero] at this
 exact this
def firstS (l : List Int) : Int := if (getS l).2.2.2 = 0 then (if (getS l).2.1.length < 8 then 0 else if numOf ((getS l).2.1.take 8) > 1099511627776 then 0 else numOf ((getS l).2.1.take 8)) else 0
theorem firstS_range {l : List Int} (ho : octs l) : 0 ≤ firstS l ∧ firstS l ≤ 1099511627776 := by
 unfold firstS
 split
 ·
  rename_i h
  have := numOf_bound ((getS l).2.1.take 8) 0 (octs_take (getS_data ho h) 8) (Int.le_refl _)
  have h0 : 0 ≤ numOf ((getS l).2.1.take 8) := this.1
  split
  ·
   omega
  ·
   split
   ·
    omega
   ·
    omega
 ·
  omega
theorem first_is {l : List Int} (ho : octs l) (hl : l.length ≤ 140737488351232) : Ev (fun k => wal_first.f k l) (firstS l) := by
 unfold wal_first.f firstS
 simp only [get_is hl ho, Option.bind_some]
 by_cases h : (getS l).2.2.2 = 0
 ·
  simp only [if_pos h]
  by_cases h8 : (getS l).2.1.length < 8
  ·
   simp only [if_pos h8, if_pos (show ((getS l).2.1.length : Int) < 8 by omega)]
   exact Ev.now _
  ·
   simp only [if_neg h8, if_neg (show ¬ ((getS l).2.1.length : Int) < 8 by omega)]
   have hg := getn_is (getS_data ho h) (show 8 ≤ (getS l).2.1.length by omega)
   have hb := numOf_bound ((getS l).2.1.take 8) 0 (octs_take (getS_data ho h) 8) (Int.le_refl _)
   have h0 : 0 ≤ numOf ((getS l).2.1.take 8) := hb.1
   refine Ev.bind hg ?_
   by_cases hm : numOf ((getS l).2.1.take 8) > 1099511627776
   ·
    simp only [if_pos hm]
    exact Ev.now _
   ·
    simp only [if_neg hm]
    refine Ev.bind hg ?_
    rw [wI (by omega) (by omega)]
    exact Ev.now _
 ·
  simp only [if_neg h]
  exact Ev.now _
end Go.Proofs.Ytgmkgobapeencaa.WalEv
namespace Go.Proofs.Ytgmkgobapeencaa.WalLog
open Go.RowKit Go.Proofs.Ytgmkgobapeencaa.S Go.Proofs.YtgmkgobapeencaaW.PrintWords Go.Proofs.YtgmkgobapeencaaW.PrintLast RefSeal RefPut WalMath WalEv
def segBad (s : List Int) (due : Int) : Prop := due = 0 ∨ (wscan s due).2 = 0 ∨ (wscan s due).2 ≠ s.length ∨ 480 < s.length
instance (s : List Int) (due : Int) : Decidable (segBad s due) := by unfold segBad; infer_instance
def walkS : List (List Int) → Int → Option (List (Int × List Int) × Int)
 | [], due => some ([], due)
 | s :: ss, due => if segBad s due then none else (walkS ss (due + ((wscan s due).1.length : Int))).map fun r => ((wscan s due).1 ++ r.1, r.2)
def dueS (segs : List (List Int)) (next : Int) : Int := match segs with
 | [] => next
 | s :: _ => firstS s
def logS (segs : List (List Int)) (next : Int) : Option (List (Int × List Int)) :=
 if next < 1 ∨ 1099511627776 < next ∨ 64 < segs.length then none
 else match walkS segs (dueS segs next) with
  | none => none
  | some (rs, d) => if d = next then some rs else none
def Okt (segs : List (List Int)) : Prop := ∀ s ∈ segs, octs s ∧ s.length ≤ 1099511627776
theorem scan_few {s : List Int} (ho : octs s) (hl : s.length ≤ 1099511627776) {due : Int} (h0 : 0 ≤ due) (h1 : due ≤ 2199023255552) (h480 : s.length ≤ 480) : (wscan s due).1.length ≤ 30 := by
 obtain ⟨ds, T, hs, hds, hoT, hr, hw⟩ := wscan_form (s.length + 1) s due ho (by omega) h0 (by omega)
 unfold wscan
 rw [hw]
 dsimp only
 rw [rowsR_length]
 have := congrArg List.length hs
 rw [List.length_append, flatR_length] at this
 omega
theorem walk_l0 (segs : List (List Int)) (hok : Okt segs) (h64 : segs.length ≤ 64) (next : Int) : ∀ (rest pre : List (List Int)) (acc : List S60) (due : Int), segs = pre ++ rest → acc.length ≤ 30 * pre.length → 0 ≤ due → due ≤ 1099511627776 + 30 * pre.length →
  Ev (fun k => wal_Log_walk.l0 k acc due segs (segs.length : Int) (pre.length : Int) segs next) (match walkS rest due with | none => ([], false) | some (rs, d) => (acc ++ rs.map rowP, d == next))
 | [], pre, acc, due, h, ha, h0, h1 => by
  refine Ev.step (fun k => rfl) ?_
  have e : segs = pre := by simpa using h
  simp only [wal_Log_walk.l0, if_neg (show ¬ (pre.length : Int) < (segs.length : Int) by rw [e]; omega), walkS, List.map_nil, List.append_nil]
  exact Ev.now _
 | s :: ss, pre, acc, due, h, ha, h0, h1 => by
  refine Ev.step (fun k => rfl) ?_
  have hlen : segs.length = pre.length + 1 + ss.length := by rw [h]; simp; omega
  obtain ⟨hos, hls⟩ := hok s (by rw [h]; simp)
  have hp : pre.length ≤ 63 := by omega
  simp only [wal_Log_walk.l0, if_pos (show (pre.length : Int) < (segs.length : Int) by omega), if_pos (show (0 : Int) ≤ (pre.length : Int) by omega), rd_L1_at h]
  refine Ev.bind (scan_is hos hls h0 (by omega)) ?_
  by_cases hd : due = 0
  ·
   simp only [if_pos hd, walkS, if_pos (show segBad s due from .inl hd)]
   exact Ev.now _
  ·
   simp only [if_neg hd]
   by_cases hz : (wscan s due).2 = 0
   ·
    simp only [if_pos (show ((wscan s due).2 : Int) = 0 by omega), walkS, if_pos (show segBad s due from .inr (.inl hz))]
    exact Ev.now _
   ·
    simp only [if_neg (show ¬ ((wscan s due).2 : Int) = 0 by omega)]
    by_cases hw : (wscan s due).2 = s.length
    ·
     simp only [if_pos (show ((wscan s due).2 : Int) = (s.length : Int) by omega)]
     by_cases h4 : 480 < s.length
     ·
      simp only [if_pos (show ((wscan s due).2 : Int) > 480 by omega), walkS, if_pos (show segBad s due from .inr (.inr (.inr h4)))]
      exact Ev.now _
     ·
      have hbad : ¬ segBad s due := by
       rintro (h | h | h | h)
       ·
        exact hd h
       ·
        exact hz h
       ·
        exact h hw
       ·
        exact h4 h
      have hfew := scan_few hos hls h0 (by omega) (show s.length ≤ 480 by omega)
      have ih := walk_l0 segs hok h64 next ss (pre ++ [s]) (acc ++ (wscan s due).1.map rowP) (due + ((wscan s due).1.length : Int)) (by rw [h]; simp) (by simp; omega) (by omega) (by simp; omega)
      have c1 : acc.length + ((wscan s due).1.map rowP).length < 4398046511104 := by rw [List.length_map]; omega
      have w1 : wrap64 (due + (((wscan s due).1.map rowP).length : Int)) = due + ((wscan s due).1.length : Int) := by rw [List.length_map]; exact wI (by omega) (by omega)
      have w2 : wrap64 ((pre.length : Int) + 1) = (((pre ++ [s]).length : Nat) : Int) := by rw [List.length_append]; exact wI (by omega) (by omega)
      simp only [if_neg (show ¬ ((wscan s due).2 : Int) > 480 by omega), if_pos c1, w1, w2]
      have e : (match walkS (s :: ss) due with | none => (([] : List S60), false) | some (rs, d) => (acc ++ rs.map rowP, d == next)) = (match walkS ss (due + ((wscan s due).1.length : Int)) with | none => ([], false) | some (rs, d) => (acc ++ (wscan s due).1.map rowP ++ rs.map rowP, d == next)) := by
       rw [walkS, if_neg hbad]
       cases walkS ss (due + ((wscan s due).1.length : Int)) with
       | none => rfl
       | some r => simp [List.append_assoc]
      rw [e]
      exact ih
    ·
     simp only [if_neg (show ¬ ((wscan s due).2 : Int) = (s.length : Int) by omega), walkS, if_pos (show segBad s due from .inr (.inr (.inl hw)))]
     exact Ev.now _
theorem walk_is {segs : List (List Int)} (hok : Okt segs) (next : Int) : ∃ out b, Ev (fun k => wal_Log_walk.f k segs next) (out, b) ∧ (b = true ↔ (logS segs next).isSome = true) ∧ ∀ rs, logS segs next = some rs → out = rs.map rowP := by
 by_cases hbad : next < 1 ∨ 1099511627776 < next ∨ 64 < segs.length
 ·
  refine ⟨[], false, ?_, by unfold logS; rw [if_pos hbad]; simp, by unfold logS; rw [if_pos hbad]; intro rs h; cases h⟩
  have fin : Ev (fun k => wal_Log_walk.j0 k ([] : List S60) true segs next) ([], false) := by
   refine Ev.step (fun k => rfl) ?_
   simp only [wal_Log_walk.j0, if_true]
   exact Ev.now _
  unfold wal_Log_walk.f
  by_cases h1 : next < 1
  ·
   simp only [if_pos h1]
   exact fin
  ·
   simp only [if_neg h1]
   by_cases h2 : next > 1099511627776
   ·
    simp only [if_pos h2]
    exact fin
   ·
    simp only [if_neg h2, decide_eq_true (show (segs.length : Int) > 64 by omega)]
    exact fin
 ·
  have hgood : ∀ due : Int, 0 ≤ due → due ≤ 1099511627776 → Ev (fun k => wal_Log_walk.j1 k ([] : List S60) due segs next) (match walkS segs due with | none => ([], false) | some (rs, d) => ([] ++ rs.map rowP, d == next)) := by
   intro due h0 h1
   refine Ev.step (fun k => rfl) ?_
   simp only [wal_Log_walk.j1]
   exact walk_l0 segs hok (by omega) next segs [] [] due rfl (by simp) h0 (by simp; omega)
  have hdue : Ev (fun k => wal_Log_walk.j0 k ([] : List S60) false segs next) (match walkS segs (dueS segs next) with | none => ([], false) | some (rs, d) => ([] ++ rs.map rowP, d == next)) := by
   refine Ev.step (fun k => rfl) ?_
   cases segs with
   | nil =>
    simp only [wal_Log_walk.j0, Bool.false_eq_true, if_false, List.length_nil, if_neg (show ¬ (((0 : Nat) : Int) > 0) by omega)]
    exact hgood next (by omega) (by omega)
   | cons s ss =>
    obtain ⟨hos, hls⟩ := hok s (by simp)
    have hr := firstS_range hos
    simp only [wal_Log_walk.j0, Bool.false_eq_true, if_false, if_pos (show (((s :: ss).length : Nat) : Int) > 0 by rw [List.length_cons]; omega), if_pos (show (0 : Int) < (((s :: ss).length : Nat) : Int) by rw [List.length_cons]; omega)]
    have h0 : rd_L1 (s :: ss) 0 = s := rfl
    rw [h0]
    refine Ev.bind (first_is hos (by omega)) ?_
    exact hgood (firstS s) hr.1 hr.2
  have hf : Ev (fun k => wal_Log_walk.f k segs next) (match walkS segs (dueS segs next) with | none => ([], false) | some (rs, d) => ([] ++ rs.map rowP, d == next)) := by
   unfold wal_Log_walk.f
   simp only [if_neg (show ¬ next < 1 by omega), if_neg (show ¬ next > 1099511627776 by omega), decide_eq_false (show ¬ (segs.length : Int) > 64 by omega)]
   exact hdue
  cases hw : walkS segs (dueS segs next) with
  | none =>
   rw [hw] at hf
   exact ⟨_, _, hf, by unfold logS; rw [if_neg hbad, hw]; simp, by unfold logS; rw [if_neg hbad, hw]; intro rs h; cases h⟩
  | some r =>
   obtain ⟨rs, d⟩ := r
   rw [hw] at hf
   refine ⟨_, _, hf, ?_, ?_⟩
   ·
    unfold logS
    rw [if_neg hbad, hw]
    dsimp only
    by_cases hd : d = next
    ·
     simp [hd]
    ·
     simp [hd]
   ·
    unfold logS
    rw [if_neg hbad, hw]
    dsimp only
    intro rs' h
    by_cases hd : d = next
    ·
     rw [if_pos hd] at h
     injection h with h
     rw [← h, List.nil_append]
    ·
     rw [if_neg hd] at h
     cases h
theorem check_ok {segs : List (List Int)} (hok : Okt segs) {next : Int} {rs : List (Int × List Int)} (h : logS segs next = some rs) : Ev (fun k => wal_Check.f k segs next) 0 := by
 obtain ⟨out, b, hw, hb, _⟩ := walk_is hok next
 have : b = true := hb.2 (by rw [h]; rfl)
 subst this
 unfold wal_Check.f
 refine Ev.bind hw ?_
 simp only [if_true]
 exact Ev.now _
theorem check_bad {segs : List (List Int)} (hok : Okt segs) {next : Int} (h : logS segs next = none) : Ev (fun k => wal_Check.f k segs next) 9 := by
 obtain ⟨out, b, hw, hb, _⟩ := walk_is hok next
 have : b = false := by
  cases b with
  | false => rfl
  | true => have := hb.1 rfl; rw [h] at this; cases this
 subst this
 unfold wal_Check.f
 refine Ev.bind hw ?_
 simp only [Bool.false_eq_true, if_false]
 exact Ev.now _
theorem records_ok {segs : List (List Int)} (hok : Okt segs) {next : Int} {rs : List (Int × List Int)} (h : logS segs next = some rs) : Ev (fun k => wal_Records.f k segs next) (rs.map rowP, 0) := by
 obtain ⟨out, b, hw, hb, ho⟩ := walk_is hok next
 have : b = true := hb.2 (by rw [h]; rfl)
 subst this
 rw [ho rs h] at hw
 unfold wal_Records.f
 refine Ev.bind hw ?_
 simp only [if_true]
 exact Ev.now _
theorem walk_app : ∀ (a b : List (List Int)) (due : Int), walkS (a ++ b) due = (walkS a due).bind fun r => (walkS b r.2).map fun q => (r.1 ++ q.1, q.2)
 | [], b, due => by
  simp only [List.nil_append, walkS, Option.bind_some]
  cases walkS b due with
  | none => rfl
  | some q => rfl
 | s :: a, b, due => by
  simp only [List.cons_append, walkS]
  by_cases h : segBad s due
  ·
   rw [if_pos h, if_pos h]
   rfl
  ·
   rw [if_neg h, if_neg h, walk_app a b]
   cases walkS a (due + ((wscan s due).1.length : Int)) with
   | none => rfl
   | some r =>
    simp only [Option.bind_some, Option.map_some]
    cases walkS b r.2 with
    | none => rfl
    | some q => simp [List.append_assoc]
theorem seg_form {s : List Int} (ho : octs s) {due : Int} (h0 : 0 ≤ due) (h1 : due ≤ 2199023255552) (h : ¬ segBad s due) :
  ∃ ds, s = flatR due ds ∧ ds ≠ [] ∧ (∀ d ∈ ds, d.length ≤ 400 ∧ octs d) ∧ due ≠ 0 ∧ s.length ≤ 480 ∧ wscan s due = (rowsR due ds, s.length) := by
 have hl : s.length ≤ 480 := Nat.le_of_not_lt fun h4 => h (.inr (.inr (.inr h4)))
 obtain ⟨ds, T, hs, hds, hoT, hr, hw⟩ := wscan_form (s.length + 1) s due ho (by omega) h0 (by omega)
 have hw2 : (wscan s due).2 = s.length := Decidable.byContradiction fun h4 => h (.inr (.inr (.inl h4)))
 have hw3 : wscan s due = (rowsR due ds, (flatR due ds).length) := hw
 have hT : T = [] := by
  have := congrArg List.length hs
  rw [List.length_append] at this
  rw [hw3] at hw2
  dsimp only at hw2
  exact List.eq_nil_of_length_eq_zero (by omega)
 subst hT
 rw [List.append_nil] at hs
 refine ⟨ds, hs, ?_, hds, fun e => h (.inl e), hl, by rw [hw3, ← hs]⟩
 rintro rfl
 refine h (.inr (.inl ?_))
 rw [hw3]
 rfl
theorem seg_good {due : Int} {ds : List (List Int)} (h0 : 1 ≤ due) (h1 : due + ds.length < 18446744073709551616) (hne : ds ≠ []) (hd : ∀ d ∈ ds, d.length ≤ 400) (hl : (flatR due ds).length ≤ 480) :
  ¬ segBad (flatR due ds) due ∧ wscan (flatR due ds) due = (rowsR due ds, (flatR due ds).length) := by
 have hfl := flatR_length due ds
 have hw : wscan (flatR due ds) due = (rowsR due ds, (flatR due ds).length) := by
  have := wscan_flat ds due [] ((flatR due ds).length + 1) hd (by omega) h1 (fun h => getS_none h.1) (by omega)
  rw [List.append_nil] at this
  exact this
 refine ⟨?_, hw⟩
 have hp : 0 < ds.length := List.length_pos_iff.2 hne
 rintro (h | h | h | h)
 ·
  omega
 ·
  rw [hw] at h
  dsimp only at h
  omega
 ·
  rw [hw] at h
  exact h rfl
 ·
  omega
theorem firstS_flat {due : Int} {ds : List (List Int)} (h0 : 0 ≤ due) (h1 : due ≤ 1099511627776) (hne : ds ≠ []) (hd : ∀ d ∈ ds, d.length ≤ 400) : firstS (flatR due ds) = due := by
 cases ds with
 | nil => exact absurd rfl hne
 | cons d ds =>
  have hg := rec_get (n := due) (hd d (by simp)) (flatR (due + 1) ds)
  have hr := rec_is h0 (show due < 18446744073709551616 by omega) (hd d (by simp)) (flatR (due + 1) ds)
  unfold firstS
  rw [flatR, if_pos hr.1, if_neg (by have := hr.2.2.1; omega), if_neg (by rw [hr.2.2.2.2]; omega), hr.2.2.2.2]
theorem walk_mono : ∀ (ss : List (List Int)) (due : Int) (rs : List (Int × List Int)) (d : Int), walkS ss due = some (rs, d) → due ≤ d ∧ d = due + rs.length
 | [], due, rs, d, h => by
  injection h with h
  injection h with h1 h2
  subst h1 h2
  simp
 | s :: ss, due, rs, d, h => by
  rw [walkS] at h
  split at h
  ·
   cases h
  ·
   obtain ⟨r, hr, he⟩ := Option.map_eq_some_iff.1 h
   obtain ⟨r1, r2⟩ := r
   injection he with e1 e2
   subst e1 e2
   have := walk_mono ss _ r1 r2 hr
   rw [List.length_append]
   dsimp only
   omega
end Go.Proofs.Ytgmkgobapeencaa.WalLog
namespace Go.Proofs.Ytgmkgobapeencaa.WalMore
open Go.RowKit Go.Proofs.Ytgmkgobapeencaa.S Go.Proofs.YtgmkgobapeencaaW.PrintWords Go.Proofs.YtgmkgobapeencaaW.PrintLast RefSeal RefPut WalMath WalEv WalLog
theorem log_range {segs : List (List Int)} {next : Int} {rs : List (Int × List Int)} (h : logS segs next = some rs) : 1 ≤ next ∧ next ≤ 1099511627776 ∧ segs.length ≤ 64 := by
 unfold logS at h
 split at h
 ·
  cases h
 ·
  omega
theorem log_walk {segs : List (List Int)} {next : Int} {rs : List (Int × List Int)} (h : logS segs next = some rs) : walkS segs (dueS segs next) = some (rs, next) := by
 unfold logS at h
 split at h
 ·
  cases h
 ·
  split at h
  ·
   cases h
  ·
   rename_i hw
   split at h
   ·
    rename_i hd
    injection h with h
    rw [hw, h, hd]
   ·
    cases h
theorem log_of {segs : List (List Int)} {next : Int} {rs : List (Int × List Int)} (h0 : 1 ≤ next) (h1 : next ≤ 1099511627776) (h2 : segs.length ≤ 64) (h : walkS segs (dueS segs next) = some (rs, next)) : logS segs next = some rs := by
 unfold logS
 rw [if_neg (by omega), h]
 dsimp only
 rw [if_pos rfl]
theorem due_range {segs : List (List Int)} (hok : Okt segs) {next : Int} (h0 : 1 ≤ next) (h1 : next ≤ 1099511627776) : 0 ≤ dueS segs next ∧ dueS segs next ≤ 1099511627776 := by
 cases segs with
 | nil => exact ⟨by show 0 ≤ next; omega, h1⟩
 | cons s ss => exact firstS_range (hok s (by simp)).1
theorem walk_due {ss : List (List Int)} (hok : Okt ss) {due next : Int} {rs : List (Int × List Int)} (h0 : 0 ≤ due) (h1 : next ≤ 1099511627776) (h : walkS ss due = some (rs, next)) : dueS ss next = due := by
 cases ss with
 | nil =>
  injection h with h
  injection h with _ h
  exact h.symm
 | cons s ss =>
  have hm := (walk_mono _ _ _ _ h).1
  rw [walkS] at h
  split at h
  ·
   cases h
  ·
   rename_i hb
   obtain ⟨ds, hs, hne, hds, hd0, hl, _⟩ := seg_form (hok s (by simp)).1 h0 (by omega) hb
   show firstS s = due
   rw [hs]
   exact firstS_flat h0 (by omega) hne (fun d hd => (hds d hd).1)
theorem log_head {s : List Int} {ss : List (List Int)} (hok : Okt (s :: ss)) {next : Int} {rs : List (Int × List Int)} (h : logS (s :: ss) next = some rs) :
  ∃ due ds rs', s = flatR due ds ∧ ds ≠ [] ∧ (∀ d ∈ ds, d.length ≤ 400 ∧ octs d) ∧ 1 ≤ due ∧ firstS s = due ∧ s.length ≤ 480 ∧ due + ds.length ≤ next ∧ rs = rowsR due ds ++ rs' ∧ walkS ss (due + ds.length) = some (rs', next) ∧ dueS ss next = due + ds.length ∧ logS ss next = some rs' := by
 obtain ⟨h0, h1, h2⟩ := log_range h
 have hw := log_walk h
 have hr := due_range hok h0 h1
 have hoks : Okt ss := fun t ht => hok t (by simp [ht])
 have hdue : dueS (s :: ss) next = firstS s := rfl
 rw [hdue] at hw hr
 rw [walkS] at hw
 split at hw
 ·
  cases hw
 ·
  rename_i hb
  obtain ⟨ds, hs, hne, hds, hd0, hl, hws⟩ := seg_form (hok s (by simp)).1 hr.1 (by omega) hb
  obtain ⟨r, hr', he⟩ := Option.map_eq_some_iff.1 hw
  obtain ⟨r1, r2⟩ := r
  injection he with e1 e2
  dsimp only at e1 e2
  subst e2
  rw [hws] at hr' e1
  dsimp only at hr' e1
  rw [rowsR_length] at hr'
  have hm := walk_mono _ _ _ _ hr'
  have hd := walk_due hoks (by omega) h1 hr'
  refine ⟨firstS s, ds, r1, hs, hne, hds, by omega, rfl, hl, hm.1, e1.symm, hr', hd, log_of h0 h1 (by simp only [List.length_cons] at h2; omega) (by rw [hd]; exact hr')⟩
theorem log_rows : ∀ (segs : List (List Int)) (next : Int) (rs : List (Int × List Int)), Okt segs → logS segs next = some rs → segs.length ≤ rs.length ∧ ∃ ds, rs = rowsR (next - rs.length) ds ∧ (∀ d ∈ ds, d.length ≤ 400 ∧ octs d)
 | [], next, rs, hok, h => by
  have hw := log_walk h
  injection hw with hw
  injection hw with hw _
  subst hw
  exact ⟨by simp, [], rfl, by simp⟩
 | s :: ss, next, rs, hok, h => by
  obtain ⟨due, ds, rs', hs, hne, hds, hd1, hf, hl, hle, hrs, hw, hd, hlog⟩ := log_head hok h
  obtain ⟨hl', es, hes, hes2⟩ := log_rows ss next rs' (fun t ht => hok t (by simp [ht])) hlog
  have hp : 0 < ds.length := List.length_pos_iff.2 hne
  have hm := (walk_mono _ _ _ _ hw).2
  have hlen : rs.length = ds.length + rs'.length := by rw [hrs, List.length_append, rowsR_length]
  refine ⟨by rw [hlen]; simp only [List.length_cons]; omega, ds ++ es, ?_, fun d hd => ?_⟩
  ·
   rw [rowsR_app, hlen, show next - ((ds.length + rs'.length : Nat) : Int) = due from by omega, show due + (ds.length : Int) = next - rs'.length from by omega, ← hes]
   exact hrs
  ·
   rcases List.mem_append.1 hd with hd | hd
   ·
    exact hds d hd
   ·
    exact hes2 d hd
theorem lclone_is {segs : List (List Int)} (hok : Okt segs) (next : Int) (h : segs.length ≤ 64) : wal_Log_clone.f segs next = some (segs, next) := by
 unfold wal_Log_clone.f
 rw [if_pos ⟨by omega, fun s hs => by have := (hok s hs).2; omega⟩]
def appA (segs : List (List Int)) (next : Int) (data : List Int) : List (List Int) × Int × Int × Int :=
 if (logS segs next).isSome then
  if 400 < data.length then ([], 0, 0, 5)
  else if next = 1099511627776 then ([], 0, 0, 51)
  else if segs = [] ∨ 480 < (segs.getD (segs.length - 1) []).length + 16 + data.length then
   if segs.length = 64 then ([], 0, 0, 51) else (segs ++ [recF next data], next + 1, (segs.length : Int), 0)
  else (segs.set (segs.length - 1) (segs.getD (segs.length - 1) [] ++ recF next data), next + 1, (segs.length : Int) - 1, 0)
 else ([], 0, 0, 9)
theorem put_rec (n : Int) {d : List Int} (hd : d.length ≤ 400) : seal_Put.f 2 (oc8 n ++ d) = some (recF n d, 0) := by
 have hl : (oc8 n ++ d).length = d.length + 8 := by rw [List.length_append, oc8_length]; omega
 unfold seal_Put.f
 rw [if_neg (by omega), if_neg (by omega)]
 rfl
theorem cat_rec (n : Int) {d : List Int} (hd : d.length ≤ 400) : slices_Concat_byte_byte.f [oc8 n, d] = some (oc8 n ++ d) := by
 have hl : ([oc8 n, d] : List (List Int)).flatten = oc8 n ++ d := by simp
 unfold slices_Concat_byte_byte.f
 rw [hl, if_pos ⟨by simp, by rw [List.length_append, oc8_length]; omega⟩]
theorem set_snoc (segs : List (List Int)) (x : List Int) : (segs ++ [[]]).set segs.length x = segs ++ [x] := by
 rw [List.set_append_right _ _ (Nat.le_refl _), Nat.sub_self]
 rfl
theorem rd_snoc (segs : List (List Int)) (x : List Int) : rd_L1 (segs ++ [x]) (segs.length : Int) = x := rd_L1_at (rest := []) rfl
theorem app_j0_new (segs : List (List Int)) (next : Int) (data : List Int) (h64 : segs.length ≤ 64) (hd : data.length ≤ 400) (hn0 : 1 ≤ next) (hn1 : next < 1099511627776) (j : Int) (hj : j = (segs.length : Int) - 1) :
  Ev (fun k => wal_Append.j0 k data j true segs next) (if segs.length = 64 then ([], 0, 0, 51) else (segs ++ [recF next data], next + 1, (segs.length : Int), 0)) := by
 refine Ev.step (fun k => rfl) ?_
 have w1 : wrap64 (j + 1) = (segs.length : Int) := by rw [hj]; exact (wI (by omega) (by omega)).trans (by omega)
 by_cases h : segs.length = 64
 ·
  have h' : (segs.length : Int) = 64 := by omega
  simp only [wal_Append.j0, if_true, w1, if_pos h', if_pos h]
  exact Ev.now _
 ·
  have h' : ¬ (segs.length : Int) = 64 := by omega
  have c1 : segs.length < 5864062014805 := by omega
  have c2 : (0 : Int) ≤ (segs.length : Int) := by omega
  have c3 : (segs.length : Int) < (((segs ++ [[]] : List (List Int)).length : Nat) : Int) := by simp; omega
  have c4 : ([] : List Int).length + (recF next data).length < 140737488355328 := by rw [recF_length]; simp; omega
  have w2 : wrap64 (next + 1) = next + 1 := wI (by omega) (by omega)
  simp only [wal_Append.j0, if_true, w1, if_neg h', if_neg h, if_pos c1, Option.bind_some]
  refine Ev.bind (put8 next) ?_
  simp only [cat_rec next hd, put_rec next hd, Option.bind_some, if_pos c2, if_pos c3, rd_snoc, if_pos c4, List.nil_append, Int.toNat_natCast, set_snoc, w2]
  exact Ev.now _
theorem app_j0_old (segs : List (List Int)) (next : Int) (data : List Int) (h64 : segs.length ≤ 64) (hne : segs ≠ []) (hl : (segs.getD (segs.length - 1) []).length ≤ 480) (hd : data.length ≤ 400) (hn0 : 1 ≤ next) (hn1 : next < 1099511627776) (j : Int) (hj : j = (segs.length : Int) - 1) :
  Ev (fun k => wal_Append.j0 k data j false segs next) (segs.set (segs.length - 1) (segs.getD (segs.length - 1) [] ++ recF next data), next + 1, (segs.length : Int) - 1, 0) := by
 refine Ev.step (fun k => rfl) ?_
 have hp : 0 < segs.length := List.length_pos_iff.2 hne
 have c2 : (0 : Int) ≤ j := by omega
 have c3 : j < (segs.length : Int) := by omega
 have hjn : j.toNat = segs.length - 1 := by omega
 have hrd : rd_L1 segs j = segs.getD (segs.length - 1) [] := by unfold rd_L1; rw [hjn]
 have c4 : (segs.getD (segs.length - 1) []).length + (recF next data).length < 140737488355328 := by rw [recF_length]; omega
 have w2 : wrap64 (next + 1) = next + 1 := wI (by omega) (by omega)
 simp only [wal_Append.j0, Bool.false_eq_true, if_false]
 refine Ev.bind (put8 next) ?_
 simp only [cat_rec next hd, put_rec next hd, Option.bind_some, if_pos c2, if_pos c3, hrd, if_pos c4, hjn, w2]
 rw [← hj]
 exact Ev.now _
theorem last_len {segs : List (List Int)} (hok : Okt segs) {next : Int} {rs : List (Int × List Int)} (h : logS segs next = some rs) : (segs.getD (segs.length - 1) []).length ≤ 480 := by
 have all : ∀ (ss : List (List Int)) (due : Int) (r : List (Int × List Int) × Int), walkS ss due = some r → ∀ s ∈ ss, s.length ≤ 480 := by
  intro ss
  induction ss with
  | nil => intro due r _ s hs; simp at hs
  | cons t ts ih =>
   intro due r hw s hs
   rw [walkS] at hw
   split at hw
   ·
    cases hw
   ·
    rename_i hb
    rcases List.mem_cons.1 hs with rfl | hs
    ·
     exact Nat.le_of_not_lt fun h4 => hb (.inr (.inr (.inr h4)))
    ·
     obtain ⟨q, hq, _⟩ := Option.map_eq_some_iff.1 hw
     exact ih _ q hq s hs
 cases hs : segs with
 | nil => simp
 | cons s ss =>
  rw [← hs]
  have hp : 0 < segs.length := by rw [hs]; simp
  refine all segs _ _ (log_walk h) _ ?_
  rw [List.getD_eq_getElem?_getD, List.getElem?_eq_getElem (by omega)]
  exact List.getElem_mem _
theorem app_is {segs : List (List Int)} (hok : Okt segs) (next : Int) (data : List Int) : Ev (fun k => wal_Append.f k segs next data) (appA segs next data) := by
 unfold wal_Append.f appA
 cases h : logS segs next with
 | none =>
  refine Ev.bind (check_bad hok h) ?_
  simp only [if_neg (show ¬ (9 : Int) = 0 by decide)]
  exact Ev.now _
 | some rs =>
  obtain ⟨h0, h1, h2⟩ := log_range h
  have hlast := last_len hok h
  refine Ev.bind (check_ok hok h) ?_
  simp only [if_true, Option.isSome_some]
  by_cases hd : 400 < data.length
  ·
   simp only [if_pos hd, if_pos (show (data.length : Int) > 400 by omega)]
   exact Ev.now _
  ·
   simp only [if_neg hd, if_neg (show ¬ (data.length : Int) > 400 by omega)]
   by_cases hn : next = 1099511627776
   ·
    simp only [if_pos hn]
    exact Ev.now _
   ·
    simp only [if_neg hn, lclone_is hok next h2, Option.bind_some]
    have w1 : wrap64 ((segs.length : Int) - 1) = (segs.length : Int) - 1 := wI (by omega) (by omega)
    rw [w1]
    by_cases he : segs = []
    ·
     subst he
     simp only [List.length_nil, if_pos (show (((0 : Nat) : Int) - 1) < 0 by omega)]
     have := app_j0_new [] next data (by simp) (by omega) h0 (by omega) (((0 : Nat) : Int) - 1) rfl
     simpa using this
    ·
     have hp : 0 < segs.length := List.length_pos_iff.2 he
     have hjn : ((segs.length : Int) - 1).toNat = segs.length - 1 := by omega
     have hrd : rd_L1 segs ((segs.length : Int) - 1) = segs.getD (segs.length - 1) [] := by unfold rd_L1; rw [hjn]
     have w2 : wrap64 ((wrap64 (((segs.getD (segs.length - 1) []).length : Int) + 16)) + (data.length : Int)) = ((segs.getD (segs.length - 1) []).length : Int) + 16 + (data.length : Int) := by
      rw [wI (i := ((segs.getD (segs.length - 1) []).length : Int) + 16) (by omega) (by omega)]
      exact wI (by omega) (by omega)
     simp only [if_neg (show ¬ ((segs.length : Int) - 1) < 0 by omega), if_pos (show (0 : Int) ≤ (segs.length : Int) - 1 by omega), if_pos (show (segs.length : Int) - 1 < (segs.length : Int) by omega), hrd, w2]
     by_cases hb : 480 < (segs.getD (segs.length - 1) []).length + 16 + data.length
     ·
      simp only [if_pos (show segs = [] ∨ 480 < (segs.getD (segs.length - 1) []).length + 16 + data.length from .inr hb)]
      rw [decide_eq_true (show ((segs.getD (segs.length - 1) []).length : Int) + 16 + (data.length : Int) > 480 by omega)]
      exact app_j0_new segs next data h2 (by omega) h0 (by omega) _ rfl
     ·
      have hno : ¬ (segs = [] ∨ 480 < (segs.getD (segs.length - 1) []).length + 16 + data.length) := by rintro (h | h); exact he h; exact hb h
      simp only [if_neg hno]
      rw [decide_eq_false (show ¬ ((segs.getD (segs.length - 1) []).length : Int) + 16 + (data.length : Int) > 480 by omega)]
      exact app_j0_old segs next data h2 he hlast (by omega) h0 (by omega) _ rfl
theorem app_ok {segs : List (List Int)} (hok : Okt segs) (next : Int) {data : List Int} (ho : octs data) (hl : data.length ≤ 1048576) : Okt (appA segs next data).1 := by
 have hn : Okt [] := fun s hs => by simp at hs
 unfold appA
 split
 ·
  rename_i hs
  obtain ⟨rs, h⟩ := Option.isSome_iff_exists.1 hs
  have hlast := last_len hok h
  split
  ·
   exact hn
  ·
   split
   ·
    exact hn
   ·
    split
    ·
     split
     ·
      exact hn
     ·
      intro s hs
      rcases List.mem_append.1 hs with hs | hs
      ·
       exact hok s hs
      ·
       rw [List.mem_singleton.1 hs]
       exact ⟨recF_octs ho, by rw [recF_length]; omega⟩
    ·
     rename_i hb
     intro s hs
     have hp : 0 < segs.length := List.length_pos_iff.2 fun e => hb (.inl e)
     rcases List.mem_or_eq_of_mem_set hs with hs | rfl
     ·
      exact hok s hs
     ·
      have hm : segs.getD (segs.length - 1) [] ∈ segs := by
       rw [List.getD_eq_getElem?_getD, List.getElem?_eq_getElem (by omega)]
       exact List.getElem_mem _
      exact ⟨octs_app (hok _ hm).1 (recF_octs ho), by rw [List.length_append, recF_length]; omega⟩
 ·
  exact hn
theorem app_log {segs : List (List Int)} (hok : Okt segs) {next : Int} {rs : List (Int × List Int)} (h : logS segs next = some rs) {data : List Int} (ho : octs data) (hd : data.length ≤ 400) (hn : next < 1099511627776) (h64 : segs.length < 64) :
  (appA segs next data).2.2.2 = 0 ∧ (appA segs next data).2.1 = next + 1 ∧ logS (appA segs next data).1 (next + 1) = some (rs ++ [(next, data)]) ∧ (appA segs next data).1.length ≤ segs.length + 1 := by
 obtain ⟨h0, h1, h2⟩ := log_range h
 have hw := log_walk h
 have hdr := due_range hok h0 h1
 unfold appA
 rw [h, Option.isSome_some, if_pos rfl, if_neg (by omega), if_neg (by omega)]
 have hnew : ¬ segBad (recF next data) next ∧ wscan (recF next data) next = ([(next, data)], (recF next data).length) := by
  have := seg_good (due := next) (ds := [data]) h0 (by simp; omega) (by simp) (by simpa using hd) (by simp [flatR, recF_length]; omega)
  simpa [flatR, rowsR] using this
 have hfst : firstS (recF next data) = next := by
  have := firstS_flat (due := next) (ds := [data]) (by omega) h1 (by simp) (by simpa using hd)
  simpa [flatR] using this
 by_cases hb : segs = [] ∨ 480 < (segs.getD (segs.length - 1) []).length + 16 + data.length
 ·
  rw [if_pos hb, if_neg (by omega)]
  refine ⟨rfl, rfl, log_of (by omega) (by omega) (by simp; omega) ?_, by simp⟩
  have hdue : dueS (segs ++ [recF next data]) (next + 1) = dueS segs next := by
   cases segs with
   | nil => exact hfst
   | cons s ss => rfl
  rw [hdue, walk_app, hw]
  simp only [Option.bind_some, walkS, if_neg hnew.1, hnew.2, Option.map_some, List.length_cons, List.length_nil, List.append_nil]
  rfl
 ·
  rw [if_neg hb]
  have hne : segs ≠ [] := fun e => hb (.inl e)
  have hp : 0 < segs.length := List.length_pos_iff.2 hne
  obtain ⟨a, s, rfl⟩ : ∃ a s, segs = a ++ [s] := ⟨segs.dropLast, segs.getLast hne, (List.dropLast_concat_getLast hne).symm⟩
  have hgl : (a ++ [s]).length - 1 = a.length := by simp
  have hget : (a ++ [s]).getD a.length [] = s := by
   rw [List.getD_eq_getElem?_getD, List.getElem?_append_right (Nat.le_refl _), Nat.sub_self]
   rfl
  rw [hgl, hget] at hb ⊢
  have hset : (a ++ [s]).set a.length (s ++ recF next data) = a ++ [s ++ recF next data] := by
   rw [List.set_append_right _ _ (Nat.le_refl _), Nat.sub_self]
   rfl
  rw [hset]
  refine ⟨rfl, rfl, log_of (by omega) (by omega) (by simp at h2 ⊢; omega) ?_, by simp⟩
  rw [walk_app] at hw
  obtain ⟨q, hq, hw2⟩ := Option.bind_eq_some_iff.1 hw
  obtain ⟨q1, q2⟩ := q
  dsimp only at hw2
  obtain ⟨p, hp2, he⟩ := Option.map_eq_some_iff.1 hw2
  obtain ⟨p1, p2⟩ := p
  injection he with e1 e2
  dsimp only at e1 e2
  subst e1 e2
  have hmq := walk_mono _ _ _ _ hq
  have hm2 := walk_mono _ _ _ _ hp2
  rw [walkS] at hp2
  split at hp2
  ·
   cases hp2
  ·
   rename_i hbs
   obtain ⟨ds, hs, hdne, hds, hd0, hsl, hsw⟩ := seg_form (hok s (by simp)).1 (show 0 ≤ q2 by omega) (by omega) hbs
   rw [hsw] at hp2
   simp only [walkS, Option.map_some, Option.some.injEq, Prod.mk.injEq, List.append_nil] at hp2
   obtain ⟨hp1, hp2⟩ := hp2
   rw [rowsR_length] at hp2
   have hflat : s ++ recF p2 data = flatR q2 (ds ++ [data]) := by
    rw [flatR_app, hp2, ← hs]
    simp [flatR]
   have hlen : (s ++ recF p2 data).length ≤ 480 := by
    rw [List.length_append, recF_length]
    have : ¬ 480 < s.length + 16 + data.length := fun h => hb (.inr h)
    omega
   have hall : ∀ d ∈ ds ++ [data], d.length ≤ 400 := fun d hd' => by
    rcases List.mem_append.1 hd' with hd' | hd'
    ·
     exact (hds d hd').1
    ·
     rw [List.mem_singleton.1 hd']; exact hd
   have hgood := seg_good (due := q2) (ds := ds ++ [data]) (by omega) (by simp; omega) (by simp) hall (by rw [← hflat]; exact hlen)
   rw [← hflat] at hgood
   have hdue : dueS (a ++ [s ++ recF p2 data]) (p2 + 1) = dueS (a ++ [s]) p2 := by
    cases a with
    | nil =>
     show firstS (s ++ recF p2 data) = firstS s
     injection hq with hq
     injection hq with _ hq
     have e1 : dueS ([] ++ [s]) p2 = firstS s := rfl
     rw [e1] at hq
     rw [hflat, firstS_flat (by omega) (by omega) (by simp) hall]
     exact hq.symm
    | cons t ts => rfl
   rw [hdue, walk_app, hq]
   simp only [Option.bind_some, walkS, if_neg hgood.1, hgood.2, Option.map_some, List.append_nil, rowsR_length]
   rw [rowsR_app, hp1, hp2]
   simp only [rowsR, List.length_append, List.length_cons, List.length_nil, List.append_assoc]
   rw [show q2 + ((ds.length + (0 + 1) : Nat) : Int) = p2 + 1 from by omega]
end Go.Proofs.Ytgmkgobapeencaa.WalMore
