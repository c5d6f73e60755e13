/- What the print's words and the walks are, as far as this claim names them. -/
import Derived.Test.YtloocmeckpoflaaGreatYTreeFit
import Derived.Test.YtloocmeckpoflaaGreatYD28
namespace Go.Proofs.YtloocmeckpoflaaGreat.TreeRef
set_option linter.unusedVariables false
set_option linter.unusedSimpArgs false
open Go.RowKit Go.Proofs.YtloocmeckpoflaaGreat.D Go.Proofs.YtloocmeckpoflaaGreatW.PrintWords Go.Proofs.YtloocmeckpoflaaGreatW.PrintLast Go.Proofs.YtloocmeckpoflaaGreatW.PrintMore TreeMath TreePr TreeFit
theorem bt_of {E : ByteArray} {pre rest : List Int} {c : Int} (h : bytesOf E = pre ++ c :: rest) : bt E (pre.length : Int) = c := by
 have h1 : (bytesOf E)[pre.length]? = some c := by rw [h]; simp
 have hlt : pre.length < E.size := by
  rw [← bytesOf_length]
  exact (List.getElem?_eq_some_iff.1 h1).1
 have hd : pre.length < E.data.size := hlt
 unfold bytesOf at h1
 rw [List.getElem?_map, Array.getElem?_toList, Array.getElem?_eq_getElem hd, Option.map_some] at h1
 unfold bt
 rw [dif_pos (show ((pre.length : Int).toNat) < E.size by rw [Int.toNat_natCast]; exact hlt)]
 exact Option.some.inj h1
theorem wN {n : Nat} (h : n ≤ 1000000) : wrap64 ((n : Int) + 1) = ((n + 1 : Nat) : Int) := by unfold wrap64; omega
theorem wM {n : Nat} (h : n ≤ 1000000) (h0 : 0 < n) : wrap64 ((n : Int) - 1) = (n : Int) - 1 := by unfold wrap64; omega
theorem wP {n : Int} (h : n ≤ 1000000) (h0 : -1000000 ≤ n) : wrap64 (n + 1) = n + 1 := by unfold wrap64; omega
theorem rdT_at {l pre ts : List Tr} {x : Tr} (h : l = pre ++ x :: ts) : rd_T25 l (pre.length : Int) = x := by
 unfold rd_T25
 rw [Int.toNat_natCast, h, List.getD_eq_getElem?_getD, List.getElem?_append_right (Nat.le_refl _), Nat.sub_self]
 rfl
theorem rdA_at {l pre ts : List S91} {x : S91} (h : l = pre ++ x :: ts) : rd_T91 l (pre.length : Int) = x := by
 unfold rd_T91
 rw [Int.toNat_natCast, h, List.getD_eq_getElem?_getD, List.getElem?_append_right (Nat.le_refl _), Nat.sub_self]
 rfl
theorem letters_l0 (s : ByteArray) (hs : s.size ≤ 16) : ∀ (rest pre : List Int), bytesOf s = pre ++ rest → Ev (fun k => fanlightref09_Letters.l0 k s (pre.length : Int)) (!rest.any badC)
 | [], pre, h => by
  refine Ev.step (fun k => rfl) ?_
  have hl := congrArg List.length h
  rw [bytesOf_length, List.append_nil] at hl
  simp only [fanlightref09_Letters.l0, if_neg (show ¬ (pre.length : Int) < (s.size : Int) by omega), List.any_nil, Bool.not_false]
  exact Ev.now _
 | c :: rest, pre, h => by
  refine Ev.step (fun k => rfl) ?_
  have hl := congrArg List.length h
  rw [bytesOf_length, List.length_append, List.length_cons] at hl
  have hb := bt_of h
  have c1 : (pre.length : Int) < (s.size : Int) := by omega
  have c2 : (0 : Int) ≤ (pre.length : Int) := by omega
  have hw := wN (n := pre.length) (by omega)
  have hnext := letters_l0 s hs rest (pre ++ [c]) (by rw [h]; simp)
  rw [List.length_append, List.length_singleton] at hnext
  simp only [fanlightref09_Letters.l0, if_pos c1, if_pos c2, hb, hw, List.any_cons]
  by_cases h1 : c < 97
  ·
   have e : badC c = true := by unfold badC; simp [h1]
   simp only [if_pos h1, e, Bool.true_or, Bool.not_true]
   exact Ev.now _
  ·
   by_cases h2 : c > 122
   ·
    have e : badC c = true := by unfold badC; rw [decide_eq_true (show 122 < c from h2), Bool.or_true]
    simp only [if_neg h1, if_pos h2, e, Bool.true_or, Bool.not_true]
    exact Ev.now _
   ·
    have e : badC c = false := by unfold badC; rw [decide_eq_false h1, decide_eq_false (show ¬ 122 < c from h2)]; rfl
    simp only [if_neg h1, if_neg h2, e, Bool.false_or]
    exact hnext
theorem letters_ref (s : ByteArray) : Ev (fun k => fanlightref09_Letters.f k s) (lettersB s) := by
 unfold fanlightref09_Letters.f
 have hb : lettersB s = (!decide (s.toList = []) && (decide (s.size ≤ 16) && !((bytesOf s).any badC))) := rfl
 by_cases h1 : (s.size : Int) < 1
 ·
  have he : s.toList = [] := emp_iff.2 (bytes_nil.1 (List.length_eq_zero_iff.1 (by rw [bytesOf_length]; omega)))
  rw [hb, decide_eq_true he]
  simp only [if_pos h1, Bool.not_true, Bool.false_and]
  refine Ev.step (fun k => rfl) ?_
  simp only [fanlightref09_Letters.j0, if_true]
  exact Ev.now _
 ·
  have he : ¬ s.toList = [] := fun e => by
   have := size_nil (emp_iff.1 e)
   omega
  rw [hb, decide_eq_false he]
  simp only [if_neg h1, Bool.not_false, Bool.true_and]
  refine Ev.step (fun k => rfl) ?_
  by_cases h2 : s.size ≤ 16
  ·
   simp only [fanlightref09_Letters.j0, decide_eq_false (show ¬ (s.size : Int) > 16 by omega), Bool.false_eq_true, if_false, decide_eq_true h2, Bool.true_and]
   exact letters_l0 s h2 (bytesOf s) [] rfl
  ·
   simp only [fanlightref09_Letters.j0, decide_eq_true (show (s.size : Int) > 16 by omega), if_true, decide_eq_false h2, Bool.false_and]
   exact Ev.now _
theorem attrs_l0 (l : List S91) (hl : l.length ≤ 16) : ∀ (rest pre : List S91) (lst : ByteArray), l = pre ++ rest → (pre = [] → lst = ⟨#[]⟩) → (pre ≠ [] → lst = (rd_T91 l ((pre.length : Int) - 1)).f0) → Ev (fun k => fanlightref09_Attrs.l0 k l (pre.length : Int)) (!badAttrs lst rest)
 | [], pre, lst, h, _, _ => by
  refine Ev.step (fun k => rfl) ?_
  have hlen : l.length = pre.length := by rw [h]; simp
  simp only [fanlightref09_Attrs.l0, if_neg (show ¬ (pre.length : Int) < (l.length : Int) by omega), badAttrs, Bool.not_false]
  exact Ev.now _
 | x :: rest, pre, lst, h, hp0, hp1 => by
  refine Ev.step (fun k => rfl) ?_
  have hlen : l.length = pre.length + 1 + rest.length := by rw [h]; simp; omega
  have hx := rdA_at h
  have c1 : (pre.length : Int) < (l.length : Int) := by omega
  have c2 : (0 : Int) ≤ (pre.length : Int) := by omega
  have hnext := attrs_l0 l hl rest (pre ++ [x]) x.f0 (by rw [h]; simp) (fun h => by simp at h) (fun _ => by
   rw [show (((pre ++ [x]).length : Nat) : Int) - 1 = (pre.length : Int) by simp, hx])
  rw [List.length_append, List.length_singleton] at hnext
  have hw := wN (n := pre.length) (by omega)
  simp only [fanlightref09_Attrs.l0, if_pos c1, if_pos c2, hx, hw]
  refine Ev.bind (letters_ref x.f0) ?_
  have hbd : badAttrs lst (x :: rest) = (((Op.bytesLess x.f0.toList lst.toList || x.f0.toList == lst.toList) || (!lettersB x.f0 || decide (128 < x.f1.size))) || badAttrs x.f0 rest) := rfl
  rw [hbd, bytes_leq]
  cases hlb : lettersB x.f0 with
  | false =>
   simp only [Bool.false_eq_true, if_false, Bool.not_false, Bool.true_or, Bool.or_true, Bool.not_true]
   exact Ev.now _
  | true =>
   simp only [if_true, Bool.not_true, Bool.false_or]
   by_cases h128 : (x.f1.size : Int) > 128
   ·
    simp only [if_pos h128, decide_eq_true (show 128 < x.f1.size by omega), Bool.or_true, Bool.true_or, Bool.not_true]
    exact Ev.now _
   ·
    simp only [if_neg h128, decide_eq_false (show ¬ 128 < x.f1.size by omega), Bool.or_false]
    by_cases hpe : pre = []
    ·
     have hpt := hp0 hpe
     have hz : pre.length = 0 := by rw [hpe]; rfl
     have hne := (letters_of hlb).1
     have hlt : Op.bytesLess lst.toList x.f0.toList = true := by
      rw [hpt, ByteArray.toList_eq, ByteArray.toList_eq]
      cases hd : x.f0.data.toList with
      | nil => exact absurd (bytes_nil.2 (by rw [ByteArray.toList_eq, hd]; rfl)) hne
      | cons a b => rfl
     simp only [if_neg (show ¬ ((pre.length : Int) > 0) by omega), hlt, Bool.not_true, Bool.false_or]
     exact hnext
    ·
     have hpt := hp1 hpe
     have hpos : 0 < pre.length := List.length_pos_iff.2 hpe
     have c3 : (pre.length : Int) > 0 := by omega
     have c4 : (0 : Int) ≤ (pre.length : Int) - 1 := by omega
     have c5 : (pre.length : Int) - 1 < (l.length : Int) := by omega
     have hw2 := wM (n := pre.length) (by omega) hpos
     simp only [if_pos c3, hw2, if_pos c4, if_pos c5, ← hpt]
     cases hlt : Op.bytesLess lst.toList x.f0.toList with
     | true => simp only [if_true, Bool.not_true, Bool.false_or]; exact hnext
     | false => simp only [Bool.false_eq_true, if_false, Bool.not_false, Bool.true_or, Bool.not_true]; exact Ev.now _
theorem attrs_ref (l : List S91) : Ev (fun k => fanlightref09_Attrs.f k l) (decide (l.length ≤ 16) && !badAttrs ⟨#[]⟩ l) := by
 unfold fanlightref09_Attrs.f
 by_cases h : l.length ≤ 16
 ·
  simp only [if_neg (show ¬ (l.length : Int) > 16 by omega), decide_eq_true h, Bool.true_and]
  exact attrs_l0 l h l [] ⟨#[]⟩ rfl (fun _ => rfl) (fun h => absurd rfl h)
 ·
  simp only [if_pos (show (l.length : Int) > 16 by omega), decide_eq_false h, Bool.false_and]
  exact Ev.now _
theorem plain_ref (a0 a1 a2 : ByteArray) (l3 : List S91) : Ev (fun k => fanlightref09_Plain.f k a0 a1 a2 l3) (plainB a0 a1 a2 l3) := by
 unfold fanlightref09_Plain.f plainB
 by_cases h0 : a0.toList = []
 ·
  simp only [if_pos h0]
  by_cases h1 : a1.toList = []
  ·
   simp only [if_pos h1, decide_eq_true h1, Bool.true_and]
   by_cases h2 : a2.size ≤ 128
   ·
    simp only [if_pos (show (a2.size : Int) ≤ 128 by omega), decide_eq_true h2, Bool.true_and]
    have e : ((l3.length : Int) == 0) = decide (l3.length = 0) := by rw [Bool.eq_iff_iff, beq_iff_eq, decide_eq_true_eq]; omega
    rw [e]
    exact Ev.now _
   ·
    simp only [if_neg (show ¬ (a2.size : Int) ≤ 128 by omega), decide_eq_false h2, Bool.false_and]
    exact Ev.now _
  ·
   simp only [if_neg h1, decide_eq_false h1, Bool.false_and]
   exact Ev.now _
 ·
  simp only [if_neg h0]
  refine Ev.bind (letters_ref a0) ?_
  cases hl : lettersB a0 with
  | false => simp only [Bool.false_eq_true, if_false, Bool.false_and]; exact Ev.now _
  | true =>
   simp only [if_true, Bool.true_and]
   by_cases h1 : a1.size ≤ 16
   ·
    simp only [if_pos (show (a1.size : Int) ≤ 16 by omega), decide_eq_true h1, Bool.true_and]
    by_cases h2 : a2.toList = []
    ·
     simp only [if_pos h2, decide_eq_true h2, Bool.true_and]
     exact Ev.bind (attrs_ref l3) (Ev.now _)
    ·
     simp only [if_neg h2, decide_eq_false h2, Bool.false_and]
     exact Ev.now _
   ·
    simp only [if_neg (show ¬ (a1.size : Int) ≤ 16 by omega), decide_eq_false h1, Bool.false_and]
    exact Ev.now _
theorem twice_l1 (l : List Tr) (hl : l.length ≤ 16) (x : Tr) (pre rest : List Tr) (h : l = pre ++ x :: rest) (R : Bool) (hR : Ev (fun k => fanlightref09_twice.l0 k l ((pre.length + 1 : Nat) : Int)) R) : ∀ (p2 p1 : List Tr), pre = p1 ++ p2 →
  Ev (fun k => fanlightref09_twice.l1 k l (pre.length : Int) (p1.length : Int)) ((!x.f1.toList.isEmpty && p2.any (fun y => y.f1.toList == x.f1.toList)) || R)
 | [], p1, hp => by
  refine Ev.step (fun k => rfl) ?_
  have hlen : l.length = pre.length + 1 + rest.length := by rw [h]; simp; omega
  have e : pre.length = p1.length := by rw [hp, List.append_nil]
  have hw := wN (n := pre.length) (by omega)
  simp only [fanlightref09_twice.l1, if_neg (show ¬ (p1.length : Int) < (pre.length : Int) by omega), hw, List.any_nil, Bool.and_false, Bool.false_or]
  exact hR
 | y :: p2, p1, hp => by
  refine Ev.step (fun k => rfl) ?_
  have hlen : l.length = pre.length + 1 + rest.length := by rw [h]; simp; omega
  have hlp : pre.length = p1.length + 1 + p2.length := by rw [hp]; simp; omega
  have hx := rdT_at h
  have hy : rd_T25 l (p1.length : Int) = y := rdT_at (ts := p2 ++ x :: rest) (by rw [h, hp]; simp)
  have hnext := twice_l1 l hl x pre rest h R hR p2 (p1 ++ [y]) (by rw [hp]; simp)
  rw [List.length_append, List.length_singleton] at hnext
  have c1 : (p1.length : Int) < (pre.length : Int) := by omega
  have c2 : (0 : Int) ≤ (pre.length : Int) := by omega
  have c3 : (pre.length : Int) < (l.length : Int) := by omega
  have c4 : (0 : Int) ≤ (p1.length : Int) := by omega
  have c5 : (p1.length : Int) < (l.length : Int) := by omega
  have hw := wN (n := p1.length) (by omega)
  simp only [fanlightref09_twice.l1, if_pos c1, if_pos c2, if_pos c3, hx, hw, List.any_cons]
  cases he : x.f1.toList.isEmpty with
  | true =>
   rw [he] at hnext
   simp only [if_pos (emp_iff.2 he), Bool.not_true, Bool.false_and, Bool.false_or] at hnext ⊢
   exact hnext
  | false =>
   rw [he] at hnext
   simp only [if_neg (show ¬ x.f1.toList = ([] : List UInt8) by rw [emp_iff, he]; decide), if_pos c4, if_pos c5, hy, Bool.not_false, Bool.true_and] at hnext ⊢
   by_cases hk : x.f1.toList = y.f1.toList
   ·
    have e : (y.f1.toList == x.f1.toList) = true := beq_iff_eq.2 hk.symm
    simp only [if_pos hk, e, Bool.true_or]
    exact Ev.now _
   ·
    have e : (y.f1.toList == x.f1.toList) = false := beq_eq_false_iff_ne.2 (fun h => hk h.symm)
    simp only [if_neg hk, e, Bool.false_or]
    exact hnext
theorem twice_l0 (l : List Tr) (hl : l.length ≤ 16) : ∀ (rest pre : List Tr), l = pre ++ rest → Ev (fun k => fanlightref09_twice.l0 k l (pre.length : Int)) (dupK (pre.map (·.f1)).reverse rest)
 | [], pre, h => by
  refine Ev.step (fun k => rfl) ?_
  have hlen : l.length = pre.length := by rw [h]; simp
  simp only [fanlightref09_twice.l0, if_neg (show ¬ (pre.length : Int) < (l.length : Int) by omega), dupK]
  exact Ev.now _
 | x :: rest, pre, h => by
  refine Ev.step (fun k => rfl) ?_
  have hlen : l.length = pre.length + 1 + rest.length := by rw [h]; simp; omega
  have hnext := twice_l0 l hl rest (pre ++ [x]) (by rw [h]; simp)
  rw [List.length_append, List.length_singleton, List.map_append, List.reverse_append] at hnext
  have h1 := twice_l1 l hl x pre rest h _ hnext pre [] rfl
  simp only [fanlightref09_twice.l0, if_pos (show (pre.length : Int) < (l.length : Int) by omega)]
  have e : dupK (pre.map (·.f1)).reverse (x :: rest) = ((!x.f1.toList.isEmpty && pre.any (fun y => y.f1.toList == x.f1.toList)) || dupK (([x].map (·.f1)).reverse ++ (pre.map (·.f1)).reverse) rest) := by
   show ((!x.f1.toList.isEmpty && (pre.map (·.f1)).reverse.any _) || dupK (x.f1 :: (pre.map (·.f1)).reverse) rest) = _
   rw [List.any_reverse, List.any_map]
   rfl
  rw [e]
  exact h1
theorem twice_ref (l : List Tr) (hl : l.length ≤ 16) : Ev (fun k => fanlightref09_twice.f k l) (dupK [] l) := by
 unfold fanlightref09_twice.f
 exact twice_l0 l hl l [] rfl
theorem nodeE_cases (n : Int) (t : Tr) (level : Int) (h8 : ¬ 8 < level) (h256 : n ≠ 256) : nodeE n t level = if plainB t.f0 t.f1 t.f2 t.f3 = false ∨ 16 < t.f4.length ∨ t.f0.toList.isEmpty = true ∧ 0 < t.f4.length then 9 else if dupK [] t.f4 = true then 6 else 0 := by
 unfold nodeE
 rw [if_neg h8, if_neg h256]
def WalkIs (t : Tr) : Prop := ∀ (level n d : Int), -1000 ≤ level → 0 ≤ n → n ≤ 256 → ∃ r : Int × Int × Int, Ev (fun k => fanlightref09_walk.f k t.f0 t.f1 t.f2 t.f3 t.f4 level n) r ∧ r.2.2 = (walkT t level (n, d, 0)).2.2 ∧ (r.2.2 = 0 → r = (n + cntT t, level + depT t - 1, 0))
theorem walkL_stop : ∀ (l : List Tr) (level : Int) (st : Int × Int × Int), st.2.2 ≠ 0 → walkL l level st = st
 | [], level, st, _ => by rw [walkL]
 | y :: ys, level, st, hs => by rw [walkL, walkT_eq, if_neg hs]; exact walkL_stop ys level st hs
theorem walk_l0 (t : Tr) (ih : ∀ x ∈ t.f4, WalkIs x) (hl : t.f4.length ≤ 16) (level : Int) (hlv : -1000 ≤ level ∧ level ≤ 8) : ∀ (rest pre : List Tr) (n d deep : Int), t.f4 = pre ++ rest → 0 ≤ n → n ≤ 256 →
  ∃ r : Int × Int × Int, Ev (fun k => fanlightref09_walk.l0 k level n deep (pre.length : Int) t.f0 t.f1 t.f2 t.f3 t.f4) r ∧ r.2.2 = (walkL rest (level + 1) (n, d, 0)).2.2 ∧ (r.2.2 = 0 → r = (n + cntL rest, if rest = [] then deep else max deep (level + depL rest), 0))
 | [], pre, n, d, deep, h, _, _ => by
  have hlen : t.f4.length = pre.length := by rw [h]; simp
  refine ⟨(n, deep, 0), ?_, by rw [walkL], fun _ => by rw [cntL, if_pos rfl, Int.add_zero]⟩
  refine Ev.step (fun k => rfl) ?_
  simp only [fanlightref09_walk.l0, if_neg (show ¬ (pre.length : Int) < (t.f4.length : Int) by omega)]
  exact Ev.now _
 | x :: rest, pre, n, d, deep, h, hn0, hn1 => by
  have hlen : t.f4.length = pre.length + 1 + rest.length := by rw [h]; simp; omega
  have hx := rdT_at h
  have hxm : x ∈ t.f4 := by rw [h]; simp
  obtain ⟨rx, hrx, hre, hrz⟩ := ih x hxm (level + 1) n d (by omega) hn0 hn1
  have c1 : (pre.length : Int) < (t.f4.length : Int) := by omega
  have c2 : (0 : Int) ≤ (pre.length : Int) := by omega
  have hrg := walk_range _ x (Nat.lt_succ_self _) (level + 1) (n, d, 0) ⟨hn0, hn1⟩
  have hpos := dep_pos x
  have hdnn := depL_nn rest
  by_cases hz : rx.2.2 = 0
  ·
   have hok : (walkT x (level + 1) (n, d, 0)).2.2 = 0 := by rw [← hre]; exact hz
   have he := (walkT_ok x _ _ hok).2.2
   have hrxe := hrz hz
   rw [he] at hrg
   obtain ⟨r, hr1, hr2, hr3⟩ := walk_l0 t ih hl level hlv rest (pre ++ [x]) (n + cntT x) (max d (level + 1 + depT x - 1)) (mx deep (level + 1 + depT x - 1)) (by rw [h]; simp) hrg.1 hrg.2
   rw [List.length_append, List.length_singleton] at hr1
   refine ⟨r, ?_, ?_, ?_⟩
   ·
    refine Ev.step (fun k => rfl) ?_
    have hw := wN (n := pre.length) (by omega)
    have hw2 := wP (n := level) (by omega) (by omega)
    simp only [fanlightref09_walk.l0, if_pos c1, if_pos c2, hx, hw, hw2]
    refine Ev.bind hrx ?_
    simp only [if_pos hz]
    rw [hrxe]
    exact hr1
   ·
    rw [hr2, walkL, he]
   ·
    intro h0
    rw [hr3 h0, cntL, depL, if_neg (show ¬ (x :: rest = []) by simp)]
    have e1 : mx deep (level + 1 + depT x - 1) = max deep (level + depT x) := by unfold mx; split <;> omega
    rw [e1]
    by_cases hre : rest = []
    ·
     subst hre
     rw [if_pos rfl, cntL, depL]
     simp only [Prod.mk.injEq, and_true]
     constructor <;> omega
    ·
     rw [if_neg hre]
     simp only [Prod.mk.injEq, and_true]
     constructor <;> omega
  ·
   refine ⟨rx, ?_, ?_, fun h0 => absurd h0 hz⟩
   ·
    refine Ev.step (fun k => rfl) ?_
    have hw2 := wP (n := level) (by omega) (by omega)
    simp only [fanlightref09_walk.l0, if_pos c1, if_pos c2, hx, hw2]
    refine Ev.bind hrx ?_
    simp only [if_neg hz]
    exact Ev.now _
   ·
    rw [walkL, walkL_stop rest _ _ (by rw [← hre]; exact hz), hre]
theorem walk_ref (t : Tr) : WalkIs t := by
 refine treeInd ?_ t
 intro t ih level n d hlv hn0 hn1
 have hgo : ∀ (r : Int × Int × Int) (b : Bool), (b = true → r = (n, level, 9)) → True := fun _ _ _ => trivial
 by_cases h8 : 8 < level
 ·
  refine ⟨(n, level, 10), ?_, ?_, fun h => by simp at h⟩
  ·
   refine Ev.step (fun k => rfl) ?_
   simp only [fanlightref09_walk.f, if_pos (show level > 8 from h8)]
   exact Ev.now _
  ·
   have hne : nodeE n t level = 10 := by unfold nodeE; rw [if_pos h8]
   rw [walkT_eq, if_pos rfl, if_neg (by rw [hne]; decide)]
   exact hne.symm
 by_cases h256 : n = 256
 ·
  refine ⟨(n, level, 3), ?_, ?_, fun h => by simp at h⟩
  ·
   refine Ev.step (fun k => rfl) ?_
   simp only [fanlightref09_walk.f, if_neg (show ¬ level > 8 from h8), if_pos (show n ≥ 256 by omega)]
   exact Ev.now _
  ·
   have hne : nodeE n t level = 3 := by unfold nodeE; rw [if_neg h8, if_pos h256]
   rw [walkT_eq, if_pos rfl, if_neg (by rw [hne]; decide)]
   exact hne.symm
 have hnc := nodeE_cases n t level h8 h256
 -- the way of a node that may not be, of twice a key, and on
 have bad : (plainB t.f0 t.f1 t.f2 t.f3 = false ∨ 16 < t.f4.length ∨ t.f0.toList.isEmpty = true ∧ 0 < t.f4.length) → Ev (fun k => fanlightref09_walk.f k t.f0 t.f1 t.f2 t.f3 t.f4 level n) (n, level, 9) := by
  intro hb
  have hj : Ev (fun k => fanlightref09_walk.j0 k level n true t.f0 t.f1 t.f2 t.f3 t.f4) (n, level, 9) := by
   refine Ev.step (fun k => rfl) ?_
   simp only [fanlightref09_walk.j0, if_true]
   exact Ev.now _
  refine Ev.step (fun k => rfl) ?_
  simp only [fanlightref09_walk.f, if_neg (show ¬ level > 8 from h8), if_neg (show ¬ n ≥ 256 by omega)]
  refine Ev.bind (plain_ref _ _ _ _) ?_
  cases hp : plainB t.f0 t.f1 t.f2 t.f3 with
  | false => simp only [Bool.false_eq_true, if_false]; exact hj
  | true =>
   simp only [if_true]
   by_cases h16 : (t.f4.length : Int) > 16
   ·
    simp only [if_pos h16]; exact hj
   ·
    simp only [if_neg h16]
    rcases hb with hb | hb | hb
    ·
     rw [hp] at hb; cases hb
    ·
     omega
    ·
     simp only [if_pos (emp_iff.2 hb.1), decide_eq_true (show (t.f4.length : Int) > 0 by omega)]
     exact hj
 by_cases hb : plainB t.f0 t.f1 t.f2 t.f3 = false ∨ 16 < t.f4.length ∨ t.f0.toList.isEmpty = true ∧ 0 < t.f4.length
 ·
  rw [if_pos hb] at hnc
  refine ⟨(n, level, 9), bad hb, ?_, fun h => by simp at h⟩
  rw [walkT_eq, if_pos rfl, if_neg (by rw [hnc]; decide)]
  exact hnc.symm
 rw [if_neg hb] at hnc
 have hp : plainB t.f0 t.f1 t.f2 t.f3 = true := by
  cases hp : plainB t.f0 t.f1 t.f2 t.f3 with
  | true => rfl
  | false => exact absurd (Or.inl hp) hb
 have h16 : t.f4.length ≤ 16 := by
  by_cases h : 16 < t.f4.length
  ·
   exact absurd (Or.inr (Or.inl h)) hb
  ·
   omega
 have go : ∀ r : Int × Int × Int, Ev (fun k => fanlightref09_walk.j0 k level n false t.f0 t.f1 t.f2 t.f3 t.f4) r → Ev (fun k => fanlightref09_walk.f k t.f0 t.f1 t.f2 t.f3 t.f4 level n) r := by
  intro r hj
  refine Ev.step (fun k => rfl) ?_
  simp only [fanlightref09_walk.f, if_neg (show ¬ level > 8 from h8), if_neg (show ¬ n ≥ 256 by omega)]
  refine Ev.bind (plain_ref _ _ _ _) ?_
  simp only [hp, if_true, if_neg (show ¬ (t.f4.length : Int) > 16 by omega)]
  cases he : t.f0.toList.isEmpty with
  | true =>
   have hz : t.f4.length = 0 := by
    by_cases h : 0 < t.f4.length
    ·
     exact absurd (Or.inr (Or.inr ⟨he, h⟩)) hb
    ·
     omega
   simp only [if_pos (emp_iff.2 he), decide_eq_false (show ¬ (t.f4.length : Int) > 0 by omega)]
   exact hj
  | false =>
   simp only [if_neg (show ¬ t.f0.toList = ([] : List UInt8) by rw [emp_iff, he]; decide)]
   exact hj
 cases hd : dupK [] t.f4 with
 | true =>
  rw [hd, if_pos rfl] at hnc
  refine ⟨(n, level, 6), go _ ?_, ?_, fun h => by simp at h⟩
  ·
   refine Ev.step (fun k => rfl) ?_
   simp only [fanlightref09_walk.j0, Bool.false_eq_true, if_false]
   refine Ev.bind (twice_ref t.f4 h16) ?_
   simp only [hd, if_true]
   exact Ev.now _
  ·
   rw [walkT_eq, if_pos rfl, if_neg (by rw [hnc]; decide)]
   exact hnc.symm
 | false =>
  rw [hd, if_neg (by decide)] at hnc
  obtain ⟨r, hr1, hr2, hr3⟩ := walk_l0 t ih h16 level ⟨hlv, by omega⟩ t.f4 [] (n + 1) (mx d level) level rfl (by omega) (by omega)
  refine ⟨r, go _ ?_, ?_, ?_⟩
  ·
   refine Ev.step (fun k => rfl) ?_
   have hw := wP (n := n) (by omega) (by omega)
   simp only [fanlightref09_walk.j0, Bool.false_eq_true, if_false]
   refine Ev.bind (twice_ref t.f4 h16) ?_
   simp only [hd, Bool.false_eq_true, if_false, hw]
   exact hr1
  ·
   rw [hr2, walkT_eq, if_pos rfl, if_pos hnc]
  ·
   intro h0
   have hnn := depL_nn t.f4
   rw [hr3 h0, cntT_eq, depT_eq]
   by_cases hre : t.f4 = []
   ·
    rw [if_pos hre, hre, cntL, depL]
    simp only [Prod.mk.injEq, and_true]
    constructor <;> omega
   ·
    rw [if_neg hre]
    simp only [Prod.mk.injEq, and_true]
    constructor <;> omega
theorem check_ref (t : Tr) : Ev (fun k => fanlightref09_Check.f k t.f0 t.f1 t.f2 t.f3 t.f4) (sizeR t).2.2 := by
 unfold fanlightref09_Check.f sizeR
 cases he : t.f0.toList.isEmpty with
 | true => simp only [if_pos (emp_iff.2 he), if_true]; exact Ev.now _
 | false =>
  simp only [if_neg (show ¬ t.f0.toList = ([] : List UInt8) by rw [emp_iff, he]; decide), Bool.false_eq_true, if_false]
  obtain ⟨r, h1, h2, _⟩ := walk_ref t 1 0 0 (by omega) (by omega) (by omega)
  have e : (if (walkT t 1 (0, 0, 0)).2.2 = 0 then ((walkT t 1 (0, 0, 0)).1, (walkT t 1 (0, 0, 0)).2.1, (0 : Int)) else (0, 0, (walkT t 1 (0, 0, 0)).2.2)).2.2 = r.2.2 := by
   rw [h2]
   split
   ·
    rename_i h; exact h.symm
   ·
    rfl
  rw [e]
  exact Ev.bind h1 (Ev.now _)
theorem size_ref (t : Tr) : Ev (fun k => fanlightref09_Size.f k t.f0 t.f1 t.f2 t.f3 t.f4) (sizeR t) := by
 unfold fanlightref09_Size.f
 refine Ev.bind (check_ref t) ?_
 by_cases hm : May t
 ·
  have hs := sizeR_may hm
  rw [hs]
  simp only [if_true]
  obtain ⟨r, h1, h2, h3⟩ := walk_ref t 1 0 0 (by omega) (by omega) (by omega)
  have hz : r.2.2 = 0 := by rw [h2]; exact hm.2
  have e := h3 hz
  rw [e] at h1
  refine Ev.bind h1 ?_
  rw [show (0 + cntT t, 1 + depT t - 1, (0 : Int)).1 = cntT t by simp, show (0 + cntT t, 1 + depT t - 1, (0 : Int)).2.1 = depT t by show 1 + depT t - 1 = depT t; omega]
  exact Ev.now _
 ·
  obtain ⟨h1, h2, h3⟩ := sizeR_not hm
  simp only [if_neg h3]
  refine Ev.bind (check_ref t) ?_
  rw [show ((0 : Int), (0 : Int), (sizeR t).2.2) = sizeR t from by rw [Prod.ext_iff, Prod.ext_iff]; exact ⟨h1.symm, h2.symm, rfl⟩]
  exact Ev.now _
end Go.Proofs.YtloocmeckpoflaaGreat.TreeRef
