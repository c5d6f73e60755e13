/- What the print's words and the walks are, as far as this claim names them. -/
import Derived.Test.YtloocmeckpoflaaGreatYTreeRef
import Derived.Test.YtloocmeckpoflaaGreatYTreeTx
import Derived.Test.YtloocmeckpoflaaGreatYD29
import Derived.Test.YtloocmeckpoflaaGreatYD31
import Derived.Test.YtloocmeckpoflaaGreatYD32
namespace Go.Proofs.YtloocmeckpoflaaGreat.TreeShow
set_option linter.unusedVariables false
set_option linter.unusedSimpArgs false
open Go.RowKit Go.Proofs.YtloocmeckpoflaaGreat.D Go.Proofs.YtloocmeckpoflaaGreatW.PrintWords Go.Proofs.YtloocmeckpoflaaGreatW.PrintLast Go.Proofs.YtloocmeckpoflaaGreatW.PrintMore TreeMath TreePr TreeFit TreeRef TreeTx
theorem bytes_extract (s : ByteArray) (a b : Nat) : bytesOf (s.extract a b) = ((bytesOf s).drop a).take (b - a) := by
 unfold bytesOf
 rw [ByteArray.data_extract, Array.toList_extract, List.extract_eq_take_drop, List.map_take, List.map_drop]
theorem size_bytes (s : ByteArray) : s.size = (bytesOf s).length := (bytesOf_length s).symm
theorem safe_l0 (s : ByteArray) (hs : s.size ≤ 100000) : ∀ (rest pre : List Int) (x3 : ByteArray), bytesOf s = pre ++ rest → bytesOf x3 = escLs pre → Ev (fun k => fanlightref09_safe.l0 k s x3 (pre.length : Int)) (escB s)
 | [], pre, x3, h, h3 => by
  have hl := congrArg List.length h
  rw [bytesOf_length, List.append_nil] at hl
  have e : x3 = escB s := bytes_inj (by rw [h3, bytes_esc, h, List.append_nil])
  refine Ev.step (fun k => rfl) ?_
  simp only [fanlightref09_safe.l0, if_neg (show ¬ (pre.length : Int) < (s.size : Int) by omega), e]
  exact Ev.now _
 | o :: rest, pre, x3, h, h3 => by
  have hl := congrArg List.length h
  rw [bytesOf_length, List.length_append, List.length_cons] at hl
  have h3l := congrArg List.length h3
  rw [bytesOf_length] at h3l
  have hel := esc_len pre
  have hb := bt_of h
  have c1 : (pre.length : Int) < (s.size : Int) := by omega
  have c2 : (0 : Int) ≤ (pre.length : Int) := by omega
  have c3 : (pre.length : Int) ≤ ((pre.length + 1 : Nat) : Int) := by omega
  have c4 : ((pre.length + 1 : Nat) : Int) ≤ (s.size : Int) := by omega
  have hx : x3.size ≤ 600000 := by omega
  have s5 : x3.size + 5 ≤ 9223372036854775807 := by omega
  have s4 : x3.size + 4 ≤ 9223372036854775807 := by omega
  have s6 : x3.size + 6 ≤ 9223372036854775807 := by omega
  have s1 : x3.size + 1 ≤ 9223372036854775807 := by omega
  have hnext : ∀ y : ByteArray, bytesOf y = bytesOf x3 ++ escOne o → Ev (fun k => fanlightref09_safe.l0 k s y ((pre.length + 1 : Nat) : Int)) (escB s) := by
   intro y hy
   have := safe_l0 s hs rest (pre ++ [o]) y (by rw [h]; simp) (by rw [hy, h3, escLs_snoc])
   rw [List.length_append, List.length_singleton] at this
   exact this
  have hw := wN (n := pre.length) (by omega)
  refine Ev.step (fun k => rfl) ?_
  simp only [fanlightref09_safe.l0, if_pos c1, if_pos c2, hb, hw]
  rcases escOne_cases o with ⟨e, f⟩ | ⟨e, f⟩ | ⟨e, f⟩ | ⟨e, f⟩ | ⟨e1, e2, e3, e4, f⟩
  ·
   simp only [if_pos e, if_pos s5]
   exact hnext _ (by rw [bytes_append, f]; rfl)
  ·
   simp only [if_neg (show ¬ o = 38 by omega), if_pos e, if_pos s4]
   exact hnext _ (by rw [bytes_append, f]; rfl)
  ·
   simp only [if_neg (show ¬ o = 38 by omega), if_neg (show ¬ o = 60 by omega), if_pos e, if_pos s4]
   exact hnext _ (by rw [bytes_append, f]; rfl)
  ·
   simp only [if_neg (show ¬ o = 38 by omega), if_neg (show ¬ o = 60 by omega), if_neg (show ¬ o = 62 by omega), if_pos e, if_pos s6]
   exact hnext _ (by rw [bytes_append, f]; rfl)
  ·
   have hxe : bytesOf (s.extract ((pre.length : Int)).toNat (((pre.length + 1 : Nat) : Int)).toNat) = [o] := by
    rw [bytes_extract, Int.toNat_natCast, Int.toNat_natCast, h, List.drop_left' rfl, Nat.add_sub_cancel_left]
    rfl
   have hxs : (s.extract ((pre.length : Int)).toNat (((pre.length + 1 : Nat) : Int)).toNat).size = 1 := by rw [size_bytes, hxe]; rfl
   simp only [if_neg e1, if_neg e2, if_neg e3, if_neg e4, if_pos c3, if_pos c4, hxs, if_pos s1]
   exact hnext _ (by rw [bytes_append, hxe, f])
theorem safe_ref (s : ByteArray) (hs : s.size ≤ 100000) : Ev (fun k => fanlightref09_safe.f k s) (escB s) := by
 unfold fanlightref09_safe.f
 exact safe_l0 s hs (bytesOf s) [] ⟨#[]⟩ rfl rfl
theorem mayIn_cnt {t : Tr} (h : MayIn t) : cntT t ≤ 256 := by
 have e := (walkT_ok t 1 (0, 0, 0) h).2.2
 have := (walk_range _ t (Nat.lt_succ_self _) 1 (0, 0, 0) ⟨by decide, by decide⟩).2
 rw [e] at this
 simp only at this
 omega
theorem pre_size {x : ByteArray} {R T : List Int} (h : bytesOf x ++ R = T) (hT : T.length ≤ 5120000) : x.size + R.length ≤ 5120000 := by
 have := congrArg List.length h
 rw [List.length_append, bytesOf_length] at this
 omega
def tailP (t : Tr) : List Int := 60 :: 47 :: (bytesOf t.f0 ++ [62])
def PrIs (t : Tr) : Prop := MayIn t → Ev (fun k => fanlightref09_printed.f k t.f0 t.f1 t.f2 t.f3 t.f4) (prS t)
theorem printed_l1 (t : Tr) (ih : ∀ x ∈ t.f4, PrIs x) (hm : MayIn t) (hT : (plT t).length ≤ 5120000) (h16 : t.f4.length ≤ 16) : ∀ (rest pre : List Tr) (x3 : ByteArray), t.f4 = pre ++ rest → bytesOf x3 ++ (plL rest ++ tailP t) = plT t →
  Ev (fun k => fanlightref09_printed.l1 k x3 (pre.length : Int) t.f0 t.f1 t.f2 t.f3 t.f4) (prS t)
 | [], pre, x3, h, hx => by
  have hlen : t.f4.length = pre.length := by rw [h]; simp
  have hsz := pre_size hx hT
  rw [plL, List.nil_append] at hx hsz
  have ht : (tailP t).length = t.f0.size + 3 := by unfold tailP; simp only [List.length_cons, List.length_append, bytesOf_length, List.length_nil]
  have e1 : (x3 ++ (⟨#[60, 47]⟩ : ByteArray)).size = x3.size + 2 := by rw [ByteArray.size_append]; rfl
  have e2 : ((x3 ++ (⟨#[60, 47]⟩ : ByteArray)) ++ t.f0).size = x3.size + 2 + t.f0.size := by rw [ByteArray.size_append, e1]
  have c0 : ¬ (pre.length : Int) < (t.f4.length : Int) := by omega
  have c1 : x3.size + 2 ≤ 9223372036854775807 := by omega
  have c2 : (x3 ++ (⟨#[60, 47]⟩ : ByteArray)).size + t.f0.size ≤ 9223372036854775807 := by omega
  have c3 : ((x3 ++ (⟨#[60, 47]⟩ : ByteArray)) ++ t.f0).size + 1 ≤ 9223372036854775807 := by omega
  have e : (((x3 ++ (⟨#[60, 47]⟩ : ByteArray)) ++ t.f0) ++ (⟨#[62]⟩ : ByteArray)) = prS t := by
   apply bytes_inj
   rw [prS_bytes, ← hx, bytes_append, bytes_append, bytes_append, List.append_assoc, List.append_assoc]
   rfl
  refine Ev.step (fun k => rfl) ?_
  simp only [fanlightref09_printed.l1, if_neg c0, if_pos c1, if_pos c2, if_pos c3, e]
  exact Ev.now _
 | x :: rest, pre, x3, h, hx => by
  have hlen : t.f4.length = pre.length + 1 + rest.length := by rw [h]; simp; omega
  have hsz := pre_size hx hT
  have hr := rdT_at h
  have hxm : x ∈ t.f4 := by rw [h]; simp
  have hpx : (prS x).size = (plT x).length := by rw [size_bytes, prS_bytes]
  rw [plL] at hx hsz
  have hln : (plT x).length ≤ ((plT x ++ plL rest) ++ tailP t).length := by simp only [List.length_append]; omega
  have c1 : (pre.length : Int) < (t.f4.length : Int) := by omega
  have c2 : (0 : Int) ≤ (pre.length : Int) := by omega
  have c3 : x3.size + (prS x).size ≤ 9223372036854775807 := by omega
  have hnext := printed_l1 t ih hm hT h16 rest (pre ++ [x]) (x3 ++ prS x) (by rw [h]; simp) (by rw [← hx, bytes_append, prS_bytes, List.append_assoc, List.append_assoc])
  rw [List.length_append, List.length_singleton] at hnext
  have hw := wN (n := pre.length) (by omega)
  refine Ev.step (fun k => rfl) ?_
  simp only [fanlightref09_printed.l1, if_pos c1, if_pos c2, hr, hw]
  refine Ev.bind (ih x hxm (mayIn_kid hm hxm)) ?_
  simp only [if_pos c3]
  exact hnext
theorem printed_l0 (t : Tr) (ih : ∀ x ∈ t.f4, PrIs x) (hm : MayIn t) (hT : (plT t).length ≤ 5120000) (h16 : t.f4.length ≤ 16) (h3 : t.f3.length ≤ 16) (ha : ∀ a ∈ t.f3, a.f1.size ≤ 128) : ∀ (rest pre : List S91) (x3 : ByteArray), t.f3 = pre ++ rest → bytesOf x3 ++ (atL (rest.map fun a => (bytesOf a.f0, bytesOf a.f1)) ++ 62 :: (plL t.f4 ++ tailP t)) = plT t →
  Ev (fun k => fanlightref09_printed.l0 k x3 (pre.length : Int) t.f0 t.f1 t.f2 t.f3 t.f4) (prS t)
 | [], pre, x3, h, hx => by
  have hlen : t.f3.length = pre.length := by rw [h]; simp
  have hsz := pre_size hx hT
  have c0 : ¬ (pre.length : Int) < (t.f3.length : Int) := by omega
  have c1 : x3.size + 1 ≤ 9223372036854775807 := by omega
  have hnext := printed_l1 t ih hm hT h16 t.f4 [] (x3 ++ (⟨#[62]⟩ : ByteArray)) rfl (by
   rw [← hx, bytes_append, List.append_assoc]
   rfl)
  refine Ev.step (fun k => rfl) ?_
  simp only [fanlightref09_printed.l0, if_neg c0, if_pos c1]
  exact hnext
 | a :: rest, pre, x3, h, hx => by
  have hlen : t.f3.length = pre.length + 1 + rest.length := by rw [h]; simp; omega
  have hsz := pre_size hx hT
  have hr := rdA_at h
  have ham : a ∈ t.f3 := by rw [h]; simp
  have has := ha a ham
  rw [List.map_cons, atL_cons] at hx hsz
  have hes : (escB a.f1).size = (escLs (bytesOf a.f1)).length := by rw [size_bytes, bytes_esc]
  simp only [List.length_cons, List.length_append, bytesOf_length] at hsz
  have e1 : (x3 ++ (⟨#[32]⟩ : ByteArray)).size = x3.size + 1 := by rw [ByteArray.size_append]; rfl
  have e2 : ((x3 ++ (⟨#[32]⟩ : ByteArray)) ++ a.f0).size = x3.size + 1 + a.f0.size := by rw [ByteArray.size_append, e1]
  have e3 : (((x3 ++ (⟨#[32]⟩ : ByteArray)) ++ a.f0) ++ (⟨#[61, 34]⟩ : ByteArray)).size = x3.size + 1 + a.f0.size + 2 := by rw [ByteArray.size_append, e2]; rfl
  have e4 : ((((x3 ++ (⟨#[32]⟩ : ByteArray)) ++ a.f0) ++ (⟨#[61, 34]⟩ : ByteArray)) ++ escB a.f1).size = x3.size + 1 + a.f0.size + 2 + (escB a.f1).size := by rw [ByteArray.size_append, e3]
  have c1 : (pre.length : Int) < (t.f3.length : Int) := by omega
  have c2 : (0 : Int) ≤ (pre.length : Int) := by omega
  have d1 : x3.size + 1 ≤ 9223372036854775807 := by omega
  have d2 : (x3 ++ (⟨#[32]⟩ : ByteArray)).size + a.f0.size ≤ 9223372036854775807 := by omega
  have d3 : ((x3 ++ (⟨#[32]⟩ : ByteArray)) ++ a.f0).size + 2 ≤ 9223372036854775807 := by omega
  have d4 : (((x3 ++ (⟨#[32]⟩ : ByteArray)) ++ a.f0) ++ (⟨#[61, 34]⟩ : ByteArray)).size + (escB a.f1).size ≤ 9223372036854775807 := by omega
  have d5 : ((((x3 ++ (⟨#[32]⟩ : ByteArray)) ++ a.f0) ++ (⟨#[61, 34]⟩ : ByteArray)) ++ escB a.f1).size + 1 ≤ 9223372036854775807 := by omega
  have hsafe := safe_ref a.f1 (by omega)
  have hnext := printed_l0 t ih hm hT h16 h3 ha rest (pre ++ [a]) (((((x3 ++ (⟨#[32]⟩ : ByteArray)) ++ a.f0) ++ (⟨#[61, 34]⟩ : ByteArray)) ++ escB a.f1) ++ (⟨#[34]⟩ : ByteArray)) (by rw [h]; simp) (by
   rw [← hx, bytes_append, bytes_append, bytes_append, bytes_append, bytes_append, bytes_esc]
   simp [bytesOf])
  rw [List.length_append, List.length_singleton] at hnext
  have hw := wN (n := pre.length) (by omega)
  refine Ev.step (fun k => rfl) ?_
  simp only [fanlightref09_printed.l0, if_pos c1, if_pos c2, if_pos d1, hr, hw, if_pos d2, if_pos d3]
  refine Ev.bind hsafe ?_
  simp only [if_pos d4, if_pos d5]
  exact hnext
theorem printed_ref (t : Tr) : PrIs t := by
 refine treeInd ?_ t
 intro t ih hm
 have hn := mayIn_node hm
 have hp := node_plain hn
 have h16 := (nodeE_zero hn).2.2
 have hT : (plT t).length ≤ 5120000 := by
  have h1 := print_len t hm
  have h2 := mayIn_cnt hm
  omega
 refine Ev.step (fun k => rfl) ?_
 simp only [fanlightref09_printed.f]
 cases he : isT t with
 | true =>
  obtain ⟨_, h2, _⟩ := plain_text hp he
  have e : prS t = escB t.f2 := bytes_inj (by rw [prS_bytes, plT_eq, if_pos he, bytes_esc])
  simp only [if_pos (emp_iff.2 he)]
  rw [e]
  exact Ev.bind (safe_ref t.f2 (by omega)) (Ev.now _)
 | false =>
  obtain ⟨l1, l2, _, l4, l5⟩ := plain_elem hp he
  have ha : ∀ a ∈ t.f3, a.f1.size ≤ 128 := fun a ha => (attrs_of l5 a ha).2
  have h0 := (letters_of l1).2.2
  have hpl : plT t = 60 :: (bytesOf t.f0 ++ (atL (keyed t.f1 t.f3) ++ 62 :: (plL t.f4 ++ tailP t))) := by
   rw [plT_eq, if_neg (show ¬ (isT t = true) by rw [he]; decide)]
   rfl
  have e0 : ((⟨#[60]⟩ : ByteArray) ++ t.f0).size = 1 + t.f0.size := by rw [ByteArray.size_append]; rfl
  have c1 : 1 + t.f0.size ≤ 9223372036854775807 := by omega
  simp only [if_neg (show ¬ t.f0.toList = ([] : List UInt8) by rw [emp_iff, show t.f0.toList.isEmpty = false from he]; decide), if_pos c1]
  cases hk : t.f1.toList.isEmpty with
  | true =>
   simp only [if_pos (emp_iff.2 hk)]
   refine Ev.step (fun k => rfl) ?_
   simp only [fanlightref09_printed.j0]
   refine printed_l0 t ih hm hT h16 l4 ha t.f3 [] _ rfl ?_
   rw [hpl, bytes_append]
   unfold keyed
   rw [if_pos hk, List.nil_append]
   simp [bytesOf]
  | false =>
   have hes : (escB t.f1).size = (escLs (bytesOf t.f1)).length := by rw [size_bytes, bytes_esc]
   have hel := esc_len (bytesOf t.f1)
   rw [bytesOf_length] at hel
   have e1 : (((⟨#[60]⟩ : ByteArray) ++ t.f0) ++ (⟨#[32, 107, 101, 121, 61, 34]⟩ : ByteArray)).size = 1 + t.f0.size + 6 := by rw [ByteArray.size_append, e0]; rfl
   have e2 : ((((⟨#[60]⟩ : ByteArray) ++ t.f0) ++ (⟨#[32, 107, 101, 121, 61, 34]⟩ : ByteArray)) ++ escB t.f1).size = 1 + t.f0.size + 6 + (escB t.f1).size := by rw [ByteArray.size_append, e1]
   have c2 : ((⟨#[60]⟩ : ByteArray) ++ t.f0).size + 6 ≤ 9223372036854775807 := by omega
   have c3 : (((⟨#[60]⟩ : ByteArray) ++ t.f0) ++ (⟨#[32, 107, 101, 121, 61, 34]⟩ : ByteArray)).size + (escB t.f1).size ≤ 9223372036854775807 := by omega
   have c4 : ((((⟨#[60]⟩ : ByteArray) ++ t.f0) ++ (⟨#[32, 107, 101, 121, 61, 34]⟩ : ByteArray)) ++ escB t.f1).size + 1 ≤ 9223372036854775807 := by omega
   simp only [if_neg (show ¬ t.f1.toList = ([] : List UInt8) by rw [emp_iff, hk]; decide), if_pos c2]
   refine Ev.bind (safe_ref t.f1 (by omega)) ?_
   simp only [if_pos c3, if_pos c4]
   refine Ev.step (fun k => rfl) ?_
   simp only [fanlightref09_printed.j0]
   refine printed_l0 t ih hm hT h16 l4 ha t.f3 [] _ rfl ?_
   rw [hpl, bytes_append, bytes_append, bytes_append, bytes_append, bytes_esc]
   unfold keyed
   rw [if_neg (show ¬ t.f1.toList.isEmpty = true by rw [hk]; decide), List.singleton_append, atL_cons]
   simp [bytesOf, KEY]
theorem print_ref (t : Tr) : Ev (fun k => fanlightref09_Print.f k t.f0 t.f1 t.f2 t.f3 t.f4) (if (sizeR t).2.2 = 0 then prS t else ⟨#[]⟩, (sizeR t).2.2) := by
 unfold fanlightref09_Print.f
 refine Ev.bind (check_ref t) ?_
 by_cases h : (sizeR t).2.2 = 0
 ·
  have hm : May t := by
   by_cases hm : May t
   ·
    exact hm
   ·
    exact absurd h (sizeR_not hm).2.2
  simp only [h, if_true]
  exact Ev.bind (printed_ref t hm.2) (Ev.now _)
 ·
  simp only [if_neg h]
  exact Ev.now _
theorem texts_ref0 (t : Tr) : MayIn t → Ev (fun k => fanlightref09_texts.f k t.f0 t.f1 t.f2 t.f3 t.f4) (cat (texT t)) := by
 refine treeInd (p := fun t => MayIn t → Ev (fun k => fanlightref09_texts.f k t.f0 t.f1 t.f2 t.f3 t.f4) (cat (texT t))) ?_ t
 intro t ih hm
 have hn := mayIn_node hm
 have h16 := (nodeE_zero hn).2.2
 have hf2 := (fit_parts (mayIn_fit t hm)).2.1
 have hcs : (cat (texT t)).size ≤ 25600000 := by
  have h1 := cat_size (texT t)
  have h2 := texT_len t
  have h3 := mayIn_cnt hm
  omega
 have hl : ∀ (rest pre : List Tr) (x3 : ByteArray), t.f4 = pre ++ rest → x3 ++ cat (texL rest) = cat (texT t) → Ev (fun k => fanlightref09_texts.l0 k x3 (pre.length : Int) t.f0 t.f1 t.f2 t.f3 t.f4) (cat (texT t)) := by
  intro rest
  induction rest with
  | nil =>
   intro pre x3 h hx
   have hlen : t.f4.length = pre.length := by rw [h]; simp
   have e : x3 = cat (texT t) := by
    rw [texL] at hx
    rw [← hx]
    apply bytes_inj
    rw [bytes_append, cat_bytes, List.flatMap_nil, List.append_nil]
   refine Ev.step (fun k => rfl) ?_
   simp only [fanlightref09_texts.l0, if_neg (show ¬ (pre.length : Int) < (t.f4.length : Int) by omega), e]
   exact Ev.now _
  | cons x rest ihr =>
   intro pre x3 h hx
   have hlen : t.f4.length = pre.length + 1 + rest.length := by rw [h]; simp; omega
   have hr := rdT_at h
   have hxm : x ∈ t.f4 := by rw [h]; simp
   rw [texL, cat_append] at hx
   have hx2 : (x3 ++ cat (texT x)) ++ cat (texL rest) = cat (texT t) := by rw [← hx]; exact bytes_inj (by simp only [bytes_append, List.append_assoc])
   have hsz := congrArg ByteArray.size hx2
   rw [ByteArray.size_append, ByteArray.size_append] at hsz
   have c1 : (pre.length : Int) < (t.f4.length : Int) := by omega
   have c2 : (0 : Int) ≤ (pre.length : Int) := by omega
   have c3 : x3.size + (cat (texT x)).size ≤ 9223372036854775807 := by omega
   have hnext := ihr (pre ++ [x]) (x3 ++ cat (texT x)) (by rw [h]; simp) hx2
   rw [List.length_append, List.length_singleton] at hnext
   have hw := wN (n := pre.length) (by omega)
   refine Ev.step (fun k => rfl) ?_
   simp only [fanlightref09_texts.l0, if_pos c1, if_pos c2, hr, hw]
   refine Ev.bind (ih x hxm (mayIn_kid hm hxm)) ?_
   simp only [if_pos c3]
   exact hnext
 refine Ev.step (fun k => rfl) ?_
 simp only [fanlightref09_texts.f]
 refine hl t.f4 [] t.f2 rfl ?_
 apply bytes_inj
 rw [bytes_append, texT_eq, cat_bytes, cat_bytes, List.flatMap_cons, mkX_val hf2]
theorem texts_ref (t : Tr) : Ev (fun k => fanlightref09_Texts.f k t.f0 t.f1 t.f2 t.f3 t.f4) (if (sizeR t).2.2 = 0 then cat (texT t) else ⟨#[]⟩, (sizeR t).2.2) := by
 unfold fanlightref09_Texts.f
 refine Ev.bind (check_ref t) ?_
 by_cases h : (sizeR t).2.2 = 0
 ·
  have hm : May t := by
   by_cases hm : May t
   ·
    exact hm
   ·
    exact absurd h (sizeR_not hm).2.2
  simp only [h, if_true]
  exact Ev.bind (texts_ref0 t hm.2) (Ev.now _)
 ·
  simp only [if_neg h]
  exact Ev.now _
theorem check_prog {t : Tr} (hok : okL t.f4 = true) : tree_Check.f t.f0 t.f1 t.f2 t.f3 t.f4 = some (sizeR t).2.2 := by
 unfold tree_Check.f
 rw [size_f hok]
 rfl
theorem print_prog {t : Tr} (hok : okL t.f4 = true) : tree_Print.f t.f0 t.f1 t.f2 t.f3 t.f4 = some (if (sizeR t).2.2 = 0 then prS t else ⟨#[]⟩, (sizeR t).2.2) := by
 by_cases hm : May t
 ·
  rw [print_may hm hok, sizeR_may hm]
  rfl
 ·
  obtain ⟨_, _, h3⟩ := sizeR_not hm
  unfold tree_Print.f
  rw [check_prog hok]
  simp only [Option.bind_some, if_neg h3]
theorem texts_prog {t : Tr} (hok : okL t.f4 = true) : tree_Texts.f t.f0 t.f1 t.f2 t.f3 t.f4 = some (if (sizeR t).2.2 = 0 then cat (texT t) else ⟨#[]⟩, (sizeR t).2.2) := by
 by_cases hm : May t
 ·
  rw [texts_may hm hok, sizeR_may hm]
  rfl
 ·
  obtain ⟨_, _, h3⟩ := sizeR_not hm
  rw [texts_not hm hok, if_neg h3]
end Go.Proofs.YtloocmeckpoflaaGreat.TreeShow
