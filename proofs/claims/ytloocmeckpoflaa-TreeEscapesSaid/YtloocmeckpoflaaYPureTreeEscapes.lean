/- What the print's words and the walks are, as far as this claim names them. -/
import Derived.Test.YtloocmeckpoflaaYTreeFit
import Derived.Test.YtloocmeckpoflaaYTreeEv
import Derived.Test.YtloocmeckpoflaaYD18
namespace Go.Proofs.Ytloocmeckpoflaa.PureEscapes
set_option linter.unusedVariables false
set_option linter.unusedSimpArgs false
open Go.RowKit Go.Proofs.Ytloocmeckpoflaa.D Go.Proofs.YtloocmeckpoflaaW.PrintWords Go.Proofs.YtloocmeckpoflaaW.PrintLast Go.Proofs.YtloocmeckpoflaaW.PrintMore TreeMath TreePr TreeFit TreeEv
theorem bytes_extract (s : ByteArray) (a b : Nat) : bytesOf (s.extract a b) = ((bytesOf s).drop a).take (b - a) := by
 unfold bytesOf
 rw [ByteArray.data_extract, Array.toList_extract, List.extract_eq_take_drop, List.map_take, List.map_drop]
theorem toList_bytes {a b : ByteArray} : a.toList = b.toList ↔ bytesOf a = bytesOf b := by
 rw [toList_iff]
 exact ⟨fun h => by rw [h], bytes_inj⟩
theorem bt_is {E : ByteArray} {i : Nat} {c : Int} {X : List Int} (h : (bytesOf E).drop i = c :: X) : bt E (i : Int) = c := by
 have h1 : (bytesOf E)[i]? = some c := by
  have := congrArg (fun l => l[0]?) h
  simpa using this
 have hlt : i < E.size := by
  rw [← bytesOf_length]
  exact (List.getElem?_eq_some_iff.1 h1).1
 have hd : i < E.data.size := hlt
 unfold bytesOf at h1
 rw [List.getElem?_map, Array.getElem?_toList, Array.getElem?_eq_getElem hd, Option.map_some] at h1
 unfold bt
 rw [dif_pos (show ((i : Int).toNat) < E.size by rw [Int.toNat_natCast]; exact hlt)]
 exact Option.some.inj h1
def nms : List ByteArray := [(⟨#[38, 97, 109, 112, 59]⟩ : ByteArray), (⟨#[38, 108, 116, 59]⟩ : ByteArray), (⟨#[38, 103, 116, 59]⟩ : ByteArray), (⟨#[38, 113, 117, 111, 116, 59]⟩ : ByteArray)]
def chs : List Int := [38, 60, 62, 34]
theorem nm_is : ∀ q : Nat, q < 4 → bytesOf (rdOf ByteArray.empty nms (q : Int)) = escOne (chs.getD q 0) ∧ bytesOf ((⟨#[38, 60, 62, 34]⟩ : ByteArray).extract q (q + 1)) = [chs.getD q 0] := by
 intro q hq
 rcases (by omega : q = 0 ∨ q = 1 ∨ q = 2 ∨ q = 3) with rfl | rfl | rfl | rfl <;> exact ⟨by kernel_rfl, by kernel_rfl⟩
theorem ch_of {o : Int} (h : o = 38 ∨ o = 60 ∨ o = 62 ∨ o = 34) : ∃ j, j < 4 ∧ chs.getD j 0 = o := by
 rcases h with rfl | rfl | rfl | rfl
 ·
  exact ⟨0, by decide, rfl⟩
 ·
  exact ⟨1, by decide, rfl⟩
 ·
  exact ⟨2, by decide, rfl⟩
 ·
  exact ⟨3, by decide, rfl⟩
theorem ch_inj {a b : Nat} (ha : a < 4) (hb : b < 4) (h : chs.getD a 0 = chs.getD b 0) : a = b := by
 rcases (by omega : a = 0 ∨ a = 1 ∨ a = 2 ∨ a = 3) with rfl | rfl | rfl | rfl <;> rcases (by omega : b = 0 ∨ b = 1 ∨ b = 2 ∨ b = 3) with rfl | rfl | rfl | rfl <;> first | rfl | (exfalso; revert h; decide)
theorem found (s E x6 : ByteArray) (i : Int) (r : Bool) (hr : Ev (fun k => fanlightlaw09_TreeEscapes.l0 k s E nms x6 i) r) (q : Nat) : Ev (fun k => fanlightlaw09_TreeEscapes.l1 k s E nms x6 i true (q : Int)) r := by
 refine Ev.step (fun k => rfl) ?_
 simp only [fanlightlaw09_TreeEscapes.l1, Bool.not_true]
 by_cases h : (q : Int) < 4
 ·
  simp only [if_pos h]
  refine Ev.step (fun k => rfl) ?_
  simp only [fanlightlaw09_TreeEscapes.j4, Bool.false_eq_true, if_false, if_true]
  exact hr
 ·
  simp only [if_neg h]
  refine Ev.step (fun k => rfl) ?_
  simp only [fanlightlaw09_TreeEscapes.j4, Bool.false_eq_true, if_false, if_true]
  exact hr
theorem names (s E x6 : ByteArray) (i j : Nat) (o : Int) (X : List Int) (r : Bool) (hE : E.size ≤ 100000) (hx6 : x6.size ≤ 100000) (hj : j < 4) (ho : chs.getD j 0 = o) (hR : (bytesOf E).drop i = escOne o ++ X)
  (hr : ∀ y6 : ByteArray, bytesOf y6 = bytesOf x6 ++ [o] → Ev (fun k => fanlightlaw09_TreeEscapes.l0 k s E nms y6 ((i + (escOne o).length : Nat) : Int)) r) :
  ∀ (d q : Nat), j - q = d → q ≤ j → Ev (fun k => fanlightlaw09_TreeEscapes.l1 k s E nms x6 (i : Int) false (q : Int)) r := by
 have hlenR : E.size = i + (escOne o).length + X.length ∨ E.size < i := by
  have := congrArg List.length hR
  rw [List.length_drop, bytesOf_length, List.length_append] at this
  have h1 := (escOne_len o).1
  omega
 have h1 := (escOne_len o).1
 have hlen : E.size = i + (escOne o).length + X.length := by
  rcases hlenR with h | h
  ·
   exact h
  ·
   exfalso
   have := congrArg List.length hR
   rw [List.length_drop, bytesOf_length, List.length_append] at this
   omega
 intro d
 induction d with
 | zero =>
  intro q hd hq
  obtain rfl : q = j := by omega
  obtain ⟨n1, n2⟩ := nm_is q hj
  rw [ho] at n1 n2
  have hns : (rdOf ByteArray.empty nms (q : Int)).size = (escOne o).length := by rw [← bytesOf_length, n1]
  refine Ev.step (fun k => rfl) ?_
  simp only [fanlightlaw09_TreeEscapes.l1, Bool.not_false, if_pos (show (q : Int) < 4 by omega)]
  refine Ev.step (fun k => rfl) ?_
  have om17 : (0 : Int) ≤ (q : Int) := by omega
  have om18 : (q : Int) < (nms.length : Int) := by show (q : Int) < 4; omega
  have om19 : (E.size : Int) - (i : Int) ≥ ((escOne o).length : Int) := by omega
  have om20 : (0 : Int) ≤ (i : Int) := by omega
  have om21 : (i : Int) ≤ ((i + (escOne o).length : Nat) : Int) := by omega
  have om22 : ((i + (escOne o).length : Nat) : Int) ≤ (E.size : Int) := by omega
  have om23 : (q : Int) ≤ ((q + 1 : Nat) : Int) := by omega
  have om24 : ((q + 1 : Nat) : Int) ≤ 4 := by omega
  have om25 : x6.size + 1 ≤ 9223372036854775807 := by omega
  have w1 : wrap64 ((E.size : Int) - (i : Int)) = (E.size : Int) - (i : Int) := by unfold wrap64; omega
  have w2 : wrap64 ((i : Int) + ((escOne o).length : Int)) = ((i + (escOne o).length : Nat) : Int) := by have := (escOne_len o).2; unfold wrap64; omega
  have w3 : wrap64 ((q : Int) + 1) = ((q + 1 : Nat) : Int) := by unfold wrap64; omega
  have hm : (E.extract ((i : Int)).toNat (((i + (escOne o).length : Nat) : Int)).toNat).toList = (rdOf ByteArray.empty nms (q : Int)).toList := by
   rw [toList_bytes, n1, bytes_extract, Int.toNat_natCast, Int.toNat_natCast, hR, Nat.add_sub_cancel_left, List.take_left']
   rfl
  have hx : bytesOf ((⟨#[38, 60, 62, 34]⟩ : ByteArray).extract ((q : Int)).toNat (((q + 1 : Nat) : Int)).toNat) = [o] := by
   rw [Int.toNat_natCast, Int.toNat_natCast]
   exact n2
  have hxs : ((⟨#[38, 60, 62, 34]⟩ : ByteArray).extract ((q : Int)).toNat (((q + 1 : Nat) : Int)).toNat).size = 1 := by rw [← bytesOf_length, hx]; rfl
  simp only [fanlightlaw09_TreeEscapes.j4, if_true, if_pos om17, if_pos om18, hns, w1, w2, w3, if_pos om19, if_pos om20, if_pos om21, if_pos om22, if_pos hm, if_pos om23, if_pos om24, hxs, if_pos om25]
  exact found s E _ _ r (hr _ (by rw [bytes_append, hx])) (q + 1)
 | succ d ih =>
  intro q hd hq
  have hq4 : q < 4 := by omega
  obtain ⟨n1, n2⟩ := nm_is q hq4
  have hne : chs.getD q 0 ≠ o := fun h => by
   have := ch_inj hq4 hj (h.trans ho.symm)
   omega
  have hnext := ih (q + 1) (by omega) (by omega)
  have hl := escOne_len (chs.getD q 0)
  have hns : (rdOf ByteArray.empty nms (q : Int)).size = (escOne (chs.getD q 0)).length := by rw [← bytesOf_length, n1]
  refine Ev.step (fun k => rfl) ?_
  simp only [fanlightlaw09_TreeEscapes.l1, Bool.not_false, if_pos (show (q : Int) < 4 by omega)]
  refine Ev.step (fun k => rfl) ?_
  have om12 : (0 : Int) ≤ (q : Int) := by omega
  have om13 : (q : Int) < (nms.length : Int) := by show (q : Int) < 4; omega
  have om14 : (0 : Int) ≤ (i : Int) := by omega
  have om15 : (i : Int) ≤ ((i + (escOne (chs.getD q 0)).length : Nat) : Int) := by omega
  have om16 : (E.size : Int) - (i : Int) ≥ ((escOne (chs.getD q 0)).length : Int) → ((i + (escOne (chs.getD q 0)).length : Nat) : Int) ≤ (E.size : Int) := fun h => by omega
  have w1 : wrap64 ((E.size : Int) - (i : Int)) = (E.size : Int) - (i : Int) := by unfold wrap64; omega
  have w2 : wrap64 ((i : Int) + ((escOne (chs.getD q 0)).length : Int)) = ((i + (escOne (chs.getD q 0)).length : Nat) : Int) := by unfold wrap64; omega
  have w3 : wrap64 ((q : Int) + 1) = ((q + 1 : Nat) : Int) := by unfold wrap64; omega
  simp only [fanlightlaw09_TreeEscapes.j4, if_true, if_pos om12, if_pos om13, hns, w1, w2, w3]
  by_cases hfit : (E.size : Int) - (i : Int) ≥ ((escOne (chs.getD q 0)).length : Int)
  ·
   have hm : ¬ (E.extract ((i : Int)).toNat (((i + (escOne (chs.getD q 0)).length : Nat) : Int)).toNat).toList = (rdOf ByteArray.empty nms (q : Int)).toList := by
    rw [toList_bytes, n1, bytes_extract, Int.toNat_natCast, Int.toNat_natCast, hR, Nat.add_sub_cancel_left]
    intro h
    have e := List.take_append_drop (escOne (chs.getD q 0)).length (escOne o ++ X)
    rw [h] at e
    exact hne (escOne_inj e).1
   simp only [if_pos hfit, if_pos om14, if_pos om15, if_pos (om16 hfit), if_neg hm]
   exact hnext
  ·
   simp only [if_neg hfit]
   exact hnext
theorem loop (s E : ByteArray) (hE : bytesOf E = escLs (bytesOf s)) (hs : s.size ≤ 1000) : ∀ (rest done : List Int) (x6 : ByteArray), bytesOf s = done ++ rest → bytesOf x6 = done →
  Ev (fun k => fanlightlaw09_TreeEscapes.l0 k s E nms x6 (((escLs done).length : Nat) : Int)) true := by
 have hEs : E.size = (escLs (bytesOf s)).length := by rw [← bytesOf_length, hE]
 have hEl : E.size ≤ 6000 := by
  have := esc_len (bytesOf s)
  rw [bytesOf_length] at this
  omega
 intro rest
 induction rest with
 | nil =>
  intro done x6 h h6
  rw [List.append_nil] at h
  refine Ev.step (fun k => rfl) ?_
  simp only [fanlightlaw09_TreeEscapes.l0, if_neg (show ¬ (((escLs done).length : Nat) : Int) < (E.size : Int) by rw [hEs, h]; omega)]
  rw [show (x6.toList == s.toList) = true from by rw [beq_iff_eq, toList_bytes, h6, h]]
  exact Ev.now _
 | cons o rest ih =>
  intro done x6 h h6
  have he : escLs (bytesOf s) = escLs done ++ (escOne o ++ escLs rest) := by
   rw [h]
   simp [escLs]
  have hR : (bytesOf E).drop (escLs done).length = escOne o ++ escLs rest := by rw [hE, he, List.drop_left']; rfl
  have hlen : E.size = (escLs done).length + ((escOne o).length + (escLs rest).length) := by rw [hEs, he, List.length_append, List.length_append]
  have h1 := escOne_len o
  have h6s : x6.size ≤ 1000 := by
   rw [← bytesOf_length, h6]
   have := congrArg List.length h
   rw [bytesOf_length, List.length_append] at this
   omega
  have hnext : ∀ y6 : ByteArray, bytesOf y6 = bytesOf x6 ++ [o] → Ev (fun k => fanlightlaw09_TreeEscapes.l0 k s E nms y6 (((escLs done).length + (escOne o).length : Nat) : Int)) true := by
   intro y6 hy
   have := ih (done ++ [o]) y6 (by rw [h]; simp) (by rw [hy, h6])
   rw [escLs_snoc, List.length_append] at this
   exact this
  generalize hi : (escLs done).length = i at hR hlen hnext ⊢
  refine Ev.step (fun k => rfl) ?_
  simp only [fanlightlaw09_TreeEscapes.l0, if_pos (show (i : Int) < (E.size : Int) by omega), if_pos (show (0 : Int) ≤ (i : Int) by omega)]
  by_cases hsp : o = 38 ∨ o = 60 ∨ o = 62 ∨ o = 34
  ·
   have hb : bt E (i : Int) = 38 := by
    rcases hsp with rfl | rfl | rfl | rfl <;> exact bt_is (X := _) hR
   obtain ⟨j, hj, hjo⟩ := ch_of hsp
   have hnm := names s E x6 i j o (escLs rest) true (by omega) (by omega) hj hjo hR hnext j 0 (by omega) (by omega)
   simp only [hb, if_neg (show ¬ (38 : Int) = 60 by decide), if_neg (show ¬ (38 : Int) = 62 by decide)]
   rw [show ((38 : Int) == 34) = false from rfl]
   refine Ev.step (fun k => rfl) ?_
   simp only [fanlightlaw09_TreeEscapes.j2, Bool.false_eq_true, if_false, if_pos (show (i : Int) < (E.size : Int) by omega), if_pos (show (0 : Int) ≤ (i : Int) by omega), hb, if_true]
   exact hnm
  ·
   have e1 : escOne o = [o] := by
    rcases escOne_cases o with ⟨h, _⟩ | ⟨h, _⟩ | ⟨h, _⟩ | ⟨h, _⟩ | ⟨_, _, _, _, e⟩
    ·
     exact absurd (Or.inl h) hsp
    ·
     exact absurd (Or.inr (Or.inl h)) hsp
    ·
     exact absurd (Or.inr (Or.inr (Or.inl h))) hsp
    ·
     exact absurd (Or.inr (Or.inr (Or.inr h))) hsp
    ·
     exact e
   rw [e1] at hR hlen hnext
   have hl1 : ([o] : List Int).length = 1 := rfl
   rw [hl1] at hlen
   have hb : bt E (i : Int) = o := bt_is hR
   have n38 : ¬ o = 38 := fun h => hsp (Or.inl h)
   have n60 : ¬ o = 60 := fun h => hsp (Or.inr (Or.inl h))
   have n62 : ¬ o = 62 := fun h => hsp (Or.inr (Or.inr (Or.inl h)))
   have n34 : (o == 34) = false := beq_eq_false_iff_ne.2 (fun h => hsp (Or.inr (Or.inr (Or.inr h))))
   have om7 : (i : Int) < (E.size : Int) := by omega
   have om8 : (0 : Int) ≤ (i : Int) := by omega
   have om9 : (i : Int) ≤ ((i + 1 : Nat) : Int) := by omega
   have om10 : ((i + 1 : Nat) : Int) ≤ (E.size : Int) := by omega
   have om11 : x6.size + 1 ≤ 9223372036854775807 := by omega
   have w3 : wrap64 ((i : Int) + 1) = ((i + 1 : Nat) : Int) := by unfold wrap64; omega
   simp only [hb, if_neg n60, if_neg n62, n34]
   refine Ev.step (fun k => rfl) ?_
   have hx : bytesOf (E.extract ((i : Int)).toNat (((i + 1 : Nat) : Int)).toNat) = [o] := by
    rw [bytes_extract, Int.toNat_natCast, Int.toNat_natCast, hR, Nat.add_sub_cancel_left]
    rfl
   have hxs : (E.extract ((i : Int)).toNat (((i + 1 : Nat) : Int)).toNat).size = 1 := by rw [← bytesOf_length, hx]; rfl
   simp only [fanlightlaw09_TreeEscapes.j2, Bool.false_eq_true, if_false, if_pos om7, if_pos om8, hb, if_neg n38, w3, if_pos om9, if_pos om10, hxs, if_pos om11]
   exact hnext _ (by rw [bytes_append, hx])
def oneT (s : ByteArray) : Tr := ⟨⟨#[112]⟩, ⟨#[]⟩, ⟨#[]⟩, [], [⟨⟨#[]⟩, ⟨#[]⟩, s, [], []⟩]⟩
theorem one_may {s : ByteArray} (hs : s.size ≤ 128) : May (oneT s) := by
 have p0 : plainB ⟨#[112]⟩ ⟨#[]⟩ ⟨#[]⟩ [] = true := by kernel_rfl
 have e0 : (⟨#[]⟩ : ByteArray).toList.isEmpty = true := bytes_nil.1 rfl
 have e1 : (⟨#[112]⟩ : ByteArray).toList.isEmpty = false := by kernel_rfl
 have p1 : plainB ⟨#[]⟩ ⟨#[]⟩ s [] = true := by
  unfold plainB
  rw [if_pos (emp_iff.2 e0)]
  simp only [Bool.and_eq_true, decide_eq_true_eq]
  exact ⟨emp_iff.2 e0, hs, rfl⟩
 have hk : nodeE 1 ⟨⟨#[]⟩, ⟨#[]⟩, s, [], []⟩ 2 = 0 := by
  unfold nodeE
  rw [if_neg (by decide), if_neg (by decide), if_neg ?_, if_neg (by rw [dupK]; decide)]
  rintro (h | h | h)
  ·
   rw [p1] at h; cases h
  ·
   simp at h
  ·
   simp at h
 have hn : nodeE 0 (oneT s) 1 = 0 := by
  unfold nodeE oneT
  rw [if_neg (by decide), if_neg (by decide), if_neg ?_, if_neg ?_]
  ·
   rw [dupK, dupK]
   simp [e0]
  ·
   rintro (h | h | h)
   ·
    rw [p0] at h; cases h
   ·
    simp at h
   ·
    rw [e1] at h; cases h.1
 refine ⟨e1, ?_⟩
 rw [walkT_eq, if_pos rfl, if_pos hn]
 show (walkL [⟨⟨#[]⟩, ⟨#[]⟩, s, [], []⟩] 2 (1, mx 0 1, 0)).2.2 = 0
 rw [walkL, walkL, walkT_eq, if_pos rfl, if_pos hk, walkL]
theorem one_ok {s : ByteArray} : okL (oneT s).f4 = true := by
 show okL [⟨⟨#[]⟩, ⟨#[]⟩, s, [], []⟩] = true
 rw [okL, okT_eq, okL]
 show (decide ((⟨#[]⟩ : ByteArray).size ≤ maxLen) && (okL [] && true)) = true
 rw [okL]
 decide
theorem TreeEscapes (a0 : ByteArray) : ∃ k, fanlightlaw09_TreeEscapes.f k a0 = some true := by
 refine Ev.rounds ?_
 unfold fanlightlaw09_TreeEscapes.f
 rw [alive_is]
 simp only [Option.bind_some, if_true]
 obtain ⟨n, hn, hn1, hn2⟩ : ∃ n : Nat, mn (a0.size : Int) 128 = (n : Int) ∧ n ≤ a0.size ∧ n ≤ 128 := by
  refine ⟨(mn (a0.size : Int) 128).toNat, ?_, ?_, ?_⟩ <;> unfold mn <;> split <;> omega
 rw [hn]
 simp only [if_pos (show (0 : Int) ≤ (n : Int) by omega), if_pos (show (n : Int) ≤ (a0.size : Int) by omega), Int.toNat_natCast]
 have hs : (a0.extract 0 n).size ≤ 128 := by rw [← bytesOf_length, bytes_extract, List.length_take]; omega
 generalize a0.extract 0 n = s at hs ⊢
 have hm := one_may hs
 have hp := print_may hm one_ok
 rw [show tree_Print.f (⟨#[112]⟩ : ByteArray) (⟨#[]⟩ : ByteArray) (⟨#[]⟩ : ByteArray) [] [⟨⟨#[]⟩, ⟨#[]⟩, s, [], []⟩] = some (prS (oneT s), 0) from hp]
 simp only [Option.bind_some, fanlightlaw09_num.f, if_true]
 have hb : bytesOf (prS (oneT s)) = [60, 112, 62] ++ (escLs (bytesOf s) ++ [60, 47, 112, 62]) := by
  rw [prS_bytes, plT_eq, if_neg (show ¬ (isT (oneT s) = true) by unfold isT; rw [hm.1]; decide)]
  show 60 :: (bytesOf ⟨#[112]⟩ ++ (atL (keyed ⟨#[]⟩ []) ++ 62 :: (plL [⟨⟨#[]⟩, ⟨#[]⟩, s, [], []⟩] ++ 60 :: 47 :: (bytesOf ⟨#[112]⟩ ++ [62])))) = _
  rw [plL, plL, plT_eq, if_pos (isT_text _ _ _ _)]
  unfold keyed
  rw [if_pos (bytes_nil.1 rfl)]
  simp [atL, bytesOf]
 have hE := esc_len (bytesOf s)
 rw [bytesOf_length] at hE
 generalize prS (oneT s) = p at hb ⊢
 have hps : p.size = 7 + (escLs (bytesOf s)).length := by
  rw [← bytesOf_length, hb]
  simp only [List.length_append, List.length_cons, List.length_nil]
  omega
 have om1 : ¬ (p.size : Int) < 7 := by omega
 have om2 : (3 : Int) ≤ (p.size : Int) := by omega
 have om3 : (0 : Int) ≤ ((3 + (escLs (bytesOf s)).length : Nat) : Int) := by omega
 have om4 : ((3 + (escLs (bytesOf s)).length : Nat) : Int) ≤ (p.size : Int) := by omega
 have om5 : (3 : Int) ≤ ((3 + (escLs (bytesOf s)).length : Nat) : Int) := by omega
 have om6 : ((3 + (escLs (bytesOf s)).length : Nat) : Int) ≤ (p.size : Int) := by omega
 have c1 : (p.extract 0 3).toList = ([60, 112, 62] : List UInt8) := by
  rw [show ([60, 112, 62] : List UInt8) = (⟨#[60, 112, 62]⟩ : ByteArray).toList from by rw [ByteArray.toList_eq], toList_bytes, bytes_extract, hb]
  rfl
 have c2 : ((p.extract ((3 + (escLs (bytesOf s)).length : Nat) : Int).toNat p.size).toList != ([60, 47, 112, 62] : List UInt8)) = false := by
  rw [bne_eq_false_iff_eq, show ([60, 47, 112, 62] : List UInt8) = (⟨#[60, 47, 112, 62]⟩ : ByteArray).toList from by rw [ByteArray.toList_eq], toList_bytes, bytes_extract, hb, Int.toNat_natCast, hps, ← List.append_assoc, List.drop_left' (by rw [List.length_append]; rfl)]
  rw [show 7 + (escLs (bytesOf s)).length - (3 + (escLs (bytesOf s)).length) = 4 by omega]
  rfl
 have hx : bytesOf (p.extract 3 ((3 + (escLs (bytesOf s)).length : Nat) : Int).toNat) = escLs (bytesOf s) := by
  rw [bytes_extract, hb, Int.toNat_natCast, List.drop_left' (by rfl), show 3 + (escLs (bytesOf s)).length - 3 = (escLs (bytesOf s)).length by omega, List.take_left' rfl]
 have w4 : wrap64 ((p.size : Int) - 4) = ((3 + (escLs (bytesOf s)).length : Nat) : Int) := by unfold wrap64; omega
 simp only [if_neg om1, if_pos (show (0 : Int) ≤ 3 by decide), if_pos om2, if_pos c1, w4, if_pos om3, if_pos om4, c2]
 refine Ev.step (fun k => rfl) ?_
 simp only [fanlightlaw09_TreeEscapes.j0, Bool.false_eq_true, if_false, w4, if_pos om5, if_pos om6]
 exact loop s _ hx (by omega) (bytesOf s) [] ⟨#[]⟩ (by simp) (by simp [bytesOf])
end Go.Proofs.Ytloocmeckpoflaa.PureEscapes
