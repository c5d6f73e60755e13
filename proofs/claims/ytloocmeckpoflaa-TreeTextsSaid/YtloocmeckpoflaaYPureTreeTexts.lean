/- What the print's words and the walks are, as far as this claim names them. -/
import Derived.Test.YtloocmeckpoflaaYTreeTx
import Derived.Test.YtloocmeckpoflaaYTreeMore
import Derived.Test.YtloocmeckpoflaaYTreeEv
import Derived.Test.YtloocmeckpoflaaYD29
namespace Go.Proofs.Ytloocmeckpoflaa.PureTexts
set_option linter.unusedVariables false
set_option linter.unusedSimpArgs false
open Go.RowKit Go.Proofs.Ytloocmeckpoflaa.D Go.Proofs.YtloocmeckpoflaaW.PrintWords Go.Proofs.YtloocmeckpoflaaW.PrintLast Go.Proofs.YtloocmeckpoflaaW.PrintMore TreeMath TreePr TreeFit TreeTx TreeRef TreeMore TreeEv
def around (t : Tr) : Tr := ⟨⟨#[98]⟩, ⟨#[]⟩, ⟨#[]⟩, [], [t]⟩
theorem around_node (t : Tr) : nodeE 0 (around t) 1 = 0 := by
 have p0 : plainB ⟨#[98]⟩ ⟨#[]⟩ ⟨#[]⟩ [] = true := by kernel_rfl
 have e1 : (⟨#[98]⟩ : ByteArray).toList.isEmpty = false := by kernel_rfl
 unfold nodeE around
 rw [if_neg (by decide), if_neg (by decide), if_neg ?_, if_neg ?_]
 ·
  rw [dupK, dupK]
  simp
 ·
  rintro (h | h | h)
  ·
   rw [p0] at h; cases h
  ·
   simp at h
  ·
   rw [e1] at h; cases h.1
theorem around_walk (t : Tr) : (walkT (around t) 1 (0, 0, 0)).2.2 = (walkT t 2 (1, mx 0 1, 0)).2.2 := by
 rw [walkT_eq, if_pos rfl, if_pos (around_node t)]
 show (walkL [t] 2 (1, mx 0 1, 0)).2.2 = _
 rw [walkL, walkL]
theorem around_may {t : Tr} (h : May t) : May (around t) ↔ cntT t < 256 ∧ depT t < 8 := by
 have e1 : (⟨#[98]⟩ : ByteArray).toList.isEmpty = false := by kernel_rfl
 constructor
 ·
  intro ha
  have hw := ha.2
  rw [around_walk] at hw
  have h1 := walkT_deep t 2 _ hw
  have h2 := may_cnt ha
  have h3 : cntT (around t) = 1 + (cntT t + 0) := by rw [cntT_eq]; show 1 + cntL [t] = _; rw [cntL, cntL]
  constructor <;> omega
 ·
  intro hc
  refine ⟨e1, ?_⟩
  rw [around_walk]
  exact walkT_room t 1 2 (0, 0, 0) (1, mx 0 1, 0) h.2 rfl (by decide) (by decide) (by show 1 + cntT t ≤ 256; omega) (by omega)
theorem around_ok {t : Tr} (h : May t) (hok : okL t.f4 = true) : okL (around t).f4 = true := by
 obtain ⟨_, h2, _⟩ := plain_elem (node_plain (mayIn_node h.2)) h.1
 show okL [t] = true
 rw [okL, okL, okT_eq, hok, Bool.and_true, Bool.and_true, decide_eq_true_eq]
 unfold maxLen
 omega
theorem around_cat (t : Tr) : cat (texT (around t)) = cat (texT t) := by
 apply bytes_inj
 rw [cat_bytes, cat_bytes, texT_eq]
 show List.flatMap _ (mkX ⟨#[]⟩ :: texL [t]) = _
 rw [texL, texL, List.flatMap_cons, List.append_nil, mkX_val (by decide)]
 rfl
theorem endw (t : Tr) (h : May t) (hok : okL t.f4 = true) (k0 : Int) : Ev (fun k => (tree_Texts.f (⟨#[98]⟩ : ByteArray) (⟨#[]⟩ : ByteArray) (⟨#[]⟩ : ByteArray) ([] : List S53) (([(⟨t.f0, t.f1, t.f2, t.f3, t.f4⟩ : S25)] : List S25))).bind fun bt211 => ((fanlightref09_Size.f k t.f0 t.f1 t.f2 t.f3 t.f4).bind fun bt213 => (if bt213.1 ≥ 256 then (fanlightlaw09_TreeTexts.j1 k (cat (texT t)) (cat (texL t.f4)) bt211.1 bt211.2 true) else (fanlightlaw09_TreeTexts.j1 k (cat (texT t)) (cat (texL t.f4)) bt211.1 bt211.2 (decide (bt213.2.1 ≥ 8)))))) true := by
 have hs : ((cat (texT t)).toList = (cat (texL t.f4)).toList) := by rw [cat_elem h.2 h.1]
 have hsz := size_ref t
 rw [sizeR_may h] at hsz
 rw [show (⟨t.f0, t.f1, t.f2, t.f3, t.f4⟩ : S25) = t from by cases t; rfl]
 by_cases hm : May (around t)
 ·
  have hx := texts_may hm (around_ok h hok)
  rw [around_cat] at hx
  rw [show tree_Texts.f (⟨#[98]⟩ : ByteArray) (⟨#[]⟩ : ByteArray) (⟨#[]⟩ : ByteArray) [] [t] = some (cat (texT t), 0) from hx]
  simp only [Option.bind_some]
  refine Ev.bind hsz ?_
  have hc := (around_may h).1 hm
  simp only [if_neg (show ¬ cntT t ≥ 256 by omega), decide_eq_false (show ¬ depT t ≥ 8 by omega)]
  refine Ev.step (fun k => rfl) ?_
  simp only [fanlightlaw09_TreeTexts.j1, Bool.false_eq_true, if_false, if_pos hs, if_true, fanlightlaw09_num.f, Option.bind_some]
  exact Ev.now _
 ·
  have hx := texts_not hm (around_ok h hok)
  obtain ⟨_, _, hne⟩ := sizeR_not hm
  rw [show tree_Texts.f (⟨#[98]⟩ : ByteArray) (⟨#[]⟩ : ByteArray) (⟨#[]⟩ : ByteArray) [] [t] = some (⟨#[]⟩, (sizeR (around t)).2.2) from hx]
  simp only [Option.bind_some]
  refine Ev.bind hsz ?_
  have hend : Ev (fun k => fanlightlaw09_TreeTexts.j1 k (cat (texT t)) (cat (texL t.f4)) (⟨#[]⟩ : ByteArray) (sizeR (around t)).2.2 true) true := by
   refine Ev.step (fun k => rfl) ?_
   simp only [fanlightlaw09_TreeTexts.j1, if_true, if_pos hs, if_pos (show (⟨#[]⟩ : ByteArray).toList = ([] : List UInt8) from by rw [ByteArray.toList_eq]), fanlightlaw09_num.f, Option.bind_some]
   rw [show ((sizeR (around t)).2.2 != 0) = true from bne_iff_ne.2 hne]
   exact Ev.now _
  by_cases hc : cntT t ≥ 256
  ·
   simp only [if_pos hc]
   exact hend
  ·
   have hd : depT t ≥ 8 := by
    by_cases hd : depT t ≥ 8
    ·
     exact hd
    ·
     exact absurd ((around_may h).2 ⟨by omega, by omega⟩) hm
   simp only [if_neg hc, decide_eq_true hd]
   exact hend
theorem loop (t : Tr) (h : May t) (hok : okL t.f4 = true) : ∀ (d j : Nat), t.f4.length - j = d → j ≤ t.f4.length → Ev (fun k => fanlightlaw09_TreeTexts.l0 k (cat (texT t)) (cat (texL (t.f4.take j))) (j : Int) t.f0 t.f1 t.f2 t.f3 t.f4) true := by
 intro d
 induction d with
 | zero =>
  intro j hd hj
  refine Ev.step (fun k => rfl) ?_
  have c1 : ¬ (j : Int) < (t.f4.length : Int) := by omega
  have e : t.f4.take j = t.f4 := List.take_of_length_le (by omega)
  simp only [fanlightlaw09_TreeTexts.l0, if_neg c1, e]
  exact endw t h hok 0
 | succ d ih =>
  intro j hd hj
  have hjl : j < t.f4.length := by omega
  have hlen := may_len h
  have c1 : (j : Int) < (t.f4.length : Int) := by omega
  have c2 : (0 : Int) ≤ (j : Int) := by omega
  have hnext := ih (j + 1) (by omega) (by omega)
  have hw : wrap64 ((j : Int) + 1) = ((j + 1 : Nat) : Int) := wN (by omega)
  have hx : rd_T25 t.f4 (j : Int) = t.f4[j] := by unfold rd_T25; rw [Int.toNat_natCast, List.getD_eq_getElem?_getD, List.getElem?_eq_getElem hjl, Option.getD_some]
  have hxm := mayIn_kid h.2 (List.getElem_mem hjl)
  have htk := texL_take hjl
  have hok2 := (okL_get t.f4 j hjl hok).2
  have hsz : (cat (texL (t.f4.take (j + 1)))).size ≤ 100000000 := by
   have h1 := cat_size (texL (t.f4.take (j + 1)))
   have h2 := texT_len t
   have h3 := may_cnt h
   have h4 := congrArg List.length (texL_append (t.f4.take (j + 1)) (t.f4.drop (j + 1)))
   rw [List.take_append_drop, List.length_append] at h4
   rw [texT_eq, List.length_cons] at h2
   omega
  refine Ev.step (fun k => rfl) ?_
  simp only [fanlightlaw09_TreeTexts.l0, if_pos c1, if_pos c2, hx, hw]
  generalize t.f4[j] = x at hxm htk hok2 ⊢
  have hcat : cat (texL (t.f4.take (j + 1))) = cat (texL (t.f4.take j)) ++ cat (texT x) := by rw [htk, cat_append]
  rw [hcat] at hnext hsz
  rw [ByteArray.size_append] at hsz
  cases he : isT x with
  | true =>
   rw [cat_text hxm he] at hnext hsz
   simp only [if_pos (emp_iff.2 he), if_pos (show (cat (texL (t.f4.take j))).size + x.f2.size ≤ 9223372036854775807 by omega)]
   exact hnext
  | false =>
   have hmx : May x := ⟨he, hxm⟩
   rw [okT_eq] at hok2
   have ht := texts_may hmx hok2
   simp only [if_neg (show ¬ (x.f0.toList = ([] : List UInt8)) by rw [emp_iff, show x.f0.toList.isEmpty = false from he]; decide), ht, Option.bind_some, fanlightlaw09_num.f, if_true, if_pos (show (cat (texL (t.f4.take j))).size + (cat (texT x)).size ≤ 9223372036854775807 by omega)]
   exact hnext
theorem TreeTexts (t : Tr) (hok : okL t.f4 = true) : ∃ k, fanlightlaw09_TreeTexts.f k t.f0 t.f1 t.f2 t.f3 t.f4 = some true := by
 refine Ev.rounds ?_
 unfold fanlightlaw09_TreeTexts.f
 rw [alive_is]
 simp only [Option.bind_some, if_true, fanlightlaw09_num.f]
 by_cases h : May t
 ·
  rw [texts_may h hok]
  simp only [Option.bind_some, if_true]
  have hl := loop t h hok t.f4.length 0 (by simp) (by simp)
  rw [List.take_zero, texL] at hl
  exact hl
 ·
  obtain ⟨_, _, hne⟩ := sizeR_not h
  rw [texts_not h hok]
  simp only [Option.bind_some, if_neg hne]
  rw [show ((⟨#[]⟩ : ByteArray).toList == ([] : List UInt8)) = true from by rw [ByteArray.toList_eq]; rfl]
  exact Ev.now _
end Go.Proofs.Ytloocmeckpoflaa.PureTexts
