/- What the print's words and the walks are, as far as this claim names them. -/
import Derived.Test.YtloocmeckpoflaaYTreeFit
import Derived.Test.YtloocmeckpoflaaYD19
import Derived.Test.YtloocmeckpoflaaYD20
import Derived.Test.YtloocmeckpoflaaYD21
namespace Go.Proofs.Ytloocmeckpoflaa.TreeCmp
set_option linter.unusedVariables false
set_option linter.unusedSimpArgs false
open Go.RowKit Go.Proofs.Ytloocmeckpoflaa.D Go.Proofs.YtloocmeckpoflaaW.PrintWords Go.Proofs.YtloocmeckpoflaaW.PrintLast Go.Proofs.YtloocmeckpoflaaW.PrintMore TreeMath TreePr TreeFit
theorem rdT_at {l pre ts : List Tr} {x : Tr} (h : l = pre ++ x :: ts) : rd_T25 l (pre.length : Int) = x := by
 unfold rd_T25
 rw [Int.toNat_natCast, h, List.getD_eq_getElem?_getD, List.getElem?_append_right (Nat.le_refl _), Nat.sub_self]
 rfl
theorem rdA_at {l pre ts : List S53} {x : S53} (h : l = pre ++ x :: ts) : rd_T53 l (pre.length : Int) = x := by
 unfold rd_T53
 rw [Int.toNat_natCast, h, List.getD_eq_getElem?_getD, List.getElem?_append_right (Nat.le_refl _), Nat.sub_self]
 rfl
theorem wI {n : Nat} (h : n ≤ 1000000) : wrap64 ((n : Int) + 1) = ((n + 1 : Nat) : Int) := by unfold wrap64; omega
theorem fit_node {t : Tr} (h : fitT t = true) : t.f3.length ≤ 1000 ∧ t.f4.length ≤ 1000 ∧ ∀ x ∈ t.f4, fitT x = true := by
 have h2 := fit_parts h
 refine ⟨h2.2.2.2.2.1, h2.2.2.2.2.2, fun x hx => ?_⟩
 obtain ⟨j, hj, rfl⟩ := List.mem_iff_getElem.1 hx
 exact fitL_get t.f4 j hj h2.2.2.2.1
mutual
def looT : Tr → Bool
 | ⟨_, _, _, _, f4⟩ => looL false f4
def looL : Bool → List Tr → Bool
 | _, [] => false
 | pt, k :: ks => (k.f0.toList.isEmpty && (k.f2.toList.isEmpty || pt)) || (looT k || looL k.f0.toList.isEmpty ks)
end
theorem looT_eq (t : Tr) : looT t = looL false t.f4 := by cases t; rw [looT]
theorem loose_is (t : Tr) : fitT t = true → Ev (fun k => fanlightlaw09_loose.f k t.f0 t.f1 t.f2 t.f3 t.f4) (looT t) := by
 refine treeInd (p := fun t => fitT t = true → Ev (fun k => fanlightlaw09_loose.f k t.f0 t.f1 t.f2 t.f3 t.f4) (looT t)) ?_ t
 intro t ih hf
 have hfn := fit_node hf
 have hl : ∀ (ks pre : List Tr) (pt : Bool), t.f4 = pre ++ ks → (pre = [] → pt = false) → (pre ≠ [] → pt = (rd_T25 t.f4 ((pre.length : Int) - 1)).f0.toList.isEmpty) →
   Ev (fun k => fanlightlaw09_loose.l0 k (pre.length : Int) t.f0 t.f1 t.f2 t.f3 t.f4) (looL pt ks) := by
  intro ks
  induction ks with
  | nil =>
   intro pre pt h _ _
   refine Ev.step (fun k => rfl) ?_
   have hlen : t.f4.length = pre.length := by rw [h]; simp
   simp only [fanlightlaw09_loose.l0, if_neg (show ¬ (pre.length : Int) < (t.f4.length : Int) by omega), looL]
   exact Ev.now _
  | cons x ks ihl =>
   intro pre pt h hp0 hp1
   refine Ev.step (fun k => rfl) ?_
   have hlen : t.f4.length = pre.length + 1 + ks.length := by rw [h]; simp; omega
   have hw := wI (n := pre.length) (by omega)
   have hx := rdT_at h
   have hxm : x ∈ t.f4 := by rw [h]; simp
   have hnext := ihl (pre ++ [x]) x.f0.toList.isEmpty (by rw [h]; simp) (fun h => by simp at h) (fun _ => by
    rw [show (((pre ++ [x]).length : Nat) : Int) - 1 = (pre.length : Int) by simp, hx])
   rw [show (pre ++ [x]).length = pre.length + 1 by simp] at hnext
   have hrec := ih x hxm (hfn.2.2 x hxm)
   have htail : Ev (fun k => (fanlightlaw09_loose.f k x.f0 x.f1 x.f2 x.f3 x.f4).bind fun b => if b = true then some true else fanlightlaw09_loose.l0 k ((pre.length + 1 : Nat) : Int) t.f0 t.f1 t.f2 t.f3 t.f4) (looT x || looL x.f0.toList.isEmpty ks) := by
    refine Ev.bind hrec ?_
    cases looT x with
    | true => simp only [if_true, Bool.true_or]; exact Ev.now _
    | false => simp only [Bool.false_eq_true, if_false, Bool.false_or]; exact hnext
   simp only [fanlightlaw09_loose.l0, if_pos (show (pre.length : Int) < (t.f4.length : Int) by omega), if_pos (show (0 : Int) ≤ (pre.length : Int) by omega), hx, hw, looL]
   cases hx0 : x.f0.toList.isEmpty with
   | false =>
    simp only [if_neg (show ¬ (x.f0.toList = ([] : List UInt8)) by rw [emp_iff, hx0]; decide), Bool.false_and, Bool.false_or]
    rw [hx0] at htail
    exact htail
   | true =>
    rw [hx0] at htail
    simp only [if_pos (emp_iff.2 hx0), Bool.true_and]
    cases hx2 : x.f2.toList.isEmpty with
    | true => simp only [if_pos (emp_iff.2 hx2), Bool.true_or]; exact Ev.now _
    | false =>
     simp only [if_neg (show ¬ (x.f2.toList = ([] : List UInt8)) by rw [emp_iff, hx2]; decide), Bool.false_or]
     by_cases hpe : pre = []
     ·
      have hpt := hp0 hpe
      have hz : pre.length = 0 := by rw [hpe]; rfl
      simp only [if_neg (show ¬ ((pre.length : Int) > 0) by omega), hpt, Bool.false_or]
      exact htail
     ·
      have hpt := hp1 hpe
      have hpos : 0 < pre.length := List.length_pos_iff.2 hpe
      have hw2 : wrap64 ((pre.length : Int) - 1) = (pre.length : Int) - 1 := by unfold wrap64; omega
      simp only [if_pos (show (pre.length : Int) > 0 by omega), hw2, if_pos (show (0 : Int) ≤ (pre.length : Int) - 1 by omega), if_pos (show (pre.length : Int) - 1 < (t.f4.length : Int) by omega)]
      cases pt with
      | true => simp only [if_pos (emp_iff.2 hpt.symm), Bool.true_or]; exact Ev.now _
      | false =>
       simp only [if_neg (show ¬ ((rd_T25 t.f4 ((pre.length : Int) - 1)).f0.toList = ([] : List UInt8)) by rw [emp_iff, ← hpt]; decide), Bool.false_or]
       exact htail
 rw [looT_eq]
 refine Ev.step (fun k => rfl) ?_
 simp only [fanlightlaw09_loose.f]
 exact hl t.f4 [] false rfl (fun _ => rfl) (fun h => absurd rfl h)
def keyA (a : S53) : Bool := decide (bytesOf a.f0 = KEY)
theorem keyA_iff (a : S53) : a.f0.toList = ([107, 101, 121] : List UInt8) ↔ keyA a = true := by
 have e : ([107, 101, 121] : List UInt8) = (⟨#[107, 101, 121]⟩ : ByteArray).toList := by rw [ByteArray.toList_eq]
 unfold keyA
 rw [e, toList_iff, decide_eq_true_eq]
 constructor
 ·
  intro h; rw [h]; rfl
 ·
  intro h; exact bytes_inj h
mutual
def namT : Tr → Bool
 | ⟨_, _, _, f3, f4⟩ => f3.any keyA || namL f4
def namL : List Tr → Bool
 | [] => false
 | k :: ks => namT k || namL ks
end
theorem namT_eq (t : Tr) : namT t = (t.f3.any keyA || namL t.f4) := by cases t; rw [namT]
theorem named_is (t : Tr) : fitT t = true → Ev (fun k => fanlightlaw09_named.f k t.f0 t.f1 t.f2 t.f3 t.f4) (namT t) := by
 refine treeInd (p := fun t => fitT t = true → Ev (fun k => fanlightlaw09_named.f k t.f0 t.f1 t.f2 t.f3 t.f4) (namT t)) ?_ t
 intro t ih hf
 have hfn := fit_node hf
 have hl : ∀ (ks pre : List Tr), t.f4 = pre ++ ks → Ev (fun k => fanlightlaw09_named.l1 k (pre.length : Int) t.f0 t.f1 t.f2 t.f3 t.f4) (namL ks) := by
  intro ks
  induction ks with
  | nil =>
   intro pre h
   refine Ev.step (fun k => rfl) ?_
   have hlen : t.f4.length = pre.length := by rw [h]; simp
   simp only [fanlightlaw09_named.l1, if_neg (show ¬ (pre.length : Int) < (t.f4.length : Int) by omega), namL]
   exact Ev.now _
  | cons x ks ihl =>
   intro pre h
   refine Ev.step (fun k => rfl) ?_
   have hlen : t.f4.length = pre.length + 1 + ks.length := by rw [h]; simp; omega
   have hw := wI (n := pre.length) (by omega)
   have hx := rdT_at h
   have hxm : x ∈ t.f4 := by rw [h]; simp
   have hnext := ihl (pre ++ [x]) (by rw [h]; simp)
   rw [show (pre ++ [x]).length = pre.length + 1 by simp] at hnext
   simp only [fanlightlaw09_named.l1, if_pos (show (pre.length : Int) < (t.f4.length : Int) by omega), if_pos (show (0 : Int) ≤ (pre.length : Int) by omega), hx, hw, namL]
   refine Ev.bind (ih x hxm (hfn.2.2 x hxm)) ?_
   cases namT x with
   | true => simp only [if_true, Bool.true_or]; exact Ev.now _
   | false => simp only [Bool.false_eq_true, if_false, Bool.false_or]; exact hnext
 have ha : ∀ (al pre : List S53), t.f3 = pre ++ al → Ev (fun k => fanlightlaw09_named.l0 k (pre.length : Int) t.f0 t.f1 t.f2 t.f3 t.f4) (al.any keyA || namL t.f4) := by
  intro al
  induction al with
  | nil =>
   intro pre h
   refine Ev.step (fun k => rfl) ?_
   have hlen : t.f3.length = pre.length := by rw [h]; simp
   simp only [fanlightlaw09_named.l0, if_neg (show ¬ (pre.length : Int) < (t.f3.length : Int) by omega), List.any_nil, Bool.false_or]
   exact hl t.f4 [] rfl
  | cons x al ihl =>
   intro pre h
   refine Ev.step (fun k => rfl) ?_
   have hlen : t.f3.length = pre.length + 1 + al.length := by rw [h]; simp; omega
   have hw := wI (n := pre.length) (by omega)
   have hx := rdA_at h
   have hnext := ihl (pre ++ [x]) (by rw [h]; simp)
   rw [show (pre ++ [x]).length = pre.length + 1 by simp] at hnext
   simp only [fanlightlaw09_named.l0, if_pos (show (pre.length : Int) < (t.f3.length : Int) by omega), if_pos (show (0 : Int) ≤ (pre.length : Int) by omega), hx, hw, List.any_cons]
   cases hk : keyA x with
   | true => simp only [if_pos ((keyA_iff x).2 hk), Bool.true_or]; exact Ev.now _
   | false =>
    simp only [if_neg (show ¬ (x.f0.toList = ([107, 101, 121] : List UInt8)) by rw [keyA_iff, hk]; decide), Bool.false_or]
    exact hnext
 rw [namT_eq]
 refine Ev.step (fun k => rfl) ?_
 simp only [fanlightlaw09_named.f]
 exact ha t.f3 [] rfl
theorem attr_bool (x y : S53) : (!((x.f0.toList == y.f0.toList)) || (!((x.f1.toList == y.f1.toList)))) = !decide (x.f0 = y.f0 ∧ x.f1 = y.f1) := by
 have e0 : (x.f0.toList == y.f0.toList) = decide (x.f0 = y.f0) := by
  rw [Bool.eq_iff_iff, beq_iff_eq, decide_eq_true_eq, toList_iff]
 have e1 : (x.f1.toList == y.f1.toList) = decide (x.f1 = y.f1) := by
  rw [Bool.eq_iff_iff, beq_iff_eq, decide_eq_true_eq, toList_iff]
 rw [e0, e1]
 by_cases h0 : x.f0 = y.f0 <;> by_cases h1 : x.f1 = y.f1 <;> simp [h0, h1]
theorem attr_ext (x y : S53) : (x.f0 = y.f0 ∧ x.f1 = y.f1) ↔ x = y := by
 obtain ⟨x0, x1⟩ := x
 obtain ⟨y0, y1⟩ := y
 simp
open Classical in
theorem sameA_is (f g : List S53) (hf : f.length ≤ 1000) : Ev (fun k => fanlightplain_SameAttrs.f k f g) (decide (f = g)) := by
 have hl : ∀ (a b pa pb : List S53), f = pa ++ a → g = pb ++ b → pa.length = pb.length → a.length = b.length → Ev (fun k => fanlightplain_SameAttrs.l0 k f g (pa.length : Int)) (decide (a = b)) := by
  intro a
  induction a with
  | nil =>
   intro b pa pb h1 h2 h3 h4
   refine Ev.step (fun k => rfl) ?_
   have hlen : f.length = pa.length := by rw [h1]; simp
   have hb : b = [] := List.length_eq_zero_iff.1 h4.symm
   simp only [fanlightplain_SameAttrs.l0, if_neg (show ¬ (pa.length : Int) < (f.length : Int) by omega), hb, decide_true]
   exact Ev.now _
  | cons x a ih =>
   intro b pa pb h1 h2 h3 h4
   cases b with
   | nil => simp at h4
   | cons y b =>
    refine Ev.step (fun k => rfl) ?_
    have hlen : f.length = pa.length + 1 + a.length := by rw [h1]; simp; omega
    have hlen2 : g.length = pb.length + 1 + b.length := by rw [h2]; simp; omega
    have hw := wI (n := pa.length) (by omega)
    have hx := rdA_at h1
    have hy := rdA_at h2
    rw [← h3] at hy
    have hnext := ih b (pa ++ [x]) (pb ++ [y]) (by rw [h1]; simp) (by rw [h2]; simp) (by simp [h3]) (by simpa using h4)
    rw [show (pa ++ [x]).length = pa.length + 1 by simp] at hnext
    simp only [fanlightplain_SameAttrs.l0, if_pos (show (pa.length : Int) < (f.length : Int) by omega), if_pos (show (0 : Int) ≤ (pa.length : Int) by omega), if_pos (show (pa.length : Int) < (g.length : Int) by omega), hx, hy, hw, attr_bool]
    by_cases he : x.f0 = y.f0 ∧ x.f1 = y.f1
    ·
     have hxy := (attr_ext x y).1 he
     have e : decide (x :: a = y :: b) = decide (a = b) := by rw [hxy]; simp
     rw [e]
     simp only [decide_eq_true he, Bool.not_true, Bool.false_eq_true, if_false]
     exact hnext
    ·
     have e : decide (x :: a = y :: b) = false := decide_eq_false (fun h => he ((attr_ext x y).2 (List.cons.inj h).1))
     rw [e]
     simp only [decide_eq_false he, Bool.not_false, if_true]
     exact Ev.now _
 unfold fanlightplain_SameAttrs.f
 by_cases h : f.length = g.length
 ·
  simp only [if_pos (show (f.length : Int) = (g.length : Int) by omega)]
  exact hl f g [] [] rfl rfl rfl h
 ·
  simp only [if_neg (show ¬ (f.length : Int) = (g.length : Int) by omega)]
  rw [decide_eq_false (fun e => h (by rw [e]))]
  exact Ev.now _
theorem tree_ext (t u : Tr) : t = u ↔ t.f0 = u.f0 ∧ t.f1 = u.f1 ∧ t.f2 = u.f2 ∧ t.f3 = u.f3 ∧ t.f4 = u.f4 := by
 obtain ⟨x0, x1, x2, x3, x4⟩ := t
 obtain ⟨y0, y1, y2, y3, y4⟩ := u
 simp
open Classical in
theorem same_is (t : Tr) : ∀ u : Tr, fitT t = true → Ev (fun k => fanlightplain_SameTree.f k t.f0 t.f1 t.f2 t.f3 t.f4 u.f0 u.f1 u.f2 u.f3 u.f4) (decide (t = u)) := by
 refine treeInd (p := fun t => ∀ u : Tr, fitT t = true → Ev (fun k => fanlightplain_SameTree.f k t.f0 t.f1 t.f2 t.f3 t.f4 u.f0 u.f1 u.f2 u.f3 u.f4) (decide (t = u))) ?_ t
 intro t ih u hf
 have hfn := fit_node hf
 have hl : ∀ (a b pa pb : List Tr), t.f4 = pa ++ a → u.f4 = pb ++ b → pa.length = pb.length → a.length = b.length → Ev (fun k => fanlightplain_SameTree.l0 k (pa.length : Int) t.f0 t.f1 t.f2 t.f3 t.f4 u.f0 u.f1 u.f2 u.f3 u.f4) (decide (a = b)) := by
  intro a
  induction a with
  | nil =>
   intro b pa pb h1 h2 h3 h4
   refine Ev.step (fun k => rfl) ?_
   have hlen : t.f4.length = pa.length := by rw [h1]; simp
   have hb : b = [] := List.length_eq_zero_iff.1 h4.symm
   simp only [fanlightplain_SameTree.l0, if_neg (show ¬ (pa.length : Int) < (t.f4.length : Int) by omega), hb, decide_true]
   exact Ev.now _
  | cons x a iha =>
   intro b pa pb h1 h2 h3 h4
   cases b with
   | nil => simp at h4
   | cons y b =>
    refine Ev.step (fun k => rfl) ?_
    have hlen : t.f4.length = pa.length + 1 + a.length := by rw [h1]; simp; omega
    have hlen2 : u.f4.length = pb.length + 1 + b.length := by rw [h2]; simp; omega
    have hw := wI (n := pa.length) (by omega)
    have hx := rdT_at h1
    have hy := rdT_at h2
    have hxm : x ∈ t.f4 := by rw [h1]; simp
    rw [← h3] at hy
    have hnext := iha b (pa ++ [x]) (pb ++ [y]) (by rw [h1]; simp) (by rw [h2]; simp) (by simp [h3]) (by simpa using h4)
    rw [show (pa ++ [x]).length = pa.length + 1 by simp] at hnext
    simp only [fanlightplain_SameTree.l0, if_pos (show (pa.length : Int) < (t.f4.length : Int) by omega), if_pos (show (0 : Int) ≤ (pa.length : Int) by omega), if_pos (show (pa.length : Int) < (u.f4.length : Int) by omega), hx, hy, hw]
    refine Ev.bind (ih x hxm y (hfn.2.2 x hxm)) ?_
    by_cases hxy : x = y
    ·
     have e : decide (x :: a = y :: b) = decide (a = b) := by rw [hxy]; simp
     rw [e]
     simp only [decide_eq_true hxy, if_true]
     exact hnext
    ·
     have e : decide (x :: a = y :: b) = false := decide_eq_false (fun h => hxy (List.cons.inj h).1)
     rw [e]
     simp only [decide_eq_false hxy, Bool.false_eq_true, if_false]
     exact Ev.now _
 have hj : ∀ b : Bool, Ev (fun k => fanlightplain_SameTree.j0 k true t.f0 t.f1 t.f2 t.f3 t.f4 u.f0 u.f1 u.f2 u.f3 u.f4) false := fun b => by
  refine Ev.step (fun k => rfl) ?_
  simp only [fanlightplain_SameTree.j0, if_true]
  exact Ev.now _
 refine Ev.step (fun k => rfl) ?_
 simp only [fanlightplain_SameTree.f]
 by_cases c0 : t.f0 = u.f0
 rotate_left
 ·
  simp only [if_neg (show ¬ t.f0.toList = u.f0.toList by rw [toList_iff]; exact c0), decide_eq_false (show ¬ t = u from fun h => c0 (by rw [h]))]
  exact hj true
 by_cases c1 : t.f1 = u.f1
 rotate_left
 ·
  simp only [if_pos (toList_iff.2 c0), if_neg (show ¬ t.f1.toList = u.f1.toList by rw [toList_iff]; exact c1), decide_eq_false (show ¬ t = u from fun h => c1 (by rw [h]))]
  exact hj true
 by_cases c2 : t.f2 = u.f2
 rotate_left
 ·
  simp only [if_pos (toList_iff.2 c0), if_pos (toList_iff.2 c1), if_neg (show ¬ t.f2.toList = u.f2.toList by rw [toList_iff]; exact c2), decide_eq_false (show ¬ t = u from fun h => c2 (by rw [h]))]
  exact hj true
 simp only [if_pos (toList_iff.2 c0), if_pos (toList_iff.2 c1), if_pos (toList_iff.2 c2)]
 refine Ev.bind (sameA_is t.f3 u.f3 hfn.1) ?_
 by_cases c3 : t.f3 = u.f3
 rotate_left
 ·
  simp only [decide_eq_false c3, Bool.false_eq_true, if_false, decide_eq_false (show ¬ t = u from fun h => c3 (by rw [h]))]
  exact hj true
 simp only [decide_eq_true c3, if_true]
 refine Ev.step (fun k => rfl) ?_
 simp only [fanlightplain_SameTree.j0]
 by_cases c4 : t.f4.length = u.f4.length
 ·
  have e : ((t.f4.length : Int) != (u.f4.length : Int)) = false := by rw [c4]; simp
  have e2 : decide (t = u) = decide (t.f4 = u.f4) := by
   rw [tree_ext]
   simp [c0, c1, c2, c3]
  rw [e2]
  simp only [e, Bool.false_eq_true, if_false]
  exact hl t.f4 u.f4 [] [] rfl rfl rfl c4
 ·
  have e : ((t.f4.length : Int) != (u.f4.length : Int)) = true := bne_iff_ne.2 (by omega)
  simp only [e, if_true, decide_eq_false (show ¬ t = u from fun h => c4 (by rw [h]))]
  exact Ev.now _
theorem good_of (t : Tr) : MayIn t → looT t = false → namT t = false → (isT t = true → bytesOf t.f2 ≠ []) → TreePr.Good t := by
 refine treeInd (p := fun t => MayIn t → looT t = false → namT t = false → (isT t = true → bytesOf t.f2 ≠ []) → TreePr.Good t) ?_ t
 intro t ih hm hlo hna hte
 have hn := mayIn_node hm
 have hp := node_plain hn
 cases he : isT t with
 | true =>
  obtain ⟨h1, h2, h3⟩ := plain_text hp he
  have h4 := node_text hn he
  have h5 := hte he
  obtain ⟨f0, f1, f2, f3, f4⟩ := t
  have e0 := emp_eq (s := f0) he
  have e1 := emp_eq h1
  simp only at e1 h3 h4 h5
  subst e0 e1 h3 h4
  exact TreePr.Good.text f2 h5
 | false =>
  obtain ⟨h1, h2, h3, h4, h5⟩ := plain_elem hp he
  obtain ⟨l1, l2, l3⟩ := letters_of h1
  rw [looT_eq] at hlo
  rw [namT_eq, Bool.or_eq_false_iff] at hna
  have hall : ∀ (l : List Tr) (pt : Bool), looL pt l = false → (∀ x ∈ l, looT x = false ∧ (isT x = true → bytesOf x.f2 ≠ [])) ∧ NoAdj l ∧ (∀ x ∈ l.head?, pt = true → isT x = false) := by
   intro l
   induction l with
   | nil => intro pt _; exact ⟨fun x hx => (by cases hx), trivial, fun x hx => (by cases hx)⟩
   | cons x xs ihl =>
    intro pt h
    rw [looL, Bool.or_eq_false_iff, Bool.or_eq_false_iff] at h
    obtain ⟨i1, i2, i3⟩ := ihl _ h.2.2
    have hxt : isT x = true → x.f2.toList.isEmpty = false ∧ pt = false := by
     intro hx
     have h0 := h.1
     rw [show x.f0.toList.isEmpty = true from hx, Bool.true_and, Bool.or_eq_false_iff] at h0
     exact h0
    refine ⟨fun y hy => ?_, ?_, fun y hy hpt => ?_⟩
    ·
     rcases List.mem_cons.1 hy with rfl | hy
     ·
      exact ⟨h.2.1, fun hx e => by
       have := (hxt hx).1
       rw [bytes_nil.1 e] at this
       cases this⟩
     ·
      exact i1 y hy
    ·
     cases xs with
     | nil => trivial
     | cons b l =>
      refine ⟨fun hh => ?_, i2⟩
      have := i3 b (by simp) hh.1
      rw [hh.2] at this
      cases this
    ·
     simp at hy
     subst hy
     cases hx : isT x with
     | false => rfl
     | true =>
      have := (hxt hx).2
      rw [hpt] at this
      cases this
  obtain ⟨k1, k2, _⟩ := hall _ _ hlo
  have hnl : ∀ (l : List Tr), namL l = false → ∀ x ∈ l, namT x = false := by
   intro l
   induction l with
   | nil => intro _ x hx; cases hx
   | cons y ys ihl =>
    intro h x hx
    rw [namL, Bool.or_eq_false_iff] at h
    rcases List.mem_cons.1 hx with rfl | hx
    ·
     exact h.1
    ·
     exact ihl h.2 x hx
  have hk : ∀ x ∈ t.f4, TreePr.Good x := fun x hx => ih x hx (mayIn_kid hm hx) (k1 x hx).1 (hnl _ hna.2 x hx) (k1 x hx).2
  have hat : ∀ a ∈ t.f3, Let (bytesOf a.f0) ∧ bytesOf a.f0 ≠ KEY := fun a ha => ⟨(letters_of (attrs_of h5 a ha).1).2.1, fun e => by
   have := List.any_eq_false.1 hna.1 a ha
   unfold keyA at this
   exact this (decide_eq_true e)⟩
  obtain ⟨f0, f1, f2, f3, f4⟩ := t
  have e2 := emp_eq h3
  simp only at e2
  subst e2
  exact TreePr.Good.elem f0 f1 f3 f4 l2 l1 hat hk k2
end Go.Proofs.Ytloocmeckpoflaa.TreeCmp
