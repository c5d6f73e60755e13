/- What the print's words and the walks are, as far as this claim names them. -/
import Derived.Test.YtloocmeckpoflaaYTreeMath
import Derived.Test.YtloocmeckpoflaaYD16
namespace Go.Proofs.Ytloocmeckpoflaa.TreePr
set_option linter.unusedVariables false
set_option linter.unusedSimpArgs false
open Go.RowKit Go.Proofs.Ytloocmeckpoflaa.D Go.Proofs.YtloocmeckpoflaaW.PrintWords Go.Proofs.YtloocmeckpoflaaW.PrintLast Go.Proofs.YtloocmeckpoflaaW.PrintMore TreeMath
theorem bytes_append (a b : ByteArray) : bytesOf (a ++ b) = bytesOf a ++ bytesOf b := by
 unfold bytesOf
 rw [ByteArray.data_append, Array.toList_append, List.map_append]
theorem bytes_inj {a b : ByteArray} (h : bytesOf a = bytesOf b) : a = b := by rw [← str_bytes a, h, str_bytes]
theorem toList_iff {a b : ByteArray} : a.toList = b.toList ↔ a = b := by
 rw [ByteArray.toList_eq, ByteArray.toList_eq]
 constructor
 ·
  intro h
  exact ByteArray.ext (Array.toList_inj.1 h)
 ·
  intro h
  rw [h]
theorem emp_eq {s : ByteArray} (h : s.toList.isEmpty = true) : s = ⟨#[]⟩ := by
 rw [ByteArray.toList_eq, List.isEmpty_iff] at h
 exact ByteArray.ext (Array.toList_inj.1 h)
theorem bytes_nil {s : ByteArray} : bytesOf s = [] ↔ s.toList.isEmpty = true := by
 rw [ByteArray.toList_eq, List.isEmpty_iff]
 unfold bytesOf
 rw [List.map_eq_nil_iff]
theorem bytes_range {s : ByteArray} : ∀ x ∈ bytesOf s, 0 ≤ x ∧ x < 256 := by
 intro x hx
 unfold bytesOf at hx
 obtain ⟨b, _, rfl⟩ := List.mem_map.1 hx
 have := b.toNat_lt
 omega
theorem bytes_str {l : List Int} (h : ∀ x ∈ l, 0 ≤ x ∧ x < 256) : bytesOf (strOfNums l) = l := by
 unfold bytesOf
 rw [strOfNums_data, List.map_map]
 refine (List.map_congr_left (g := id) (fun x hx => ?_)).trans (List.map_id _)
 have := h x hx
 simp only [Function.comp, id]
 rw [UInt8.toNat_ofNat_of_lt' (by show x.toNat < 256; omega)]
 omega
theorem escOne_cases (o : Int) : (o = 38 ∧ escOne o = [38, 97, 109, 112, 59]) ∨ (o = 60 ∧ escOne o = [38, 108, 116, 59]) ∨ (o = 62 ∧ escOne o = [38, 103, 116, 59]) ∨ (o = 34 ∧ escOne o = [38, 113, 117, 111, 116, 59]) ∨ (o ≠ 38 ∧ o ≠ 60 ∧ o ≠ 62 ∧ o ≠ 34 ∧ escOne o = [o]) := by
 by_cases h1 : o = 38
 ·
  exact Or.inl ⟨h1, by subst h1; decide⟩
 by_cases h2 : o = 60
 ·
  exact Or.inr (Or.inl ⟨h2, by subst h2; decide⟩)
 by_cases h3 : o = 62
 ·
  exact Or.inr (Or.inr (Or.inl ⟨h3, by subst h3; decide⟩))
 by_cases h4 : o = 34
 ·
  exact Or.inr (Or.inr (Or.inr (Or.inl ⟨h4, by subst h4; decide⟩)))
 refine Or.inr (Or.inr (Or.inr (Or.inr ⟨h1, h2, h3, h4, ?_⟩)))
 unfold escOne escL
 rw [if_neg (by omega), if_neg (by omega), if_neg (by omega), if_neg (by omega)]
 rfl
theorem esc_range {l : List Int} (h : ∀ x ∈ l, 0 ≤ x ∧ x < 256) : ∀ x ∈ escLs l, 0 ≤ x ∧ x < 256 := by
 intro x hx
 unfold escLs at hx
 obtain ⟨o, ho, hx⟩ := List.mem_flatMap.1 hx
 rcases escOne_cases o with ⟨rfl, e⟩ | ⟨rfl, e⟩ | ⟨rfl, e⟩ | ⟨rfl, e⟩ | ⟨_, _, _, _, e⟩ <;> rw [e] at hx
 ·
  simp at hx; omega
 ·
  simp at hx; omega
 ·
  simp at hx; omega
 ·
  simp at hx; omega
 ·
  simp at hx; subst hx; exact h x ho
theorem bytes_esc (s : ByteArray) : bytesOf (escB s) = escLs (bytesOf s) := bytes_str (esc_range bytes_range)
theorem escLs_cons (a : Int) (l : List Int) : escLs (a :: l) = escOne a ++ escLs l := by simp [escLs]
theorem escOne_inj {x y : Int} {R S : List Int} (h : escOne x ++ R = escOne y ++ S) : x = y ∧ R = S := by
 rcases escOne_cases x with ⟨rfl, e⟩ | ⟨rfl, e⟩ | ⟨rfl, e⟩ | ⟨rfl, e⟩ | ⟨a1, a2, a3, a4, e⟩ <;> rcases escOne_cases y with ⟨rfl, f⟩ | ⟨rfl, f⟩ | ⟨rfl, f⟩ | ⟨rfl, f⟩ | ⟨b1, b2, b3, b4, f⟩ <;> simp only [e, f, List.cons_append, List.nil_append, List.cons.injEq] at h
 all_goals first | exact ⟨rfl, h.2.2.2.2.2.2⟩ | exact ⟨rfl, h.2.2.2.2.2⟩ | exact ⟨rfl, h.2.2.2.2⟩ | exact ⟨h.1, h.2⟩ | (exfalso; omega)
theorem escOne_head (x : Int) : ∃ c X, escOne x = c :: X ∧ c ≠ 34 ∧ c ≠ 60 := by
 rcases escOne_cases x with ⟨rfl, e⟩ | ⟨rfl, e⟩ | ⟨rfl, e⟩ | ⟨rfl, e⟩ | ⟨a1, a2, a3, a4, e⟩ <;> exact ⟨_, _, e, by omega, by omega⟩
theorem esc_delim {d : Int} (hd : d = 34 ∨ d = 60) : ∀ (a b R S : List Int), escLs a ++ d :: R = escLs b ++ d :: S → a = b ∧ R = S
 | [], [], R, S, h => by
  simp only [escLs, List.flatMap_nil, List.nil_append, List.cons.injEq, true_and] at h
  exact ⟨rfl, h⟩
 | [], y :: b, R, S, h => by
  obtain ⟨c, X, e, h1, h2⟩ := escOne_head y
  rw [escLs_cons, e] at h
  simp only [escLs, List.flatMap_nil, List.nil_append, List.cons_append, List.cons.injEq] at h
  omega
 | x :: a, [], R, S, h => by
  obtain ⟨c, X, e, h1, h2⟩ := escOne_head x
  rw [escLs_cons, e] at h
  simp only [escLs, List.flatMap_nil, List.nil_append, List.cons_append, List.cons.injEq] at h
  omega
 | x :: a, y :: b, R, S, h => by
  rw [escLs_cons, escLs_cons, List.append_assoc, List.append_assoc] at h
  obtain ⟨e1, h1⟩ := escOne_inj h
  obtain ⟨e2, h2⟩ := esc_delim hd a b R S h1
  exact ⟨by rw [e1, e2], h2⟩
def Let (l : List Int) : Prop := ∀ c ∈ l, 97 ≤ c ∧ c ≤ 122
theorem span : ∀ (a b : List Int) (c d : Int) (R S : List Int), Let a → Let b → ¬ (97 ≤ c ∧ c ≤ 122) → ¬ (97 ≤ d ∧ d ≤ 122) → a ++ c :: R = b ++ d :: S → a = b ∧ c = d ∧ R = S
 | [], [], c, d, R, S, _, _, _, _, h => by
  simp only [List.nil_append, List.cons.injEq] at h
  exact ⟨rfl, h⟩
 | [], y :: b, c, d, R, S, _, hb, hc, _, h => by
  simp only [List.nil_append, List.cons_append, List.cons.injEq] at h
  have := hb y (by simp)
  rw [h.1] at hc
  exact absurd this hc
 | x :: a, [], c, d, R, S, ha, _, _, hd, h => by
  simp only [List.nil_append, List.cons_append, List.cons.injEq] at h
  have := ha x (by simp)
  rw [← h.1] at hd
  exact absurd this hd
 | x :: a, y :: b, c, d, R, S, ha, hb, hc, hd, h => by
  simp only [List.cons_append, List.cons.injEq] at h
  obtain ⟨e1, e2⟩ := span a b c d R S (fun z hz => ha z (by simp [hz])) (fun z hz => hb z (by simp [hz])) hc hd h.2
  exact ⟨by rw [h.1, e1], e2⟩
def atL (l : List (List Int × List Int)) : List Int := l.flatMap fun p => 32 :: (p.1 ++ 61 :: 34 :: (escLs p.2 ++ [34]))
theorem atL_cons (p : List Int × List Int) (l : List (List Int × List Int)) (X : List Int) : atL (p :: l) ++ X = 32 :: (p.1 ++ 61 :: 34 :: (escLs p.2 ++ 34 :: (atL l ++ X))) := by
 simp [atL]
theorem at_inj : ∀ (l m : List (List Int × List Int)) (X Y : List Int), (∀ p ∈ l, Let p.1) → (∀ p ∈ m, Let p.1) → atL l ++ 62 :: X = atL m ++ 62 :: Y → l = m ∧ X = Y
 | [], [], X, Y, _, _, h => by
  simp only [atL, List.flatMap_nil, List.nil_append, List.cons.injEq, true_and] at h
  exact ⟨rfl, h⟩
 | [], q :: m, X, Y, _, _, h => by
  rw [atL_cons] at h
  simp only [atL, List.flatMap_nil, List.nil_append, List.cons.injEq] at h
  omega
 | p :: l, [], X, Y, _, _, h => by
  rw [atL_cons] at h
  simp only [atL, List.flatMap_nil, List.nil_append, List.cons.injEq] at h
  omega
 | p :: l, q :: m, X, Y, hl, hm, h => by
  rw [atL_cons, atL_cons] at h
  simp only [List.cons.injEq, true_and] at h
  obtain ⟨e1, _, h⟩ := span _ _ _ _ _ _ (hl p (by simp)) (hm q (by simp)) (by omega) (by omega) h
  simp only [List.cons.injEq, true_and] at h
  obtain ⟨e2, h⟩ := esc_delim (Or.inl rfl) _ _ _ _ h
  obtain ⟨e3, h⟩ := at_inj l m X Y (fun z hz => hl z (by simp [hz])) (fun z hz => hm z (by simp [hz])) h
  exact ⟨by rw [e3, Prod.ext e1 e2], h⟩
def KEY : List Int := [107, 101, 121]
def keyed (f1 : ByteArray) (f3 : List S53) : List (List Int × List Int) := (if f1.toList.isEmpty = true then [] else [(KEY, bytesOf f1)]) ++ f3.map fun a => (bytesOf a.f0, bytesOf a.f1)
def isT (t : Tr) : Bool := t.f0.toList.isEmpty
mutual
def plT : Tr → List Int
 | ⟨f0, f1, f2, f3, f4⟩ => if f0.toList.isEmpty = true then escLs (bytesOf f2) else 60 :: (bytesOf f0 ++ (atL (keyed f1 f3) ++ 62 :: (plL f4 ++ 60 :: 47 :: (bytesOf f0 ++ [62]))))
def plL : List Tr → List Int
 | [] => []
 | t :: ts => plT t ++ plL ts
end
theorem plT_eq (t : Tr) : plT t = if isT t = true then escLs (bytesOf t.f2) else 60 :: (bytesOf t.f0 ++ (atL (keyed t.f1 t.f3) ++ 62 :: (plL t.f4 ++ 60 :: 47 :: (bytesOf t.f0 ++ [62])))) := by
 cases t
 rw [plT]
 rfl
theorem bytes_foldl : ∀ (l : List ByteArray) (s : ByteArray), bytesOf (l.foldl (· ++ ·) s) = bytesOf s ++ l.flatMap bytesOf
 | [], s => by simp
 | a :: l, s => by rw [List.foldl_cons, bytes_foldl l, bytes_append, List.flatMap_cons, List.append_assoc]
theorem b_sp : bytesOf sSp = [32] := rfl
theorem b_eq : bytesOf sEq = [61, 34] := rfl
theorem b_q : bytesOf sQ = [34] := rfl
theorem b_lt : bytesOf sLt = [60] := rfl
theorem b_gt : bytesOf sGt = [62] := rfl
theorem b_end : bytesOf sEnd = [60, 47] := rfl
theorem b_key : bytesOf sKey = [32, 107, 101, 121, 61, 34] := rfl
theorem at_bytes (f3 : List S53) : (f3.flatMap attrP).flatMap bytesOf = atL (f3.map fun a => (bytesOf a.f0, bytesOf a.f1)) := by
 induction f3 with
 | nil => rfl
 | cons a l ih =>
  rw [List.flatMap_cons, List.flatMap_append, ih, List.map_cons]
  have e := atL_cons (bytesOf a.f0, bytesOf a.f1) (l.map fun a => (bytesOf a.f0, bytesOf a.f1)) []
  rw [List.append_nil, List.append_nil] at e
  rw [e]
  simp [attrP, bytes_esc, b_sp, b_eq, b_q]
theorem prT_bytes (t : Tr) : (prT t).flatMap bytesOf = plT t := by
 refine treeInd (p := fun t => (prT t).flatMap bytesOf = plT t) ?_ t
 intro t ih
 have hl : ∀ l : List Tr, (∀ x ∈ l, x ∈ t.f4) → (prL l).flatMap bytesOf = plL l := by
  intro l
  induction l with
  | nil => intro _; rw [prL, plL]; rfl
  | cons x xs ihl =>
   intro hx
   rw [prL, plL, List.flatMap_append, ih x (hx x (by simp)), ihl (fun y hy => hx y (by simp [hy]))]
 rw [prT_eq, plT_eq]
 unfold isT
 cases h0 : t.f0.toList.isEmpty with
 | true => rw [if_pos rfl, if_pos rfl]; simp [bytes_esc]
 | false =>
  simp only [Bool.false_eq_true, ↓reduceIte]
  simp only [List.flatMap_append, at_bytes, hl t.f4 (fun _ h => h), List.flatMap_cons, List.flatMap_nil]
  unfold keyed
  cases h1 : t.f1.toList.isEmpty with
  | true => simp [b_lt, b_gt, b_end]
  | false =>
   have e := atL_cons (KEY, bytesOf t.f1) (t.f3.map fun a => (bytesOf a.f0, bytesOf a.f1)) []
   rw [List.append_nil, List.append_nil] at e
   simp only [Bool.false_eq_true, ↓reduceIte, List.singleton_append, e]
   simp [bytes_esc, b_lt, b_gt, b_end, b_key, b_q, KEY]
theorem prS_bytes (t : Tr) : bytesOf (prS t) = plT t := by
 unfold prS
 rw [bytes_foldl, prT_bytes]
 simp [bytesOf]
theorem isT_text (f1 f2 : ByteArray) (f3 : List S53) (f4 : List Tr) : isT ⟨⟨#[]⟩, f1, f2, f3, f4⟩ = true := bytes_nil.1 rfl
def NoAdj : List Tr → Prop
 | [] => True
 | [_] => True
 | a :: b :: l => ¬ (isT a = true ∧ isT b = true) ∧ NoAdj (b :: l)
inductive Good : Tr → Prop
 | text (f2 : ByteArray) (h : bytesOf f2 ≠ []) : Good ⟨⟨#[]⟩, ⟨#[]⟩, f2, [], []⟩
 | elem (f0 f1 : ByteArray) (f3 : List S53) (f4 : List Tr) (h0 : Let (bytesOf f0)) (h1 : bytesOf f0 ≠ []) (h3 : ∀ a ∈ f3, Let (bytesOf a.f0) ∧ bytesOf a.f0 ≠ KEY) (h4 : ∀ x ∈ f4, Good x) (hj : NoAdj f4) : Good ⟨f0, f1, ⟨#[]⟩, f3, f4⟩
def St (R : List Int) : Prop := ∃ X, R = 60 :: X
theorem head_text {u : Tr} (g : Good u) (h : isT u = true) : ∃ c X, plT u = c :: X ∧ c ≠ 60 := by
 rw [plT_eq, if_pos h]
 cases g with
 | text f2 h2 =>
  obtain ⟨a, l, e⟩ := List.exists_cons_of_ne_nil h2
  show ∃ c X, escLs (bytesOf f2) = c :: X ∧ c ≠ 60
  obtain ⟨c, X, e2, _, h60⟩ := escOne_head a
  rw [e, escLs_cons, e2]
  exact ⟨c, _, rfl, h60⟩
 | elem f0 f1 f3 f4 h0 h1 h3 h4 hj => exact absurd (bytes_nil.2 h) h1
theorem head_elem {u : Tr} (g : Good u) (h : isT u = false) : ∃ c X, plT u = 60 :: c :: X ∧ c ≠ 47 := by
 rw [plT_eq, if_neg (show ¬ (isT u = true) by rw [h]; decide)]
 cases g with
 | text f2 h2 => rw [isT_text] at h; cases h
 | elem f0 f1 f3 f4 h0 h1 h3 h4 hj =>
  obtain ⟨a, l, e⟩ := List.exists_cons_of_ne_nil h1
  have := h0 a (by rw [e]; simp)
  show ∃ c X, 60 :: (bytesOf f0 ++ _) = 60 :: c :: X ∧ c ≠ 47
  rw [e]
  exact ⟨a, _, rfl, by omega⟩
theorem after {t : Tr} {ts : List Tr} (X : List Int) (hj : NoAdj (t :: ts)) (h : isT t = true) (hg : ∀ x ∈ ts, Good x) : St (plL ts ++ 60 :: X) := by
 cases ts with
 | nil => rw [plL]; exact ⟨X, rfl⟩
 | cons b l =>
  rw [NoAdj] at hj
  have hb : isT b = false := by
   cases hb : isT b with
   | true => exact absurd ⟨h, hb⟩ hj.1
   | false => rfl
  obtain ⟨c, Y, e, _⟩ := head_elem (hg b (by simp)) hb
  rw [plL, e]
  exact ⟨_, rfl⟩
theorem noAdj_tail {t : Tr} {ts : List Tr} (h : NoAdj (t :: ts)) : NoAdj ts := by
 cases ts with
 | nil => trivial
 | cons b l => exact h.2
theorem keyed_let {f1 : ByteArray} {f3 : List S53} (h : ∀ a ∈ f3, Let (bytesOf a.f0) ∧ bytesOf a.f0 ≠ KEY) : ∀ p ∈ keyed f1 f3, Let p.1 := by
 intro p hp
 unfold keyed at hp
 rcases List.mem_append.1 hp with hp | hp
 ·
  split at hp
  ·
   cases hp
  ·
   simp at hp
   subst hp
   intro c hc
   simp [KEY] at hc
   omega
 ·
  obtain ⟨a, ha, rfl⟩ := List.mem_map.1 hp
  exact (h a ha).1
theorem attrs_inj : ∀ {f g : List S53}, (f.map fun a => (bytesOf a.f0, bytesOf a.f1)) = (g.map fun a => (bytesOf a.f0, bytesOf a.f1)) → f = g
 | [], [], _ => rfl
 | [], b :: g, h => by simp at h
 | a :: f, [], h => by simp at h
 | a :: f, b :: g, h => by
  simp only [List.map_cons, List.cons.injEq, Prod.mk.injEq] at h
  have e1 := bytes_inj h.1.1
  have e2 := bytes_inj h.1.2
  have e3 := attrs_inj h.2
  obtain ⟨a0, a1⟩ := a
  obtain ⟨b0, b1⟩ := b
  simp only at e1 e2
  rw [e1, e2, e3]
theorem keyed_inj {f1 g1 : ByteArray} {f3 g3 : List S53} (hf : ∀ a ∈ f3, Let (bytesOf a.f0) ∧ bytesOf a.f0 ≠ KEY) (hg : ∀ a ∈ g3, Let (bytesOf a.f0) ∧ bytesOf a.f0 ≠ KEY) (h : keyed f1 f3 = keyed g1 g3) : f1 = g1 ∧ f3 = g3 := by
 unfold keyed at h
 cases h1 : f1.toList.isEmpty with
 | true =>
  cases h2 : g1.toList.isEmpty with
  | true =>
   simp only [h1, h2, if_true, List.nil_append] at h
   exact ⟨(emp_eq h1).trans (emp_eq h2).symm, attrs_inj h⟩
  | false =>
   rw [h1, h2, if_pos rfl, if_neg (by decide), List.nil_append, List.singleton_append] at h
   cases f3 with
   | nil => simp at h
   | cons a l =>
    simp only [List.map_cons, List.cons.injEq, Prod.mk.injEq] at h
    exact absurd h.1.1 (hf a (by simp)).2
 | false =>
  cases h2 : g1.toList.isEmpty with
  | true =>
   rw [h1, h2, if_pos rfl, if_neg (by decide), List.nil_append, List.singleton_append] at h
   cases g3 with
   | nil => simp at h
   | cons a l =>
    simp only [List.map_cons, List.cons.injEq, Prod.mk.injEq] at h
    exact absurd h.1.1.symm (hg a (by simp)).2
  | false =>
   simp only [h1, h2, Bool.false_eq_true, if_false, List.singleton_append, List.cons.injEq, Prod.mk.injEq, true_and] at h
   exact ⟨bytes_inj h.1, attrs_inj h.2⟩
theorem at_head (l : List (List Int × List Int)) (X : List Int) : ∃ c Y, atL l ++ 62 :: X = c :: Y ∧ ¬ (97 ≤ c ∧ c ≤ 122) := by
 cases l with
 | nil => exact ⟨62, X, rfl, by omega⟩
 | cons p l => rw [atL_cons]; exact ⟨32, _, rfl, by omega⟩
theorem parse (t : Tr) : ∀ (u : Tr) (R S : List Int), Good t → Good u → (isT t = true → St R) → (isT u = true → St S) → plT t ++ R = plT u ++ S → t = u ∧ R = S := by
 refine treeInd (p := fun t => ∀ (u : Tr) (R S : List Int), Good t → Good u → (isT t = true → St R) → (isT u = true → St S) → plT t ++ R = plT u ++ S → t = u ∧ R = S) ?_ t
 intro t ih u R S gt gu ht hu h
 have hl : ∀ (ts us : List Tr) (X Y : List Int), (∀ x ∈ ts, x ∈ t.f4) → (∀ x ∈ ts, Good x) → (∀ x ∈ us, Good x) → NoAdj ts → NoAdj us → plL ts ++ 60 :: 47 :: X = plL us ++ 60 :: 47 :: Y → ts = us ∧ X = Y := by
  intro ts
  induction ts with
  | nil =>
   intro us X Y _ _ gu _ _ h
   cases us with
   | nil =>
    rw [plL] at h
    simp only [List.nil_append, List.cons.injEq, true_and] at h
    exact ⟨rfl, h⟩
   | cons b l =>
    simp only [plL, List.nil_append, List.append_assoc] at h
    exfalso
    cases hb : isT b with
    | true =>
     obtain ⟨c, Z, e, hc⟩ := head_text (gu b (by simp)) hb
     rw [e] at h
     simp only [List.nil_append, List.cons_append, List.cons.injEq] at h
     exact hc h.1.symm
    | false =>
     obtain ⟨c, Z, e, hc⟩ := head_elem (gu b (by simp)) hb
     rw [e] at h
     simp only [List.nil_append, List.cons_append, List.cons.injEq] at h
     exact hc h.2.1.symm
  | cons a ts ihl =>
   intro us X Y hm ga gu na nu h
   cases us with
   | nil =>
    simp only [plL, List.nil_append, List.append_assoc] at h
    exfalso
    cases hb : isT a with
    | true =>
     obtain ⟨c, Z, e, hc⟩ := head_text (ga a (by simp)) hb
     rw [e] at h
     simp only [List.nil_append, List.cons_append, List.cons.injEq] at h
     exact hc h.1
    | false =>
     obtain ⟨c, Z, e, hc⟩ := head_elem (ga a (by simp)) hb
     rw [e] at h
     simp only [List.nil_append, List.cons_append, List.cons.injEq] at h
     exact hc h.2.1
   | cons b us =>
    simp only [plL, List.append_assoc] at h
    obtain ⟨e1, h⟩ := ih a (hm a (by simp)) b _ _ (ga a (by simp)) (gu b (by simp)) (fun ha => after _ na ha (fun x hx => ga x (by simp [hx]))) (fun hb => after _ nu hb (fun x hx => gu x (by simp [hx]))) h
    obtain ⟨e2, h⟩ := ihl us X Y (fun x hx => hm x (by simp [hx])) (fun x hx => ga x (by simp [hx])) (fun x hx => gu x (by simp [hx])) (noAdj_tail na) (noAdj_tail nu) h
    exact ⟨by rw [e1, e2], h⟩
 cases hit : isT t with
 | true =>
  cases hiu : isT u with
  | true =>
   obtain ⟨X, rfl⟩ := ht hit
   obtain ⟨Y, rfl⟩ := hu hiu
   rw [plT_eq t, plT_eq u, if_pos hit, if_pos hiu] at h
   obtain ⟨e, hxy⟩ := esc_delim (Or.inr rfl) _ _ _ _ h
   clear h
   cases gt with
   | text f2 h2 =>
    cases gu with
    | text g2 k2 => exact ⟨congrArg (fun z => (⟨⟨#[]⟩, ⟨#[]⟩, z, [], []⟩ : Tr)) (bytes_inj e), by rw [hxy]⟩
    | elem f0 f1 f3 f4 h0 h1 h3 h4 hj => exact absurd (bytes_nil.2 hiu) h1
   | elem f0 f1 f3 f4 h0 h1 h3 h4 hj => exact absurd (bytes_nil.2 hit) h1
  | false =>
   obtain ⟨c, Z, e, hc⟩ := head_text gt hit
   obtain ⟨c', Z', e', hc'⟩ := head_elem gu hiu
   rw [e, e'] at h
   simp only [List.cons_append, List.cons.injEq] at h
   exact absurd h.1 hc
 | false =>
  cases hiu : isT u with
  | true =>
   obtain ⟨c, Z, e, hc⟩ := head_text gu hiu
   obtain ⟨c', Z', e', hc'⟩ := head_elem gt hit
   rw [e, e'] at h
   simp only [List.cons_append, List.cons.injEq] at h
   exact absurd h.1.symm hc
  | false =>
   rw [plT_eq t, plT_eq u, if_neg (show ¬ (isT t = true) by rw [hit]; decide), if_neg (show ¬ (isT u = true) by rw [hiu]; decide)] at h
   cases gt with
   | text f2 h2 => rw [isT_text] at hit; cases hit
   | elem f0 f1 f3 f4 h0 h1 h3 h4 hj =>
    cases gu with
    | text f2 h2 => rw [isT_text] at hiu; cases hiu
    | elem g0 g1 g3 g4 k0 k1 k3 k4 kj =>
     simp only [List.cons_append, List.append_assoc, List.cons.injEq, true_and] at h
     obtain ⟨c, Z, e, hc⟩ := at_head (keyed f1 f3) (plL f4 ++ 60 :: 47 :: (bytesOf f0 ++ 62 :: R))
     obtain ⟨c', Z', e', hc'⟩ := at_head (keyed g1 g3) (plL g4 ++ 60 :: 47 :: (bytesOf g0 ++ 62 :: S))
     have e1 : bytesOf f0 = bytesOf g0 ∧ atL (keyed f1 f3) ++ 62 :: (plL f4 ++ 60 :: 47 :: (bytesOf f0 ++ 62 :: R)) = atL (keyed g1 g3) ++ 62 :: (plL g4 ++ 60 :: 47 :: (bytesOf g0 ++ 62 :: S)) := by
      have h' : bytesOf f0 ++ c :: Z = bytesOf g0 ++ c' :: Z' := by rw [← e, ← e']; simpa using h
      obtain ⟨x1, x2, x3⟩ := span _ _ _ _ _ _ h0 k0 hc hc' h'
      exact ⟨x1, by rw [e, e', x2, x3]⟩
     obtain ⟨e2, h⟩ := at_inj _ _ _ _ (keyed_let h3) (keyed_let k3) e1.2
     obtain ⟨e3, h⟩ := hl f4 g4 _ _ (fun _ h => h) h4 k4 hj kj h
     obtain ⟨e4, e5⟩ := keyed_inj h3 k3 e2
     rw [e1.1] at h
     have e6 := List.append_cancel_left h
     simp only [List.cons.injEq, true_and] at e6
     exact ⟨by rw [bytes_inj e1.1, e4, e5, e3], e6⟩
theorem print_inj {t u : Tr} (gt : Good t) (gu : Good u) (ht : isT t = false) (hu : isT u = false) (h : prS t = prS u) : t = u := by
 have e : plT t = plT u := by rw [← prS_bytes, h, prS_bytes]
 exact (parse t u [] [] gt gu (fun h => by rw [ht] at h; cases h) (fun h => by rw [hu] at h; cases h) (by rw [List.append_nil, List.append_nil]; exact e)).1
end Go.Proofs.Ytloocmeckpoflaa.TreePr
