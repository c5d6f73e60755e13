/- What the print's words and the walks are, as far as this claim names them. -/
import Derived.Test.YtloocmeckpoflaaGreatYTreeMath
import Derived.Test.YtloocmeckpoflaaGreatYD21
namespace Go.Proofs.YtloocmeckpoflaaGreat.TreePr
set_option linter.unusedVariables false
set_option linter.unusedSimpArgs false
open Go.RowKit Go.Proofs.YtloocmeckpoflaaGreat.D Go.Proofs.YtloocmeckpoflaaGreatW.PrintWords Go.Proofs.YtloocmeckpoflaaGreatW.PrintLast Go.Proofs.YtloocmeckpoflaaGreatW.PrintMore TreeMath
theorem bytes_append (a b : ByteArray) : bytesOf (a ++ b) = bytesOf a ++ bytesOf b := by
 unfold bytesOf
 rw [ByteArray.data_append, Array.toList_append, List.map_append]
theorem bytes_inj {a b : ByteArray} (h : bytesOf a = bytesOf b) : a = b := by rw [← str_bytes a, h, str_bytes]
theorem emp_eq {s : ByteArray} (h : s.toList.isEmpty = true) : s = ⟨#[]⟩ := by
 rw [ByteArray.toList_eq, List.isEmpty_iff] at h
 exact ByteArray.ext (Array.toList_inj.1 h)
theorem bytes_nil {s : ByteArray} : bytesOf s = [] ↔ s.toList.isEmpty = true := by
 rw [ByteArray.toList_eq, List.isEmpty_iff]
 unfold bytesOf
 rw [List.map_eq_nil_iff]
theorem bytes_range {s : ByteArray} : ∀ x ∈ bytesOf s, 0 ≤ x ∧ x < 256 := by
 intro x hx
 unfold bytesOf at hx
 obtain ⟨b, _, rfl⟩ := List.mem_map.1 hx
 have := b.toNat_lt
 omega
theorem bytes_str {l : List Int} (h : ∀ x ∈ l, 0 ≤ x ∧ x < 256) : bytesOf (strOfNums l) = l := by
 unfold bytesOf
 rw [strOfNums_data, List.map_map]
 refine (List.map_congr_left (g := id) (fun x hx => ?_)).trans (List.map_id _)
 have := h x hx
 simp only [Function.comp, id]
 rw [UInt8.toNat_ofNat_of_lt' (by show x.toNat < 256; omega)]
 omega
theorem escOne_cases (o : Int) : (o = 38 ∧ escOne o = [38, 97, 109, 112, 59]) ∨ (o = 60 ∧ escOne o = [38, 108, 116, 59]) ∨ (o = 62 ∧ escOne o = [38, 103, 116, 59]) ∨ (o = 34 ∧ escOne o = [38, 113, 117, 111, 116, 59]) ∨ (o ≠ 38 ∧ o ≠ 60 ∧ o ≠ 62 ∧ o ≠ 34 ∧ escOne o = [o]) := by
 by_cases h1 : o = 38
 ·
  exact Or.inl ⟨h1, by subst h1; decide⟩
 by_cases h2 : o = 60
 ·
  exact Or.inr (Or.inl ⟨h2, by subst h2; decide⟩)
 by_cases h3 : o = 62
 ·
  exact Or.inr (Or.inr (Or.inl ⟨h3, by subst h3; decide⟩))
 by_cases h4 : o = 34
 ·
  exact Or.inr (Or.inr (Or.inr (Or.inl ⟨h4, by subst h4; decide⟩)))
 refine Or.inr (Or.inr (Or.inr (Or.inr ⟨h1, h2, h3, h4, ?_⟩)))
 unfold escOne escL
 rw [if_neg (by omega), if_neg (by omega), if_neg (by omega), if_neg (by omega)]
 rfl
theorem esc_range {l : List Int} (h : ∀ x ∈ l, 0 ≤ x ∧ x < 256) : ∀ x ∈ escLs l, 0 ≤ x ∧ x < 256 := by
 intro x hx
 unfold escLs at hx
 obtain ⟨o, ho, hx⟩ := List.mem_flatMap.1 hx
 rcases escOne_cases o with ⟨rfl, e⟩ | ⟨rfl, e⟩ | ⟨rfl, e⟩ | ⟨rfl, e⟩ | ⟨_, _, _, _, e⟩ <;> rw [e] at hx
 ·
  simp at hx; omega
 ·
  simp at hx; omega
 ·
  simp at hx; omega
 ·
  simp at hx; omega
 ·
  simp at hx; subst hx; exact h x ho
theorem bytes_esc (s : ByteArray) : bytesOf (escB s) = escLs (bytesOf s) := bytes_str (esc_range bytes_range)
theorem escLs_cons (a : Int) (l : List Int) : escLs (a :: l) = escOne a ++ escLs l := by simp [escLs]
def Let (l : List Int) : Prop := ∀ c ∈ l, 97 ≤ c ∧ c ≤ 122
def atL (l : List (List Int × List Int)) : List Int := l.flatMap fun p => 32 :: (p.1 ++ 61 :: 34 :: (escLs p.2 ++ [34]))
theorem atL_cons (p : List Int × List Int) (l : List (List Int × List Int)) (X : List Int) : atL (p :: l) ++ X = 32 :: (p.1 ++ 61 :: 34 :: (escLs p.2 ++ 34 :: (atL l ++ X))) := by
 simp [atL]
def KEY : List Int := [107, 101, 121]
def keyed (f1 : ByteArray) (f3 : List S91) : List (List Int × List Int) := (if f1.toList.isEmpty = true then [] else [(KEY, bytesOf f1)]) ++ f3.map fun a => (bytesOf a.f0, bytesOf a.f1)
def isT (t : Tr) : Bool := t.f0.toList.isEmpty
mutual
def plT : Tr → List Int
 | ⟨f0, f1, f2, f3, f4⟩ => if f0.toList.isEmpty = true then escLs (bytesOf f2) else 60 :: (bytesOf f0 ++ (atL (keyed f1 f3) ++ 62 :: (plL f4 ++ 60 :: 47 :: (bytesOf f0 ++ [62]))))
def plL : List Tr → List Int
 | [] => []
 | t :: ts => plT t ++ plL ts
end
theorem plT_eq (t : Tr) : plT t = if isT t = true then escLs (bytesOf t.f2) else 60 :: (bytesOf t.f0 ++ (atL (keyed t.f1 t.f3) ++ 62 :: (plL t.f4 ++ 60 :: 47 :: (bytesOf t.f0 ++ [62])))) := by
 cases t
 rw [plT]
 rfl
theorem bytes_foldl : ∀ (l : List ByteArray) (s : ByteArray), bytesOf (l.foldl (· ++ ·) s) = bytesOf s ++ l.flatMap bytesOf
 | [], s => by simp
 | a :: l, s => by rw [List.foldl_cons, bytes_foldl l, bytes_append, List.flatMap_cons, List.append_assoc]
theorem b_sp : bytesOf sSp = [32] := rfl
theorem b_eq : bytesOf sEq = [61, 34] := rfl
theorem b_q : bytesOf sQ = [34] := rfl
theorem b_lt : bytesOf sLt = [60] := rfl
theorem b_gt : bytesOf sGt = [62] := rfl
theorem b_end : bytesOf sEnd = [60, 47] := rfl
theorem b_key : bytesOf sKey = [32, 107, 101, 121, 61, 34] := rfl
theorem at_bytes (f3 : List S91) : (f3.flatMap attrP).flatMap bytesOf = atL (f3.map fun a => (bytesOf a.f0, bytesOf a.f1)) := by
 induction f3 with
 | nil => rfl
 | cons a l ih =>
  rw [List.flatMap_cons, List.flatMap_append, ih, List.map_cons]
  have e := atL_cons (bytesOf a.f0, bytesOf a.f1) (l.map fun a => (bytesOf a.f0, bytesOf a.f1)) []
  rw [List.append_nil, List.append_nil] at e
  rw [e]
  simp [attrP, bytes_esc, b_sp, b_eq, b_q]
theorem prT_bytes (t : Tr) : (prT t).flatMap bytesOf = plT t := by
 refine treeInd (p := fun t => (prT t).flatMap bytesOf = plT t) ?_ t
 intro t ih
 have hl : ∀ l : List Tr, (∀ x ∈ l, x ∈ t.f4) → (prL l).flatMap bytesOf = plL l := by
  intro l
  induction l with
  | nil => intro _; rw [prL, plL]; rfl
  | cons x xs ihl =>
   intro hx
   rw [prL, plL, List.flatMap_append, ih x (hx x (by simp)), ihl (fun y hy => hx y (by simp [hy]))]
 rw [prT_eq, plT_eq]
 unfold isT
 cases h0 : t.f0.toList.isEmpty with
 | true => rw [if_pos rfl, if_pos rfl]; simp [bytes_esc]
 | false =>
  simp only [Bool.false_eq_true, ↓reduceIte]
  simp only [List.flatMap_append, at_bytes, hl t.f4 (fun _ h => h), List.flatMap_cons, List.flatMap_nil]
  unfold keyed
  cases h1 : t.f1.toList.isEmpty with
  | true => simp [b_lt, b_gt, b_end]
  | false =>
   have e := atL_cons (KEY, bytesOf t.f1) (t.f3.map fun a => (bytesOf a.f0, bytesOf a.f1)) []
   rw [List.append_nil, List.append_nil] at e
   simp only [Bool.false_eq_true, ↓reduceIte, List.singleton_append, e]
   simp [bytes_esc, b_lt, b_gt, b_end, b_key, b_q, KEY]
theorem prS_bytes (t : Tr) : bytesOf (prS t) = plT t := by
 unfold prS
 rw [bytes_foldl, prT_bytes]
 simp [bytesOf]
theorem isT_text (f1 f2 : ByteArray) (f3 : List S91) (f4 : List Tr) : isT ⟨⟨#[]⟩, f1, f2, f3, f4⟩ = true := bytes_nil.1 rfl
def NoAdj : List Tr → Prop
 | [] => True
 | [_] => True
 | a :: b :: l => ¬ (isT a = true ∧ isT b = true) ∧ NoAdj (b :: l)
inductive Good : Tr → Prop
 | text (f2 : ByteArray) (h : bytesOf f2 ≠ []) : Good ⟨⟨#[]⟩, ⟨#[]⟩, f2, [], []⟩
 | elem (f0 f1 : ByteArray) (f3 : List S91) (f4 : List Tr) (h0 : Let (bytesOf f0)) (h1 : bytesOf f0 ≠ []) (h3 : ∀ a ∈ f3, Let (bytesOf a.f0) ∧ bytesOf a.f0 ≠ KEY) (h4 : ∀ x ∈ f4, Good x) (hj : NoAdj f4) : Good ⟨f0, f1, ⟨#[]⟩, f3, f4⟩
def St (R : List Int) : Prop := ∃ X, R = 60 :: X
theorem head_elem {u : Tr} (g : Good u) (h : isT u = false) : ∃ c X, plT u = 60 :: c :: X ∧ c ≠ 47 := by
 rw [plT_eq, if_neg (show ¬ (isT u = true) by rw [h]; decide)]
 cases g with
 | text f2 h2 => rw [isT_text] at h; cases h
 | elem f0 f1 f3 f4 h0 h1 h3 h4 hj =>
  obtain ⟨a, l, e⟩ := List.exists_cons_of_ne_nil h1
  have := h0 a (by rw [e]; simp)
  show ∃ c X, 60 :: (bytesOf f0 ++ _) = 60 :: c :: X ∧ c ≠ 47
  rw [e]
  exact ⟨a, _, rfl, by omega⟩
theorem after {t : Tr} {ts : List Tr} (X : List Int) (hj : NoAdj (t :: ts)) (h : isT t = true) (hg : ∀ x ∈ ts, Good x) : St (plL ts ++ 60 :: X) := by
 cases ts with
 | nil => rw [plL]; exact ⟨X, rfl⟩
 | cons b l =>
  rw [NoAdj] at hj
  have hb : isT b = false := by
   cases hb : isT b with
   | true => exact absurd ⟨h, hb⟩ hj.1
   | false => rfl
  obtain ⟨c, Y, e, _⟩ := head_elem (hg b (by simp)) hb
  rw [plL, e]
  exact ⟨_, rfl⟩
end Go.Proofs.YtloocmeckpoflaaGreat.TreePr
