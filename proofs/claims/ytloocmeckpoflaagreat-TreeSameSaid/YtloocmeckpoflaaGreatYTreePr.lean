/- What the print's words and the walks are, as far as this claim names them. -/
import Derived.Test.YtloocmeckpoflaaGreatYTreeMath
import Derived.Test.YtloocmeckpoflaaGreatYD21
namespace Go.Proofs.YtloocmeckpoflaaGreat.TreePr
set_option linter.unusedVariables false
set_option linter.unusedSimpArgs false
open Go.RowKit Go.Proofs.YtloocmeckpoflaaGreat.D Go.Proofs.YtloocmeckpoflaaGreatW.PrintWords Go.Proofs.YtloocmeckpoflaaGreatW.PrintLast Go.Proofs.YtloocmeckpoflaaGreatW.PrintMore TreeMath
theorem emp_eq {s : ByteArray} (h : s.toList.isEmpty = true) : s = ⟨#[]⟩ := by
 rw [ByteArray.toList_eq, List.isEmpty_iff] at h
 exact ByteArray.ext (Array.toList_inj.1 h)
theorem bytes_nil {s : ByteArray} : bytesOf s = [] ↔ s.toList.isEmpty = true := by
 rw [ByteArray.toList_eq, List.isEmpty_iff]
 unfold bytesOf
 rw [List.map_eq_nil_iff]
def Let (l : List Int) : Prop := ∀ c ∈ l, 97 ≤ c ∧ c ≤ 122
def atL (l : List (List Int × List Int)) : List Int := l.flatMap fun p => 32 :: (p.1 ++ 61 :: 34 :: (escLs p.2 ++ [34]))
def KEY : List Int := [107, 101, 121]
def keyed (f1 : ByteArray) (f3 : List S91) : List (List Int × List Int) := (if f1.toList.isEmpty = true then [] else [(KEY, bytesOf f1)]) ++ f3.map fun a => (bytesOf a.f0, bytesOf a.f1)
def isT (t : Tr) : Bool := t.f0.toList.isEmpty
mutual
def plT : Tr → List Int
 | ⟨f0, f1, f2, f3, f4⟩ => if f0.toList.isEmpty = true then escLs (bytesOf f2) else 60 :: (bytesOf f0 ++ (atL (keyed f1 f3) ++ 62 :: (plL f4 ++ 60 :: 47 :: (bytesOf f0 ++ [62]))))
def plL : List Tr → List Int
 | [] => []
 | t :: ts => plT t ++ plL ts
end
theorem plT_eq (t : Tr) : plT t = if isT t = true then escLs (bytesOf t.f2) else 60 :: (bytesOf t.f0 ++ (atL (keyed t.f1 t.f3) ++ 62 :: (plL t.f4 ++ 60 :: 47 :: (bytesOf t.f0 ++ [62])))) := by
 cases t
 rw [plT]
 rfl
theorem isT_text (f1 f2 : ByteArray) (f3 : List S91) (f4 : List Tr) : isT ⟨⟨#[]⟩, f1, f2, f3, f4⟩ = true := bytes_nil.1 rfl
def NoAdj : List Tr → Prop
 | [] => True
 | [_] => True
 | a :: b :: l => ¬ (isT a = true ∧ isT b = true) ∧ NoAdj (b :: l)
inductive Good : Tr → Prop
 | text (f2 : ByteArray) (h : bytesOf f2 ≠ []) : Good ⟨⟨#[]⟩, ⟨#[]⟩, f2, [], []⟩
 | elem (f0 f1 : ByteArray) (f3 : List S91) (f4 : List Tr) (h0 : Let (bytesOf f0)) (h1 : bytesOf f0 ≠ []) (h3 : ∀ a ∈ f3, Let (bytesOf a.f0) ∧ bytesOf a.f0 ≠ KEY) (h4 : ∀ x ∈ f4, Good x) (hj : NoAdj f4) : Good ⟨f0, f1, ⟨#[]⟩, f3, f4⟩
def St (R : List Int) : Prop := ∃ X, R = 60 :: X
theorem head_elem {u : Tr} (g : Good u) (h : isT u = false) : ∃ c X, plT u = 60 :: c :: X ∧ c ≠ 47 := by
 rw [plT_eq, if_neg (show ¬ (isT u = true) by rw [h]; decide)]
 cases g with
 | text f2 h2 => rw [isT_text] at h; cases h
 | elem f0 f1 f3 f4 h0 h1 h3 h4 hj =>
  obtain ⟨a, l, e⟩ := List.exists_cons_of_ne_nil h1
  have := h0 a (by rw [e]; simp)
  show ∃ c X, 60 :: (bytesOf f0 ++ _) = 60 :: c :: X ∧ c ≠ 47
  rw [e]
  exact ⟨a, _, rfl, by omega⟩
theorem after {t : Tr} {ts : List Tr} (X : List Int) (hj : NoAdj (t :: ts)) (h : isT t = true) (hg : ∀ x ∈ ts, Good x) : St (plL ts ++ 60 :: X) := by
 cases ts with
 | nil => rw [plL]; exact ⟨X, rfl⟩
 | cons b l =>
  rw [NoAdj] at hj
  have hb : isT b = false := by
   cases hb : isT b with
   | true => exact absurd ⟨h, hb⟩ hj.1
   | false => rfl
  obtain ⟨c, Y, e, _⟩ := head_elem (hg b (by simp)) hb
  rw [plL, e]
  exact ⟨_, rfl⟩
end Go.Proofs.YtloocmeckpoflaaGreat.TreePr
