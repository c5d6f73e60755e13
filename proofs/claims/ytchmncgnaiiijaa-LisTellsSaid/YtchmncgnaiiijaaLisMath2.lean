/- The places of the longest rising part, and the other places: plain mathematics, no program in sight. -/
import Derived.Test.YtchmncgnaiiijaaLisMath
namespace LisMath
set_option linter.unusedVariables false
set_option linter.unusedSimpArgs false

theorem longN_exists (l : List Int) : ∃ p, Part p l ∧ Rises p ∧ (p.length : Int) = longN l :=
  ⟨_, pickV_part l (lens l) (longN l) none, (pickV_rises l (lens l) (longN l) none).1, by rw [← pick_len l (lens l) 0]; exact places_length l⟩
theorem part_snoc_inv : ∀ {l p : List Int} {x : Int}, Part p (l ++ [x]) → Part p l ∨ ∃ q, p = q ++ [x] ∧ Part q l := by
  intro l
  induction l with
  | nil =>
    intro p x h
    cases h with
    | skip h => exact .inl h
    | take h => cases h; exact .inr ⟨[], rfl, .nil⟩
  | cons y ys ih =>
    intro p x h
    cases h with
    | skip h =>
      rcases ih h with h2 | ⟨q, rfl, h2⟩
      · exact .inl (.skip h2)
      · exact .inr ⟨q, rfl, .skip h2⟩
    | take h =>
      rcases ih h with h2 | ⟨q, rfl, h2⟩
      · exact .inl (.take h2)
      · exact .inr ⟨y :: q, rfl, .take h2⟩
theorem rises_init : ∀ {q : List Int} {x : Int}, Rises (q ++ [x]) → Rises q
  | [], _, _ => trivial
  | [a], _, _ => by simp [Rises]
  | a :: b :: q, x, h => by
    refine ⟨fun y hy => h.1 y (by simpa using hy), rises_init (q := b :: q) (x := x) h.2⟩
theorem part_mem {p l : List Int} (h : Part p l) : ∀ y ∈ p, y ∈ l := by
  induction h with
  | nil => intro y hy; exact hy
  | skip _ ih => intro y hy; exact List.mem_cons_of_mem _ (ih y hy)
  | take _ ih =>
    intro y hy
    rcases List.mem_cons.1 hy with rfl | hy
    · exact List.mem_cons_self
    · exact List.mem_cons_of_mem _ (ih y hy)
theorem part_length {p l : List Int} (h : Part p l) : p.length ≤ l.length := by
  induction h with
  | nil => simp
  | skip _ ih => simp; omega
  | take _ ih => simp; omega
theorem longN_le_length (l : List Int) : longN l ≤ l.length := by
  obtain ⟨p, h1, _, h3⟩ := longN_exists l
  have := part_length h1
  omega
theorem longN_snoc (l : List Int) (x : Int) : longN l ≤ longN (l ++ [x]) ∧ longN (l ++ [x]) ≤ longN l + 1 ∧ ((∀ y ∈ l, y < x) → longN (l ++ [x]) = longN l + 1) := by
  obtain ⟨p, p1, p2, p3⟩ := longN_exists l
  obtain ⟨q, q1, q2, q3⟩ := longN_exists (l ++ [x])
  have a := part_le (part_snoc_skip p1 x) p2
  have b : longN (l ++ [x]) ≤ longN l + 1 := by
    rcases part_snoc_inv q1 with h | ⟨q', rfl, h⟩
    · have := part_le h q2; omega
    · have := part_le h (rises_init q2)
      simp at q3; omega
  refine ⟨by omega, b, fun hx => ?_⟩
  have c := part_le (part_snoc_take p1 x) (rises_snoc p2 (fun y hy => hx y (part_mem p1 y (List.mem_of_getLast? hy))))
  simp at c; omega
/-- A list that rises is its own longest part. -/
theorem part_self : ∀ l : List Int, Part l l
  | [] => .nil
  | _ :: xs => .take (part_self xs)
theorem longN_rises {l : List Int} (h : Rises l) : longN l = l.length := by
  have := part_le (part_self l) h
  have := longN_le_length l
  omega
theorem rises_of_longN {l : List Int} (h : longN l = l.length) : Rises l := by
  obtain ⟨p, p1, p2, p3⟩ := longN_exists l
  have key : ∀ {p l : List Int}, Part p l → p.length = l.length → p = l := by
    intro p l hp
    induction hp with
    | nil => intro _; rfl
    | skip hp _ => intro he; have := part_length hp; simp at he; omega
    | take _ ih => intro he; rw [ih (by simpa using he)]
  rwa [← key p1 (by omega)]

/-! places -/
theorem pick_range : ∀ (l ns : List Int) (i left : Int) (last : Option Int) (q : Int), q ∈ pick l ns i left last → i ≤ q ∧ q < i + l.length
  | [], ns, i, left, last, q, h => by cases ns <;> simp [pick] at h
  | x :: xs, [], i, left, last, q, h => by simp [pick] at h
  | x :: xs, n :: ns, i, left, last, q, h => by
    simp only [pick] at h
    split at h
    · rcases List.mem_cons.1 h with rfl | h
      · simp; omega
      · have := pick_range xs ns _ _ _ _ h; simp; omega
    · have := pick_range xs ns _ _ _ _ h; simp; omega
theorem pick_rises : ∀ (l ns : List Int) (i left : Int) (last : Option Int), Rises (pick l ns i left last)
  | [], ns, i, left, last => by cases ns <;> simp [pick, Rises]
  | x :: xs, [], i, left, last => by simp [pick, Rises]
  | x :: xs, n :: ns, i, left, last => by
    simp only [pick]; split
    · refine ⟨fun y hy => ?_, pick_rises _ _ _ _ _⟩
      have := pick_range xs ns (i + 1) (left - 1) (some x) y (List.mem_of_mem_head? hy)
      omega
    · exact pick_rises _ _ _ _ _
theorem pick_vals : ∀ (l ns : List Int) (i left : Int) (last : Option Int), (pick l ns i left last).map (fun q => l.getD (q - i).toNat 0) = pickV l ns left last
  | [], ns, i, left, last => by cases ns <;> simp [pick, pickV]
  | x :: xs, [], i, left, last => by simp [pick, pickV]
  | x :: xs, n :: ns, i, left, last => by
    have e : ∀ (left' : Int) (last' : Option Int), (pick xs ns (i + 1) left' last').map (fun q => (x :: xs).getD (q - i).toNat 0) = pickV xs ns left' last' := by
      intro left' last'
      rw [← pick_vals xs ns (i + 1) left' last']
      apply List.map_congr_left
      intro q hq
      have := pick_range _ _ _ _ _ _ hq
      rw [show (q - i).toNat = (q - (i + 1)).toNat + 1 by omega, List.getD_cons_succ]
    simp only [pick, pickV]; split
    · rw [List.map_cons, e]; simp
    · rw [e]
theorem rises_get : ∀ {p : List Int} {j : Nat}, Rises p → j + 1 < p.length → p.getD j 0 < p.getD (j + 1) 0
  | [], j, _, h => by simp at h
  | [a], j, _, h => by simp at h
  | a :: b :: p, 0, hr, h => by simpa using hr.1 b (by simp)
  | a :: b :: p, j + 1, hr, h => by
    rw [List.getD_cons_succ, List.getD_cons_succ]
    exact rises_get hr.2 (by simpa using h)
theorem rises_lt : ∀ {p : List Int}, Rises p → ∀ {a b : Nat}, a < b → b < p.length → p.getD a 0 < p.getD b 0 := by
  intro p hr a b hab hb
  induction b with
  | zero => omega
  | succ b ih =>
    have h1 := rises_get hr hb
    rcases Nat.lt_or_ge a b with h | h
    · have := ih h (by omega); omega
    · obtain rfl : a = b := by omega
      exact h1
theorem rises_tail {x : Int} {p : List Int} (h : Rises (x :: p)) : Rises p := h.2
theorem rises_all {x : Int} : ∀ {p : List Int}, Rises (x :: p) → ∀ y ∈ p, x < y
  | [], _, y, h => by simp at h
  | a :: p, hr, y, h => by
    have h1 := hr.1 a (by simp)
    rcases List.mem_cons.1 h with rfl | h
    · exact h1
    · have := rises_all hr.2 y h; omega

/-- The places from i on, d of them, that are not told (p: what is told, from i on). -/
def rest : List Int → Nat → Nat → List Int
  | _, _, 0 => []
  | [], i, d + 1 => (i : Int) :: rest [] (i + 1) d
  | q :: qs, i, d + 1 => if q = (i : Int) then rest qs (i + 1) d else (i : Int) :: rest (q :: qs) (i + 1) d
theorem rest_length : ∀ (d i : Nat) (p : List Int), Rises p → (∀ q ∈ p, (i : Int) ≤ q ∧ q < i + d) → (rest p i d).length + p.length = d
  | 0, i, p, hr, h => by
    cases p with
    | nil => simp [rest]
    | cons q qs => have := h q List.mem_cons_self; omega
  | d + 1, i, [], hr, h => by
    have := rest_length d (i + 1) [] trivial (by simp)
    simp [rest] at this ⊢; omega
  | d + 1, i, q :: qs, hr, h => by
    simp only [rest]
    have hq := h q List.mem_cons_self
    split
    · rename_i e
      have := rest_length d (i + 1) qs hr.2 (fun y hy => by
        have h1 := rises_all hr y hy
        have h2 := h y (List.mem_cons_of_mem _ hy)
        omega)
      simp; omega
    · rename_i e
      have := rest_length d (i + 1) (q :: qs) hr (fun y hy => by
        have h2 := h y hy
        rcases List.mem_cons.1 hy with rfl | hy'
        · omega
        · have h1 := rises_all hr y hy'; omega)
      simp at this ⊢; omega
/-- The other places. -/
def others (l : List Int) : List Int := rest (places l) 0 l.length
theorem places_rises (l : List Int) : Rises (places l) := pick_rises _ _ _ _ _
theorem places_range (l : List Int) : ∀ q ∈ places l, 0 ≤ q ∧ q < (l.length : Int) := fun q hq => by
  have := pick_range _ _ _ _ _ _ hq; omega
theorem places_vals (l : List Int) : Rises ((places l).map fun q => l.getD q.toNat 0) := by
  have h := pick_vals l (lens l) 0 (longN l) none
  have e : (places l).map (fun q => l.getD q.toNat 0) = pickV l (lens l) (longN l) none := by
    rw [← h]
    unfold places
    apply List.map_congr_left
    intro q _
    rw [Int.sub_zero]
  rw [e]
  exact (pickV_rises _ _ _ _).1
theorem others_length (l : List Int) : (others l).length + (places l).length = l.length :=
  rest_length l.length 0 (places l) (places_rises l) (fun q hq => by have := places_range l q hq; omega)

end LisMath
