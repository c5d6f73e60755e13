/- The longest rising part of a list: plain mathematics, no program in sight. -/
namespace LisMath
set_option linter.unusedVariables false
set_option linter.unusedSimpArgs false

/-- The greatest length told for a number above x; 0: there is none. -/
def above : List Int → List Int → Int → Int
  | y :: ys, n :: ns, x => if x < y then max n (above ys ns x) else above ys ns x
  | _, _, _ => 0
/-- For each place the length of the longest rising part that begins there. -/
def lens : List Int → List Int
  | [] => []
  | x :: xs => (above xs (lens xs) x + 1) :: lens xs
theorem lens_length : ∀ l : List Int, (lens l).length = l.length
  | [] => rfl
  | _ :: xs => by simp [lens, lens_length xs]
theorem above_nonneg : ∀ (ys ns : List Int) (x : Int), 0 ≤ above ys ns x
  | [], _, _ => by simp [above]
  | _ :: _, [], _ => by simp [above]
  | y :: ys, n :: ns, x => by
    have := above_nonneg ys ns x
    simp only [above]; split <;> omega
theorem lens_pos : ∀ (l : List Int) (n : Int), n ∈ lens l → 1 ≤ n
  | [], n, h => by simp [lens] at h
  | x :: xs, n, h => by
    simp only [lens, List.mem_cons] at h
    rcases h with rfl | h
    · have := above_nonneg xs (lens xs) x; omega
    · exact lens_pos xs n h
theorem above_le : ∀ (ys ns : List Int) (x : Int), (∀ i n : Nat, ns[i]? = some (n : Int) → True) → ∀ (b : Int), 0 ≤ b → (∀ n ∈ ns, n ≤ b) → above ys ns x ≤ b
  | [], _, _, _, b, hb, _ => by simp [above]; exact hb
  | _ :: _, [], _, _, b, hb, _ => by simp [above]; exact hb
  | y :: ys, n :: ns, x, _, b, hb, h => by
    have h1 := above_le ys ns x (fun _ _ _ => trivial) b hb (fun m hm => h m (List.mem_cons_of_mem _ hm))
    have h2 := h n List.mem_cons_self
    simp only [above]; split <;> omega
theorem lens_le : ∀ (l : List Int) (n : Int), n ∈ lens l → n ≤ l.length
  | [], n, h => by simp [lens] at h
  | x :: xs, n, h => by
    simp only [lens, List.mem_cons] at h
    have ih := lens_le xs
    rcases h with rfl | h
    · have := above_le xs (lens xs) x (fun _ _ _ => trivial) xs.length (by omega) ih
      simp; omega
    · have := ih n h; simp; omega
/-- What is told above x is told of a place. -/
theorem above_at : ∀ (ys ns : List Int) (x : Int), ns.length = ys.length → 0 < above ys ns x → ∃ i, i < ys.length ∧ x < ys.getD i 0 ∧ ns.getD i 0 = above ys ns x
  | [], _, _, _, h => by simp [above] at h
  | _ :: _, [], _, hl, _ => by simp at hl
  | y :: ys, n :: ns, x, hl, h => by
    simp only [List.length_cons, Nat.add_right_cancel_iff] at hl
    simp only [above] at h ⊢
    split at h
    · rename_i hy
      rw [if_pos hy]
      rcases Int.le_total (above ys ns x) n with hm | hm
      · exact ⟨0, by simp, by simpa using hy, by simp; omega⟩
      · have e : max n (above ys ns x) = above ys ns x := by omega
        rw [e] at h ⊢
        obtain ⟨i, h1, h2, h3⟩ := above_at ys ns x hl h
        exact ⟨i + 1, by simp; exact h1, by simpa using h2, by simpa using h3⟩
    · rename_i hy
      rw [if_neg hy]
      obtain ⟨i, h1, h2, h3⟩ := above_at ys ns x hl h
      exact ⟨i + 1, by simp; exact h1, by simpa using h2, by simpa using h3⟩
theorem above_ge : ∀ (ys ns : List Int) (x : Int), ns.length = ys.length → ∀ i, i < ys.length → x < ys.getD i 0 → ns.getD i 0 ≤ above ys ns x
  | [], _, _, _, i, h, _ => by simp at h
  | _ :: _, [], _, hl, _, _, _ => by simp at hl
  | y :: ys, n :: ns, x, hl, i, hi, hx => by
    simp only [List.length_cons, Nat.add_right_cancel_iff] at hl
    simp only [above]
    cases i with
    | zero =>
      have hx' : x < y := by simpa using hx
      rw [if_pos hx']; simp; omega
    | succ i =>
      have := above_ge ys ns x hl i (by simpa using hi) (by simpa using hx)
      rw [List.getD_cons_succ]
      split <;> omega

/-- The greatest of some numbers, none below 0. -/
def most : List Int → Int
  | [] => 0
  | n :: ns => max n (most ns)
theorem most_nonneg : ∀ l : List Int, 0 ≤ most l
  | [] => by simp [most]
  | n :: ns => by have := most_nonneg ns; simp only [most]; omega
theorem most_ge : ∀ (l : List Int) (n : Int), n ∈ l → n ≤ most l
  | [], n, h => by simp at h
  | m :: ns, n, h => by
    simp only [List.mem_cons] at h
    simp only [most]
    rcases h with rfl | h
    · omega
    · have := most_ge ns n h; omega
theorem most_mem : ∀ (l : List Int), 0 < most l → most l ∈ l
  | [], h => by simp [most] at h
  | n :: ns, h => by
    simp only [most] at h ⊢
    rcases Int.le_total (most ns) n with hm | hm
    · have e : max n (most ns) = n := by omega
      rw [e]; exact List.mem_cons_self
    · have e : max n (most ns) = most ns := by omega
      rw [e] at h ⊢
      exact List.mem_cons_of_mem _ (most_mem ns h)

/-- Is a number the first, or above the last one? -/
def okAfter (last : Option Int) (x : Int) : Bool := match last with | none => true | some y => decide (y < x)
/-- The places that are chosen, from place i on. -/
def pick : List Int → List Int → Int → Int → Option Int → List Int
  | x :: xs, n :: ns, i, left, last => if n = left ∧ okAfter last x = true then i :: pick xs ns (i + 1) (left - 1) (some x) else pick xs ns (i + 1) left last
  | _, _, _, _, _ => []
/-- Their numbers. -/
def pickV : List Int → List Int → Int → Option Int → List Int
  | x :: xs, n :: ns, left, last => if n = left ∧ okAfter last x = true then x :: pickV xs ns (left - 1) (some x) else pickV xs ns left last
  | _, _, _, _ => []
theorem pick_len : ∀ (l ns : List Int) (i left : Int) (last : Option Int), (pick l ns i left last).length = (pickV l ns left last).length
  | [], ns, i, left, last => by cases ns <;> simp [pick, pickV]
  | _ :: _, [], _, _, _ => by simp [pick, pickV]
  | x :: xs, n :: ns, i, left, last => by
    simp only [pick, pickV]; split <;> simp [pick_len xs ns]
/-- There is a place at which a part of that length begins, behind what was chosen. -/
def hasPlace (l ns : List Int) (left : Int) (last : Option Int) : Prop := ∃ j, j < l.length ∧ ns.getD j 0 = left ∧ okAfter last (l.getD j 0) = true
theorem pick_count : ∀ (l : List Int) (i : Int) (left : Int) (last : Option Int), 0 ≤ left → (0 < left → hasPlace l (lens l) left last) → ((pick l (lens l) i left last).length : Int) = left
  | [], i, left, last, h0, h => by
    rcases Int.lt_or_le 0 left with hp | hp
    · obtain ⟨j, hj, _⟩ := h hp; simp at hj
    · simp [pick]; omega
  | x :: xs, i, left, last, h0, h => by
    simp only [lens, pick]
    split
    · rename_i hc
      obtain ⟨hn, hk⟩ := hc
      have := pick_count xs (i + 1) (left - 1) (some x) (by have := above_nonneg xs (lens xs) x; omega) (fun hp => by
        obtain ⟨j, h1, h2, h3⟩ := above_at xs (lens xs) x (lens_length xs) (by omega)
        exact ⟨j, h1, by omega, by simpa [okAfter] using h2⟩)
      simp only [List.length_cons]; omega
    · rename_i hc
      refine pick_count xs (i + 1) left last h0 (fun hp => ?_)
      obtain ⟨j, h1, h2, h3⟩ := h hp
      cases j with
      | zero =>
        exfalso; apply hc
        exact ⟨by simpa [lens] using h2, by simpa using h3⟩
      | succ j => exact ⟨j, by simpa using h1, by simpa [lens] using h2, by simpa using h3⟩

/-- How long the longest rising part is. -/
def longN (l : List Int) : Int := most (lens l)
/-- The places of the longest rising part. -/
def places (l : List Int) : List Int := pick l (lens l) 0 (longN l) none
theorem places_length (l : List Int) : ((places l).length : Int) = longN l := by
  refine pick_count l 0 (longN l) none (most_nonneg _) (fun hp => ?_)
  have hm := most_mem _ hp
  obtain ⟨j, hj, he⟩ := List.getElem_of_mem hm
  refine ⟨j, by rw [← lens_length]; exact hj, ?_, rfl⟩
  rw [List.getD_eq_getElem?_getD, List.getElem?_eq_getElem hj]
  exact he

/-! A rising part that is made by choosing. -/
/-- Some numbers, in order, out of a list. -/
inductive Part : List Int → List Int → Prop
  | nil : Part [] []
  | skip {x : Int} {xs ys : List Int} : Part ys xs → Part ys (x :: xs)
  | take {x : Int} {xs ys : List Int} : Part ys xs → Part (x :: ys) (x :: xs)
def Rises : List Int → Prop
  | [] => True
  | x :: xs => (∀ y, y ∈ xs.head? → x < y) ∧ Rises xs
theorem part_first : ∀ {l p : List Int}, Part p l → ∀ {y : Int} {ys : List Int}, p = y :: ys → Rises p → ∃ j, j < l.length ∧ l.getD j 0 = y ∧ (p.length : Int) ≤ (lens l).getD j 0 := by
  intro l p h
  induction h with
  | nil => intro y ys e; cases e
  | @skip x xs zs hp ih =>
    intro y ys e hr
    obtain ⟨j, h1, h2, h3⟩ := ih e hr
    exact ⟨j + 1, by simp; exact h1, by simpa using h2, by simpa [lens] using h3⟩
  | @take x xs zs hp ih =>
    intro y ys e hr
    obtain ⟨rfl, rfl⟩ := List.cons.inj e
    refine ⟨0, by simp, by simp, ?_⟩
    have e0 : (lens (x :: xs)).getD 0 0 = above xs (lens xs) x + 1 := by simp [lens]
    rw [e0]
    cases zs with
    | nil => have := above_nonneg xs (lens xs) x; simp; omega
    | cons z zs =>
      obtain ⟨j, h1, h2, h3⟩ := ih rfl hr.2
      have hx : x < xs.getD j 0 := by rw [h2]; exact hr.1 z (by simp)
      have := above_ge xs (lens xs) x (lens_length xs) j h1 hx
      simp only [List.length_cons] at h3 ⊢
      omega
theorem part_le {l p : List Int} (h : Part p l) (hr : Rises p) : (p.length : Int) ≤ longN l := by
  cases p with
  | nil => exact most_nonneg _
  | cons y ys =>
    obtain ⟨j, h1, h2, h3⟩ := part_first h rfl hr
    refine Int.le_trans h3 (most_ge _ _ ?_)
    rw [List.getD_eq_getElem?_getD, List.getElem?_eq_getElem (by rw [lens_length]; exact h1)]
    exact List.getElem_mem _
theorem pickV_part : ∀ (l ns : List Int) (left : Int) (last : Option Int), Part (pickV l ns left last) l
  | [], ns, left, last => by cases ns <;> exact Part.nil
  | x :: xs, [], left, last => by
    have : ∀ ys : List Int, Part [] ys := fun ys => by induction ys with | nil => exact .nil | cons y ys ih => exact .skip ih
    exact this _
  | x :: xs, n :: ns, left, last => by
    simp only [pickV]; split
    · exact .take (pickV_part xs ns _ _)
    · exact .skip (pickV_part xs ns _ _)
theorem pickV_rises : ∀ (l ns : List Int) (left : Int) (last : Option Int), Rises (pickV l ns left last) ∧ ∀ y, y ∈ (pickV l ns left last).head? → okAfter last y = true
  | [], ns, left, last => by cases ns <;> simp [pickV, Rises]
  | x :: xs, [], left, last => by simp [pickV, Rises]
  | x :: xs, n :: ns, left, last => by
    simp only [pickV]; split
    · rename_i hc
      obtain ⟨h1, h2⟩ := pickV_rises xs ns (left - 1) (some x)
      refine ⟨⟨fun y hy => by have := h2 y hy; simpa [okAfter] using this, h1⟩, fun y hy => ?_⟩
      simp at hy; subst hy; exact hc.2
    · exact pickV_rises xs ns left last

theorem part_nil : ∀ l : List Int, Part [] l
  | [] => .nil
  | _ :: xs => .skip (part_nil xs)
theorem part_snoc_take {p l : List Int} (h : Part p l) (x : Int) : Part (p ++ [x]) (l ++ [x]) := by
  induction h with
  | nil => exact .take .nil
  | skip _ ih => exact .skip ih
  | take _ ih => exact .take ih
theorem part_snoc_skip {p l : List Int} (h : Part p l) (x : Int) : Part p (l ++ [x]) := by
  induction h with
  | nil => exact .skip .nil
  | skip _ ih => exact .skip ih
  | take _ ih => exact .take ih
theorem rises_snoc : ∀ {p : List Int} {x : Int}, Rises p → (∀ y, p.getLast? = some y → y < x) → Rises (p ++ [x])
  | [], x, _, _ => by simp [Rises]
  | [a], x, _, h => by
    have := h a (by simp)
    simp [Rises, this]
  | a :: b :: p, x, hr, h => by
    refine ⟨?_, rises_snoc (p := b :: p) hr.2 (fun y hy => h y (by simpa using hy))⟩
    intro y hy
    exact hr.1 y (by simpa using hy)
theorem longN_pos {l : List Int} (h : 0 < l.length) : 0 < longN l := by
  cases l with
  | nil => simp at h
  | cons x xs =>
    have h1 := part_le (l := x :: xs) (p := [x]) (.take (part_nil xs)) (by simp [Rises])
    have h2 : (([x] : List Int).length : Int) = 1 := rfl
    omega

end LisMath
