/- What the print's words and the walks are, as far as this claim names them. -/
import Derived.Test.YtloocmeckpoflaaGreatYTreePr
import Derived.Test.YtloocmeckpoflaaGreatYD21
namespace Go.Proofs.YtloocmeckpoflaaGreat.TreeFit
set_option linter.unusedVariables false
set_option linter.unusedSimpArgs false
open Go.RowKit Go.Proofs.YtloocmeckpoflaaGreat.D Go.Proofs.YtloocmeckpoflaaGreatW.PrintWords Go.Proofs.YtloocmeckpoflaaGreatW.PrintLast Go.Proofs.YtloocmeckpoflaaGreatW.PrintMore TreeMath TreePr
theorem node_plain {t : Tr} {n level : Int} (h : nodeE n t level = 0) : plainB t.f0 t.f1 t.f2 t.f3 = true := by
 have hz := nodeE_zero h
 unfold nodeE at h
 rw [if_neg (by omega), if_neg hz.2.1] at h
 split at h
 ·
  cases h
 ·
  rename_i hh
  cases hp : plainB t.f0 t.f1 t.f2 t.f3 with
  | true => rfl
  | false => exact absurd (Or.inl hp) hh
theorem plain_text {f0 f1 f2 : ByteArray} {f3 : List S91} (h : plainB f0 f1 f2 f3 = true) (he : f0.toList.isEmpty = true) : f1.toList.isEmpty = true ∧ f2.size ≤ 128 ∧ f3 = [] := by
 unfold plainB at h
 rw [if_pos (emp_iff.2 he)] at h
 simp only [Bool.and_eq_true, decide_eq_true_eq] at h
 exact ⟨emp_iff.1 h.1, h.2.1, List.length_eq_zero_iff.1 h.2.2⟩
theorem plain_elem {f0 f1 f2 : ByteArray} {f3 : List S91} (h : plainB f0 f1 f2 f3 = true) (he : f0.toList.isEmpty = false) : lettersB f0 = true ∧ f1.size ≤ 16 ∧ f2.toList.isEmpty = true ∧ f3.length ≤ 16 ∧ badAttrs ⟨#[]⟩ f3 = false := by
 unfold plainB at h
 rw [if_neg (by rw [emp_iff, he]; decide)] at h
 simp only [Bool.and_eq_true, decide_eq_true_eq, Bool.not_eq_true'] at h
 exact ⟨h.1, h.2.1, emp_iff.1 h.2.2.1, h.2.2.2.1, h.2.2.2.2⟩
theorem letters_of {s : ByteArray} (h : lettersB s = true) : bytesOf s ≠ [] ∧ Let (bytesOf s) ∧ s.size ≤ 16 := by
 unfold lettersB at h
 simp only [Bool.and_eq_true, decide_eq_true_eq, Bool.not_eq_true', decide_eq_false_iff_not] at h
 refine ⟨fun e => h.1 (emp_iff.2 (bytes_nil.1 e)), fun c hc => ?_, h.2.1⟩
 have := List.any_eq_false.1 h.2.2 c hc
 unfold badC at this
 simp only [Bool.or_eq_true, decide_eq_true_eq] at this
 omega
theorem attrs_of : ∀ {l : List S91} {lst : ByteArray}, badAttrs lst l = false → ∀ a ∈ l, lettersB a.f0 = true ∧ a.f1.size ≤ 128
 | x :: xs, lst, h, a, ha => by
  rw [badAttrs, Bool.or_eq_false_iff] at h
  rcases List.mem_cons.1 ha with rfl | ha
  ·
   have h1 := h.1
   unfold bad1 at h1
   simp only [Bool.or_eq_false_iff, Bool.not_eq_false', decide_eq_false_iff_not] at h1
   exact ⟨h1.2.1, by omega⟩
  ·
   exact attrs_of h.2 a ha
theorem mayIn_kid {t : Tr} (h : MayIn t) {x : Tr} (hx : x ∈ t.f4) : MayIn x := by
 obtain ⟨j, hj, rfl⟩ := List.mem_iff_getElem.1 hx
 obtain ⟨_, hn, _⟩ := walkT_ok t 1 (0, 0, 0) h
 have hw := h
 unfold MayIn at hw
 rw [walkT_eq, if_pos rfl, if_pos hn] at hw
 obtain ⟨st', h1, h2, h3⟩ := walkL_each 2 t.f4 _ hw ⟨by decide, by decide⟩ (by decide) j hj
 exact walkT_less _ 2 1 st' (0, 0, 0) h1 (by omega) (by simp only; omega) rfl ⟨h2, h3⟩ (by decide)
theorem mayIn_node {t : Tr} (h : MayIn t) : nodeE 0 t 1 = 0 := (walkT_ok t 1 (0, 0, 0) h).2.1
theorem fitT_eq (t : Tr) : fitT t = (decide (t.f1.size ≤ 100000) && decide (t.f2.size ≤ 100000) && t.f3.all (fun a => decide (a.f1.size ≤ 100000)) && fitL t.f4 && decide (t.f3.length ≤ 1000) && decide (t.f4.length ≤ 1000)) := by
 cases t
 rw [fitT]
theorem size_nil {s : ByteArray} (h : s.toList.isEmpty = true) : s.size = 0 := by rw [emp_eq h]; rfl
theorem mayIn_fit (t : Tr) : MayIn t → fitT t = true := by
 refine treeInd (p := fun t => MayIn t → fitT t = true) ?_ t
 intro t ih h
 have hn := mayIn_node h
 have hz := nodeE_zero hn
 have hp := node_plain hn
 have hl : ∀ l : List Tr, (∀ x ∈ l, x ∈ t.f4) → fitL l = true := by
  intro l
  induction l with
  | nil => intro _; rw [fitL]
  | cons x xs ihl =>
   intro hx
   rw [fitL, Bool.and_eq_true]
   exact ⟨ih x (hx x (by simp)) (mayIn_kid h (hx x (by simp))), ihl (fun y hy => hx y (by simp [hy]))⟩
 rw [fitT_eq]
 simp only [Bool.and_eq_true, decide_eq_true_eq, List.all_eq_true]
 cases he : t.f0.toList.isEmpty with
 | true =>
  obtain ⟨h1, h2, h3⟩ := plain_text hp he
  have := size_nil h1
  refine ⟨⟨⟨⟨⟨by omega, by omega⟩, ?_⟩, hl _ (fun _ h => h)⟩, by rw [h3]; decide⟩, by omega⟩
  intro a ha
  rw [h3] at ha
  cases ha
 | false =>
  obtain ⟨h1, h2, h3, h4, h5⟩ := plain_elem hp he
  have := size_nil h3
  refine ⟨⟨⟨⟨⟨by omega, by omega⟩, ?_⟩, hl _ (fun _ h => h)⟩, by omega⟩, by omega⟩
  intro a ha
  have := (attrs_of h5 a ha).2
  omega
theorem esc_len : ∀ l : List Int, (escLs l).length ≤ 6 * l.length
 | [] => by simp [escLs]
 | a :: l => by
  have h1 := esc_len l
  have h2 := escOne_len a
  rw [escLs_cons, List.length_append, List.length_cons]
  omega
theorem at_len : ∀ l : List (List Int × List Int), (∀ p ∈ l, p.1.length ≤ 16 ∧ p.2.length ≤ 128) → (atL l).length ≤ 800 * l.length
 | [], _ => by simp [atL]
 | p :: l, h => by
  have h1 := at_len l (fun q hq => h q (by simp [hq]))
  have h2 := h p (by simp)
  have h3 := esc_len p.2
  have e := atL_cons p l []
  rw [List.append_nil, List.append_nil] at e
  rw [e]
  simp only [List.length_cons, List.length_append]
  omega
theorem keyed_len {f1 : ByteArray} {f3 : List S91} (h1 : f1.size ≤ 16) (h3 : f3.length ≤ 16) (ha : ∀ a ∈ f3, a.f0.size ≤ 16 ∧ a.f1.size ≤ 128) : (atL (keyed f1 f3)).length ≤ 13600 := by
 have hk : ∀ p ∈ keyed f1 f3, p.1.length ≤ 16 ∧ p.2.length ≤ 128 := by
  intro p hp
  unfold keyed at hp
  rcases List.mem_append.1 hp with hp | hp
  ·
   split at hp
   ·
    cases hp
   ·
    simp at hp
    subst hp
    simp only [bytesOf_length, KEY, List.length_cons, List.length_nil]
    omega
  ·
   obtain ⟨a, hm, rfl⟩ := List.mem_map.1 hp
   simp only [bytesOf_length]
   exact ha a hm
 have hl : (keyed f1 f3).length ≤ 17 := by
  unfold keyed
  rw [List.length_append, List.length_map]
  split <;> simp <;> omega
 have := at_len _ hk
 omega
theorem print_len (t : Tr) : MayIn t → ((plT t).length : Int) ≤ 20000 * cntT t := by
 refine treeInd (p := fun t => MayIn t → ((plT t).length : Int) ≤ 20000 * cntT t) ?_ t
 intro t ih h
 have hn := mayIn_node h
 have hp := node_plain hn
 have hl : ∀ l : List Tr, (∀ x ∈ l, x ∈ t.f4) → ((plL l).length : Int) ≤ 20000 * cntL l := by
  intro l
  induction l with
  | nil => intro _; rw [plL, cntL]; simp
  | cons x xs ihl =>
   intro hx
   have e1 := ih x (hx x (by simp)) (mayIn_kid h (hx x (by simp)))
   have e2 := ihl (fun y hy => hx y (by simp [hy]))
   rw [plL, cntL, List.length_append]
   omega
 have hk := hl _ (fun _ h => h)
 have hnn := cntL_nn t.f4
 rw [plT_eq, cntT_eq]
 cases he : t.f0.toList.isEmpty with
 | true =>
  obtain ⟨h1, h2, h3⟩ := plain_text hp he
  rw [if_pos (show isT t = true from he)]
  have := esc_len (bytesOf t.f2)
  rw [bytesOf_length] at this
  omega
 | false =>
  obtain ⟨h1, h2, h3, h4, h5⟩ := plain_elem hp he
  have hle := (letters_of h1).2.2
  rw [if_neg (show ¬ (isT t = true) by unfold isT; rw [he]; decide)]
  have := keyed_len h2 h4 (fun a ha => ⟨(letters_of (attrs_of h5 a ha).1).2.2, (attrs_of h5 a ha).2⟩)
  simp only [List.length_cons, List.length_append, bytesOf_length, List.length_nil]
  omega
theorem may_fits {t : Tr} (h : May t) : fitT t = true ∧ (prS t).size ≤ 140737488355328 ∧ (prS t).size ≠ 0 := by
 have h1 := mayIn_fit t h.2
 have h2 := print_len t h.2
 have h3 := may_cnt h
 have e : (prS t).size = (plT t).length := by rw [← prS_bytes, bytesOf_length]
 refine ⟨h1, by omega, ?_⟩
 rw [e, plT_eq, if_neg (show ¬ (isT t = true) by unfold isT; rw [h.1]; decide)]
 simp
theorem size_f {t : Tr} (hok : okL t.f4 = true) : tree_Size.f t.f0 t.f1 t.f2 t.f3 t.f4 = some (sizeR t) := by
 unfold tree_Size.f
 rw [if_pos hok]
 cases t
 rfl
theorem print_may {t : Tr} (h : May t) (hok : okL t.f4 = true) : tree_Print.f t.f0 t.f1 t.f2 t.f3 t.f4 = some (prS t, 0) := by
 unfold tree_Print.f tree_Check.f
 rw [size_f hok, sizeR_may h]
 simp only [Option.bind_some, if_true]
 have hf := may_fits h
 cases t
 exact if_pos hf
end Go.Proofs.YtloocmeckpoflaaGreat.TreeFit
