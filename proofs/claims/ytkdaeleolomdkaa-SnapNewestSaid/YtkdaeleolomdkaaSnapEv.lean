/- What the program's functions of layer 7 come to, said by the plain words. -/
import Derived.Test.YtkdaeleolomdkaaS16
namespace Go.Proofs.Ytkdaeleolomdkaa.SnapEv
set_option linter.unusedVariables false
set_option linter.unusedSimpArgs false
open Go.RowKit Go.Proofs.Ytkdaeleolomdkaa.S Go.Proofs.YtkdaeleolomdkaaW.PrintWords Go.Proofs.YtkdaeleolomdkaaW.PrintLast

theorem wrapI {i : Int} (h0 : -9223372036854775808 ≤ i) (h1 : i ≤ 9223372036854775807) : wrap64 i = i := by unfold wrap64; omega
theorem copy_is {l : List Int} (h : l.length < 140737488355328) : fanlightplain_CopyBytes.f l = some l := by
  unfold fanlightplain_CopyBytes.f
  rw [if_pos (by simpa using h), List.nil_append]
theorem of_is {e s : Int} {l : List Int} (h : l.length < 140737488355328) : fanlightlaw07_of.f e s l = some (e, s, l) := by
  unfold fanlightlaw07_of.f
  rw [copy_is h, Option.bind_some]
theorem bytes_is (l : List Int) : fanlightplain_SameBytes.f l l = some true := by
  unfold fanlightplain_SameBytes.f
  rw [beq_self_eq_true]
theorem same_is (e s : Int) (l : List Int) : fanlightlaw07_same.f e s l e s l = some true := by
  unfold fanlightlaw07_same.f
  rw [if_pos rfl, if_pos rfl, bytes_is, Option.bind_some]
theorem spoil_l0 (n : Nat) : ∀ (d : Nat) (x0 : List Int) (i : Nat), x0.length = n → n ≤ 4611686018427387904 → n - i = d → ∃ r, Ev (fun k => fanlightplain_Spoil.l0 k x0 i) r
  | 0, x0, i, hl, hn, hd => by
    refine ⟨x0, Ev.step (fun k => rfl) ?_⟩
    have n1 : ¬ (i : Int) < (x0.length : Int) := by omega
    simp only [fanlightplain_Spoil.l0, if_neg n1]
    exact Ev.now _
  | d + 1, x0, i, hl, hn, hd => by
    have n1 : (i : Int) < (x0.length : Int) := by omega
    have n2 : (0 : Int) ≤ (i : Int) := by omega
    have n3 : wrap64 ((i : Int) + 1) = ((i + 1 : Nat) : Int) := by rw [wrapI] <;> omega
    obtain ⟨r, hr⟩ := spoil_l0 n d (x0.set (i : Int).toNat (Go.bits .xor .u8 255 (rd x0 i))) (i + 1) (by rw [List.length_set]; exact hl) hn (by omega)
    refine ⟨r, Ev.step (fun k => rfl) ?_⟩
    simp only [fanlightplain_Spoil.l0, if_pos n1, if_pos n2, n3]
    exact hr
theorem spoil_is (l : List Int) (h : l.length ≤ 4611686018427387904) : ∃ r, Ev (fun k => fanlightplain_Spoil.f k l) r := spoil_l0 l.length _ l 0 rfl h rfl
/-- one may be a snapshot -/
def May (e s : Int) (l : List Int) : Prop := 0 ≤ e ∧ e ≤ 1099511627776 ∧ 0 ≤ s ∧ s ≤ 1099511627776 ∧ l.length ≤ 8000
theorem check_may (e s : Int) (l : List Int) : checkOf e s l.length = 0 ↔ May e s l := by
  unfold checkOf May
  split
  · constructor
    · intro h; cases h
    · intro h; omega
  · split
    · constructor
      · intro h; cases h
      · intro h; omega
    · constructor
      · intro _; omega
      · intro _; rfl
theorem enc_good {e s : Int} {l : List Int} (h : May e s l) : snap_Encode.f e s l = some (slotOf e s l, 0) := by
  unfold snap_Encode.f
  rw [if_pos ((check_may e s l).2 h)]
theorem enc_bad {e s : Int} {l : List Int} (h : ¬ May e s l) : ∃ z, z ≠ 0 ∧ snap_Encode.f e s l = some ([], z) := by
  unfold snap_Encode.f
  have := fun h0 => h ((check_may e s l).1 h0)
  rw [if_neg this]
  exact ⟨_, this, rfl⟩
theorem dec_good {e s : Int} {l : List Int} (h : May e s l) (ho : octs l) : Ev (fun k => snap_Decode.f k (slotOf e s l)) (e, s, l, 0) :=
  decode_slot e s l h.1 h.2.1 h.2.2.1 h.2.2.2.1 h.2.2.2.2 ho
theorem ref_check (e s : Int) (l : List Int) (h : ¬ May e s l) : ∃ z, z ≠ 0 ∧ Ev (fun k => fanlightref07_Check.f k e s l) z := by
  unfold fanlightref07_Check.f
  by_cases h1 : e < 0
  · simp only [if_pos h1]
    refine ⟨4, by decide, Ev.step (fun k => rfl) ?_⟩
    simp only [fanlightref07_Check.j0, if_true]
    exact Ev.now _
  · by_cases h2 : e > 1099511627776
    · simp only [if_neg h1, if_pos h2]
      refine ⟨4, by decide, Ev.step (fun k => rfl) ?_⟩
      simp only [fanlightref07_Check.j0, if_true]
      exact Ev.now _
    · by_cases h3 : s < 0
      · simp only [if_neg h1, if_neg h2, if_pos h3]
        refine ⟨4, by decide, Ev.step (fun k => rfl) ?_⟩
        simp only [fanlightref07_Check.j0, if_true]
        exact Ev.now _
      · by_cases h4 : s > 1099511627776
        · simp only [if_neg h1, if_neg h2, if_neg h3, decide_eq_true h4]
          refine ⟨4, by decide, Ev.step (fun k => rfl) ?_⟩
          simp only [fanlightref07_Check.j0, if_true]
          exact Ev.now _
        · simp only [if_neg h1, if_neg h2, if_neg h3, decide_eq_false h4]
          have h5 : (l.length : Int) > 8000 := by unfold May at h; omega
          refine ⟨5, by decide, Ev.step (fun k => rfl) ?_⟩
          simp only [fanlightref07_Check.j0, Bool.false_eq_true, if_false, if_pos h5]
          exact Ev.now _
end Go.Proofs.Ytkdaeleolomdkaa.SnapEv
