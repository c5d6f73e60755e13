/- What the print's words and the walks are, as far as this claim names them. -/
import Derived.Test.YtkdaeleolomdkaaYRefSealV
import Derived.Test.YtkdaeleolomdkaaYV7
import Derived.Test.YtkdaeleolomdkaaYV13
import Derived.Test.YtkdaeleolomdkaaYV14
import Derived.Test.YtkdaeleolomdkaaYV15
import Derived.Test.YtkdaeleolomdkaaYV17
namespace Go.Proofs.Ytkdaeleolomdkaa.SnapDecV
set_option linter.unusedVariables false
set_option linter.unusedSimpArgs false
open Go.RowKit Go.Proofs.Ytkdaeleolomdkaa.V Go.Proofs.YtkdaeleolomdkaaW.PrintWords Go.Proofs.YtkdaeleolomdkaaW.PrintLast RefSealV
theorem snumber_l0 (l : List Int) (ho : octs l) (hl : l.length = 8) : ∀ (rest pre : List Int), l = pre ++ rest → Ev (fun k => snap_number.l0 k (numOf pre) l (l.length : Int) (pre.length : Int)) (wrap64 (mn (numOf l) 1099511627777))
  | [], pre, h => by
    refine Ev.step (fun k => rfl) ?_
    have e : l = pre := by simpa using h
    subst e
    simp only [snap_number.l0, if_neg (show ¬ (l.length : Int) < (l.length : Int) by omega)]
    exact Ev.now _
  | x :: rest, pre, h => by
    refine Ev.step (fun k => rfl) ?_
    have hlen : l.length = pre.length + 1 + rest.length := by rw [h]; simp; omega
    have hrd : rd l (pre.length : Int) = x := by
      unfold rd
      rw [Int.toNat_natCast, h, List.getD_eq_getElem?_getD, List.getElem?_append_right (Nat.le_refl _), Nat.sub_self]
      rfl
    have hx := ho x (by rw [h]; simp)
    have hpo : octs pre := fun y hy => ho y (by rw [h]; simp [hy])
    obtain ⟨b0, b1⟩ := numOf_bound pre 0 hpo (Int.le_refl _)
    have hp7 : ((256 : Int) ^ pre.length) ≤ 72057594037927936 := by
      have : ((256 : Nat) ^ pre.length) ≤ 256 ^ 7 := Nat.pow_le_pow_right (by decide) (by omega)
      have e2 : ((256 : Nat) ^ 7) = 72057594037927936 := by decide
      rw [e2] at this
      rw [show ((256 : Int) ^ pre.length) = ((256 ^ pre.length : Nat) : Int) from (Int.natCast_pow 256 _).symm]
      exact Int.ofNat_le.2 this
    have n3 : wrap64 ((pre.length : Int) + 1) = ((pre.length + 1 : Nat) : Int) := by rw [RefSealV.wrapI] <;> omega
    simp only [snap_number.l0, if_pos (show (pre.length : Int) < (l.length : Int) by omega), if_pos (show (0 : Int) ≤ (pre.length : Int) by omega), hrd, n3]
    rw [RefSealV.or_oct64 (numOf pre) x b0 (by rw [Int.zero_add, Int.one_mul] at b1; exact Int.lt_of_lt_of_le b1 hp7) hx.1 hx.2]
    have ih := snumber_l0 l ho hl rest (pre ++ [x]) (by rw [h]; simp)
    have e3 : numOf (pre ++ [x]) = numOf pre * 256 + x := by unfold numOf; rw [List.foldl_append]; rfl
    rw [e3, List.length_append] at ih
    exact ih
theorem snumber {l : List Int} (ho : octs l) (hl : 8 ≤ l.length) : Ev (fun k => snap_number.f k l) (mn (numOf (l.take 8)) 1099511627777) := by
  have h8 : (l.take 8).length = 8 := by simp; omega
  have hb := numOf_bound (l.take 8) 0 (octs_take ho 8) (Int.le_refl _)
  have e : wrap64 (mn (numOf (l.take 8)) 1099511627777) = mn (numOf (l.take 8)) 1099511627777 := by
    have h0 : 0 ≤ numOf (l.take 8) := hb.1
    unfold mn
    split <;> (rw [RefSealV.wrapI] <;> omega)
  have := snumber_l0 (l.take 8) (octs_take ho 8) h8 (l.take 8) [] rfl
  rw [e] at this
  unfold snap_number.f
  simp only [if_pos (show 8 ≤ (l.length : Int) by omega), Option.bind_some]
  exact this
theorem max_l0 (l : List Int) (hl : l.length ≤ 1000000) : ∀ (rest pre : List Int) (m : Int), l = pre ++ rest → ∃ M, Ev (fun k => slices_Max_byte_byte.l0 k l m (pre.length : Int)) M ∧ m ≤ M ∧ (∀ v ∈ rest, v ≤ M) ∧ (M = m ∨ M ∈ rest)
  | [], pre, m, h => by
    have e : l = pre := by simpa using h
    subst e
    refine ⟨m, Ev.step (fun k => rfl) ?_, Int.le_refl _, by simp, .inl rfl⟩
    simp only [slices_Max_byte_byte.l0, if_neg (show ¬ (l.length : Int) < (l.length : Int) by omega)]
    exact Ev.now _
  | x :: rest, pre, m, h => by
    have hlen : l.length = pre.length + 1 + rest.length := by rw [h]; simp; omega
    have hrd : rd l (pre.length : Int) = x := by
      unfold rd
      rw [Int.toNat_natCast, h, List.getD_eq_getElem?_getD, List.getElem?_append_right (Nat.le_refl _), Nat.sub_self]
      rfl
    obtain ⟨M, h1, h2, h3, h4⟩ := max_l0 l hl rest (pre ++ [x]) (mx m x) (by rw [h]; simp)
    have n3 : wrap64 ((pre.length : Int) + 1) = ((pre.length + 1 : Nat) : Int) := by rw [RefSealV.wrapI] <;> omega
    have hmx : m ≤ mx m x ∧ x ≤ mx m x ∧ (mx m x = m ∨ mx m x = x) := by unfold mx; split <;> omega
    refine ⟨M, Ev.step (fun k => rfl) ?_, by omega, ?_, ?_⟩
    · simp only [slices_Max_byte_byte.l0, if_pos (show (pre.length : Int) < (l.length : Int) by omega), if_pos (show (0 : Int) ≤ (pre.length : Int) by omega), hrd, n3]
      rw [List.length_append] at h1
      exact h1
    · intro v hv
      rcases List.mem_cons.1 hv with rfl | hv
      · omega
      · exact h3 v hv
    · rcases h4 with h4 | h4
      · rcases hmx.2.2 with e | e
        · exact .inl (by omega)
        · exact .inr (by rw [h4, e]; simp)
      · exact .inr (by simp [h4])
theorem max_tail (z : List Int) (ho : octs z) (hl : z.length ≤ 100000) : ∃ M, Ev (fun k => slices_Max_byte_byte.f k ([0] ++ z)) M ∧ (M > 0 ↔ ¬ z.all (fun x => x == 0) = true) := by
  obtain ⟨M, h1, h2, h3, h4⟩ := max_l0 (0 :: z) (by simp; omega) z [0] 0 rfl
  refine ⟨M, ?_, ?_⟩
  · unfold slices_Max_byte_byte.f
    have e : ([0] ++ z : List Int) = 0 :: z := rfl
    have hr : rd (0 :: z) 0 = 0 := rfl
    simp only [e, List.length_cons, if_neg (show ¬ ((z.length + 1 : Nat) : Int) < 1 by omega), if_pos (show 0 < ((z.length + 1 : Nat) : Int) by omega), hr]
    exact h1
  · rw [List.all_eq_true]
    constructor
    · intro hM hall
      rcases h4 with h4 | h4
      · omega
      · have := hall M h4
        simp at this
        omega
    · intro hn
      rcases Int.lt_or_le 0 M with h | h
      · exact h
      · exfalso
        apply hn
        intro v hv
        have := h3 v hv
        have := ho v hv
        simp
        omega
theorem dec_eq {l : List Int} (ho : octs l) (hl : l.length = 8160) : ∃ r, Ev (fun k => fanlightref07_Decode.f k l) r ∧ Ev (fun k => snap_Decode.f k l) r ∧ r.2.2.1.length ≤ 8160 := by
  have hp := get_is (l := l) (by omega) ho
  have hr := get_ref ho (by omega)
  have hdo : octs (getS l).2.1 ∧ ((getS l).2.2.2 = 0 → 8 ≤ (getS l).2.2.1 ∧ (getS l).2.2.1 ≤ 8160 ∧ (getS l).2.1.length ≤ 8160) := by
    have hb := num3_lo ho
    unfold getS
    split
    · exact ⟨by intro x hx; simp at hx, fun h => by cases h⟩
    · split
      · exact ⟨by intro x hx; simp at hx, fun h => by cases h⟩
      · split
        · exact ⟨by intro x hx; simp at hx, fun h => by cases h⟩
        · split
          · exact ⟨by intro x hx; simp at hx, fun h => by cases h⟩
          · split
            · refine ⟨octs_drop (octs_take ho _) _, fun _ => ?_⟩
              dsimp only
              refine ⟨by omega, by omega, ?_⟩
              rw [List.length_drop, List.length_take]
              omega
            · exact ⟨by intro x hx; simp at hx, fun h => by cases h⟩
  generalize getS l = g at hp hr hdo
  obtain ⟨gk, gd, gn, gx⟩ := g
  dsimp only at hdo
  have hl' : (l.length : Int) = 8160 := by omega
  unfold fanlightref07_Decode.f snap_Decode.f
  simp only [if_pos hl, if_pos hl', hp, Option.bind_some]
  by_cases hx : gx = 0
  · obtain ⟨hdo, hgn⟩ := hdo
    obtain ⟨hg8, hgl, hgd⟩ := hgn hx
    by_cases hk : gk = 3
    · by_cases hs : gd.length < 16
      · refine ⟨(0, 0, [], 8), Ev.bind hr ?_, ?_, by simp⟩
        · simp only [if_pos hx, if_pos hk, if_pos hs]
          exact Ev.now _
        · simp only [if_pos hx, if_pos hk, if_pos (show (gd.length : Int) < 16 by omega)]
          exact Ev.now _
      · have hs' : ¬ (gd.length : Int) < 16 := by omega
        have c8 : 8 ≤ (gd.length : Int) := by omega
        have c16 : 16 ≤ (gd.length : Int) := by omega
        have nx := number_is (octs_take hdo 8) (by simp; omega)
        have ny := number_is (octs_drop (octs_take hdo 16) 8) (by simp; omega)
        have sx := snumber hdo (by omega)
        have sy := snumber (octs_drop hdo 8) (by rw [List.length_drop]; omega)
        have e8 : (gd.drop 8).take 8 = (gd.take 16).drop 8 := by rw [List.drop_take]
        rw [e8] at sy
        have bx := numOf_bound (gd.take 8) 0 (octs_take hdo 8) (Int.le_refl _)
        have by_ := numOf_bound ((gd.take 16).drop 8) 0 (octs_drop (octs_take hdo 16) 8) (Int.le_refl _)
        have bx0 : 0 ≤ numOf (gd.take 8) := bx.1
        have by0 : 0 ≤ numOf ((gd.take 16).drop 8) := by_.1
        clear bx by_ e8
        generalize numOf (gd.take 8) = x at nx sx bx0
        generalize numOf ((gd.take 16).drop 8) = y at ny sy by0
        have hcl : bytes_Clone.f (gd.drop 16) = some (gd.drop 16) := by unfold bytes_Clone.f; rw [if_pos (by rw [List.length_drop]; omega)]
        have hcp : fanlightref04_Copied.f (gd.drop 16) = some (gd.drop 16) := by
          unfold fanlightref04_Copied.f
          rw [if_pos (by simp; omega), List.nil_append]
        have hck : Ev (fun k => snap_Check.f k (mn x 1099511627777) (mn y 1099511627777) (gd.drop 16)) (checkOf (mn x 1099511627777) (mn y 1099511627777) (gd.drop 16).length) := Ev.of (k := 5) (fun k => snap_Check.mono _ _ _ k) (check_is _ _ _)
        have c5 : 0 ≤ gn := by omega
        have c6 : gn ≤ (l.length : Int) := by omega
        obtain ⟨M, hM, hMt⟩ := max_tail (l.drop gn.toNat) (octs_drop ho _) (by rw [List.length_drop]; omega)
        have c7 : ([0] : List Int).length + (l.drop gn.toNat).length < 140737488355328 := by simp; omega
        -- the program's way, up to the check
        have prog : ∀ r, Ev (fun k => if checkOf (mn x 1099511627777) (mn y 1099511627777) (gd.drop 16).length = 0 then (if M > 0 then some (0, 0, ([] : List Int), (23 : Int)) else some (mn x 1099511627777, mn y 1099511627777, gd.drop 16, 0)) else some (0, 0, ([] : List Int), checkOf (mn x 1099511627777) (mn y 1099511627777) (gd.drop 16).length)) r →
            Ev (fun k => if gx = 0 then (if gk = 3 then (if (gd.length : Int) < 16 then (some (0, 0, ([] : List Int), 8)) else ((snap_number.f k gd).bind fun t133 => (if 8 ≤ (gd.length : Int) then ((snap_number.f k (gd.drop 8)).bind fun t138 => (if 16 ≤ (gd.length : Int) then ((bytes_Clone.f (gd.drop 16)).bind fun t143 => ((snap_Check.f k t133 t138 t143).bind fun t147 => (if t147 = 0 then (if 0 ≤ gn then (if gn ≤ (l.length : Int) then (if ([0] : List Int).length + (l.drop gn.toNat).length < 140737488355328 then ((slices_Max_byte_byte.f k ([0] ++ l.drop gn.toNat)).bind fun t158 => (if t158 > 0 then (some (0, 0, ([] : List Int), 23)) else (some (t133, t138, t143, 0)))) else (none)) else (none)) else (none)) else (some (0, 0, ([] : List Int), t147))))) else (none))) else (none)))) else (some (0, 0, ([] : List Int), 22))) else (some (0, 0, ([] : List Int), gx))) r := by
          intro r h
          simp only [if_pos hx, if_pos hk, if_neg hs']
          refine Ev.bind sx ?_
          simp only [if_pos c8]
          refine Ev.bind sy ?_
          simp only [if_pos c16, hcl, Option.bind_some]
          refine Ev.bind hck ?_
          by_cases hc0 : checkOf (mn x 1099511627777) (mn y 1099511627777) (gd.drop 16).length = 0
          · simp only [if_pos hc0, if_pos c5, if_pos c6, if_pos c7] at h ⊢
            exact Ev.bind hM h
          · simp only [if_neg hc0] at h ⊢
            exact h
        have m1 : mn x 1099511627777 = if x ≤ 1099511627777 then x else 1099511627777 := by unfold mn; split <;> split <;> omega
        have m2 : mn y 1099511627777 = if y ≤ 1099511627777 then y else 1099511627777 := by unfold mn; split <;> split <;> omega
        by_cases hxy : x > 1099511627776 ∨ y > 1099511627776
        · have hc4 : checkOf (mn x 1099511627777) (mn y 1099511627777) (gd.drop 16).length = 4 := by
            unfold checkOf
            rw [if_pos]
            rw [m1, m2]
            split <;> split <;> omega
          refine ⟨(0, 0, [], 4), Ev.bind hr ?_, prog _ ?_, by simp⟩
          · simp only [if_pos hx, if_pos hk, if_neg hs, fanlightref07_Decode.g]
            refine Ev.bind nx ?_
            refine Ev.bind ny ?_
            simp only [if_pos hxy]
            exact Ev.now _
          · simp only [hc4]
            exact Ev.now _
        · have wx : wrap64 x = x := by rw [RefSealV.wrapI] <;> omega
          have wy : wrap64 y = y := by rw [RefSealV.wrapI] <;> omega
          have mx1 : mn x 1099511627777 = x := by rw [m1, if_pos (by omega)]
          have my1 : mn y 1099511627777 = y := by rw [m2, if_pos (by omega)]
          have rc : Ev (fun k => fanlightref07_Check.f k x y (gd.drop 16)) (if 8000 < (gd.drop 16).length then 5 else 0) := by
            unfold fanlightref07_Check.f
            simp only [if_neg (show ¬ x < 0 by omega), if_neg (show ¬ x > 1099511627776 by omega), if_neg (show ¬ y < 0 by omega), decide_eq_false (show ¬ y > 1099511627776 by omega)]
            refine Ev.step (fun k => rfl) ?_
            by_cases h5 : 8000 < (gd.drop 16).length
            · simp only [fanlightref07_Check.j0, Bool.false_eq_true, if_false, if_pos (show ((gd.drop 16).length : Int) > 8000 by omega), if_pos h5]
              exact Ev.now _
            · simp only [fanlightref07_Check.j0, Bool.false_eq_true, if_false, if_neg (show ¬ ((gd.drop 16).length : Int) > 8000 by omega), if_neg h5]
              exact Ev.now _
          have hcv : checkOf x y (gd.drop 16).length = if 8000 < (gd.drop 16).length then 5 else 0 := by
            unfold checkOf
            rw [if_neg (by omega)]
          rw [mx1, my1, hcv] at prog
          have refw : ∀ r, Ev (fun k => if (if 8000 < (gd.drop 16).length then (5 : Int) else 0) = 0 then (if tailZero l gn.toNat = true then some (x, y, gd.drop 16, (0 : Int)) else some (0, 0, [], 23)) else some (0, 0, [], 5)) r →
              Ev (fun k => if gx = 0 then (if gk = 3 then (if gd.length < 16 then some (0, 0, [], 8) else fanlightref07_Decode.g k l (gk, gd, gn, gx)) else some (0, 0, [], 22)) else some (0, 0, [], gx)) r := by
            intro r h
            simp only [if_pos hx, if_pos hk, if_neg hs, fanlightref07_Decode.g]
            refine Ev.bind nx ?_
            refine Ev.bind ny ?_
            simp only [if_neg hxy, hcp, Option.bind_some, wx, wy]
            refine Ev.bind rc ?_
            simp only [if_pos c5]
            exact h
          by_cases h5 : 8000 < (gd.drop 16).length
          · rw [if_pos h5] at prog refw
            refine ⟨(0, 0, [], 5), Ev.bind hr (refw _ ?_), prog _ ?_, by simp⟩
            · exact Ev.now _
            · exact Ev.now _
          · rw [if_neg h5] at prog refw
            by_cases ht : tailZero l gn.toNat = true
            · have hm0 : ¬ M > 0 := fun h => (hMt.1 h) ht
              refine ⟨(x, y, gd.drop 16, 0), Ev.bind hr (refw _ ?_), prog _ ?_, by rw [List.length_drop]; omega⟩
              · simp only [if_true, if_pos ht]
                exact Ev.now _
              · simp only [if_true, if_neg hm0]
                exact Ev.now _
            · have hm0 : M > 0 := hMt.2 ht
              refine ⟨(0, 0, [], 23), Ev.bind hr (refw _ ?_), prog _ ?_, by simp⟩
              · simp only [if_true, if_neg ht]
                exact Ev.now _
              · simp only [if_true, if_pos hm0]
                exact Ev.now _
    · refine ⟨(0, 0, [], 22), Ev.bind hr ?_, ?_, by simp⟩
      · simp only [if_pos hx, if_neg hk]
        exact Ev.now _
      · simp only [if_pos hx, if_neg hk]
        exact Ev.now _
  · refine ⟨(0, 0, [], gx), Ev.bind hr ?_, ?_, by simp⟩
    · simp only [if_neg hx]
      exact Ev.now _
    · simp only [if_neg hx]
      exact Ev.now _
end Go.Proofs.Ytkdaeleolomdkaa.SnapDecV
