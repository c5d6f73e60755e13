/- What the print's words and the walks are, as far as this claim names them. -/
import Derived.Test.YtkdaeleolomdkaaYRefSealU
import Derived.Test.YtkdaeleolomdkaaYU10
import Derived.Test.YtkdaeleolomdkaaYU15
import Derived.Test.YtkdaeleolomdkaaYU18
import Derived.Test.YtkdaeleolomdkaaYU19
namespace Go.Proofs.Ytkdaeleolomdkaa.Pure
set_option linter.unusedVariables false
set_option linter.unusedSimpArgs false
open Go.RowKit Go.Proofs.Ytkdaeleolomdkaa.U Go.Proofs.YtkdaeleolomdkaaW.PrintWords Go.Proofs.YtkdaeleolomdkaaW.PrintLast RefSealU
theorem snumber_l0 (l : List Int) (ho : octs l) (hl : l.length = 8) : ∀ (rest pre : List Int), l = pre ++ rest → Ev (fun k => snap_number.l0 k (numOf pre) l (l.length : Int) (pre.length : Int)) (wrap64 (mn (numOf l) 1099511627777))
  | [], pre, h => by
    refine Ev.step (fun k => rfl) ?_
    have e : l = pre := by simpa using h
    subst e
    simp only [snap_number.l0, if_neg (show ¬ (l.length : Int) < (l.length : Int) by omega)]
    exact Ev.now _
  | x :: rest, pre, h => by
    refine Ev.step (fun k => rfl) ?_
    have hlen : l.length = pre.length + 1 + rest.length := by rw [h]; simp; omega
    have hrd : rd l (pre.length : Int) = x := by
      unfold rd
      rw [Int.toNat_natCast, h, List.getD_eq_getElem?_getD, List.getElem?_append_right (Nat.le_refl _), Nat.sub_self]
      rfl
    have hx := ho x (by rw [h]; simp)
    have hpo : octs pre := fun y hy => ho y (by rw [h]; simp [hy])
    obtain ⟨b0, b1⟩ := numOf_bound pre 0 hpo (Int.le_refl _)
    have hp7 : ((256 : Int) ^ pre.length) ≤ 72057594037927936 := by
      have : ((256 : Nat) ^ pre.length) ≤ 256 ^ 7 := Nat.pow_le_pow_right (by decide) (by omega)
      have e2 : ((256 : Nat) ^ 7) = 72057594037927936 := by decide
      rw [e2] at this
      rw [show ((256 : Int) ^ pre.length) = ((256 ^ pre.length : Nat) : Int) from (Int.natCast_pow 256 _).symm]
      exact Int.ofNat_le.2 this
    have n3 : wrap64 ((pre.length : Int) + 1) = ((pre.length + 1 : Nat) : Int) := by rw [RefSealU.wrapI] <;> omega
    simp only [snap_number.l0, if_pos (show (pre.length : Int) < (l.length : Int) by omega), if_pos (show (0 : Int) ≤ (pre.length : Int) by omega), hrd, n3]
    rw [RefSealU.or_oct64 (numOf pre) x b0 (by rw [Int.zero_add, Int.one_mul] at b1; exact Int.lt_of_lt_of_le b1 hp7) hx.1 hx.2]
    have ih := snumber_l0 l ho hl rest (pre ++ [x]) (by rw [h]; simp)
    have e3 : numOf (pre ++ [x]) = numOf pre * 256 + x := by unfold numOf; rw [List.foldl_append]; rfl
    rw [e3, List.length_append] at ih
    exact ih
theorem snumber {l : List Int} (ho : octs l) (hl : 8 ≤ l.length) : Ev (fun k => snap_number.f k l) (mn (numOf (l.take 8)) 1099511627777) := by
  have h8 : (l.take 8).length = 8 := by simp; omega
  have hb := numOf_bound (l.take 8) 0 (octs_take ho 8) (Int.le_refl _)
  have e : wrap64 (mn (numOf (l.take 8)) 1099511627777) = mn (numOf (l.take 8)) 1099511627777 := by
    have h0 : 0 ≤ numOf (l.take 8) := hb.1
    unfold mn
    split <;> (rw [RefSealU.wrapI] <;> omega)
  have := snumber_l0 (l.take 8) (octs_take ho 8) h8 (l.take 8) [] rfl
  rw [e] at this
  unfold snap_number.f
  simp only [if_pos (show 8 ≤ (l.length : Int) by omega), Option.bind_some]
  exact this
theorem max_l0 (l : List Int) (hl : l.length ≤ 1000000) : ∀ (rest pre : List Int) (m : Int), l = pre ++ rest → ∃ M, Ev (fun k => slices_Max_byte_byte.l0 k l m (pre.length : Int)) M ∧ m ≤ M ∧ (∀ v ∈ rest, v ≤ M) ∧ (M = m ∨ M ∈ rest)
  | [], pre, m, h => by
    have e : l = pre := by simpa using h
    subst e
    refine ⟨m, Ev.step (fun k => rfl) ?_, Int.le_refl _, by simp, .inl rfl⟩
    simp only [slices_Max_byte_byte.l0, if_neg (show ¬ (l.length : Int) < (l.length : Int) by omega)]
    exact Ev.now _
  | x :: rest, pre, m, h => by
    have hlen : l.length = pre.length + 1 + rest.length := by rw [h]; simp; omega
    have hrd : rd l (pre.length : Int) = x := by
      unfold rd
      rw [Int.toNat_natCast, h, List.getD_eq_getElem?_getD, List.getElem?_append_right (Nat.le_refl _), Nat.sub_self]
      rfl
    obtain ⟨M, h1, h2, h3, h4⟩ := max_l0 l hl rest (pre ++ [x]) (mx m x) (by rw [h]; simp)
    have n3 : wrap64 ((pre.length : Int) + 1) = ((pre.length + 1 : Nat) : Int) := by rw [RefSealU.wrapI] <;> omega
    have hmx : m ≤ mx m x ∧ x ≤ mx m x ∧ (mx m x = m ∨ mx m x = x) := by unfold mx; split <;> omega
    refine ⟨M, Ev.step (fun k => rfl) ?_, by omega, ?_, ?_⟩
    · simp only [slices_Max_byte_byte.l0, if_pos (show (pre.length : Int) < (l.length : Int) by omega), if_pos (show (0 : Int) ≤ (pre.length : Int) by omega), hrd, n3]
      rw [List.length_append] at h1
      exact h1
    · intro v hv
      rcases List.mem_cons.1 hv with rfl | hv
      · omega
      · exact h3 v hv
    · rcases h4 with h4 | h4
      · rcases hmx.2.2 with e | e
        · exact .inl (by omega)
        · exact .inr (by rw [h4, e]; simp)
      · exact .inr (by simp [h4])
theorem max_tail (z : List Int) (ho : octs z) (hl : z.length ≤ 100000) : ∃ M, Ev (fun k => slices_Max_byte_byte.f k ([0] ++ z)) M ∧ (M > 0 ↔ ¬ z.all (fun x => x == 0) = true) := by
  obtain ⟨M, h1, h2, h3, h4⟩ := max_l0 (0 :: z) (by simp; omega) z [0] 0 rfl
  refine ⟨M, ?_, ?_⟩
  · unfold slices_Max_byte_byte.f
    have e : ([0] ++ z : List Int) = 0 :: z := rfl
    have hr : rd (0 :: z) 0 = 0 := rfl
    simp only [e, List.length_cons, if_neg (show ¬ ((z.length + 1 : Nat) : Int) < 1 by omega), if_pos (show 0 < ((z.length + 1 : Nat) : Int) by omega), hr]
    exact h1
  · rw [List.all_eq_true]
    constructor
    · intro hM hall
      rcases h4 with h4 | h4
      · omega
      · have := hall M h4
        simp at this
        omega
    · intro hn
      rcases Int.lt_or_le 0 M with h | h
      · exact h
      · exfalso
        apply hn
        intro v hv
        have := h3 v hv
        have := ho v hv
        simp
        omega
theorem dec_eq {l : List Int} (ho : octs l) (hl : l.length = 8160) : ∃ r, Ev (fun k => fanlightref07_Decode.f k l) r ∧ Ev (fun k => snap_Decode.f k l) r ∧ r.2.2.1.length ≤ 8160 := by
  have hp := get_is (l := l) (by omega) ho
  have hr := get_ref ho (by omega)
  have hdo : octs (getS l).2.1 ∧ ((getS l).2.2.2 = 0 → 8 ≤ (getS l).2.2.1 ∧ (getS l).2.2.1 ≤ 8160 ∧ (getS l).2.1.length ≤ 8160) := by
    have hb := num3_lo ho
    unfold getS
    split
    · exact ⟨by intro x hx; simp at hx, fun h => by cases h⟩
    · split
      · exact ⟨by intro x hx; simp at hx, fun h => by cases h⟩
      · split
        · exact ⟨by intro x hx; simp at hx, fun h => by cases h⟩
        · split
          · exact ⟨by intro x hx; simp at hx, fun h => by cases h⟩
          · split
            · refine ⟨octs_drop (octs_take ho _) _, fun _ => ?_⟩
              dsimp only
              refine ⟨by omega, by omega, ?_⟩
              rw [List.length_drop, List.length_take]
              omega
            · exact ⟨by intro x hx; simp at hx, fun h => by cases h⟩
  generalize getS l = g at hp hr hdo
  obtain ⟨gk, gd, gn, gx⟩ := g
  dsimp only at hdo
  have hl' : (l.length : Int) = 8160 := by omega
  unfold fanlightref07_Decode.f snap_Decode.f
  simp only [if_pos hl, if_pos hl', hp, Option.bind_some]
  by_cases hx : gx = 0
  · obtain ⟨hdo, hgn⟩ := hdo
    obtain ⟨hg8, hgl, hgd⟩ := hgn hx
    by_cases hk : gk = 3
    · by_cases hs : gd.length < 16
      · refine ⟨(0, 0, [], 8), Ev.bind hr ?_, ?_, by simp⟩
        · simp only [if_pos hx, if_pos hk, if_pos hs]
          exact Ev.now _
        · simp only [if_pos hx, if_pos hk, if_pos (show (gd.length : Int) < 16 by omega)]
          exact Ev.now _
      · have hs' : ¬ (gd.length : Int) < 16 := by omega
        have c8 : 8 ≤ (gd.length : Int) := by omega
        have c16 : 16 ≤ (gd.length : Int) := by omega
        have nx := number_is (octs_take hdo 8) (by simp; omega)
        have ny := number_is (octs_drop (octs_take hdo 16) 8) (by simp; omega)
        have sx := snumber hdo (by omega)
        have sy := snumber (octs_drop hdo 8) (by rw [List.length_drop]; omega)
        have e8 : (gd.drop 8).take 8 = (gd.take 16).drop 8 := by rw [List.drop_take]
        rw [e8] at sy
        have bx := numOf_bound (gd.take 8) 0 (octs_take hdo 8) (Int.le_refl _)
        have by_ := numOf_bound ((gd.take 16).drop 8) 0 (octs_drop (octs_take hdo 16) 8) (Int.le_refl _)
        have bx0 : 0 ≤ numOf (gd.take 8) := bx.1
        have by0 : 0 ≤ numOf ((gd.take 16).drop 8) := by_.1
        clear bx by_ e8
        generalize numOf (gd.take 8) = x at nx sx bx0
        generalize numOf ((gd.take 16).drop 8) = y at ny sy by0
        have hcl : bytes_Clone.f (gd.drop 16) = some (gd.drop 16) := by unfold bytes_Clone.f; rw [if_pos (by rw [List.length_drop]; omega)]
        have hcp : fanlightref04_Copied.f (gd.drop 16) = some (gd.drop 16) := by
          unfold fanlightref04_Copied.f
          rw [if_pos (by simp; omega), List.nil_append]
        have hck : Ev (fun k => snap_Check.f k (mn x 1099511627777) (mn y 1099511627777) (gd.drop 16)) (checkOf (mn x 1099511627777) (mn y 1099511627777) (gd.drop 16).length) := Ev.of (k := 5) (fun k => snap_Check.mono _ _ _ k) (check_is _ _ _)
        have c5 : 0 ≤ gn := by omega
        have c6 : gn ≤ (l.length : Int) := by omega
        obtain ⟨M, hM, hMt⟩ := max_tail (l.drop gn.toNat) (octs_drop ho _) (by rw [List.length_drop]; omega)
        have c7 : ([0] : List Int).length + (l.drop gn.toNat).length < 140737488355328 := by simp; omega
        -- the program's way, up to the check
        have prog : ∀ r, Ev (fun k => if checkOf (mn x 1099511627777) (mn y 1099511627777) (gd.drop 16).length = 0 then (if M > 0 then some (0, 0, ([] : List Int), (23 : Int)) else some (mn x 1099511627777, mn y 1099511627777, gd.drop 16, 0)) else some (0, 0, ([] : List Int), checkOf (mn x 1099511627777) (mn y 1099511627777) (gd.drop 16).length)) r →
            Ev (fun k => if gx = 0 then (if gk = 3 then (if (gd.length : Int) < 16 then (some (0, 0, ([] : List Int), 8)) else ((snap_number.f k gd).bind fun t133 => (if 8 ≤ (gd.length : Int) then ((snap_number.f k (gd.drop 8)).bind fun t138 => (if 16 ≤ (gd.length : Int) then ((bytes_Clone.f (gd.drop 16)).bind fun t143 => ((snap_Check.f k t133 t138 t143).bind fun t147 => (if t147 = 0 then (if 0 ≤ gn then (if gn ≤ (l.length : Int) then (if ([0] : List Int).length + (l.drop gn.toNat).length < 140737488355328 then ((slices_Max_byte_byte.f k ([0] ++ l.drop gn.toNat)).bind fun t158 => (if t158 > 0 then (some (0, 0, ([] : List Int), 23)) else (some (t133, t138, t143, 0)))) else (none)) else (none)) else (none)) else (some (0, 0, ([] : List Int), t147))))) else (none))) else (none)))) else (some (0, 0, ([] : List Int), 22))) else (some (0, 0, ([] : List Int), gx))) r := by
          intro r h
          simp only [if_pos hx, if_pos hk, if_neg hs']
          refine Ev.bind sx ?_
          simp only [if_pos c8]
          refine Ev.bind sy ?_
          simp only [if_pos c16, hcl, Option.bind_some]
          refine Ev.bind hck ?_
          by_cases hc0 : checkOf (mn x 1099511627777) (mn y 1099511627777) (gd.drop 16).length = 0
          · simp only [if_pos hc0, if_pos c5, if_pos c6, if_pos c7] at h ⊢
            exact Ev.bind hM h
          · simp only [if_neg hc0] at h ⊢
            exact h
        have m1 : mn x 1099511627777 = if x ≤ 1099511627777 then x else 1099511627777 := by unfold mn; split <;> split <;> omega
        have m2 : mn y 1099511627777 = if y ≤ 1099511627777 then y else 1099511627777 := by unfold mn; split <;> split <;> omega
        by_cases hxy : x > 1099511627776 ∨ y > 1099511627776
        · have hc4 : checkOf (mn x 1099511627777) (mn y 1099511627777) (gd.drop 16).length = 4 := by
            unfold checkOf
            rw [if_pos]
            rw [m1, m2]
            split <;> split <;> omega
          refine ⟨(0, 0, [], 4), Ev.bind hr ?_, prog _ ?_, by simp⟩
          · simp only [if_pos hx, if_pos hk, if_neg hs, fanlightref07_Decode.g]
            refine Ev.bind nx ?_
            refine Ev.bind ny ?_
            simp only [if_pos hxy]
            exact Ev.now _
          · simp only [hc4]
            exact Ev.now _
        · have wx : wrap64 x = x := by rw [RefSealU.wrapI] <;> omega
          have wy : wrap64 y = y := by rw [RefSealU.wrapI] <;> omega
          have mx1 : mn x 1099511627777 = x := by rw [m1, if_pos (by omega)]
          have my1 : mn y 1099511627777 = y := by rw [m2, if_pos (by omega)]
          have rc : Ev (fun k => fanlightref07_Check.f k x y (gd.drop 16)) (if 8000 < (gd.drop 16).length then 5 else 0) := by
            unfold fanlightref07_Check.f
            simp only [if_neg (show ¬ x < 0 by omega), if_neg (show ¬ x > 1099511627776 by omega), if_neg (show ¬ y < 0 by omega), decide_eq_false (show ¬ y > 1099511627776 by omega)]
            refine Ev.step (fun k => rfl) ?_
            by_cases h5 : 8000 < (gd.drop 16).length
            · simp only [fanlightref07_Check.j0, Bool.false_eq_true, if_false, if_pos (show ((gd.drop 16).length : Int) > 8000 by omega), if_pos h5]
              exact Ev.now _
            · simp only [fanlightref07_Check.j0, Bool.false_eq_true, if_false, if_neg (show ¬ ((gd.drop 16).length : Int) > 8000 by omega), if_neg h5]
              exact Ev.now _
          have hcv : checkOf x y (gd.drop 16).length = if 8000 < (gd.drop 16).length then 5 else 0 := by
            unfold checkOf
            rw [if_neg (by omega)]
          rw [mx1, my1, hcv] at prog
          have refw : ∀ r, Ev (fun k => if (if 8000 < (gd.drop 16).length then (5 : Int) else 0) = 0 then (if tailZero l gn.toNat = true then some (x, y, gd.drop 16, (0 : Int)) else some (0, 0, [], 23)) else some (0, 0, [], 5)) r →
              Ev (fun k => if gx = 0 then (if gk = 3 then (if gd.length < 16 then some (0, 0, [], 8) else fanlightref07_Decode.g k l (gk, gd, gn, gx)) else some (0, 0, [], 22)) else some (0, 0, [], gx)) r := by
            intro r h
            simp only [if_pos hx, if_pos hk, if_neg hs, fanlightref07_Decode.g]
            refine Ev.bind nx ?_
            refine Ev.bind ny ?_
            simp only [if_neg hxy, hcp, Option.bind_some, wx, wy]
            refine Ev.bind rc ?_
            simp only [if_pos c5]
            exact h
          by_cases h5 : 8000 < (gd.drop 16).length
          · rw [if_pos h5] at prog refw
            refine ⟨(0, 0, [], 5), Ev.bind hr (refw _ ?_), prog _ ?_, by simp⟩
            · exact Ev.now _
            · exact Ev.now _
          · rw [if_neg h5] at prog refw
            by_cases ht : tailZero l gn.toNat = true
            · have hm0 : ¬ M > 0 := fun h => (hMt.1 h) ht
              refine ⟨(x, y, gd.drop 16, 0), Ev.bind hr (refw _ ?_), prog _ ?_, by rw [List.length_drop]; omega⟩
              · simp only [if_true, if_pos ht]
                exact Ev.now _
              · simp only [if_true, if_neg hm0]
                exact Ev.now _
            · have hm0 : M > 0 := hMt.2 ht
              refine ⟨(0, 0, [], 23), Ev.bind hr (refw _ ?_), prog _ ?_, by simp⟩
              · simp only [if_true, if_neg ht]
                exact Ev.now _
              · simp only [if_true, if_pos hm0]
                exact Ev.now _
    · refine ⟨(0, 0, [], 22), Ev.bind hr ?_, ?_, by simp⟩
      · simp only [if_pos hx, if_neg hk]
        exact Ev.now _
      · simp only [if_pos hx, if_neg hk]
        exact Ev.now _
  · refine ⟨(0, 0, [], gx), Ev.bind hr ?_, ?_, by simp⟩
    · simp only [if_neg hx]
      exact Ev.now _
    · simp only [if_neg hx]
      exact Ev.now _
theorem copy_is {l : List Int} (h : l.length < 140737488355328) : fanlightplain_CopyBytes.f l = some l := by
  unfold fanlightplain_CopyBytes.f
  rw [if_pos (by simpa using h), List.nil_append]
theorem of_is {e s : Int} {l : List Int} (h : l.length < 140737488355328) : fanlightlaw07_of.f e s l = some (e, s, l) := by
  unfold fanlightlaw07_of.f
  rw [copy_is h, Option.bind_some]
theorem same_is (e s : Int) (l : List Int) : fanlightlaw07_same.f e s l e s l = some true := by
  unfold fanlightlaw07_same.f fanlightplain_SameBytes.f
  rw [if_pos rfl, if_pos rfl, beq_self_eq_true, Option.bind_some]
theorem same_some (e s : Int) (l : List Int) (e' s' : Int) (l' : List Int) : ∃ t, fanlightlaw07_same.f e s l e' s' l' = some t := by
  unfold fanlightlaw07_same.f fanlightplain_SameBytes.f
  split
  · split
    · exact ⟨_, by rw [Option.bind_some]⟩
    · exact ⟨_, rfl⟩
  · exact ⟨_, rfl⟩
def May (e s : Int) (l : List Int) : Prop := 0 ≤ e ∧ e ≤ 1099511627776 ∧ 0 ≤ s ∧ s ≤ 1099511627776 ∧ l.length ≤ 8000
theorem check_may (e s : Int) (l : List Int) : checkOf e s l.length = 0 ↔ May e s l := by
  unfold checkOf May
  split
  · constructor
    · intro h; cases h
    · intro h; omega
  · split
    · constructor
      · intro h; cases h
      · intro h; omega
    · constructor
      · intro _; omega
      · intro _; rfl
theorem enc_good {e s : Int} {l : List Int} (h : May e s l) : snap_Encode.f e s l = some (slotOf e s l, 0) := by
  unfold snap_Encode.f
  rw [if_pos ((check_may e s l).2 h)]
theorem enc_bad {e s : Int} {l : List Int} (h : ¬ May e s l) : ∃ z, z ≠ 0 ∧ snap_Encode.f e s l = some ([], z) := by
  unfold snap_Encode.f
  have := fun h0 => h ((check_may e s l).1 h0)
  rw [if_neg this]
  exact ⟨_, this, rfl⟩
theorem dec_good {e s : Int} {l : List Int} (h : May e s l) (ho : octs l) : Ev (fun k => snap_Decode.f k (slotOf e s l)) (e, s, l, 0) :=
  decode_slot e s l h.1 h.2.1 h.2.2.1 h.2.2.2.1 h.2.2.2.2 ho
theorem slot_octs (e s : Int) {l : List Int} (ho : octs l) : octs (slotOf e s l) := by
  unfold slotOf
  refine octs_append (framed_octs (k := 3) (octs_append (octs_append (octs8_octs e) (octs8_octs s)) ho)) ?_
  intro x hx
  have := List.eq_of_mem_replicate hx
  omega
theorem torn_j2 (m : List Int) (C : List Int) (r : Int × Int × List Int × Int) (be bs : Int) (bl : List Int) (hm : Ev (fun k => snap_Decode.f k m) r) (hC : Ev (fun k => snap_Decode.f k C) (be, bs, bl, 0)) (b : Bool) :
    Ev (fun k => fanlightlaw07_SnapTorn.j2 k C m r.2.2.2 b be bs bl r.1 r.2.1 r.2.2.1) true := by
  refine Ev.step (fun k => rfl) ?_
  cases b with
  | true =>
    simp only [fanlightlaw07_SnapTorn.j2, if_true]
    exact Ev.now _
  | false =>
    simp only [fanlightlaw07_SnapTorn.j2, Bool.false_eq_true, if_false]
    have hN : Ev (fun k => snap_Newest.f k m C) (newS r (be, bs, bl, 0)) := by
      unfold snap_Newest.f
      refine Ev.bind hm ?_
      refine Ev.bind hC ?_
      exact Ev.now _
    refine Ev.bind hN ?_
    obtain ⟨re, rs, rl, rx⟩ := r
    by_cases hx : rx = 0
    · by_cases hlt : re < be
      · have hv : newS (re, rs, rl, rx) (be, bs, bl, 0) = (be, bs, bl, 1, 0) := by
          unfold newS nst2 nst1
          simp [hx, hlt]
        simp only [hv, fanlightlaw07_num.f, Option.bind_some, if_true, same_is]
        exact Ev.now _
      · have hv : newS (re, rs, rl, rx) (be, bs, bl, 0) = (re, rs, rl, 0, 0) := by
          unfold newS nst2 nst1
          simp [hx, hlt]
        simp only [hv, fanlightlaw07_num.f, Option.bind_some, if_true, if_neg (show ¬ (0 : Int) = 1 by decide), if_pos hx, same_is, decide_eq_true (show re ≥ be by omega)]
        exact Ev.now _
    · have hv : newS (re, rs, rl, rx) (be, bs, bl, 0) = (be, bs, bl, 1, 0) := by
        unfold newS nst2 nst1
        simp [hx]
      simp only [hv, fanlightlaw07_num.f, Option.bind_some, if_true, same_is]
      exact Ev.now _
theorem torn_bad (at_ : Int) (x9 x11 x13 : List Int) (h : x9.length = 0 ∨ x11.length = 0 ∨ x13.length = 0) (a b : Int) (c : List Int) (a' b' : Int) (c' : List Int) (a'' b'' : Int) (c'' : List Int) :
    Ev (fun k => fanlightlaw07_SnapTorn.j0 k at_ x9 x11 x13 true a b c a' b' c' a'' b'' c'') true := by
  refine Ev.step (fun k => rfl) ?_
  simp only [fanlightlaw07_SnapTorn.j0, if_true]
  by_cases h1 : (x9.length : Int) = 0
  · simp only [if_pos h1]
    exact Ev.now _
  · by_cases h2 : (x11.length : Int) = 0
    · simp only [if_neg h1, if_pos h2]
      exact Ev.now _
    · have h3 : ((x13.length : Int) == 0) = true := beq_iff_eq.mpr (by omega)
      simp only [if_neg h1, if_neg h2, h3]
      exact Ev.now _
theorem SnapTorn (e s : Int) (l : List Int) (e' s' : Int) (l' : List Int) (e'' s'' : Int) (l'' : List Int) (at_ : Int) (ho : octs l) (hl : l.length ≤ 140737488351232) (ho' : octs l') (hl' : l'.length ≤ 140737488351232) (ho'' : octs l'') (hl'' : l''.length ≤ 140737488351232) (ha : -9223372036854775808 ≤ at_ ∧ at_ < 9223372036854775808) :
    ∃ n, fanlightlaw07_SnapTorn.f n e s l e' s' l' e'' s'' l'' at_ = some true := by
  apply Ev.rounds
  unfold fanlightlaw07_SnapTorn.f
  have hal : fanlightlaw07_alive.f = some true := rfl
  simp only [hal, Option.bind_some, if_true, of_is (show l.length < 140737488355328 by omega), of_is (show l'.length < 140737488355328 by omega), of_is (show l''.length < 140737488355328 by omega)]
  by_cases h : May e s l
  · by_cases h' : May e' s' l'
    · by_cases h'' : May e'' s'' l''
      · have s1 := slot_length e s l h.2.2.2.2
        have s2 := slot_length e' s' l' h'.2.2.2.2
        have o1 := slot_octs e s ho
        have o2 := slot_octs e' s' ho'
        simp only [enc_good h, enc_good h', enc_good h'', Option.bind_some, fanlightlaw07_num.f, if_true]
        have hC := dec_good h'' ho''
        generalize slotOf e s l = A at s1 o1 ⊢
        generalize slotOf e' s' l' = B at s2 o2 ⊢
        generalize slotOf e'' s'' l'' = C at hC ⊢
        refine Ev.step (fun k => rfl) ?_
        have c1 : (A.length : Int) = 8160 := by omega
        have c2 : ((B.length : Int) != 8160) = false := bne_eq_false_iff_eq.mpr (by omega)
        have c0 : ((0 : Int) != 0) = false := rfl
        simp only [fanlightlaw07_SnapTorn.j0, c0, Bool.false_eq_true, if_false, if_pos c1, c2]
        refine Ev.step (fun k => rfl) ?_
        have b1 := Int.tmod_lt_of_pos at_ (show (0 : Int) < 171 by decide)
        have b2 := Int.lt_tmod_of_pos at_ (show (0 : Int) < 171 by decide)
        have q : ∃ p : Nat, wrap64 (48 * (Int.tmod (wrap64 ((Int.tmod at_ 171) + 171)) 171)) = (p : Int) ∧ p ≤ 8160 := by
          generalize Int.tmod at_ 171 = u at b1 b2
          have n6 : wrap64 (u + 171) = u + 171 := by rw [RefSealU.wrapI] <;> omega
          rw [n6]
          have b3 := Int.tmod_lt_of_pos (u + 171) (show (0 : Int) < 171 by decide)
          have b4 := Int.tmod_nonneg (171 : Int) (show 0 ≤ u + 171 by omega)
          generalize Int.tmod (u + 171) 171 = v at b3 b4
          refine ⟨(48 * v).toNat, ?_, by omega⟩
          rw [RefSealU.wrapI] <;> omega
        obtain ⟨p, hp, hp2⟩ := q
        have hcp : fanlightplain_CopyBytes.f (B.take p) = some (B.take p) := copy_is (by rw [List.length_take]; omega)
        have hml : (B.take p ++ A.drop p).length = 8160 := by simp; omega
        have hmo : octs (B.take p ++ A.drop p) := octs_append (octs_take o2 p) (octs_drop o1 p)
        obtain ⟨r, hr1, hr2, hr3⟩ := dec_eq hmo hml
        have c3 : (B.take p).length + (A.drop p).length < 140737488355328 := by rw [List.length_append] at hml; omega
        simp only [fanlightlaw07_SnapTorn.j1, Bool.false_eq_true, if_false, hp, if_pos (show (0 : Int) ≤ (p : Int) by omega), if_pos (show (p : Int) ≤ (B.length : Int) by omega), if_pos (show (p : Int) ≤ (A.length : Int) by omega), Int.toNat_natCast, hcp, Option.bind_some, if_pos c3]
        refine Ev.bind hr1 ?_
        by_cases hx : r.2.2.2 = 0
        · have hrl : r.2.2.1.length < 140737488355328 := by omega
          obtain ⟨t1, ht1⟩ := same_some r.1 r.2.1 r.2.2.1 e s l
          obtain ⟨t2, ht2⟩ := same_some r.1 r.2.1 r.2.2.1 e' s' l'
          simp only [if_pos hx, of_is hrl, Option.bind_some, ht1, ht2]
          cases t1 with
          | true =>
            simp only [if_true]
            exact torn_j2 _ _ r _ _ _ hr2 hC _
          | false =>
            simp only [Bool.false_eq_true, if_false]
            exact torn_j2 _ _ r _ _ _ hr2 hC _
        · simp only [if_neg hx]
          exact torn_j2 _ _ r _ _ _ hr2 hC _
      · obtain ⟨z, hz, he⟩ := enc_bad h''
        simp only [enc_good h, enc_good h', he, Option.bind_some, fanlightlaw07_num.f, if_true, bne_iff_ne.mpr hz]
        exact torn_bad _ _ _ _ (by simp) _ _ _ _ _ _ _ _ _
    · obtain ⟨z, hz, he⟩ := enc_bad h'
      by_cases h'' : May e'' s'' l''
      · simp only [enc_good h, he, enc_good h'', Option.bind_some, fanlightlaw07_num.f, if_true, if_neg hz]
        exact torn_bad _ _ _ _ (by simp) _ _ _ _ _ _ _ _ _
      · obtain ⟨z2, hz2, he2⟩ := enc_bad h''
        simp only [enc_good h, he, he2, Option.bind_some, fanlightlaw07_num.f, if_true, if_neg hz]
        exact torn_bad _ _ _ _ (by simp) _ _ _ _ _ _ _ _ _
  · obtain ⟨z, hz, he⟩ := enc_bad h
    have E' : ∃ X y, snap_Encode.f e' s' l' = some (X, y) := by
      by_cases h' : May e' s' l'
      · exact ⟨_, _, enc_good h'⟩
      · obtain ⟨z, _, he⟩ := enc_bad h'
        exact ⟨_, _, he⟩
    have E'' : ∃ X y, snap_Encode.f e'' s'' l'' = some (X, y) := by
      by_cases h' : May e'' s'' l''
      · exact ⟨_, _, enc_good h'⟩
      · obtain ⟨z, _, he⟩ := enc_bad h'
        exact ⟨_, _, he⟩
    obtain ⟨X', y', h1⟩ := E'
    obtain ⟨X'', y'', h2⟩ := E''
    simp only [he, h1, h2, Option.bind_some, fanlightlaw07_num.f, if_neg hz]
    exact torn_bad _ _ _ _ (by simp) _ _ _ _ _ _ _ _ _
end Go.Proofs.Ytkdaeleolomdkaa.Pure
