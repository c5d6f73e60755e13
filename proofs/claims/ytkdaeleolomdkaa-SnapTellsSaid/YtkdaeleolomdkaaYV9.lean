import Derived.Test.YtkdaeleolomdkaaYV0
import Derived.Test.YtkdaeleolomdkaaYV8
namespace Go.Proofs.Ytkdaeleolomdkaa.V
open Go.Proofs.YtkdaeleolomdkaaW.PrintWords renaming pw_below_drewN → b', below_drew1 → c', below_alloc → d', below_set → h', blk_cell → j', below_size → k', blk_frozen → l'
open Go.Proofs.YtkdaeleolomdkaaW.PrintWords.Kd renaming R_drewN → e', R_alloc → f', R_drew → g'
open List renaming setIfInBounds_toArray → m', set_cons_zero → n', set_cons_succ → o'
open Go.Proofs.YtkdaeleolomdkaaW.PrintWords.Aside0 renaming mk → p'
open Bool renaming true → Y, false → Z
open Go.RowKit Go.Proofs.YtkdaeleolomdkaaW.PrintWords Go.Proofs.YtkdaeleolomdkaaW.PrintLast Go.Proofs.YtkdaeleolomdkaaW.PrintMore
attribute [local go_sem] max2_int min2_int max_two min_two max_three min_three max_four min_four   -- for this text's walks alone
set_option linter.unusedVariables false
set_option linter.unusedSimpArgs false
def fanlightref04_Put.j0 : Nat → Bool → Int → List Int → Option (List Int × Int)
  | 0, _, _, _ => none
  | k + 1, x5, x137000, x137001 => if x5 = true then (some (([] : List Int), 22)) else (if (x137001.length : Int) > 65536 then (some (([] : List Int), 5)) else ((some (([(x137000) % 256] : List Int) : List Int)).bind fun y137 => ((fanlightref03_Octets.f k (IntKind.u64.wrap ((x137001.length : Int))) 3).bind fun t140 => (if y137.length + t140.length < 140737488355328 then ((some (y137 ++ t140 : List Int)).bind fun y143 => (if y143.length + x137001.length < 140737488355328 then ((some (y143 ++ x137001 : List Int)).bind fun y146 => ((fanlightref04_Sum.f k y146).bind fun t149 => ((fanlightref04_laid.f t149).bind fun t150 => (if y146.length + t150.length < 140737488355328 then (some ((y146 ++ t150), 0)) else (none))))) else (none))) else (none)))))
def fanlightref04_Put.f (k : Nat) (a0_0 : Int) (l0_1 : List Int) : Option (List Int × Int) := if a0_0 < 1 then (fanlightref04_Put.j0 k true a0_0 l0_1) else (fanlightref04_Put.j0 k (decide (a0_0 > 255)) a0_0 l0_1)
theorem fanlightref04_Put.mono_l : ∀ k, (∀ y0 y1 y2, LeO (fanlightref04_Put.j0 k y0 y1 y2) (fanlightref04_Put.j0 (k + 1) y0 y1 y2))
  | 0 => fun _ _ _ r h => by simp [fanlightref04_Put.j0] at h
  | k + 1 => by
    have ih0 := fanlightref04_Put.mono_l k
    · intro y0 y1 y2
      unfold fanlightref04_Put.j0
      repeat' first
      | (with_reducible exact ih0 _ _ _)
      | (with_reducible exact fanlightref03_Octets.mono _ _ _)
      | (with_reducible exact fanlightref04_Sum.mono _ _)
      | (with_reducible exact LeO.refl _)
      | (with_reducible exact LeO.none _)
      | (with_reducible refine LeO.ite ?_ ?_)
      | (with_reducible refine LeO.bind ?_ (fun _ => ?_))
      | exact ih0 _ _ _
      | exact fanlightref03_Octets.mono _ _ _
      | exact fanlightref04_Sum.mono _ _
      | exact LeO.none _
      | refine LeO.ite ?_ ?_
      | refine LeO.bind ?_ (fun _ => ?_)
theorem fanlightref04_Put.mono : ∀ a0 a1 k, LeO (fanlightref04_Put.f k a0 a1) (fanlightref04_Put.f (k + 1) a0 a1) := by
  intro a0 a1 k
  have ih0 := fanlightref04_Put.mono_l k
  unfold fanlightref04_Put.f
  repeat' first
      | (with_reducible exact ih0 _ _ _)
      | (with_reducible exact fanlightref03_Octets.mono _ _ _)
      | (with_reducible exact fanlightref04_Sum.mono _ _)
      | (with_reducible exact LeO.refl _)
      | (with_reducible exact LeO.none _)
      | (with_reducible refine LeO.ite ?_ ?_)
      | (with_reducible refine LeO.bind ?_ (fun _ => ?_))
      | exact ih0 _ _ _
      | exact fanlightref03_Octets.mono _ _ _
      | exact fanlightref04_Sum.mono _ _
      | exact LeO.none _
      | refine LeO.ite ?_ ?_
      | refine LeO.bind ?_ (fun _ => ?_)
def fanlightref04_Put.T5 : Bool × List (List Nat × List Nat) := (true, [([], []), ([0], [0]), ([1], [1]), ([2], [2]), ([], []), ([4], [4]), ([5], [5]), ([6], [6]), ([7], [7]), ([3, 8, 8], [3, 8]), ([9, 9, 0, 1, 2, 3, 4, 5, 6, 7, 8, 9], [9])])
def fanlightref04_Put.B5 : List Nat := [0, 1, 3, 7, 0, 16, 48, 112, 240, 511, 1023]
theorem fanlightref04_Put.tab5 : rtab .any (opsOf Try.f43 5) = fanlightref04_Put.T5 := by kernel_rfl
theorem fanlightref04_Put.bits5 : waitsOk fanlightref04_Put.T5.2 fanlightref04_Put.B5 = true := by kernel_rfl
set_option maxHeartbeats 8000000 in
set_option maxRecDepth 100000 in
theorem fanlightref04_Put.calls (k : Nat) (a0_0 : Int) (A0_1 : Option Addr) (c0_1 : Nat) (l0_1 : List Int) (r1 : List Int) (r2 : Int) (w : World) (hr0_1 : Kd.C (Kd.int .u8) w A0_1 l0_1.length l0_1) (hc0_1 : l0_1.length ≤ c0_1) (h : fanlightref04_Put.f k a0_0 l0_1 = some (r1, r2)) :
    Calls Try.prog 43 #[.agg #[.int .i64 a0_0, .slice A0_1 l0_1.length c0_1]] w fun e w' => ∃ v0_ : Value, e = .returned (.tuple #[v0_, .int .i64 r2]) ∧ Kd.R (Kd.int .u8) 5 w' w.heap.size (fun _ => True) v0_ r1 ∧ Below w.heap.size w w' := by
  have hu84 := Try.underlying84
  have HR0_1 := p' hr0_1
  have HC0_1 := p' hc0_1
  clear hr0_1 hc0_1
  have HB := p' (Below.refl w.heap.size w)
  have H : (if a0_0 < 1 then (fanlightref04_Put.j0 k true a0_0 l0_1) else (fanlightref04_Put.j0 k (decide (a0_0 > 255)) a0_0 l0_1)) = some (r1, r2) := h
  clear h
  have HC2 := p' H
  clear H
  go_enter Try.func43, Try.ntmps43
  go_upto_region 1 with (first | ((with_reducible refine gate_dst (N := 1) rfl ?_); refine box_event ?hg (N := 1) ?hd (cs := #[.int .i64 a0_0, .slice A0_1 l0_1.length c0_1]) (t := 84) ?hr ?_; (case hd => rfl); (case hg => rfl); (case hr => first | (go_simp; done) | (go_simp; rfl)); intro gb136 hg w3 hbox hb; have n0_ := p' (below_step (by repeat (first | (with_reducible first | exact HB.out | apply d' | apply b' | apply c') | exact HB.out)) hb); have n1_ := p' (hbox); have n2_ := p' ((by rw [hg]; exact (k' (by repeat (first | (with_reducible first | exact HB.out | apply d' | apply b' | apply c') | exact HB.out))) : w.heap.size ≤ gb136)); have n3_ := p' ((by rw [hg]; exact (k' (by repeat (first | (with_reducible first | exact HB.out | apply d' | apply b' | apply c') | exact HB.out))) : w.heap.size ≤ gb136)); clear HB; have HB := n0_; have BK136 := n1_; have GW136 := n2_; have GE136 := n3_; clear n0_ n1_ n2_ n3_; clear hb hbox hg))
  (try simp only [Act.put, m', n', o'])
  go_cut [5] (fun v5 wc => ∃ (kq : Nat) (x5_1 : Bool), v5 = .bool x5_1 ∧ Aside0 (fanlightref04_Put.j0 kq x5_1 a0_0 l0_1 = some (r1, r2)) ∧ Aside0 (kq ≤ k) ∧ Aside0 (wc.heap[gb136]? = some (.cells #[.int .i64 a0_0, (.slice A0_1 l0_1.length c0_1)] 84 (0, 0))) ∧ Aside0 (Below w.heap.size w wc))
  case first =>
    have H := HC2.out
    clear HC2
    by_cases c4 : a0_0 < 1
    · rw [if_pos c4] at H
      have c4b0 : decide (a0_0 < 1) = true := decide_eq_true c4
      clear c4
      (first | rw [c4b0] | (simp only [i64_w, i32_w]; rw [c4b0]) | rw [c4b1] | skip)
      have H' := p' H
      clear H
      have hcz5_0 : w3.cell? ⟨gb136, 0, none⟩ = some (.int .i64 a0_0) := (j' BK136.out 0).trans rfl
      have hcz5_1 : w3.cell? ⟨gb136, 1, none⟩ = some (.slice A0_1 l0_1.length c0_1) := (j' BK136.out 1).trans rfl
      have hfz5_0 := l' BK136.out 0
      have hfz5_1 := l' BK136.out 1
      go_wp2
      go_meet
      case rel => exact ⟨_, (true), (by first | rfl | (simp; done) | (simp [*]; done)), H', ⟨by first | omega | exact Nat.le_refl _⟩, ⟨by (with_reducible repeat (first | apply blk_drewN | apply blk_drew | apply blk_alloc)); exact BK136.out⟩, ⟨by repeat (first | (with_reducible first | exact HB.out | apply d' | apply b' | apply c' | refine h' ?_ GE136.out) | exact HB.out)⟩⟩
    · rw [if_neg c4] at H
      have c4b0 : decide (a0_0 < 1) = false := decide_eq_false c4
      clear c4
      (first | rw [c4b0] | (simp only [i64_w, i32_w]; rw [c4b0]) | rw [c4b1] | skip)
      have H' := p' H
      clear H
      have hcz6_0 : w3.cell? ⟨gb136, 0, none⟩ = some (.int .i64 a0_0) := (j' BK136.out 0).trans rfl
      have hcz6_1 : w3.cell? ⟨gb136, 1, none⟩ = some (.slice A0_1 l0_1.length c0_1) := (j' BK136.out 1).trans rfl
      have hfz6_0 := l' BK136.out 0
      have hfz6_1 := l' BK136.out 1
      go_wp2
      go_meet
      case rel => exact ⟨_, (decide (a0_0 > 255)), (by first | rfl | (simp; done) | (simp [*]; done)), H', ⟨by first | omega | exact Nat.le_refl _⟩, ⟨by (with_reducible repeat (first | apply blk_drewN | apply blk_drew | apply blk_alloc)); exact BK136.out⟩, ⟨by repeat (first | (with_reducible first | exact HB.out | apply d' | apply b' | apply c' | refine h' ?_ GE136.out) | exact HB.out)⟩⟩
  case rest =>
    clear HC2
    try clear p2
    try clear c4
    try clear c4b0
    try clear hcz5_0
    try clear hcz5_1
    try clear hcz6_0
    try clear hcz6_1
    try clear hfz5_0
    try clear hfz5_1
    try clear hfz6_0
    try clear hfz6_1
    obtain ⟨kq, x5_1, rfl, HA, HJ1, BK136, HB⟩ := hcut
    cases kq with
    | zero => exact absurd HA.out (by simp [fanlightref04_Put.j0])
    | succ kj1 =>
      have H := HA.out
      clear HA
      simp only [fanlightref04_Put.j0] at H
      by_cases c7 : x5_1 = true
      · subst c7
        have H1 : (some (([] : List Int), 22)) = some (r1, r2) := by rw [if_pos rfl] at H; exact H
        clear H
        have H := H1
        clear H1
        simp only [Option.some.injEq, Prod.mk.injEq] at H
        obtain ⟨rfl, rfl⟩ := H
        go_wp2
        go_ret2
        exact ⟨_, by first | rfl | (simp [errW_none, errW_some] <;> rfl) | (simp [*, errW_none, errW_some] <;> rfl), by first | exact Kd.R_nil _ _ _ _ _ | exact Kd.N_nil _ _ _ _ _ | exact Kd.V_nil _ _ _ _ _ | exact Kd.Q_nil _ _ _ _ _ | exact Kd.S_nil _ _ _ _ _, by repeat (first | (with_reducible first | exact HB.out | apply d' | apply b' | apply c' | refine h' ?_ GE136.out) | exact HB.out)⟩
      · replace c7 := Bool.eq_false_iff.mpr c7
        subst c7
        have H1 : (if (l0_1.length : Int) > 65536 then (some (([] : List Int), 5)) else ((some (([(a0_0) % 256] : List Int) : List Int)).bind fun y137 => ((fanlightref03_Octets.f kj1 (IntKind.u64.wrap ((l0_1.length : Int))) 3).bind fun t140 => (if y137.length + t140.length < 140737488355328 then ((some (y137 ++ t140 : List Int)).bind fun y143 => (if y143.length + l0_1.length < 140737488355328 then ((some (y143 ++ l0_1 : List Int)).bind fun y146 => ((fanlightref04_Sum.f kj1 y146).bind fun t149 => ((fanlightref04_laid.f t149).bind fun t150 => (if y146.length + t150.length < 140737488355328 then (some ((y146 ++ t150), 0)) else (none))))) else (none))) else (none))))) = some (r1, r2) := by rw [if_neg (show ¬ (false = true) by decide)] at H; exact H
        clear H
        have H := H1
        clear H1
        by_cases c8 : (l0_1.length : Int) > 65536
        · rw [if_pos c8] at H
          have c8b0 : decide (65536 < (l0_1.length : Int)) = true := decide_eq_true c8
          have c8b1 : decide (65536 < l0_1.length) = true := decide_eq_true (by omega)
          clear c8
          simp only [Option.some.injEq, Prod.mk.injEq] at H
          obtain ⟨rfl, rfl⟩ := H
          have hcz9_0 : wc.cell? ⟨gb136, 0, none⟩ = some (.int .i64 a0_0) := (j' BK136.out 0).trans rfl
          have hcz9_1 : wc.cell? ⟨gb136, 1, none⟩ = some (.slice A0_1 l0_1.length c0_1) := (j' BK136.out 1).trans rfl
          have hfz9_0 := l' BK136.out 0
          have hfz9_1 := l' BK136.out 1
          go_wp2
          go_ret2
          exact ⟨_, by first | rfl | (simp [errW_none, errW_some] <;> rfl) | (simp [*, errW_none, errW_some] <;> rfl), by first | exact Kd.R_nil _ _ _ _ _ | exact Kd.N_nil _ _ _ _ _ | exact Kd.V_nil _ _ _ _ _ | exact Kd.Q_nil _ _ _ _ _ | exact Kd.S_nil _ _ _ _ _, by repeat (first | (with_reducible first | exact HB.out | apply d' | apply b' | apply c' | refine h' ?_ GE136.out) | exact HB.out)⟩
        · rw [if_neg c8] at H
          have c8b0 : decide (65536 < (l0_1.length : Int)) = false := decide_eq_false c8
          have c8b1 : decide (65536 < l0_1.length) = false := decide_eq_false (by omega)
          clear c8
          obtain ⟨y137, hy137⟩ : ∃ y_ : List Int, y_ = (([(a0_0) % 256] : List Int)) := ⟨_, rfl⟩
          replace H : ((fanlightref03_Octets.f kj1 (IntKind.u64.wrap ((l0_1.length : Int))) 3).bind fun t140 => (if y137.length + t140.length < 140737488355328 then ((some (y137 ++ t140 : List Int)).bind fun y143 => (if y143.length + l0_1.length < 140737488355328 then ((some (y143 ++ l0_1 : List Int)).bind fun y146 => ((fanlightref04_Sum.f kj1 y146).bind fun t149 => ((fanlightref04_laid.f t149).bind fun t150 => (if y146.length + t150.length < 140737488355328 then (some ((y146 ++ t150), 0)) else (none))))) else (none))) else (none))) = some (r1, r2) := by first | (rw [hy137]; with_reducible exact H) | (have H2_ := (Option.bind_some _ _).symm.trans H; rw [hy137]; with_reducible exact H2_) | (have H2_ := (Option.bind_some _ _).symm.trans H; with_reducible exact H2_) | with_reducible exact H | (rw [hy137]; exact H) | exact H
          have Ny137 := p' hy137
          clear hy137
          replace H := Option.bind_eq_some_iff.mp H
          obtain ⟨t140, A100, H⟩ := H
          replace H : (if y137.length + t140.length < 140737488355328 then ((some (y137 ++ t140 : List Int)).bind fun y143 => (if y143.length + l0_1.length < 140737488355328 then ((some (y143 ++ l0_1 : List Int)).bind fun y146 => ((fanlightref04_Sum.f kj1 y146).bind fun t149 => ((fanlightref04_laid.f t149).bind fun t150 => (if y146.length + t150.length < 140737488355328 then (some ((y146 ++ t150), 0)) else (none))))) else (none))) else (none)) = some (r1, r2) := H
          have A10 := p' A100
          clear A100
          by_cases c11 : y137.length + t140.length < 140737488355328
          · rw [if_pos c11] at H
            have LMc11 := p' c11
            clear c11
            obtain ⟨y143, hy143⟩ : ∃ y_ : List Int, y_ = (y137 ++ t140) := ⟨_, rfl⟩
            replace H : (if y143.length + l0_1.length < 140737488355328 then ((some (y143 ++ l0_1 : List Int)).bind fun y146 => ((fanlightref04_Sum.f kj1 y146).bind fun t149 => ((fanlightref04_laid.f t149).bind fun t150 => (if y146.length + t150.length < 140737488355328 then (some ((y146 ++ t150), 0)) else (none))))) else (none)) = some (r1, r2) := by first | (rw [hy143]; with_reducible exact H) | (have H2_ := (Option.bind_some _ _).symm.trans H; rw [hy143]; with_reducible exact H2_) | (have H2_ := (Option.bind_some _ _).symm.trans H; with_reducible exact H2_) | with_reducible exact H | (rw [hy143]; exact H) | exact H
            have Ny143 := p' hy143
            clear hy143
            by_cases c12 : y143.length + l0_1.length < 140737488355328
            · rw [if_pos c12] at H
              have LMc12 := p' c12
              clear c12
              obtain ⟨y146, hy146⟩ : ∃ y_ : List Int, y_ = (y143 ++ l0_1) := ⟨_, rfl⟩
              replace H : ((fanlightref04_Sum.f kj1 y146).bind fun t149 => ((fanlightref04_laid.f t149).bind fun t150 => (if y146.length + t150.length < 140737488355328 then (some ((y146 ++ t150), 0)) else (none)))) = some (r1, r2) := by first | (rw [hy146]; with_reducible exact H) | (have H2_ := (Option.bind_some _ _).symm.trans H; rw [hy146]; with_reducible exact H2_) | (have H2_ := (Option.bind_some _ _).symm.trans H; with_reducible exact H2_) | with_reducible exact H | (rw [hy146]; exact H) | exact H
              have Ny146 := p' hy146
              clear hy146
              replace H := Option.bind_eq_some_iff.mp H
              obtain ⟨t149, A130, H⟩ := H
              replace H : ((fanlightref04_laid.f t149).bind fun t150 => (if y146.length + t150.length < 140737488355328 then (some ((y146 ++ t150), 0)) else (none))) = some (r1, r2) := H
              have A13 := p' A130
              clear A130
              replace H := Option.bind_eq_some_iff.mp H
              obtain ⟨t150, A140, H⟩ := H
              replace H : (if y146.length + t150.length < 140737488355328 then (some ((y146 ++ t150), 0)) else (none)) = some (r1, r2) := H
              have A14 := p' A140
              clear A140
              by_cases c15 : y146.length + t150.length < 140737488355328
              · rw [if_pos c15] at H
                have LMc15 := p' c15
                clear c15
                obtain ⟨y153, hy153⟩ : ∃ y_ : List Int, y_ = (y146 ++ t150) := ⟨_, rfl⟩
                replace H : (some (y153, 0)) = some (r1, r2) := by first | (rw [hy153]; with_reducible exact H) | (have H2_ := (Option.bind_some _ _).symm.trans H; rw [hy153]; with_reducible exact H2_) | (have H2_ := (Option.bind_some _ _).symm.trans H; with_reducible exact H2_) | with_reducible exact H | (rw [hy153]; exact H) | exact H
                have Ny153 := p' hy153
                clear hy153
                simp only [Option.some.injEq, Prod.mk.injEq] at H
                obtain ⟨rfl, rfl⟩ := H
                have hcz16_0 : wc.cell? ⟨gb136, 0, none⟩ = some (.int .i64 a0_0) := (j' BK136.out 0).trans rfl
                have hcz16_1 : wc.cell? ⟨gb136, 1, none⟩ = some (.slice A0_1 l0_1.length c0_1) := (j' BK136.out 1).trans rfl
                have hfz16_0 := l' BK136.out 0
                have hfz16_1 := l' BK136.out 1
                try go_wp2
                have n0_ := p' (blk_drew BK136.out)
                have n1_ := p' (c' HB.out)
                clear BK136
                clear HB
                have BK136 := n0_
                have HB := n1_
                clear n0_ n1_
                refine start_ (n := 11) (S := fun w' => w'.cell? ⟨gb136, 0, none⟩ = some (.int .i64 a0_0) ∧ w'.cell? ⟨gb136, 1, none⟩ = some (.slice A0_1 l0_1.length c0_1)) (ds := []) #[Z,Z,Z,Z,Z,Z,Z,Z,Z,Z,Z] (by kernel_rfl) rfl rfl ⟨(j' BK136.out 0).trans rfl, (j' BK136.out 1).trans rfl⟩ (fun hHeld => ?_); refine with_tabW fanlightref04_Put.tab5 fanlightref04_Put.bits5 (fun HT_ HW_ => ?_)
                generalize wc.drew = w17 at BK136 HB hHeld ⊢
                refine pure_ (i := 0) (N := some 19) (v := ?_) (a' := ?_) #[Y,Z,Z,Z,Z,Z,Z,Z,Z,Z,Z] rfl rfl (any_of HT_.out (by kernel_rfl)) (fun _ _ _ h => h) (Or.inl ⟨by rfl, ?_⟩) ?_ ?_
                rotate_left
                · intro w'
                  go_simp
                  with_reducible rfl
                rotate_left
                · simp only [Act.put, m', n', o', i64_w, i32_w]
                  rfl
                refine pure_ (i := 4) (N := some 23) (v := ?_) (a' := ?_) #[Y,Z,Z,Z,Y,Z,Z,Z,Z,Z,Z] rfl rfl (any_of HT_.out (by kernel_rfl)) (fun _ _ _ h => h) (Or.inl ⟨by rfl, ?_⟩) ?_ ?_
                rotate_left
                · intro w'
                  go_simp
                  with_reducible rfl
                rotate_left
                · simp only [Act.put, m', n', o', i64_w, i32_w]
                  rfl
                refine take_ (i := 1) (N := some 20) (v := ?_) (a' := ?_) #[Y,Y,Z,Z,Y,Z,Z,Z,Z,Z,Z] rfl rfl (take_ofW HT_.out HW_.out (by kernel_rfl)) (fun _ _ _ h => h) (Or.inl ⟨by rfl, ?_⟩) hHeld ?_ ?_
                rotate_left
                · rintro w' ⟨s0, s1⟩
                  go_simp
                  with_reducible rfl
                rotate_left
                · simp only [Act.put, m', n', o', i64_w, i32_w]
                  rfl
                refine pure_ (i := 2) (N := some 21) (v := ?_) (a' := ?_) #[Y,Y,Y,Z,Y,Z,Z,Z,Z,Z,Z] rfl rfl (any_of HT_.out (by kernel_rfl)) (fun _ _ _ h => h) (Or.inl ⟨by rfl, ?_⟩) ?_ ?_
                rotate_left
                · intro w'
                  go_simp
                  with_reducible rfl
                rotate_left
                · simp only [Act.put, m', n', o', i64_w, i32_w]
                  rfl
                refine take_ (i := 5) (N := some 24) (v := ?_) (a' := ?_) #[Y,Y,Y,Z,Y,Y,Z,Z,Z,Z,Z] rfl rfl (take_ofW HT_.out HW_.out (by kernel_rfl)) (fun _ _ _ h => h) (Or.inl ⟨by rfl, ?_⟩) hHeld ?_ ?_
                rotate_left
                · rintro w' ⟨s0, s1⟩
                  go_simp
                  with_reducible rfl
                rotate_left
                · simp only [Act.put, m', n', o', i64_w, i32_w]
                  rfl
                refine pure_ (i := 6) (N := some 25) (v := ?_) (a' := ?_) #[Y,Y,Y,Z,Y,Y,Y,Z,Z,Z,Z] rfl rfl (any_of HT_.out (by kernel_rfl)) (fun _ _ _ h => h) (Or.inl ⟨by rfl, ?_⟩) ?_ ?_
                rotate_left
                · intro w'
                  go_simp
                  with_reducible rfl
                rotate_left
                · simp only [Act.put, m', n', o', i64_w, i32_w]
                  rfl
                refine pure_ (i := 7) (N := some 26) (v := ?_) (a' := ?_) #[Y,Y,Y,Z,Y,Y,Y,Y,Z,Z,Z] rfl rfl (any_of HT_.out (by kernel_rfl)) (fun _ _ _ h => h) (Or.inl ⟨by rfl, ?_⟩) ?_ ?_
                rotate_left
                · intro w'
                  go_simp
                  with_reducible rfl
                rotate_left
                · simp only [Act.put, m', n', o', i64_w, i32_w]
                  rfl
                refine join_ (σ := Value × Value) 2 #[Y,Y,Y,Y,Y,Y,Y,Y,Y,Z,Z] (fun s_ => [(22, s_.1), (27, s_.2)]) (fun s_ w' => (w'.cell? ⟨gb136, 0, none⟩ = some (.int .i64 a0_0) ∧ w'.cell? ⟨gb136, 1, none⟩ = some (.slice A0_1 l0_1.length c0_1)) ∧ (Kd.R (Kd.int .u8) 5 w' w.heap.size (fun k_ => some k_ ≠ (s_.2 : Value).ownBlock) s_.1 y137) ∧ (Kd.R (Kd.int .u8) 5 w' w.heap.size (fun k_ => some k_ ≠ (s_.1 : Value).ownBlock) s_.2 t140) ∧ (w'.heap[gb136]? = some (.cells #[.int .i64 a0_0, .slice A0_1 l0_1.length c0_1] 84 (0, 0))) ∧ (Below w.heap.size w w')) ?_ ?_
                rotate_left
                · intro hCont
                  refine two_ (i := 3) (j := 8) (Ni := some 22) (Nj := some 27) #[Y,Y,Y,Y,Y,Y,Y,Y,Z,Z,Z] #[Y,Y,Y,Z,Y,Y,Y,Y,Y,Z,Z] rfl rfl rfl rfl (two_of HT_.out (by kernel_rfl)) (by decide) (by decide) (fun K hK => ?_) (fun K hK => ?_)
                  · skip
                    refine Kd.R_lit_step (Kd.int .u8) _ 5 ?hg (N := 22) ?hd (xs := ([(a0_0) % 256] : List Int)) (inner := [.int .u8 ((a0_0) % 256)]) (ok := fun _ => True) (okp := fun _ => True) ?hr ?hp (fun _ hk => hk) trivial (Below.refl _ _) (Nat.le_refl _) (by simp) ?_; (case hd => rfl); (case hg => rfl); (case hr => first | (go_simp; done) | (go_simp; rfl)); (case hp => exact (Reps.one (show Kd.M (Kd.int .u8) _ _ _ ((a0_0) % 256) [.int .u8 ((a0_0) % 256)] from rfl) (Reps.none _ _)))
                    intro v138 w18 ho19 hb hg_ hnew_
                    clear hg_ hnew_
                    (first | rw [← Ny137.out] at ho19 | (simp only [Int.reduceToNat] at ho19; rw [← Ny137.out] at ho19))
                    have n0_ := p' (Kd.R_lower ho19 (k' (by repeat (first | (with_reducible first | exact HB.out | apply d' | apply b' | apply c' | refine h' ?_ GE136.out) | exact HB.out))))
                    have n1_ := p' (blk_below (g := gb136) (o := .cells #[.int .i64 a0_0, .slice A0_1 l0_1.length c0_1] 84 (0, 0)) (by (with_reducible repeat (first | apply blk_drewN | apply blk_drew | apply blk_alloc)); exact BK136.out) hb)
                    have n2_ := p' (below_step (by repeat (first | (with_reducible first | exact HB.out | apply d' | apply b' | apply c' | refine h' ?_ GE136.out) | exact HB.out)) hb)
                    clear BK136
                    clear HB
                    have HO139 := n0_
                    have BK136 := n1_
                    have HB := n2_
                    clear n0_ n1_ n2_
                    clear hb ho19
                    refine hK.out _ _ ⟨(j' BK136.out 0).trans rfl, (j' BK136.out 1).trans rfl⟩ (fun hHeld => ?_)
                    clear hK K
                    refine norm_ (a' := ?_) ?_ ?_
                    rotate_left
                    · show Act.put _ (some 22) _ = _
                      simp only [Act.put, m', n', o', i64_w, i32_w]
                      rfl
                    refine one_ (i := 8) (N := some 27) #[Y,Y,Y,Y,Y,Y,Y,Y,Y,Z,Z] rfl rfl (one_of HT_.out (by kernel_rfl)) (by decide) (fun K hK => ?_)
                    refine goes_ Try.func42 (by kernel_rfl) rfl #[.int .u64 (IntKind.u64.wrap ((l0_1.length : Int))), .int .i64 3] (by rfl) rfl rfl (by (try simp only [List.map_toArray, List.map_cons, List.map_nil]); first | done | rfl | (simp only [List.length_drop, List.length_take]; rfl)) ?_
                    with_reducible refine (fanlightref03_Octets.calls kj1 (IntKind.u64.wrap ((l0_1.length : Int))) 3 t140 _ A10.out).mono ?_
                    rintro e w20 ⟨v141, rfl, ho0, hb⟩
                    refine ⟨_, rfl, ?_⟩
                    have n0_ := p' (Kd.R_elder' (by (with_reducible repeat (first | apply f' | apply e' | apply g')); exact HO139.out) (Kd.R_base ho0) hb)
                    have n1_ := p' (Kd.R_lower (Kd.R_new' ho0 (Kd.R_lt (by (with_reducible repeat (first | apply f' | apply e' | apply g')); exact HO139.out))) (k' (by repeat (first | (with_reducible first | exact HB.out | apply d' | apply b' | apply c' | refine h' ?_ GE136.out) | exact HB.out))))
                    have n2_ := p' (blk_below (g := gb136) (o := .cells #[.int .i64 a0_0, .slice A0_1 l0_1.length c0_1] 84 (0, 0)) (by (with_reducible repeat (first | apply blk_drewN | apply blk_drew | apply blk_alloc)); exact BK136.out) hb)
                    have n3_ := p' (below_step (by repeat (first | (with_reducible first | exact HB.out | apply d' | apply b' | apply c' | refine h' ?_ GE136.out) | exact HB.out)) hb)
                    clear HO139
                    clear BK136
                    clear HB
                    have HO139 := n0_
                    have HO142 := n1_
                    have BK136 := n2_
                    have HB := n3_
                    clear n0_ n1_ n2_ n3_
                    (try clear hb)
                    (try clear hb2)
                    (try clear hk)
                    (try clear hi)
                    (try clear ho0)
                    refine hK.out _ _ ⟨(j' BK136.out 0).trans rfl, (j' BK136.out 1).trans rfl⟩ (fun hHeld => ?_)
                    clear hK K
                    refine norm_ (a' := ?_) ?_ ?_
                    rotate_left
                    · show Act.put _ (some 27) _ = _
                      simp only [Act.put, m', n', o', i64_w, i32_w]
                      rfl
                    exact norm_ (by simp only [putAll, Act.put, m', n', o']) (hCont (v138, v141) _ ⟨hHeld, (by (with_reducible repeat (first | apply f' | apply e' | apply g')); exact Kd.R_mono HO139.out (fun _ hk => hk.2)), (by (with_reducible repeat (first | apply f' | apply e' | apply g')); exact Kd.R_mono HO142.out (fun _ hk => hk.2)), (by (with_reducible repeat (first | apply blk_drewN | apply blk_drew | apply blk_alloc)); exact BK136.out), (by repeat (first | (with_reducible first | exact HB.out | apply d' | apply b' | apply c' | refine h' ?_ GE136.out) | exact HB.out))⟩)
                  · skip
                    refine goes_ Try.func42 (by kernel_rfl) rfl #[.int .u64 (IntKind.u64.wrap ((l0_1.length : Int))), .int .i64 3] (by rfl) rfl rfl (by (try simp only [List.map_toArray, List.map_cons, List.map_nil]); first | done | rfl | (simp only [List.length_drop, List.length_take]; rfl)) ?_
                    with_reducible refine (fanlightref03_Octets.calls kj1 (IntKind.u64.wrap ((l0_1.length : Int))) 3 t140 _ A10.out).mono ?_
                    rintro e w18 ⟨v141, rfl, ho0, hb⟩
                    refine ⟨_, rfl, ?_⟩
                    have n0_ := p' (Kd.R_lower ho0 (k' (by repeat (first | (with_reducible first | exact HB.out | apply d' | apply b' | apply c' | refine h' ?_ GE136.out) | exact HB.out))))
                    have n1_ := p' (blk_below (g := gb136) (o := .cells #[.int .i64 a0_0, .slice A0_1 l0_1.length c0_1] 84 (0, 0)) (by (with_reducible repeat (first | apply blk_drewN | apply blk_drew | apply blk_alloc)); exact BK136.out) hb)
                    have n2_ := p' (below_step (by repeat (first | (with_reducible first | exact HB.out | apply d' | apply b' | apply c' | refine h' ?_ GE136.out) | exact HB.out)) hb)
                    clear BK136
                    clear HB
                    have HO142 := n0_
                    have BK136 := n1_
                    have HB := n2_
                    clear n0_ n1_ n2_
                    (try clear hb)
                    (try clear hb2)
                    (try clear hk)
                    (try clear hi)
                    (try clear ho0)
                    refine hK.out _ _ ⟨(j' BK136.out 0).trans rfl, (j' BK136.out 1).trans rfl⟩ (fun hHeld => ?_)
                    clear hK K
                    refine norm_ (a' := ?_) ?_ ?_
                    rotate_left
                    · show Act.put _ (some 27) _ = _
                      simp only [Act.put, m', n', o', i64_w, i32_w]
                      rfl
                    refine one_ (i := 3) (N := some 22) #[Y,Y,Y,Y,Y,Y,Y,Y,Y,Z,Z] rfl rfl (one_of HT_.out (by kernel_rfl)) (by decide) (fun K hK => ?_)
                    refine Kd.R_lit_step (Kd.int .u8) _ 5 ?hg (N := 22) ?hd (xs := ([(a0_0) % 256] : List Int)) (inner := [.int .u8 ((a0_0) % 256)]) (ok := fun _ => True) (okp := fun _ => True) ?hr ?hp (fun _ hk => hk) trivial (Below.refl _ _) (Nat.le_refl _) (by simp) ?_; (case hd => rfl); (case hg => rfl); (case hr => first | (go_simp; done) | (go_simp; rfl)); (case hp => exact (Reps.one (show Kd.M (Kd.int .u8) _ _ _ ((a0_0) % 256) [.int .u8 ((a0_0) % 256)] from rfl) (Reps.none _ _)))
                    intro v138 w19 ho20 hb hg_ hnew_
                    clear hg_ hnew_
                    (first | rw [← Ny137.out] at ho20 | (simp only [Int.reduceToNat] at ho20; rw [← Ny137.out] at ho20))
                    have n0_ := p' (Kd.R_elder' (by (with_reducible repeat (first | apply f' | apply e' | apply g')); exact HO142.out) (Kd.R_base ho20) hb)
                    have n1_ := p' (Kd.R_lower (Kd.R_new' ho20 (Kd.R_lt (by (with_reducible repeat (first | apply f' | apply e' | apply g')); exact HO142.out))) (k' (by repeat (first | (with_reducible first | exact HB.out | apply d' | apply b' | apply c' | refine h' ?_ GE136.out) | exact HB.out))))
                    have n2_ := p' (blk_below (g := gb136) (o := .cells #[.int .i64 a0_0, .slice A0_1 l0_1.length c0_1] 84 (0, 0)) (by (with_reducible repeat (first | apply blk_drewN | apply blk_drew | apply blk_alloc)); exact BK136.out) hb)
                    have n3_ := p' (below_step (by repeat (first | (with_reducible first | exact HB.out | apply d' | apply b' | apply c' | refine h' ?_ GE136.out) | exact HB.out)) hb)
                    clear HO142
                    clear BK136
                    clear HB
                    have HO142 := n0_
                    have HO139 := n1_
                    have BK136 := n2_
                    have HB := n3_
                    clear n0_ n1_ n2_ n3_
                    clear hb ho20
                    refine hK.out _ _ ⟨(j' BK136.out 0).trans rfl, (j' BK136.out 1).trans rfl⟩ (fun hHeld => ?_)
                    clear hK K
                    refine norm_ (a' := ?_) ?_ ?_
                    rotate_left
                    · show Act.put _ (some 22) _ = _
                      simp only [Act.put, m', n', o', i64_w, i32_w]
                      rfl
                    exact norm_ (by simp only [putAll, Act.put, m', n', o']) (hCont (v138, v141) _ ⟨hHeld, (by (with_reducible repeat (first | apply f' | apply e' | apply g')); exact Kd.R_mono HO139.out (fun _ hk => hk.2)), (by (with_reducible repeat (first | apply f' | apply e' | apply g')); exact Kd.R_mono HO142.out (fun _ hk => hk.2)), (by (with_reducible repeat (first | apply blk_drewN | apply blk_drew | apply blk_alloc)); exact BK136.out), (by repeat (first | (with_reducible first | exact HB.out | apply d' | apply b' | apply c' | refine h' ?_ GE136.out) | exact HB.out))⟩)
                rintro ⟨v138, v141⟩ w21 ⟨hS_, h0_, h1_, h2_, h3_⟩
                have n0_ : Aside0 (Kd.R (Kd.int .u8) 5 w21 w.heap.size (fun k_ => some k_ ≠ (v141 : Value).ownBlock) v138 y137) := ⟨h0_⟩
                have n1_ : Aside0 (Kd.R (Kd.int .u8) 5 w21 w.heap.size (fun k_ => some k_ ≠ (v138 : Value).ownBlock) v141 t140) := ⟨h1_⟩
                have n2_ : Aside0 (w21.heap[gb136]? = some (.cells #[.int .i64 a0_0, .slice A0_1 l0_1.length c0_1] 84 (0, 0))) := ⟨h2_⟩
                have n3_ : Aside0 (Below w.heap.size w w21) := ⟨h3_⟩
                clear BK136
                clear HB
                clear h0_ h1_ h2_ h3_
                have HO139 := n0_
                have HO142 := n1_
                have BK136 := n2_
                have HB := n3_
                clear n0_ n1_ n2_ n3_
                have hHeld : w21.cell? ⟨gb136, 0, none⟩ = some (.int .i64 a0_0) ∧ w21.cell? ⟨gb136, 1, none⟩ = some (.slice A0_1 l0_1.length c0_1) := hS_
                obtain ⟨Ao23, co23, eo23⟩ := Kd.R_slice HO142.out
                (first | subst eo23 | (injection eo23 with f1_ f2_ f3_; have f4_ := f1_.symm; have f5_ := f3_.symm; clear f1_ f2_ f3_; subst f4_; subst f5_))
                refine norm_ (a' := ?_) ?_ ?_
                rotate_left
                · simp only [putAll, Act.put, m', n', o']
                  rfl
                refine one_ (i := 9) (N := some 28) #[Y,Y,Y,Y,Y,Y,Y,Y,Y,Y,Z] rfl rfl (one_of HT_.out (by kernel_rfl)) (by decide) (fun K hK => ?_)
                refine Kd.R_append_rows_step (Kd.int .u8) (w0 := w) w.heap.size (by rfl) (.tmp 22) (.tmp 27) 22 5 (.int .u8 0) 1 rfl Try.underlying22 info5 rfl (by decide) (by omega) v138 y137 t140 _ _ _ (fun k_ => some k_ ≠ (.slice Ao23 t140.length co23 : Value).ownBlock) (fun _ => False) rfl rfl ?aO ?aR (fun _ _ h => h) (fun _ h => h.elim) ?aF ?aB ?aS ?aL ?_
                (case aR => repeat (first | exact (Kd.R_reads' HO142.out).2.2 | (with_reducible refine Kd.C_alloc ?_ _) | (with_reducible refine Kd.C_drewN ?_ _) | (with_reducible refine Kd.C_drew ?_)))
                (case aB => exact (by repeat (first | (with_reducible first | exact HB.out | apply d' | apply b' | apply c' | refine h' ?_ GE136.out) | exact HB.out)))
                (case aF => exact (fun k_ hk => Kd.fresh' (Kd.R_lt (by (with_reducible repeat (first | apply f' | apply e' | apply g')); exact HO142.out)) k_ hk))
                (case aO => exact (by (with_reducible repeat (first | apply f' | apply e' | apply g')); exact HO139.out))
                (case aS => exact (k' (by repeat (first | (with_reducible first | exact HB.out | apply d' | apply b' | apply c' | refine h' ?_ GE136.out) | exact HB.out))))
                (case aL => have := LMc11.out; omega)
                intro v144 w22 ho hb hg hat
                rw [← Ny143.out] at ho
                have n0_ := p' (blk_grown (g := gb136) (o := .cells #[.int .i64 a0_0, .slice A0_1 l0_1.length c0_1] 84 (0, 0)) (by (with_reducible repeat (first | apply blk_drewN | apply blk_drew | apply blk_alloc)); exact BK136.out) hg (Kd.R_ne HO139.out BK136.out (by decide)))
                have n1_ := p' (Kd.R_after (ok := (fun _ => True)) (by (with_reducible repeat (first | apply f' | apply e' | apply g')); exact Kd.R_mono HO142.out (fun _ hk => ⟨trivial, hk⟩)) hg hat)
                have n2_ := p' (hb)
                have n3_ := p' (ho)
                clear BK136
                clear HO142
                clear HB
                clear HO139
                have BK136 := n0_
                have HO142 := n1_
                have HB := n2_
                have HO145 := n3_
                clear n0_ n1_ n2_ n3_
                clear ho hb hg hat
                refine hK.out _ _ ⟨(j' BK136.out 0).trans rfl, (j' BK136.out 1).trans rfl⟩ (fun hHeld => ?_)
                clear hK K
                refine norm_ (a' := ?_) ?_ ?_
                rotate_left
                · show Act.put _ (some 28) _ = _
                  simp only [Act.put, m', n', o', i64_w, i32_w]
                  rfl
                refine pure_ (i := 10) (N := some 4) (v := ?_) (a' := ?_) #[Y,Y,Y,Y,Y,Y,Y,Y,Y,Y,Y] rfl rfl (any_of HT_.out (by kernel_rfl)) (fun _ _ _ h => h) (Or.inl ⟨by rfl, ?_⟩) ?_ ?_
                rotate_left
                · intro w'
                  go_simp
                  with_reducible rfl
                rotate_left
                · simp only [Act.put, m', n', o', i64_w, i32_w]
                  rfl
                refine done_ (done_of HT_.out (by kernel_rfl)) ?_
                have hcz24_0 : w22.cell? ⟨gb136, 0, none⟩ = some (.int .i64 a0_0) := (j' BK136.out 0).trans rfl
                have hcz24_1 : w22.cell? ⟨gb136, 1, none⟩ = some (.slice A0_1 l0_1.length c0_1) := (j' BK136.out 1).trans rfl
                have hfz24_0 := l' BK136.out 0
                have hfz24_1 := l' BK136.out 1
                try go_wp2_with (first | ((with_reducible refine gate_builtin (b := .append) (xs := #[.tmp 29, .tmp 31]) rfl ?_); at_builtin; refine Kd.R_append_rows (Kd.int .u8) (w0 := w) w.heap.size rfl (.tmp 29) (.tmp 31) 22 5 (.int .u8 0) 1 rfl Try.underlying22 info5 rfl (by decide) (by omega) v144 y143 l0_1 _ _ _ (fun k_ => some k_ ≠ (.slice Ao23 t140.length co23 : Value).ownBlock) (fun _ => False) rfl rfl ?aO ?aR (fun _ _ h => h) (fun _ h => h.elim) ?aF ?aB ?aS ?aL ?_; (case aR => repeat (first | exact (Kd.C_below HR0_1.out HB.out) | (with_reducible refine Kd.C_alloc ?_ _) | (with_reducible refine Kd.C_drewN ?_ _) | (with_reducible refine Kd.C_drew ?_))); (case aB => exact (by repeat (first | (with_reducible first | exact HB.out | apply d' | apply b' | apply c' | refine h' ?_ GE136.out) | exact HB.out))); (case aF => exact (fun k_ hk => Kd.fresh' (Kd.R_lt (by (with_reducible repeat (first | apply f' | apply e' | apply g')); exact HO142.out)) k_ hk)); (case aO => exact (by (with_reducible repeat (first | apply f' | apply e' | apply g')); exact HO145.out)); (case aS => exact (k' (by repeat (first | (with_reducible first | exact HB.out | apply d' | apply b' | apply c' | refine h' ?_ GE136.out) | exact HB.out)))); (case aL => have := LMc12.out; omega); intro v147 w25 ho hb hg hat; rw [← Ny146.out] at ho; have n0_ := p' (blk_grown (g := gb136) (o := .cells #[.int .i64 a0_0, .slice A0_1 l0_1.length c0_1] 84 (0, 0)) (by (with_reducible repeat (first | apply blk_drewN | apply blk_drew | apply blk_alloc)); exact BK136.out) hg (Kd.R_ne HO145.out BK136.out (by decide))); have n1_ := p' (Kd.R_after (ok := (fun _ => True)) (by (with_reducible repeat (first | apply f' | apply e' | apply g')); exact HO142.out) hg hat); have n2_ := p' (hb); have n3_ := p' (ho); clear BK136; clear HO142; clear HB; clear HO145; have BK136 := n0_; have HO142 := n1_; have HB := n2_; have HO148 := n3_; clear n0_ n1_ n2_ n3_; clear ho hb hg hat; obtain ⟨Ao26, co26, eo26⟩ := Kd.R_slice HO148.out; subst eo26) | ((with_reducible refine gate_callee (f := 69) rfl ?_); refine goesL_ (some 35) rfl rfl Try.func69 (by kernel_rfl) rfl #[.slice Ao26 y146.length co26] rfl (by (try simp only [List.map_toArray, List.map_cons, List.map_nil]); first | done | rfl | (simp only [List.length_drop, List.length_take]; rfl)) ?_; (with_reducible refine (fanlightref04_Sum.calls kj1 _ _ y146 t149 _ ?side1 ?side2 A13.out).mono ?_); (case side1 => repeat (first | exact (Kd.R_reads' HO148.out).2.2 | (with_reducible refine Kd.C_alloc ?_ _) | (with_reducible refine Kd.C_drewN ?_ _) | (with_reducible refine Kd.C_drew ?_))); (case side2 => exact (Kd.R_reads' HO148.out).2.1); rintro e w' ⟨rfl, ⟨nd, rfl⟩⟩; refine ⟨_, rfl, ?_⟩) | ((with_reducible refine gate_callee (f := 68) rfl ?_); refine goesL_ (some 36) rfl rfl Try.func68 (by kernel_rfl) rfl #[.int .u32 t149] rfl (by (try simp only [List.map_toArray, List.map_cons, List.map_nil]); first | done | rfl | (simp only [List.length_drop, List.length_take]; rfl)) ?_; (with_reducible refine (fanlightref04_laid.calls t149 t150 _ A14.out).mono ?_); rintro e w27 ⟨v151, rfl, ho0, hb⟩; refine ⟨_, rfl, ?_⟩; have n0_ := p' (Kd.R_elder' (by (with_reducible repeat (first | apply f' | apply e' | apply g')); exact HO142.out) (Kd.R_base ho0) hb); have n1_ := p' (Kd.R_elder' (by (with_reducible repeat (first | apply f' | apply e' | apply g')); exact HO148.out) (Kd.R_base ho0) hb); have n2_ := p' (Kd.R_lower (Kd.R_new' (Kd.R_new' ho0 (Kd.R_lt (by (with_reducible repeat (first | apply f' | apply e' | apply g')); exact HO142.out))) (Kd.R_lt (by (with_reducible repeat (first | apply f' | apply e' | apply g')); exact HO148.out))) (k' (by repeat (first | (with_reducible first | exact HB.out | apply d' | apply b' | apply c' | refine h' ?_ GE136.out) | exact HB.out)))); have n3_ := p' (blk_below (g := gb136) (o := .cells #[.int .i64 a0_0, .slice A0_1 l0_1.length c0_1] 84 (0, 0)) (by (with_reducible repeat (first | apply blk_drewN | apply blk_drew | apply blk_alloc)); exact BK136.out) hb); have n4_ := p' (below_step (by repeat (first | (with_reducible first | exact HB.out | apply d' | apply b' | apply c' | refine h' ?_ GE136.out) | exact HB.out)) hb); clear HO142; clear HO148; clear BK136; clear HB; have HO142 := n0_; have HO148 := n1_; have HO152 := n2_; have BK136 := n3_; have HB := n4_; clear n0_ n1_ n2_ n3_ n4_; (try clear hb); (try clear hb2); (try clear hk); (try clear hi); (try clear ho0); obtain ⟨Ao29, co29, eo29⟩ := Kd.R_slice HO152.out; subst eo29) | ((with_reducible refine gate_builtin (b := .append) (xs := #[.tmp 33, .tmp 36]) rfl ?_); at_builtin; refine Kd.R_append_rows (Kd.int .u8) (w0 := w) w.heap.size rfl (.tmp 33) (.tmp 36) 22 5 (.int .u8 0) 1 rfl Try.underlying22 info5 rfl (by decide) (by omega) (.slice Ao26 y146.length co26) y146 t150 _ _ _ (fun k_ => some k_ ≠ (.slice Ao23 t140.length co23 : Value).ownBlock ∧ some k_ ≠ (.slice Ao29 t150.length co29 : Value).ownBlock) (fun _ => False) rfl rfl ?aO ?aR (fun _ _ h => h) (fun _ h => h.elim) ?aF ?aB ?aS ?aL ?_; (case aR => repeat (first | exact (Kd.R_reads' HO152.out).2.2 | (with_reducible refine Kd.C_alloc ?_ _) | (with_reducible refine Kd.C_drewN ?_ _) | (with_reducible refine Kd.C_drew ?_))); (case aB => exact (by repeat (first | (with_reducible first | exact HB.out | apply d' | apply b' | apply c' | refine h' ?_ GE136.out) | exact HB.out))); (case aF => exact (fun k_ hk => ⟨Kd.fresh' (Kd.R_lt (by (with_reducible repeat (first | apply f' | apply e' | apply g')); exact HO142.out)) k_ hk, Kd.fresh' (Kd.R_lt (by (with_reducible repeat (first | apply f' | apply e' | apply g')); exact HO152.out)) k_ hk⟩)); (case aO => exact (by (with_reducible repeat (first | apply f' | apply e' | apply g')); exact HO148.out)); (case aS => exact (k' (by repeat (first | (with_reducible first | exact HB.out | apply d' | apply b' | apply c' | refine h' ?_ GE136.out) | exact HB.out)))); (case aL => have := LMc15.out; omega); intro v154 w28 ho hb hg hat; rw [← Ny153.out] at ho; have n0_ := p' (blk_grown (g := gb136) (o := .cells #[.int .i64 a0_0, .slice A0_1 l0_1.length c0_1] 84 (0, 0)) (by (with_reducible repeat (first | apply blk_drewN | apply blk_drew | apply blk_alloc)); exact BK136.out) hg (Kd.R_ne HO148.out BK136.out (by decide))); have n1_ := p' (Kd.R_after (ok := (fun k_ => some k_ ≠ (.slice Ao29 t150.length co29 : Value).ownBlock)) (by (with_reducible repeat (first | apply f' | apply e' | apply g')); exact Kd.R_mono HO142.out (fun _ hk => ⟨hk.2, hk.1.2⟩)) hg hat); have n2_ := p' (Kd.R_after (ok := (fun k_ => some k_ ≠ (.slice Ao23 t140.length co23 : Value).ownBlock)) (by (with_reducible repeat (first | apply f' | apply e' | apply g')); exact Kd.R_mono HO152.out (fun _ hk => ⟨hk.1.2, hk.2⟩)) hg hat); have n3_ := p' (hb); have n4_ := p' (ho); clear BK136; clear HO142; clear HO152; clear HB; clear HO148; have BK136 := n0_; have HO142 := n1_; have HO152 := n2_; have HB := n3_; have HO155 := n4_; clear n0_ n1_ n2_ n3_ n4_; clear ho hb hg hat))
                go_ret2
                exact ⟨_, by first | rfl | (simp [errW_none, errW_some] <;> rfl) | (simp [*, errW_none, errW_some] <;> rfl), by (with_reducible repeat (first | apply f' | apply e' | apply g')); exact Kd.R_mono HO155.out (fun _ hk => trivial), by repeat (first | (with_reducible first | exact HB.out | apply d' | apply b' | apply c' | refine h' ?_ GE136.out) | exact HB.out)⟩
              · rw [if_neg c15] at H
                exact absurd H (by simp)
            · rw [if_neg c12] at H
              exact absurd H (by simp)
          · rw [if_neg c11] at H
            exact absurd H (by simp)
def fanlightref07_Encode.f (k : Nat) (a0_0 : Int) (a0_1 : Int) (l0_2 : List Int) : Option (List Int × Int) := (fanlightref07_Check.f k a0_0 a0_1 l0_2).bind fun t157 => (if t157 = 0 then ((fanlightref03_Octets.f k (IntKind.u64.wrap (a0_0)) 8).bind fun t158 => ((fanlightref03_Octets.f k (IntKind.u64.wrap (a0_1)) 8).bind fun t161 => (if t158.length + t161.length < 140737488355328 then ((some (t158 ++ t161 : List Int)).bind fun y164 => (if y164.length + l0_2.length < 140737488355328 then ((fanlightref04_Put.f k 3 (y164 ++ l0_2)).bind fun bt170 => (if 0 ≤ (wrap64 (8160 - (bt170.1.length : Int))) then (if bt170.1.length + (wrap64 (8160 - (bt170.1.length : Int)) : Int).toNat < 140737488355328 then (some ((bt170.1 ++ List.replicate (wrap64 (8160 - (bt170.1.length : Int)) : Int).toNat 0), 0)) else (none)) else (none))) else (none))) else (none)))) else (some (([] : List Int), t157)))
theorem fanlightref07_Encode.mono : ∀ a0 a1 a2 k, LeO (fanlightref07_Encode.f k a0 a1 a2) (fanlightref07_Encode.f (k + 1) a0 a1 a2) := by
  intro a0 a1 a2 k
  unfold fanlightref07_Encode.f
  repeat' first
      | (with_reducible exact fanlightref03_Octets.mono _ _ _)
      | (with_reducible exact fanlightref04_Put.mono _ _ _)
      | (with_reducible exact fanlightref07_Check.mono _ _ _ _)
      | (with_reducible exact LeO.refl _)
      | (with_reducible exact LeO.none _)
      | (with_reducible refine LeO.ite ?_ ?_)
      | (with_reducible refine LeO.bind ?_ (fun _ => ?_))
      | exact fanlightref03_Octets.mono _ _ _
      | exact fanlightref04_Put.mono _ _ _
      | exact fanlightref07_Check.mono _ _ _ _
      | exact LeO.none _
      | refine LeO.ite ?_ ?_
      | refine LeO.bind ?_ (fun _ => ?_)
def fanlightref07_Encode.T4 : Bool × List (List Nat × List Nat) := (true, [([], []), ([0], [0]), ([1], [1]), ([2], [2]), ([], []), ([4], [4]), ([5], [5]), ([6, 3], [6]), ([3, 7, 7], [3, 7]), ([8, 8, 0, 1, 2, 3, 4, 5, 6, 7, 8], [8])])
def fanlightref07_Encode.B4 : List Nat := [0, 1, 3, 7, 0, 16, 48, 127, 255, 511]
theorem fanlightref07_Encode.tab4 : rtab .any (opsOf Try.f16 4) = fanlightref07_Encode.T4 := by kernel_rfl
theorem fanlightref07_Encode.bits4 : waitsOk fanlightref07_Encode.T4.2 fanlightref07_Encode.B4 = true := by kernel_rfl
set_option maxHeartbeats 8000000 in
set_option maxRecDepth 100000 in
theorem fanlightref07_Encode.calls (k : Nat) (a0_0 : Int) (a0_1 : Int) (A0_2 : Option Addr) (c0_2 : Nat) (l0_2 : List Int) (r1 : List Int) (r2 : Int) (w : World) (hr0_2 : Kd.C (Kd.int .u8) w A0_2 l0_2.length l0_2) (hc0_2 : l0_2.length ≤ c0_2) (h : fanlightref07_Encode.f k a0_0 a0_1 l0_2 = some (r1, r2)) :
    Calls Try.prog 16 #[.agg #[.int .i64 a0_0, .int .i64 a0_1, .slice A0_2 l0_2.length c0_2]] w fun e w' => ∃ v0_ : Value, e = .returned (.tuple #[v0_, .int .i64 r2]) ∧ Kd.R (Kd.int .u8) 5 w' w.heap.size (fun _ => True) v0_ r1 ∧ Below w.heap.size w w' := by
  have hu24 := Try.underlying24
  have hu84 := Try.underlying84
  have HR0_2 := p' hr0_2
  have HC0_2 := p' hc0_2
  clear hr0_2 hc0_2
  have HB := p' (Below.refl w.heap.size w)
  have H : ((fanlightref07_Check.f k a0_0 a0_1 l0_2).bind fun t157 => (if t157 = 0 then ((fanlightref03_Octets.f k (IntKind.u64.wrap (a0_0)) 8).bind fun t158 => ((fanlightref03_Octets.f k (IntKind.u64.wrap (a0_1)) 8).bind fun t161 => (if t158.length + t161.length < 140737488355328 then ((some (t158 ++ t161 : List Int)).bind fun y164 => (if y164.length + l0_2.length < 140737488355328 then ((fanlightref04_Put.f k 3 (y164 ++ l0_2)).bind fun bt170 => (if 0 ≤ (wrap64 (8160 - (bt170.1.length : Int))) then (if bt170.1.length + (wrap64 (8160 - (bt170.1.length : Int)) : Int).toNat < 140737488355328 then (some ((bt170.1 ++ List.replicate (wrap64 (8160 - (bt170.1.length : Int)) : Int).toNat 0), 0)) else (none)) else (none))) else (none))) else (none)))) else (some (([] : List Int), t157)))) = some (r1, r2) := h
  clear h
  replace H := Option.bind_eq_some_iff.mp H
  obtain ⟨t157, A20, H⟩ := H
  replace H : (if t157 = 0 then ((fanlightref03_Octets.f k (IntKind.u64.wrap (a0_0)) 8).bind fun t158 => ((fanlightref03_Octets.f k (IntKind.u64.wrap (a0_1)) 8).bind fun t161 => (if t158.length + t161.length < 140737488355328 then ((some (t158 ++ t161 : List Int)).bind fun y164 => (if y164.length + l0_2.length < 140737488355328 then ((fanlightref04_Put.f k 3 (y164 ++ l0_2)).bind fun bt170 => (if 0 ≤ (wrap64 (8160 - (bt170.1.length : Int))) then (if bt170.1.length + (wrap64 (8160 - (bt170.1.length : Int)) : Int).toNat < 140737488355328 then (some ((bt170.1 ++ List.replicate (wrap64 (8160 - (bt170.1.length : Int)) : Int).toNat 0), 0)) else (none)) else (none))) else (none))) else (none)))) else (some (([] : List Int), t157))) = some (r1, r2) := H
  have A2 := p' A20
  clear A20
  by_cases c3 : t157 = 0
  · rw [if_pos c3] at H
    have c3b0 : (t157 == 0) = true := beq_iff_eq.mpr c3
    have c3b1 : (t157 != 0) = false := bne_eq_false_iff_eq.mpr c3
    clear c3
    replace H := Option.bind_eq_some_iff.mp H
    obtain ⟨t158, A40, H⟩ := H
    replace H : ((fanlightref03_Octets.f k (IntKind.u64.wrap (a0_1)) 8).bind fun t161 => (if t158.length + t161.length < 140737488355328 then ((some (t158 ++ t161 : List Int)).bind fun y164 => (if y164.length + l0_2.length < 140737488355328 then ((fanlightref04_Put.f k 3 (y164 ++ l0_2)).bind fun bt170 => (if 0 ≤ (wrap64 (8160 - (bt170.1.length : Int))) then (if bt170.1.length + (wrap64 (8160 - (bt170.1.length : Int)) : Int).toNat < 140737488355328 then (some ((bt170.1 ++ List.replicate (wrap64 (8160 - (bt170.1.length : Int)) : Int).toNat 0), 0)) else (none)) else (none))) else (none))) else (none))) = some (r1, r2) := H
    have A4 := p' A40
    clear A40
    replace H := Option.bind_eq_some_iff.mp H
    obtain ⟨t161, A50, H⟩ := H
    replace H : (if t158.length + t161.length < 140737488355328 then ((some (t158 ++ t161 : List Int)).bind fun y164 => (if y164.length + l0_2.length < 140737488355328 then ((fanlightref04_Put.f k 3 (y164 ++ l0_2)).bind fun bt170 => (if 0 ≤ (wrap64 (8160 - (bt170.1.length : Int))) then (if bt170.1.length + (wrap64 (8160 - (bt170.1.length : Int)) : Int).toNat < 140737488355328 then (some ((bt170.1 ++ List.replicate (wrap64 (8160 - (bt170.1.length : Int)) : Int).toNat 0), 0)) else (none)) else (none))) else (none))) else (none)) = some (r1, r2) := H
    have A5 := p' A50
    clear A50
    by_cases c6 : t158.length + t161.length < 140737488355328
    · rw [if_pos c6] at H
      have LMc6 := p' c6
      clear c6
      obtain ⟨y164, hy164⟩ : ∃ y_ : List Int, y_ = (t158 ++ t161) := ⟨_, rfl⟩
      replace H : (if y164.length + l0_2.length < 140737488355328 then ((fanlightref04_Put.f k 3 (y164 ++ l0_2)).bind fun bt170 => (if 0 ≤ (wrap64 (8160 - (bt170.1.length : Int))) then (if bt170.1.length + (wrap64 (8160 - (bt170.1.length : Int)) : Int).toNat < 140737488355328 then (some ((bt170.1 ++ List.replicate (wrap64 (8160 - (bt170.1.length : Int)) : Int).toNat 0), 0)) else (none)) else (none))) else (none)) = some (r1, r2) := by first | (rw [hy164]; with_reducible exact H) | (have H2_ := (Option.bind_some _ _).symm.trans H; rw [hy164]; with_reducible exact H2_) | (have H2_ := (Option.bind_some _ _).symm.trans H; with_reducible exact H2_) | with_reducible exact H | (rw [hy164]; exact H) | exact H
      have Ny164 := p' hy164
      clear hy164
      by_cases c7 : y164.length + l0_2.length < 140737488355328
      · rw [if_pos c7] at H
        have LMc7 := p' c7
        clear c7
        obtain ⟨y167, hy167⟩ : ∃ y_ : List Int, y_ = (y164 ++ l0_2) := ⟨_, rfl⟩
        replace H : ((fanlightref04_Put.f k 3 y167).bind fun bt170 => (if 0 ≤ (wrap64 (8160 - (bt170.1.length : Int))) then (if bt170.1.length + (wrap64 (8160 - (bt170.1.length : Int)) : Int).toNat < 140737488355328 then (some ((bt170.1 ++ List.replicate (wrap64 (8160 - (bt170.1.length : Int)) : Int).toNat 0), 0)) else (none)) else (none))) = some (r1, r2) := by first | (rw [hy167]; with_reducible exact H) | (have H2_ := (Option.bind_some _ _).symm.trans H; rw [hy167]; with_reducible exact H2_) | (have H2_ := (Option.bind_some _ _).symm.trans H; with_reducible exact H2_) | with_reducible exact H | (rw [hy167]; exact H) | exact H
        have Ny167 := p' hy167
        clear hy167
        replace H := Option.bind_eq_some_iff.mp H
        obtain ⟨⟨t170, t173⟩, A80, H⟩ := H
        replace H : (if 0 ≤ (wrap64 (8160 - (t170.length : Int))) then (if t170.length + (wrap64 (8160 - (t170.length : Int)) : Int).toNat < 140737488355328 then (some ((t170 ++ List.replicate (wrap64 (8160 - (t170.length : Int)) : Int).toNat 0), 0)) else (none)) else (none)) = some (r1, r2) := H
        have A8 := p' A80
        clear A80
        obtain ⟨ji9, hji9⟩ : ∃ j_ : Int, (wrap64 (8160 - (t170.length : Int))) = j_ := ⟨_, rfl⟩
        replace H : (if 0 ≤ (ji9) then (if t170.length + (ji9 : Int).toNat < 140737488355328 then (some ((t170 ++ List.replicate (ji9 : Int).toNat 0), 0)) else (none)) else (none)) = some (r1, r2) := by first | (rw [hji9] at H; exact H) | (simp only [hji9] at H ⊢; exact H)
        (try rw [hji9] at A2)
        (try rw [hji9] at A4)
        (try rw [hji9] at A5)
        (try rw [hji9] at A8)
        have hji9w : (IntKind.i64.wrap (8160 - (t170.length : Int))) = ji9 := (i64_w _).trans hji9
        by_cases c10 : 0 ≤ (ji9)
        · rw [if_pos c10] at H
          have c10b0 := eq_true c10
          have c10b1 : decide (0 ≤ (ji9)) = true := decide_eq_true c10
          clear c10
          by_cases c11 : t170.length + (ji9 : Int).toNat < 140737488355328
          · rw [if_pos c11] at H
            have LMc11 := p' c11
            clear c11
            obtain ⟨y174, hy174⟩ : ∃ y_ : List Int, y_ = (t170 ++ List.replicate (ji9 : Int).toNat 0) := ⟨_, rfl⟩
            replace H : (some (y174, 0)) = some (r1, r2) := by first | (rw [hy174]; with_reducible exact H) | (have H2_ := (Option.bind_some _ _).symm.trans H; rw [hy174]; with_reducible exact H2_) | (have H2_ := (Option.bind_some _ _).symm.trans H; with_reducible exact H2_) | with_reducible exact H | (rw [hy174]; exact H) | exact H
            have Ny174 := p' hy174
            clear hy174
            simp only [Option.some.injEq, Prod.mk.injEq] at H
            obtain ⟨rfl, rfl⟩ := H
            go_enter Try.func16, Try.ntmps16
            try go_wp2_with (first | ((with_reducible refine gate_dst (N := 1) rfl ?_); refine box_event ?hg (N := 1) ?hd (cs := #[.int .i64 a0_0, .int .i64 a0_1, .slice A0_2 l0_2.length c0_2]) (t := 24) ?hr ?_; (case hd => rfl); (case hg => rfl); (case hr => first | (go_simp; done) | (go_simp; rfl)); intro gb156 hg w12 hbox hb; have n0_ := p' (below_step (by repeat (first | (with_reducible first | exact HB.out | apply d' | apply b' | apply c') | exact HB.out)) hb); have n1_ := p' (hbox); have n2_ := p' ((by rw [hg]; exact (k' (by repeat (first | (with_reducible first | exact HB.out | apply d' | apply b' | apply c') | exact HB.out))) : w.heap.size ≤ gb156)); have n3_ := p' ((by rw [hg]; exact (k' (by repeat (first | (with_reducible first | exact HB.out | apply d' | apply b' | apply c') | exact HB.out))) : w.heap.size ≤ gb156)); clear HB; have HB := n0_; have BK156 := n1_; have GW156 := n2_; have GE156 := n3_; clear n0_ n1_ n2_ n3_; clear hb hbox hg; have hcz13_0 : w12.cell? ⟨gb156, 0, none⟩ = some (.int .i64 a0_0) := (j' BK156.out 0).trans rfl; have hcz13_1 : w12.cell? ⟨gb156, 1, none⟩ = some (.int .i64 a0_1) := (j' BK156.out 1).trans rfl; have hcz13_2 : w12.cell? ⟨gb156, 2, none⟩ = some (.slice A0_2 l0_2.length c0_2) := (j' BK156.out 2).trans rfl; have hfz13_0 := l' BK156.out 0; have hfz13_1 := l' BK156.out 1; have hfz13_2 := l' BK156.out 2) | ((with_reducible refine gate_callee (f := 25) rfl ?_); refine goesL_ (some 9) rfl rfl Try.func25 (by kernel_rfl) rfl #[.agg #[.int .i64 a0_0, .int .i64 a0_1, .slice A0_2 l0_2.length c0_2]] rfl (by (try simp only [List.map_toArray, List.map_cons, List.map_nil]); first | done | rfl | (simp only [List.length_drop, List.length_take]; rfl)) ?_; (with_reducible refine (fanlightref07_Check.calls k a0_0 a0_1 _ _ l0_2 t157 _ ?side1 ?side2 A2.out).mono ?_); (case side1 => repeat (first | exact (Kd.C_below HR0_2.out HB.out) | (with_reducible refine Kd.C_alloc ?_ _) | (with_reducible refine Kd.C_drewN ?_ _) | (with_reducible refine Kd.C_drew ?_))); (case side2 => exact HC0_2.out); rintro e w14 ⟨rfl, hb⟩; refine ⟨_, rfl, ?_⟩; have n0_ := p' (blk_below (g := gb156) (o := .cells #[.int .i64 a0_0, .int .i64 a0_1, .slice A0_2 l0_2.length c0_2] 24 (0, 0)) (by (with_reducible repeat (first | apply blk_drewN | apply blk_drew | apply blk_alloc)); exact BK156.out) hb); have n1_ := p' (below_step (by repeat (first | (with_reducible first | exact HB.out | apply d' | apply b' | apply c' | refine h' ?_ GE156.out) | exact HB.out)) hb); clear BK156; clear HB; have BK156 := n0_; have HB := n1_; clear n0_ n1_; (try clear hb); (try clear hb2); (try clear hk); (try clear hi)))
            have n0_ := p' (blk_drew BK156.out)
            have n1_ := p' (c' HB.out)
            clear BK156
            clear HB
            have BK156 := n0_
            have HB := n1_
            clear n0_ n1_
            refine start_ (n := 10) (S := fun w' => w'.cell? ⟨gb156, 0, none⟩ = some (.int .i64 a0_0) ∧ w'.cell? ⟨gb156, 1, none⟩ = some (.int .i64 a0_1) ∧ w'.cell? ⟨gb156, 2, none⟩ = some (.slice A0_2 l0_2.length c0_2)) (ds := []) #[Z,Z,Z,Z,Z,Z,Z,Z,Z,Z] (by kernel_rfl) rfl rfl ⟨(j' BK156.out 0).trans rfl, (j' BK156.out 1).trans rfl, (j' BK156.out 2).trans rfl⟩ (fun hHeld => ?_); refine with_tabW fanlightref07_Encode.tab4 fanlightref07_Encode.bits4 (fun HT_ HW_ => ?_)
            generalize w14.drew = w15 at BK156 HB hHeld ⊢
            refine pure_ (i := 0) (N := some 13) (v := ?_) (a' := ?_) #[Y,Z,Z,Z,Z,Z,Z,Z,Z,Z] rfl rfl (any_of HT_.out (by kernel_rfl)) (fun _ _ _ h => h) (Or.inl ⟨by rfl, ?_⟩) ?_ ?_
            rotate_left
            · intro w'
              go_simp
              with_reducible rfl
            rotate_left
            · simp only [Act.put, m', n', o', i64_w, i32_w]
              rfl
            refine pure_ (i := 4) (N := some 17) (v := ?_) (a' := ?_) #[Y,Z,Z,Z,Y,Z,Z,Z,Z,Z] rfl rfl (any_of HT_.out (by kernel_rfl)) (fun _ _ _ h => h) (Or.inl ⟨by rfl, ?_⟩) ?_ ?_
            rotate_left
            · intro w'
              go_simp
              with_reducible rfl
            rotate_left
            · simp only [Act.put, m', n', o', i64_w, i32_w]
              rfl
            refine take_ (i := 1) (N := some 14) (v := ?_) (a' := ?_) #[Y,Y,Z,Z,Y,Z,Z,Z,Z,Z] rfl rfl (take_ofW HT_.out HW_.out (by kernel_rfl)) (fun _ _ _ h => h) (Or.inl ⟨by rfl, ?_⟩) hHeld ?_ ?_
            rotate_left
            · rintro w' ⟨s0, s1, s2⟩
              go_simp
              with_reducible rfl
            rotate_left
            · simp only [Act.put, m', n', o', i64_w, i32_w]
              rfl
            refine pure_ (i := 2) (N := some 15) (v := ?_) (a' := ?_) #[Y,Y,Y,Z,Y,Z,Z,Z,Z,Z] rfl rfl (any_of HT_.out (by kernel_rfl)) (fun _ _ _ h => h) (Or.inl ⟨by rfl, ?_⟩) ?_ ?_
            rotate_left
            · intro w'
              go_simp
              with_reducible rfl
            rotate_left
            · simp only [Act.put, m', n', o', i64_w, i32_w]
              rfl
            refine take_ (i := 5) (N := some 18) (v := ?_) (a' := ?_) #[Y,Y,Y,Z,Y,Y,Z,Z,Z,Z] rfl rfl (take_ofW HT_.out HW_.out (by kernel_rfl)) (fun _ _ _ h => h) (Or.inl ⟨by rfl, ?_⟩) hHeld ?_ ?_
            rotate_left
            · rintro w' ⟨s0, s1, s2⟩
              go_simp
              with_reducible rfl
            rotate_left
            · simp only [Act.put, m', n', o', i64_w, i32_w]
              rfl
            refine pure_ (i := 6) (N := some 19) (v := ?_) (a' := ?_) #[Y,Y,Y,Z,Y,Y,Y,Z,Z,Z] rfl rfl (any_of HT_.out (by kernel_rfl)) (fun _ _ _ h => h) (Or.inl ⟨by rfl, ?_⟩) ?_ ?_
            rotate_left
            · intro w'
              go_simp
              with_reducible rfl
            rotate_left
            · simp only [Act.put, m', n', o', i64_w, i32_w]
              rfl
            refine one_ (i := 3) (N := some 16) #[Y,Y,Y,Y,Y,Y,Y,Z,Z,Z] rfl rfl (one_of HT_.out (by kernel_rfl)) (by decide) (fun K hK => ?_)
            refine goes_ Try.func42 (by kernel_rfl) rfl #[.int .u64 (IntKind.u64.wrap (a0_0)), .int .i64 8] (by rfl) rfl rfl (by (try simp only [List.map_toArray, List.map_cons, List.map_nil]); first | done | rfl | (simp only [List.length_drop, List.length_take]; rfl)) ?_
            with_reducible refine (fanlightref03_Octets.calls k (IntKind.u64.wrap (a0_0)) 8 t158 _ A4.out).mono ?_
            rintro e w16 ⟨v159, rfl, ho0, hb⟩
            refine ⟨_, rfl, ?_⟩
            have n0_ := p' (Kd.R_lower ho0 (k' (by repeat (first | (with_reducible first | exact HB.out | apply d' | apply b' | apply c' | refine h' ?_ GE156.out) | exact HB.out))))
            have n1_ := p' (blk_below (g := gb156) (o := .cells #[.int .i64 a0_0, .int .i64 a0_1, .slice A0_2 l0_2.length c0_2] 24 (0, 0)) (by (with_reducible repeat (first | apply blk_drewN | apply blk_drew | apply blk_alloc)); exact BK156.out) hb)
            have n2_ := p' (below_step (by repeat (first | (with_reducible first | exact HB.out | apply d' | apply b' | apply c' | refine h' ?_ GE156.out) | exact HB.out)) hb)
            clear BK156
            clear HB
            have HO160 := n0_
            have BK156 := n1_
            have HB := n2_
            clear n0_ n1_ n2_
            (try clear hb)
            (try clear hb2)
            (try clear hk)
            (try clear hi)
            (try clear ho0)
            refine hK.out _ _ ⟨(j' BK156.out 0).trans rfl, (j' BK156.out 1).trans rfl, (j' BK156.out 2).trans rfl⟩ (fun hHeld => ?_)
            clear hK K
            refine norm_ (a' := ?_) ?_ ?_
            rotate_left
            · show Act.put _ (some 16) _ = _
              simp only [Act.put, m', n', o', i64_w, i32_w]
              rfl
            refine one_ (i := 7) (N := some 20) #[Y,Y,Y,Y,Y,Y,Y,Y,Z,Z] rfl rfl (one_of HT_.out (by kernel_rfl)) (by decide) (fun K hK => ?_)
            refine goes_ Try.func42 (by kernel_rfl) rfl #[.int .u64 (IntKind.u64.wrap (a0_1)), .int .i64 8] (by rfl) rfl rfl (by (try simp only [List.map_toArray, List.map_cons, List.map_nil]); first | done | rfl | (simp only [List.length_drop, List.length_take]; rfl)) ?_
            with_reducible refine (fanlightref03_Octets.calls k (IntKind.u64.wrap (a0_1)) 8 t161 _ A5.out).mono ?_
            rintro e w17 ⟨v162, rfl, ho0, hb⟩
            refine ⟨_, rfl, ?_⟩
            have n0_ := p' (Kd.R_elder' (by (with_reducible repeat (first | apply f' | apply e' | apply g')); exact HO160.out) (Kd.R_base ho0) hb)
            have n1_ := p' (Kd.R_lower (Kd.R_new' ho0 (Kd.R_lt (by (with_reducible repeat (first | apply f' | apply e' | apply g')); exact HO160.out))) (k' (by repeat (first | (with_reducible first | exact HB.out | apply d' | apply b' | apply c' | refine h' ?_ GE156.out) | exact HB.out))))
            have n2_ := p' (blk_below (g := gb156) (o := .cells #[.int .i64 a0_0, .int .i64 a0_1, .slice A0_2 l0_2.length c0_2] 24 (0, 0)) (by (with_reducible repeat (first | apply blk_drewN | apply blk_drew | apply blk_alloc)); exact BK156.out) hb)
            have n3_ := p' (below_step (by repeat (first | (with_reducible first | exact HB.out | apply d' | apply b' | apply c' | refine h' ?_ GE156.out) | exact HB.out)) hb)
            clear HO160
            clear BK156
            clear HB
            have HO160 := n0_
            have HO163 := n1_
            have BK156 := n2_
            have HB := n3_
            clear n0_ n1_ n2_ n3_
            (try clear hb)
            (try clear hb2)
            (try clear hk)
            (try clear hi)
            (try clear ho0)
            obtain ⟨Ao19, co19, eo19⟩ := Kd.R_slice HO163.out
            (first | subst eo19 | (injection eo19 with f1_ f2_ f3_; have f4_ := f1_.symm; have f5_ := f3_.symm; clear f1_ f2_ f3_; subst f4_; subst f5_))
            refine hK.out _ _ ⟨(j' BK156.out 0).trans rfl, (j' BK156.out 1).trans rfl, (j' BK156.out 2).trans rfl⟩ (fun hHeld => ?_)
            clear hK K
            refine norm_ (a' := ?_) ?_ ?_
            rotate_left
            · show Act.put _ (some 20) _ = _
              simp only [Act.put, m', n', o', i64_w, i32_w]
              rfl
            refine one_ (i := 8) (N := some 21) #[Y,Y,Y,Y,Y,Y,Y,Y,Y,Z] rfl rfl (one_of HT_.out (by kernel_rfl)) (by decide) (fun K hK => ?_)
            refine Kd.R_append_rows_step (Kd.int .u8) (w0 := w) w.heap.size (by rfl) (.tmp 16) (.tmp 20) 22 5 (.int .u8 0) 1 rfl Try.underlying22 info5 rfl (by decide) (by omega) v159 t158 t161 _ _ _ (fun k_ => some k_ ≠ (.slice Ao19 t161.length co19 : Value).ownBlock) (fun _ => False) rfl rfl ?aO ?aR (fun _ _ h => h) (fun _ h => h.elim) ?aF ?aB ?aS ?aL ?_
            (case aR => repeat (first | exact (Kd.R_reads' HO163.out).2.2 | (with_reducible refine Kd.C_alloc ?_ _) | (with_reducible refine Kd.C_drewN ?_ _) | (with_reducible refine Kd.C_drew ?_)))
            (case aB => exact (by repeat (first | (with_reducible first | exact HB.out | apply d' | apply b' | apply c' | refine h' ?_ GE156.out) | exact HB.out)))
            (case aF => exact (fun k_ hk => Kd.fresh' (Kd.R_lt (by (with_reducible repeat (first | apply f' | apply e' | apply g')); exact HO163.out)) k_ hk))
            (case aO => exact (by (with_reducible repeat (first | apply f' | apply e' | apply g')); exact Kd.R_mono HO160.out (fun _ hk => hk.2)))
            (case aS => exact (k' (by repeat (first | (with_reducible first | exact HB.out | apply d' | apply b' | apply c' | refine h' ?_ GE156.out) | exact HB.out))))
            (case aL => have := LMc6.out; omega)
            intro v165 w18 ho hb hg hat
            rw [← Ny164.out] at ho
            have n0_ := p' (blk_grown (g := gb156) (o := .cells #[.int .i64 a0_0, .int .i64 a0_1, .slice A0_2 l0_2.length c0_2] 24 (0, 0)) (by (with_reducible repeat (first | apply blk_drewN | apply blk_drew | apply blk_alloc)); exact BK156.out) hg (Kd.R_ne HO160.out BK156.out (by decide)))
            have n1_ := p' (Kd.R_after (ok := (fun _ => True)) (by (with_reducible repeat (first | apply f' | apply e' | apply g')); exact HO163.out) hg hat)
            have n2_ := p' (hb)
            have n3_ := p' (ho)
            clear BK156
            clear HO163
            clear HB
            clear HO160
            have BK156 := n0_
            have HO163 := n1_
            have HB := n2_
            have HO166 := n3_
            clear n0_ n1_ n2_ n3_
            clear ho hb hg hat
            refine hK.out _ _ ⟨(j' BK156.out 0).trans rfl, (j' BK156.out 1).trans rfl, (j' BK156.out 2).trans rfl⟩ (fun hHeld => ?_)
            clear hK K
            refine norm_ (a' := ?_) ?_ ?_
            rotate_left
            · show Act.put _ (some 21) _ = _
              simp only [Act.put, m', n', o', i64_w, i32_w]
              rfl
            refine pure_ (i := 9) (N := some 5) (v := ?_) (a' := ?_) #[Y,Y,Y,Y,Y,Y,Y,Y,Y,Y] rfl rfl (any_of HT_.out (by kernel_rfl)) (fun _ _ _ h => h) (Or.inl ⟨by rfl, ?_⟩) ?_ ?_
            rotate_left
            · intro w'
              go_simp
              with_reducible rfl
            rotate_left
            · simp only [Act.put, m', n', o', i64_w, i32_w]
              rfl
            refine done_ (done_of HT_.out (by kernel_rfl)) ?_
            have hcz20_0 : w18.cell? ⟨gb156, 0, none⟩ = some (.int .i64 a0_0) := (j' BK156.out 0).trans rfl
            have hcz20_1 : w18.cell? ⟨gb156, 1, none⟩ = some (.int .i64 a0_1) := (j' BK156.out 1).trans rfl
            have hcz20_2 : w18.cell? ⟨gb156, 2, none⟩ = some (.slice A0_2 l0_2.length c0_2) := (j' BK156.out 2).trans rfl
            have hfz20_0 := l' BK156.out 0
            have hfz20_1 := l' BK156.out 1
            have hfz20_2 := l' BK156.out 2
            try go_wp2_with (first | ((with_reducible refine gate_builtin (b := .append) (xs := #[.tmp 23, .tmp 25]) rfl ?_); at_builtin; refine Kd.R_append_rows (Kd.int .u8) (w0 := w) w.heap.size rfl (.tmp 23) (.tmp 25) 22 5 (.int .u8 0) 1 rfl Try.underlying22 info5 rfl (by decide) (by omega) v165 y164 l0_2 _ _ _ (fun k_ => some k_ ≠ (.slice Ao19 t161.length co19 : Value).ownBlock) (fun _ => False) rfl rfl ?aO ?aR (fun _ _ h => h) (fun _ h => h.elim) ?aF ?aB ?aS ?aL ?_; (case aR => repeat (first | exact (Kd.C_below HR0_2.out HB.out) | (with_reducible refine Kd.C_alloc ?_ _) | (with_reducible refine Kd.C_drewN ?_ _) | (with_reducible refine Kd.C_drew ?_))); (case aB => exact (by repeat (first | (with_reducible first | exact HB.out | apply d' | apply b' | apply c' | refine h' ?_ GE156.out) | exact HB.out))); (case aF => exact (fun k_ hk => Kd.fresh' (Kd.R_lt (by (with_reducible repeat (first | apply f' | apply e' | apply g')); exact HO163.out)) k_ hk)); (case aO => exact (by (with_reducible repeat (first | apply f' | apply e' | apply g')); exact HO166.out)); (case aS => exact (k' (by repeat (first | (with_reducible first | exact HB.out | apply d' | apply b' | apply c' | refine h' ?_ GE156.out) | exact HB.out)))); (case aL => have := LMc7.out; omega); intro v168 w21 ho hb hg hat; rw [← Ny167.out] at ho; have n0_ := p' (blk_grown (g := gb156) (o := .cells #[.int .i64 a0_0, .int .i64 a0_1, .slice A0_2 l0_2.length c0_2] 24 (0, 0)) (by (with_reducible repeat (first | apply blk_drewN | apply blk_drew | apply blk_alloc)); exact BK156.out) hg (Kd.R_ne HO166.out BK156.out (by decide))); have n1_ := p' (Kd.R_after (ok := (fun _ => True)) (by (with_reducible repeat (first | apply f' | apply e' | apply g')); exact HO163.out) hg hat); have n2_ := p' (hb); have n3_ := p' (ho); clear BK156; clear HO163; clear HB; clear HO166; have BK156 := n0_; have HO163 := n1_; have HB := n2_; have HO169 := n3_; clear n0_ n1_ n2_ n3_; clear ho hb hg hat; obtain ⟨Ao22, co22, eo22⟩ := Kd.R_slice HO169.out; subst eo22) | ((with_reducible refine gate_callee (f := 43) rfl ?_); refine goesL_ (some 28) rfl rfl Try.func43 (by kernel_rfl) rfl #[.agg #[.int .i64 3, .slice Ao22 y167.length co22]] rfl (by (try simp only [List.map_toArray, List.map_cons, List.map_nil]); first | done | rfl | (simp only [List.length_drop, List.length_take]; rfl)) ?_; (with_reducible refine (fanlightref04_Put.calls k 3 _ _ y167 t170 t173 _ ?side1 ?side2 A8.out).mono ?_); (case side1 => repeat (first | exact (Kd.R_reads' HO169.out).2.2 | (with_reducible refine Kd.C_alloc ?_ _) | (with_reducible refine Kd.C_drewN ?_ _) | (with_reducible refine Kd.C_drew ?_))); (case side2 => exact (Kd.R_reads' HO169.out).2.1); rintro e w23 ⟨v171, rfl, ho0, hb⟩; refine ⟨_, rfl, ?_⟩; have n0_ := p' (Kd.R_elder' (by (with_reducible repeat (first | apply f' | apply e' | apply g')); exact HO163.out) (Kd.R_base ho0) hb); have n1_ := p' (Kd.R_elder' (by (with_reducible repeat (first | apply f' | apply e' | apply g')); exact HO169.out) (Kd.R_base ho0) hb); have n2_ := p' (Kd.R_lower (Kd.R_new' (Kd.R_new' ho0 (Kd.R_lt (by (with_reducible repeat (first | apply f' | apply e' | apply g')); exact HO163.out))) (Kd.R_lt (by (with_reducible repeat (first | apply f' | apply e' | apply g')); exact HO169.out))) (k' (by repeat (first | (with_reducible first | exact HB.out | apply d' | apply b' | apply c' | refine h' ?_ GE156.out) | exact HB.out)))); have n3_ := p' (blk_below (g := gb156) (o := .cells #[.int .i64 a0_0, .int .i64 a0_1, .slice A0_2 l0_2.length c0_2] 24 (0, 0)) (by (with_reducible repeat (first | apply blk_drewN | apply blk_drew | apply blk_alloc)); exact BK156.out) hb); have n4_ := p' (below_step (by repeat (first | (with_reducible first | exact HB.out | apply d' | apply b' | apply c' | refine h' ?_ GE156.out) | exact HB.out)) hb); clear HO163; clear HO169; clear BK156; clear HB; have HO163 := n0_; have HO169 := n1_; have HO172 := n2_; have BK156 := n3_; have HB := n4_; clear n0_ n1_ n2_ n3_ n4_; (try clear hb); (try clear hb2); (try clear hk); (try clear hi); (try clear ho0); obtain ⟨Ao24, co24, eo24⟩ := Kd.R_slice HO172.out; subst eo24) | (at_builtin; refine Kd.R_append_zeros (Kd.int .u8) (w0 := w) w.heap.size rfl (.tmp 31) (.tmp 34) 22 3 5 (.int .u8 0) 1 rfl Try.underlying22 Try.underlying3 info5 rfl (by decide) (by omega) (.slice Ao24 t170.length co24) t170 0 (ji9 : Int) (fun k_ => some k_ ≠ (.slice Ao19 t161.length co19 : Value).ownBlock ∧ some k_ ≠ (.slice Ao22 y167.length co22 : Value).ownBlock) rfl rfl rfl ?aF ?aO (of_decide_eq_true (by first | (with_reducible assumption) | assumption)) ?aB ?aS ?aL ?_; (case aB => exact (by repeat (first | (with_reducible first | exact HB.out | apply d' | apply b' | apply c' | refine h' ?_ GE156.out) | exact HB.out))); (case aF => exact (fun k_ hk => ⟨Kd.fresh' (Kd.R_lt (by (with_reducible repeat (first | apply f' | apply e' | apply g')); exact HO163.out)) k_ hk, Kd.fresh' (Kd.R_lt (by (with_reducible repeat (first | apply f' | apply e' | apply g')); exact HO169.out)) k_ hk⟩)); (case aO => exact (by (with_reducible repeat (first | apply f' | apply e' | apply g')); exact Kd.R_mono HO172.out (fun _ hk => ⟨hk.1.2, hk.2⟩))); (case aS => exact (k' (by repeat (first | (with_reducible first | exact HB.out | apply d' | apply b' | apply c' | refine h' ?_ GE156.out) | exact HB.out)))); (case aL => have := LMc11.out; omega); intro v175 w25 ho hb hg hat; rw [← Ny174.out] at ho; have n0_ := p' (blk_grown (g := gb156) (o := .cells #[.int .i64 a0_0, .int .i64 a0_1, .slice A0_2 l0_2.length c0_2] 24 (0, 0)) (by (with_reducible repeat (first | apply blk_drewN | apply blk_drew | apply blk_alloc)); exact BK156.out) hg (Kd.R_ne HO172.out BK156.out (by decide))); have n1_ := p' (Kd.R_after (ok := (fun k_ => some k_ ≠ (.slice Ao22 y167.length co22 : Value).ownBlock)) (by (with_reducible repeat (first | apply f' | apply e' | apply g')); exact Kd.R_mono HO163.out (fun _ hk => ⟨hk.1.2, hk.2⟩)) hg hat); have n2_ := p' (Kd.R_after (ok := (fun k_ => some k_ ≠ (.slice Ao19 t161.length co19 : Value).ownBlock)) (by (with_reducible repeat (first | apply f' | apply e' | apply g')); exact HO169.out) hg hat); have n3_ := p' (hb); have n4_ := p' (ho); clear BK156; clear HO163; clear HO169; clear HB; clear HO172; have BK156 := n0_; have HO163 := n1_; have HO169 := n2_; have HB := n3_; have HO176 := n4_; clear n0_ n1_ n2_ n3_ n4_; clear ho hb hg hat))
            go_ret2
            exact ⟨_, by first | rfl | (simp [errW_none, errW_some] <;> rfl) | (simp only [← hji9]; first | rfl | (simp [errW_none, errW_some] <;> rfl)) | (simp [*, errW_none, errW_some] <;> rfl), by (with_reducible repeat (first | apply f' | apply e' | apply g')); exact Kd.R_mono HO176.out (fun _ hk => trivial), by repeat (first | (with_reducible first | exact HB.out | apply d' | apply b' | apply c' | refine h' ?_ GE156.out) | exact HB.out)⟩
          · rw [if_neg c11] at H
            exact absurd H (by simp)
        · rw [if_neg c10] at H
          exact absurd H (by simp)
      · rw [if_neg c7] at H
        exact absurd H (by simp)
    · rw [if_neg c6] at H
      exact absurd H (by simp)
  · rw [if_neg c3] at H
    have c3b0 : (t157 == 0) = false := beq_eq_false_iff_ne.mpr c3
    have c3b1 : (t157 != 0) = true := bne_iff_ne.mpr c3
    simp only [Option.some.injEq, Prod.mk.injEq] at H
    obtain ⟨rfl, rfl⟩ := H
    go_enter Try.func16, Try.ntmps16
    go_wp2_with (first | ((with_reducible refine gate_dst (N := 1) rfl ?_); refine box_event ?hg (N := 1) ?hd (cs := #[.int .i64 a0_0, .int .i64 a0_1, .slice A0_2 l0_2.length c0_2]) (t := 24) ?hr ?_; (case hd => rfl); (case hg => rfl); (case hr => first | (go_simp; done) | (go_simp; rfl)); intro gb156 hg w26 hbox hb; have n0_ := p' (below_step (by repeat (first | (with_reducible first | exact HB.out | apply d' | apply b' | apply c') | exact HB.out)) hb); have n1_ := p' (hbox); have n2_ := p' ((by rw [hg]; exact (k' (by repeat (first | (with_reducible first | exact HB.out | apply d' | apply b' | apply c') | exact HB.out))) : w.heap.size ≤ gb156)); have n3_ := p' ((by rw [hg]; exact (k' (by repeat (first | (with_reducible first | exact HB.out | apply d' | apply b' | apply c') | exact HB.out))) : w.heap.size ≤ gb156)); clear HB; have HB := n0_; have BK156 := n1_; have GW156 := n2_; have GE156 := n3_; clear n0_ n1_ n2_ n3_; clear hb hbox hg; have hcz27_0 : w26.cell? ⟨gb156, 0, none⟩ = some (.int .i64 a0_0) := (j' BK156.out 0).trans rfl; have hcz27_1 : w26.cell? ⟨gb156, 1, none⟩ = some (.int .i64 a0_1) := (j' BK156.out 1).trans rfl; have hcz27_2 : w26.cell? ⟨gb156, 2, none⟩ = some (.slice A0_2 l0_2.length c0_2) := (j' BK156.out 2).trans rfl; have hfz27_0 := l' BK156.out 0; have hfz27_1 := l' BK156.out 1; have hfz27_2 := l' BK156.out 2) | ((with_reducible refine gate_callee (f := 25) rfl ?_); refine goesL_ (some 9) rfl rfl Try.func25 (by kernel_rfl) rfl #[.agg #[.int .i64 a0_0, .int .i64 a0_1, .slice A0_2 l0_2.length c0_2]] rfl (by (try simp only [List.map_toArray, List.map_cons, List.map_nil]); first | done | rfl | (simp only [List.length_drop, List.length_take]; rfl)) ?_; (with_reducible refine (fanlightref07_Check.calls k a0_0 a0_1 _ _ l0_2 t157 _ ?side1 ?side2 A2.out).mono ?_); (case side1 => repeat (first | exact (Kd.C_below HR0_2.out HB.out) | (with_reducible refine Kd.C_alloc ?_ _) | (with_reducible refine Kd.C_drewN ?_ _) | (with_reducible refine Kd.C_drew ?_))); (case side2 => exact HC0_2.out); rintro e w28 ⟨rfl, hb⟩; refine ⟨_, rfl, ?_⟩; have n0_ := p' (blk_below (g := gb156) (o := .cells #[.int .i64 a0_0, .int .i64 a0_1, .slice A0_2 l0_2.length c0_2] 24 (0, 0)) (by (with_reducible repeat (first | apply blk_drewN | apply blk_drew | apply blk_alloc)); exact BK156.out) hb); have n1_ := p' (below_step (by repeat (first | (with_reducible first | exact HB.out | apply d' | apply b' | apply c' | refine h' ?_ GE156.out) | exact HB.out)) hb); clear BK156; clear HB; have BK156 := n0_; have HB := n1_; clear n0_ n1_; (try clear hb); (try clear hb2); (try clear hk); (try clear hi)))
    go_ret2
    exact ⟨_, by first | rfl | (simp [errW_none, errW_some] <;> rfl) | (simp [*, errW_none, errW_some] <;> rfl), by first | exact Kd.R_nil _ _ _ _ _ | exact Kd.N_nil _ _ _ _ _ | exact Kd.V_nil _ _ _ _ _ | exact Kd.Q_nil _ _ _ _ _ | exact Kd.S_nil _ _ _ _ _, by repeat (first | (with_reducible first | exact HB.out | apply d' | apply b' | apply c' | refine h' ?_ GE156.out) | exact HB.out)⟩
end Go.Proofs.Ytkdaeleolomdkaa.V
